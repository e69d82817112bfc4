/- Part of the proof: S, U. -/
import Derived.Test.YtelmfadihfcgnaaGreatDoorDPvR
namespace Go.Pv
open Go
set_option linter.unusedVariables false
section
variable{K:Ctx}{Q:Post}{S S':St}{ops:Array Oper}{rest:List Oper}{op:Op}{ty:TypeId}{pos:String}{after:Array Edge}{g:Option (Nat×Bool)}
variable{m:Mem}{β:Locs}{w:World}{a:Act}
theorem evm_nil:([]:List Operand).map (evl K S)=[]:=rfl
theorem evm_cons{x:Operand}{v:V}{xs:List Operand}{vs:List V}(h:evl K S x=v)(t:xs.map (evl K S)=vs):(x::xs).map (evl K S)=v::vs:=by rw[List.map_cons,h,t]
theorem evp_nil:([]:List (Nat×Operand)).map (fun p=>(p.1,evl K S p.2))=[]:=rfl
theorem evp_cons{i:Nat}{x:Operand}{v:V}{xs:List (Nat×Operand)}{vs:List (Nat×V)}(h:evl K S x=v)(t:xs.map (fun p=>(p.1,evl K S p.2))=vs):
  ((i,x)::xs).map (fun p=>(p.1,evl K S p.2))=(i,v)::vs:=by rw[List.map_cons,h,t]
theorem evmc{first captured vs:List V}{xs:List Operand}(h:xs.map (evl K S)=vs):first++xs.map (evl K S)++captured=first++vs++captured:=by rw[h]
inductive ImmRows:List (List V)->Prop
 |nil:ImmRows []
 |cons {r:List V} {rs:List (List V)} (h:Imms r) (t:ImmRows rs):ImmRows (r::rs)
theorem imms_rows{rows:List (List V)}(h:ImmRows rows):∀row,row∈rows->Imms row:=by
 induction h with
 |nil=>intro row h;simp at h
 |cons h _ ih=>
  intro row hr
  rcases List.mem_cons.1 hr with rfl|hr
  ·exact h
  ·exact ih row hr
def mput{α β:Type}[DecidableEq α]:List (α×β)->α->β->List (α×β)
 |[],k,v=>[(k,v)]
 |p::r,k,v=>if p.1=k then (k,v)::r else p::mput r k v
def mget{α β:Type}[DecidableEq α]:List (α×β)->α->Option β
 |[],_=>none
 |p::r,k=>if p.1=k then some p.2 else mget r k
theorem puts_map{α β:Type}[DecidableEq α]{kv:α->Value}{ev:β->V}(hinj:∀a b,kv a=kv b->a=b)(xs:List (α×β))(k:α)(v:β):
  Puts (kv k) (ev v) (xs.map fun p=>(kv p.1,ev p.2)) ((mput xs k v).map fun p=>(kv p.1,ev p.2)):=by
 induction xs with
 |nil=>exact .nil
 |cons p r ih=>
  simp only[List.map_cons,mput]
  split
  ·rename_i h;subst h;exact .here
  ·rename_i h;exact .there (fun e=>h (hinj _ _ e)) ih
theorem look_map{α β:Type}[DecidableEq α]{kv:α->Value}{ev:β->V}(hinj:∀a b,kv a=kv b->a=b)(xs:List (α×β))(k:α):
  Look (kv k) (xs.map fun p=>(kv p.1,ev p.2)) ((mget xs k).map ev):=by
 induction xs with
 |nil=>exact .nil
 |cons p r ih=>
  simp only[List.map_cons,mget]
  split
  ·rename_i h;subst h;exact .here
  ·rename_i h;exact .there (fun e=>h (hinj _ _ e)) ih
theorem getD_map{β:Type}(ev:β->V)(o:Option β)(z:β):(o.map ev).getD (ev z)=ev (o.getD z):=by cases o<;>rfl
theorem inj_int{k:IntKind}:∀a b:Int,(Value.int k a)=.int k b->a=b:=by intro a b h;cases h;rfl
theorem inj_str:∀a b:List UInt8,str a=str b->a=b:=by
 intro a b h
 simp only[str,Value.string.injEq,ByteArray.mk.injEq] at h
 simpa using congrArg Array.toList h
theorem rel_frzM(r:Rel K m β w a S)(id:Nat){es:List (Value×V)}(ho:hget S.hp id=.map es)(hi:∀p,p∈es->Imm p.2):
  ∃m',(∀(b:Nat) o,m' b=some o->w.heap[b]? = some o)/\m.le m'/\(∀x,VRel m β (.map id) x->IRel m' (.imap es) x)/\(∀b,b<K.w0.heap.size->K.old b->m' b=K.m0 b)/\
   ∀b,m' b=m b\/∃cap,β id=some (some (b,cap)):=by
 have hown:=r.own id
 rw[ho] at hown
 cases hb:β id with
 |none=>rw[hb] at hown;simp[ObOk] at hown
 |some l=>
 cases l with
 |none=>rw[hb] at hown;simp[ObOk] at hown
 |some p=>
 obtain⟨b,cap⟩:=p
 rw[hb] at hown
 obtain⟨ents,clock,bl,h1,h2,hBl,h3⟩:=hown
 have hp':=r.priv id b cap (by rw[ho];simp) hb
 obtain⟨E,hE,hvE,hwf⟩:=h1
 let m':Mem:=fun b'=>if b'=b then some (.map E clock) else m b'
 have hle:m.le m':=by
  intro b' o h
  have:b'≠b:=by intro e';subst e';rw[hp'.1] at h;simp at h
  simp[m',this,h]
 refine⟨m',?_,hle,?_,?_,?_⟩
 ·intro b' o h
  by_cases hbb:b'=b
  ·subst hbb;simp[m'] at h;rw[hE,h]
  ·simp[m',hbb] at h;exact r.imm _ _ h
 ·intro x hx
  cases hx with
  |imm h=>cases h
  | @map _ b2 cap2 h=>
   rw[hb] at h
   simp only[Option.some.injEq,Prod.mk.injEq] at h
   obtain⟨rfl,rfl⟩:=h
   refine .imap (ents:=ents) (clock:=clock) ⟨E,by simp[m'],hvE,hwf⟩ h2 (fun i p e a1 a2=>(h3 i p e a1 a2).1) fun i p e a1 a2=>?_
   have hii:=hi p (List.mem_of_getElem? a1)
   exact(hii.2 m β e.val ((h3 i p e a1 a2).2.v hii.1)).mono hle
 ·intro b' hb' hold
  by_cases hbb:b'=b
  ·subst hbb;exact absurd hold (hp'.2 hb')
  ·simp[m',hbb];exact r.mold b' hb' hold
 ·intro b'
  by_cases hbb:b'=b
  ·exact .inr ⟨cap,by rw[hbb]⟩
  ·exact .inl (by simp[m',hbb])
def FrzM(id:Nat)(es:List (Value×V)):Hy:=fun m β m' β'=>m.le m'/\β'=β/\∀x,VRel m β (.map id) x->IRel m' (.imap es) x
instance {id:Nat} {es:List (Value×V)}:HyMC (FrzM id es):=⟨fun _ _ _ _ hy=>hy.1⟩
theorem Sub.keepM{id:Nat}{es:List (Value×V)}{v:V}:Sub (FrzM id es) v v:=fun _ _ _ _ _ hy hx=>by
 obtain⟨h1,rfl,_⟩:=hy
 exact hx.mono h1 (Locs.le_refl _)
theorem Sub.frzM{id:Nat}{es:List (Value×V)}:Sub (FrzM id es) (.imap es) (.map id):=fun _ _ _ _ _ hy hx=>.imm (hy.2.2 _ hx)
theorem ghost_freezeM(id:Nat){es:List (Value×V)}(env:Env)(hp:Heap)(ho:hget S.hp id=.map es)(hi:∀p,p∈es->Imm p.2)
  (henv:∀t,Sub (FrzM id es) (get env t) (get S.env t)) (hhp:∀i,ObSub (FrzM id es) (hget hp i) (hget S.hp i)) (hd:hget hp id=.dead):Ghost K S ⟨env,hp,S.nx⟩:=by
 intro m β w a r
 obtain⟨m',k1,hle,hfr,hmold,k2⟩:=rel_frzM r id ho hi
 have hy:FrzM id es m β m' β:=⟨hle,rfl,hfr⟩
 have hlive:∀i,hget hp i≠.dead->hget S.hp i≠.dead/\i≠id:=by
  intro i h
  have h2:=hhp i
  refine⟨fun hdd=>?_,fun he=>h (by rw[he];exact hd)⟩
  rw[hdd] at h2
  cases ho':hget hp i with
  |dead=>exact h ho'
  |arr=>rw[ho'] at h2;simp[ObSub] at h2
  |res=>rw[ho'] at h2;simp[ObSub] at h2
  |map=>rw[ho'] at h2;simp[ObSub] at h2
  |iter=>rw[ho'] at h2;simp[ObSub] at h2
  |bld=>rw[ho'] at h2;simp[ObSub] at h2
 refine⟨m',β,k1,Mem.le_trans r.ext hle,hmold,r.frame,r.size,r.same,r.tn,r.df.mono hle,fun t=>henv t _ _ _ _ _ hy (r.env t),fun i=>(hhp i).ok hy (r.own i),fun i b cap hl hb'=>?_,
  fun i i' b cap cap' hl hl'=>r.inj i i' b cap cap' (hlive i hl).1 (hlive i' hl').1,fun i x hl hx=>?_,r.nx,r.pin⟩
 rotate_left
 ·have q:=(r.hid i x (hlive i hl).1 hx).weak (fun i h=>(hlive i h).1)
  refine⟨q.lt,?_,q.old,q.ne,q.un⟩
  rcases k2 x with h|⟨cap',h⟩
  ·rw[h];exact q.m
  ·exact absurd rfl ((r.hid i x (hlive i hl).1 hx).ne id x cap' (by rw[ho];simp) h)
 obtain⟨h1,h2⟩:=hlive i hl
 have hp':=r.priv i b cap h1 hb'
 refine⟨?_,hp'.2⟩
 rcases k2 b with h|⟨cap',h⟩
 ·rw[h];exact hp'.1
 ·exact absurd (r.inj i id b cap cap' h1 (by rw[ho];simp) hb' h) h2
theorem ghost_frzMC(id id2:Nat){es:List (Value×V)}(ob:Ob)(ho:hget S.hp id=.map es)(hi:∀p,p∈es->Imm p.2)(hob:ObSub (FrzM id es) ob (hget S.hp id2)):
  Ghost K S ⟨S.env,(id,.dead)::(id2,ob)::S.hp,S.nx⟩:=
 ghost_freezeM id _ _ ho hi (fun _=>Sub.keepM) (fun i=>by
  rw[hget_put]
  split
  ·trivial
  ·rw[hget_put]
   split
   ·rename_i h;subst h;exact hob
   ·exact ObSub.keep (fun _=>Sub.keepM) _) (by simp[hget_put])
theorem ghost_frzV(id t:Nat){e k:Nat}{rows:List (List V)}(v:V)(ho:hget S.hp id=.arr e k rows)(hi:∀row,row∈rows->Imms row)
  {v0:V} (ht:get S.env t=v0) (hv:Sub (Frz id k rows) v v0):Ghost K S ⟨(t,v)::S.env,(id,.dead)::S.hp,S.nx⟩:=
 ghost_freeze id _ _ ho hi (envPut (fun _=>Sub.keep) (by rw[ht];exact hv)) hpFrz0 (by simp[hget_put])
theorem Sub.fnc{Y:Hy}{f:Fn}{cs cs':List V}(h:Subs Y cs cs'):Sub Y (.fn f [] cs) (.fn f [] cs'):=fun m β m' β' x hy hx=>by
 have key:∀us:Array Value,cs'.length=us.size->(∀(i:Nat) (c:V) (v:Value),cs'[i]? = some c->us[i]? = some v->VRel m β c v)->
   ∀(i:Nat) (c:V) (v:Value),cs[i]? = some c->us[i]? = some v->VRel m' β' c v:=by
  intro us hl hh i c v h1 h2
  have h3:i<cs'.length:=by rw[<-h.len];exact(List.getElem?_eq_some_iff.1 h1).1
  exact h.get i c _ h1 (List.getElem?_eq_getElem h3) _ _ _ _ _ hy (hh i _ v (List.getElem?_eq_getElem h3) h2)
 cases hx with
 |imm hx=>cases hx with
  |fn h1 h2 h3 h4=>exact .fn h1 (by rw[h.len];exact h2) (fun i c v q=>by simp at q) (key _ h2 fun i c v q1 q2=>.imm (h4 i c v q1 q2))
 |fn h1 h2 h3 h4=>exact .fn h1 (by rw[h.len];exact h2) (fun i c v q=>by simp at q) (key _ h2 h4)
def Idn:Hy:=fun m β m' β'=>m'=m/\β'=β
instance:HyMC Idn:=⟨fun m β m' β' hy=>by rw[hy.1];exact Mem.le_refl _⟩
theorem Sub.keepI{v:V}:Sub Idn v v:=fun _ _ _ _ _ hy hx=>by obtain⟨rfl,rfl⟩:=hy;exact hx
theorem ghost_idn(env:Env)(hp:Heap)(henv:∀t,Sub Idn (get env t) (get S.env t))(hhp:∀i,ObSub Idn (hget hp i) (hget S.hp i)):Ghost K S ⟨env,hp,S.nx⟩:=by
 intro m β w a r
 have hy:Idn m β m β:=⟨rfl,rfl⟩
 have hlive:∀i,hget hp i≠.dead->hget S.hp i≠.dead:=by
  intro i h hdd
  have h2:=hhp i
  rw[hdd] at h2
  cases ho':hget hp i with
  |dead=>exact h ho'
  |arr=>rw[ho'] at h2;simp[ObSub] at h2
  |res=>rw[ho'] at h2;simp[ObSub] at h2
  |map=>rw[ho'] at h2;simp[ObSub] at h2
  |iter=>rw[ho'] at h2;simp[ObSub] at h2
  |bld=>rw[ho'] at h2;simp[ObSub] at h2
 exact⟨m,β,r.imm,r.ext,r.mold,r.frame,r.size,r.same,r.tn,r.df,fun t=>henv t _ _ _ _ _ hy (r.env t),fun i=>(hhp i).ok hy (r.own i),fun i b c h=>r.priv i b c (hlive i h),
  fun i i' b c c' h h'=>r.inj i i' b c c' (hlive i h) (hlive i' h'),fun i x h hx=>(r.hid i x (hlive i h) hx).weak hlive,r.nx,r.pin⟩
theorem ghost_tell(t:Nat)(v:V){v0:V}(ht:get S.env t=v0)(hv:Sub Idn v v0):Ghost K S ⟨(t,v)::S.env,S.hp,S.nx⟩:=
 ghost_idn _ _ (envPut (fun _=>Sub.keepI) (by rw[ht];exact hv)) fun _=>ObSub.keep (fun _=>Sub.keepI) _
theorem ghost_tellC(id:Nat)(ob:Ob){ob0:Ob}(ho:hget S.hp id=ob0)(hv:ObSub Idn ob ob0):Ghost K S ⟨S.env,(id,ob)::S.hp,S.nx⟩:=
 ghost_idn _ _ (fun _=>Sub.keepI) fun i=>by
  rw[hget_put]
  split
  ·rename_i h;subst h;rw[ho];exact hv
  ·exact ObSub.keep (fun _=>Sub.keepI) _
def upd{α:Type}(f:Nat->α)(j:Nat)(x:α):Nat->α:=fun i=>if i=j then x else f i
def arrOf{α:Type}(d:α)(l:List α):Nat->α:=fun i=>l.getD i d
theorem aops_nilCheck_ptr{d id k i o:Nat}{x:Operand}(hw:Wants ops S ⟨some d,.nilCheck x,ty,pos,after,g⟩ true)(hx:evl K S x=.ptr id k i o)(hN:Nat.blt d K.N=true)
  (kk:AOps K ops rest Q (S.put d (.ptr id k i o))):AOps K ops (⟨some d,.nilCheck x,ty,pos,after,g⟩::rest) Q S:=
 aops_val _ hw hN (fun m β w a r=>by
  have h:=r.reads x
  rw[hx] at h
  obtain⟨b,cap,hb,hv⟩:=h.ptr_inv
  exact⟨a.eval x,by simp only[execOp,hv];rfl,h⟩) kk
theorem aops_nilCheck_iptr{d o:Nat}{row:List V}{x:Operand}(hw:Wants ops S ⟨some d,.nilCheck x,ty,pos,after,g⟩ true)(hx:evl K S x=.iptr row o)(hN:Nat.blt d K.N=true)
  (kk:AOps K ops rest Q (S.put d (.iptr row o))):AOps K ops (⟨some d,.nilCheck x,ty,pos,after,g⟩::rest) Q S:=
 aops_val _ hw hN (fun m β w a r=>by
  have h:=r.reads x
  rw[hx] at h
  obtain⟨ad,arr,T',fr,f,base,hv,_⟩:=h.iptr_inv
  exact⟨a.eval x,by simp only[execOp,hv];rfl,h⟩) kk
end
noncomputable def nilq{R:Type}(n:Nat)(k:Bool->Option R):Option R:=
 open Classical in if n≠0 then k false else if k true=k false then k true else none
theorem nilq_elim{R:Type}{n:Nat}{k:Bool->Option R}{r:R}(h:nilq n k=some r){b:Bool}(hb:n≠0->b=false):k b=some r:=by
 unfold nilq at h
 split at h
 ·rename_i hn;rw[hb hn];exact h
 ·split at h
  ·rename_i e;cases b
   ·rw[<-e];exact h
   ·exact h
  ·simp at h
theorem nilq_same{R:Type}{n:Nat}{k:Bool->Option R}{r:Option R}(h:k false=r)(h':n=0->k true=r):nilq n k=r:=by
 unfold nilq
 split
 ·exact h
 ·rename_i hn
  rw[if_pos (by rw[h,h' (by omega)]),h' (by omega)]
section
variable{K:Ctx}{Q:Post}{S S':St}{ops:Array Oper}{rest:List Oper}{op:Op}{ty:TypeId}{pos:String}{after:Array Edge}{g:Option (Nat×Bool)}
variable{m:Mem}{β:Locs}{w:World}{a:Act}
theorem run_eqNil{P:Program}{T:TypeId}{x y:Operand}(neg:Bool)(hT:tySlice P T=true)(ad:Option Addr)(n c:Nat):
  ∃b:Bool,(n≠0->ad.isSome=true->b=false)/\(ad=none->b=true)/\
   (do eqGuard (if neg then .neq else .eql) T x y (.slice ad n c) (.slice none 0 0);binOp (if neg then .neq else .eql) T (.slice ad n c) (.slice none 0 0):Sem Value).run P w=.ok (.bool (if neg then !b else b)) w:=by
 obtain⟨e,hu⟩:∃e,P.underlying T=some (.slice e):=by
  unfold tySlice at hT
  split at hT
  ·exact⟨_,‹_›⟩
  ·simp at hT
 have hd:(10000:Nat)=9999+1:=rfl
 have hg:∀op:BinOp,(eqGuard op T x y (.slice ad n c) (.slice none 0 0)).run P w=.ok () w:=by
  intro op;unfold eqGuard;cases op<;>simp[pure]
 have hq:(Op.equal T (.slice ad n c) (.slice none 0 0)).run P w=.ok ad.isNone w:=by
  rw[Op.equal,Op.maxDepth,hd,Op.equalIn]
  simp only[Sem.run_bind,run_underlying hu,Result.andThen_ok]
  cases ad<;>rfl
 refine⟨ad.isNone,fun _ h=>by cases ad<;>simp_all,fun h=>by simp[h],?_⟩
 rw[Sem.run_bind,hg,Result.andThen_ok]
 cases neg
 ·simp only[Bool.false_eq_true,if_false,binOp,Sem.run_bind,hq,Result.andThen_ok];rfl
 ·simp only[if_true,binOp,Sem.run_bind,hq,Result.andThen_ok];rfl
theorem aops_nilNil{d:Nat}{x y:Operand}{T T':TypeId}(neg:Bool)(hT:tySlice K.P T=true)(hw:Wants ops S ⟨some d,.binOp (if neg then .neq else .eql) T x y T',ty,pos,after,g⟩ true)
  (hx:evl K S x=nV) (hy:evl K S y=nV) (hN:Nat.blt d K.N=true)
  (k:AOps K ops rest Q (S.put d (bV (if neg then false else true)))):AOps K ops (⟨some d,.binOp (if neg then .neq else .eql) T x y T',ty,pos,after,g⟩::rest) Q S:=
 aops_val _ hw hN (fun m β w a r=>by
  obtain⟨b,_,hb,hr⟩:=run_eqNil (P:=K.P) (w:=w) (x:=x) (y:=y) neg hT none 0 0
  rw[hb rfl] at hr
  refine⟨.bool (if neg then !true else true),?_,?_⟩
  ·simp only[execOp,r.con hx,r.con hy]
   exact run_value hr
  ·cases neg<;>exact .imm (.con _)) k
def snil:V->Option Nat
 | .lst _ rows=>some rows.length
 | .own _ n=>some n
 |_=>none
theorem aops_isNil{d n:Nat}{x y:Operand}{T T':TypeId}{v:V}(neg:Bool)(hT:tySlice K.P T=true)(hw:Wants ops S ⟨some d,.binOp (if neg then .neq else .eql) T x y T',ty,pos,after,g⟩ true)
  (hx:evl K S x=v) (hy:evl K S y=nV) (hn:snil v=some n) (hN:Nat.blt d K.N=true)
  (k:∀b:Bool,(n≠0->b=false)->AOps K ops rest Q (S.put d (bV (if neg then !b else b)))):AOps K ops (⟨some d,.binOp (if neg then .neq else .eql) T x y T',ty,pos,after,g⟩::rest) Q S:=by
 intro m β w a r
 have h:=r.reads x
 rw[hx] at h
 have key:∃ad c,a.eval x=.slice ad n c/\(n≠0->ad.isSome=true):=by
  generalize hv:a.eval x=u at h
  cases v with
  |lst k rows=>
   simp only[snil,Option.some.injEq] at hn
   cases h with
   |imm h=>
    cases h with
    |nil _ ad cap=>subst hn;exact⟨ad,cap,rfl,by simp⟩
    |lst f hm hs hl=>exact⟨_,_,by rw[<-hn,hl],fun _=>rfl⟩
  |own id n'=>
   simp only[snil,Option.some.injEq] at hn
   subst hn
   cases h with
   |imm h=>cases h
   |ownNil=>exact⟨_,_,rfl,by simp⟩
   |own=>exact⟨_,_,rfl,fun _=>rfl⟩
  |_=>simp[snil] at hn
 obtain⟨ad,c,hv,hs⟩:=key
 obtain⟨b,hb,_,hr⟩:=run_eqNil (P:=K.P) (w:=w) (x:=x) (y:=y) neg hT ad n c
 have kk:=k b fun hn=>hb hn (hs hn)
 unfold wpListIn
 rw[if_pos (hw.at r)]
 refine op_in (.inr (fun c h=>by cases h)) ?_
 unfold Oper.wp
 have hrun:(execOp a.eval ⟨some d,.binOp (if neg then .neq else .eql) T x y T',ty,pos,after,g⟩).run K.P w=.ok (.value (.bool (if neg then !b else b))) w:=by
  simp only[execOp,hv,r.con hy]
  exact run_value hr
 rw[hrun]
 exact kk m β w _ (r.put hN (.imm (.con _)))
theorem aops_emptySlice{d T e k bytes:Nat}(hT:tyEl K.P T e k bytes=true)(hw:Wants ops S ⟨some d,.buildSlice T 0 #[],ty,pos,after,g⟩ true)(hN:Nat.blt d K.N=true)
  (kk:AOps K ops rest Q ⟨(d,.own S.nx 0)::S.env,(S.nx,.arr e k [])::S.hp,S.nx+1⟩):AOps K ops (⟨some d,.buildSlice T 0 #[],ty,pos,after,g⟩::rest) Q S:=by
 refine aops_runs hw (fun m β w a r=>?_) kk
 obtain⟨i,z,hu,hi,hs,hby,hzz,hzk⟩:=tyEl_inv hT
 obtain⟨β',hle,hnx,r2⟩:=r.alloc (.cells #[] e (0,0)) (.arr e k []) ⟨0,0⟩ _ rfl (fun β' hle=>by
  exact obok_new0 (vs:=#[]) (by simp) (by simp) (by simp) (by unfold maxLen;omega) (by simp) (by simp))
 refine⟨.slice (some ⟨w.heap.size,0,none⟩) 0 0,{ w with heap:=w.heap.push (.cells #[] e (0,0)) },m,β',.inl ?_,Rel.put r2 hN (.own hnx)⟩
 simp only[execOp]
 rw[Sem.run_bind]
 have:(Instr.buildSlice T 0 ((#[]:Array (Nat×Operand)).map fun(i,x)=>(i,a.eval x))).run K.P w=.ok (.slice (some ⟨w.heap.size,0,none⟩) 0 0) { w with heap:=w.heap.push (.cells #[] e (0,0)) }:=by
  simp only[Instr.buildSlice,Sem.run_bind,run_underlying hu,Result.andThen_ok,run_sizeOf w hi]
  simp[pure,Sem.run,Instr.fill,newRow,newObj,Sem.run_bind,Result.andThen]
  have e0:(Array.map (fun _=>(default:Value)) (Array.range 0))=#[]:=by apply Array.ext';simp
  rw[e0]
 rw[this]
 rfl
def cellVal(agg:Bool)(l:List Value):Value:=if agg then .agg l.toArray else l.headD undef
structure EqOk(P:Program)(d:Nat)(t:TypeId)(k:Nat)(agg:Bool)(good:List Value->Prop):Prop where
 len:∀l,good l->l.length=k
 kind:∀w,(isAgg t).run P w=.ok agg w/\(sizeOf t).run P w=.ok k w
 eq:∀w xs ys,good xs->good ys->∃b,(Op.equalIn d t (cellVal agg xs) (cellVal agg ys)).run P w=.ok b w/\(b=true<->xs=ys)
 key:∀b w xs,good xs->(Instr.checkKey b d t (cellVal agg xs)).run P w=.ok () w
 bits:∀xs,good xs->xs.all (fun v=>Instr.sameBits 0 v v)=true
 guard:P.eqGuardType d t=false
theorem EqOk.weaken{P:Program}{d k:Nat}{t:TypeId}{agg:Bool}{good good':List Value->Prop}(h:EqOk P d t k agg good)(hg:∀l,good' l->good l):EqOk P d t k agg good':=
 ⟨fun l hl=>h.len l (hg l hl),h.kind,fun w xs ys hx hy=>h.eq w xs ys (hg _ hx) (hg _ hy),fun b w xs hx=>h.key b w xs (hg _ hx),fun xs hx=>h.bits xs (hg _ hx),h.guard⟩
theorem eqOk_int{P:Program}{d:Nat}{t:TypeId}{k:IntKind}(hu:P.underlying t=some (.int k))(hc:tyC P t=true):EqOk P (d+1) t 1 false (fun l=>∃n,l=[.int k n]) where
 len:=by rintro l ⟨n,rfl⟩;rfl
 kind:=fun w=>tyC_run hc w
 eq:=by
  rintro w xs ys ⟨n,rfl⟩ ⟨n',rfl⟩
  exact⟨_,run_equalIn_int w d t k k n n' hu,by simp⟩
 key:=by
  rintro b w xs ⟨n,rfl⟩
  simp only[cellVal,Bool.false_eq_true,if_false,List.headD_cons]
  rw[Instr.checkKey]
  simp only[Sem.run_bind,run_underlying hu,Result.andThen_ok];rfl
 bits:=by rintro xs ⟨n,rfl⟩;simp[Instr.sameBits]
 guard:=by simp[Program.eqGuardType,hu]
theorem eqOk_bool{P:Program}{d:Nat}{t:TypeId}(hu:P.underlying t=some .bool)(hc:tyC P t=true):EqOk P (d+1) t 1 false (fun l=>∃n,l=[.bool n]) where
 len:=by rintro l ⟨n,rfl⟩;rfl
 kind:=fun w=>tyC_run hc w
 eq:=by
  rintro w xs ys ⟨n,rfl⟩ ⟨n',rfl⟩
  exact⟨_,run_equalIn_bool' w d t n n' hu,by simp⟩
 key:=by
  rintro b w xs ⟨n,rfl⟩
  simp only[cellVal,Bool.false_eq_true,if_false,List.headD_cons]
  rw[Instr.checkKey]
  simp only[Sem.run_bind,run_underlying hu,Result.andThen_ok];rfl
 bits:=by rintro xs ⟨n,rfl⟩;simp[Instr.sameBits]
 guard:=by simp[Program.eqGuardType,hu]
theorem eqOk_str{P:Program}{d:Nat}{t:TypeId}(hu:P.underlying t=some .string)(hc:tyC P t=true):EqOk P (d+1) t 1 false (fun l=>∃s,l=[.string s]) where
 len:=by rintro l ⟨n,rfl⟩;rfl
 kind:=fun w=>tyC_run hc w
 eq:=by
  rintro w xs ys ⟨n,rfl⟩ ⟨n',rfl⟩
  refine⟨_,run_equalIn_string w d t n n' hu,?_⟩
  rw[<-beq_toListBytes,bytes_beq];simp
 key:=by
  rintro b w xs ⟨n,rfl⟩
  simp only[cellVal,Bool.false_eq_true,if_false,List.headD_cons]
  rw[Instr.checkKey]
  simp only[Sem.run_bind,run_underlying hu,Result.andThen_ok];rfl
 bits:=by rintro xs ⟨n,rfl⟩;simp[Instr.sameBits,bytes_beq]
 guard:=by simp[Program.eqGuardType,hu]
def GoodF(g1 g2:List Value->Prop)(l:List Value):Prop:=∃a b,l=a++b/\g1 a/\g2 b
structure EqF(P:Program)(d N:Nat)(fs:List Field)(off:Nat)(good:List Value->Prop):Prop where
 len:∀l,good l->off+l.length=N
 eq:∀w (xs ys:List Value),good (xs.drop off)->good (ys.drop off)->∃b,(Op.eqFields d xs.toArray ys.toArray fs).run P w=.ok b w/\(b=true<->xs.drop off=ys.drop off)
 key:∀b w (xs:List Value),good (xs.drop off)->∀f,f∈fs->f.name ≠ "_" → ∃v,(part f.type xs.toArray f.offset).run P w=.ok v w/\(Instr.checkKey b d f.type v).run P w=.ok () w
 bits:∀l,good l->l.all (fun v=>Instr.sameBits 0 v v)=true
 guard:fs.any (fun f=>f.name != "_" && P.eqGuardType d f.type)=false
theorem part_run{P:Program}{d:Nat}{t:TypeId}{k:Nat}{agg:Bool}{good:List Value->Prop}(h:EqOk P d t k agg good)(w:World)(xs:List Value)(off:Nat){a b:List Value}(hd:xs.drop off=a++b)(hg:good a)
  (h1:agg=false->k=1):(part t xs.toArray off).run P w=.ok (cellVal agg a) w:=by
 have hl:=h.len _ hg
 unfold part
 simp only[Sem.run_bind,(h.kind w).1,Result.andThen_ok]
 cases agg with
 |true=>
  simp only[if_true,Sem.run_bind,(h.kind w).2,Result.andThen_ok,cellVal]
  have:(xs.toArray.extract off (off+k))=a.toArray:=by
   apply Array.ext'
   simp only[List.extract_toArray,List.extract_eq_take_drop]
   rw[hd,Nat.add_sub_cancel_left,<-hl]
   simp
  rw[this];rfl
 |false=>
  have hk:=h1 rfl
  rw[hk] at hl
  match a,hl with
  |[v],_=>
   have:xs[off]? = some v:=by
    have:=congrArg (fun l=>l[0]?) hd
    simpa using this
   simp[this,cellVal,pure]
theorem eqF_nil{P:Program}{d N:Nat}:EqF P d N [] N (fun l=>l=[]) where
 len:=by rintro l rfl;rfl
 eq:=by
  rintro w xs ys hx hy
  exact⟨true,rfl,by simp[hx,hy]⟩
 key:=by intro b w xs _ f hf;simp at hf
 bits:=by rintro l rfl;rfl
 guard:=rfl
theorem eqF_cons {P:Program} {d N off k:Nat} {f:Field} {fs:List Field} {agg:Bool} {g1 g2:List Value->Prop} (h:EqOk P d f.type k agg g1) (h1:agg=false->k=1) (hf:f.offset=off) (hn:f.name ≠ "_")
  (hr:EqF P d N fs (off+k) g2):EqF P d N (f::fs) off (GoodF g1 g2) where
 len:=by
  rintro l ⟨a,b,rfl,ha,hb⟩
  have e1:=h.len a ha
  have e2:=hr.len b hb
  simp only[List.length_append];omega
 eq:=by
  rintro w xs ys ⟨a,b,ha,ga,gb⟩ ⟨a',b',ha',ga',gb'⟩
  have e1:=h.len a ga
  have e2:=h.len a' ga'
  have db:xs.drop (off+k)=b:=by rw[<-List.drop_drop,ha,<-e1];simp
  have db':ys.drop (off+k)=b':=by rw[<-List.drop_drop,ha',<-e2];simp
  obtain⟨r1,hr1,ir1⟩:=h.eq w a a' ga ga'
  obtain⟨r2,hr2,ir2⟩:=hr.eq w xs ys (by rw[db];exact gb) (by rw[db'];exact gb')
  rw[db,db'] at ir2
  rw[ha,ha']
  refine⟨r1&&r2,?_,?_⟩
  ·simp only[Op.eqFields]
   rw[if_pos hn]
   simp only[Sem.run_bind,hf,part_run h w xs off ha ga h1,part_run h w ys off ha' ga' h1,Result.andThen_ok,hr1]
   cases r1
   ·rfl
   ·simpa using hr2
  ·rw[Bool.and_eq_true,ir1,ir2]
   constructor
   ·rintro⟨rfl,rfl⟩;rfl
   ·intro e
    exact List.append_inj e (by rw[e1,e2])
 key:=by
  rintro b w xs ⟨a,c,ha,ga,gc⟩ f' hf' hn'
  have e1:=h.len a ga
  have dc:xs.drop (off+k)=c:=by rw[<-List.drop_drop,ha,<-e1];simp
  rcases List.mem_cons.1 hf' with rfl|hm
  ·exact⟨_,by rw[hf];exact part_run h w xs off ha ga h1,h.key b w a ga⟩
  ·exact hr.key b w xs (by rw[dc];exact gc) f' hm hn'
 bits:=by
  rintro l ⟨a,b,rfl,ga,gb⟩
  rw[List.all_append,h.bits a ga,hr.bits b gb];rfl
 guard:=by
  rw[List.any_cons,hr.guard,h.guard];simp
theorem forIn_ok{P:Program}{w:World}{β:Type}(f:Field->β->Sem (ForInStep β)):∀(fs:List Field) (x:β),(∀g,g∈fs->(f g x).run P w=.ok (.yield x) w)->(forIn fs x f).run P w=.ok x w
 |[],x,_=>rfl
 |g::fs,x,h=>by
  rw[List.forIn_cons,Sem.run_bind,h g (by simp)]
  exact forIn_ok f fs x fun g' hg'=>h g' (by simp[hg'])
theorem eqOk_struct{P:Program}{d t N:Nat}{good:List Value->Prop}{fs:List Field}(hf:(P.fieldsOf t).toList=fs)(hu:P.underlying t=some (.struct (P.fieldsOf t)))(hc:tyA P t N=true)(hp:P.stoodInHeld t=false)
  (h:EqF P d N fs 0 good):EqOk P (d+1) t N true good where
 len:=fun l hl=>by have:=h.len l hl;omega
 kind:=fun w=>tyA_run hc w
 eq:=by
  intro w xs ys hx hy
  simp only[cellVal,if_true]
  rw[run_equalIn_agg w d t _ _ hu hp,hf]
  exact h.eq w xs ys hx hy
 key:=by
  intro b w xs hx
  simp only[cellVal,if_true]
  rw[Instr.checkKey]
  simp only[Sem.run_bind,run_underlying hu,Result.andThen_ok]
  rw[<-Array.forIn_toList,hf]
  rw[forIn_ok]
  ·rfl
  ·intro f hf'
   by_cases hn:f.name = "_"
   ·simp[hn]
   ·obtain⟨v,h1,h2⟩:=h.key b w xs hx f hf' hn
    simp[hn,Sem.run_bind,h1,h2]
 bits:=h.bits
 guard:=by
  simp only[Program.eqGuardType,hu]
  rw[<-Array.any_toList,hf]
  exact h.guard
end
theorem sameBits_mono:∀(v:Value),Instr.sameBits 0 v v=true->Instr.sameBits 9999 v v=true:=by
 intro v h
 cases v<;>simp[Instr.sameBits] at h ⊢<;>exact h
theorem findAsk{P:Program}{t:TypeId}{k:Nat}{good:List Value->Prop}(h:EqOk P 10000 t k true good)(w:World)(xs:List Value)(hx:good xs):∀(es:List MapEntry) (n:Nat),(∀e,e∈es->∃ys,good ys/\e.key=.agg ys.toArray)->
  ((Instr.findAsking t (.agg xs.toArray) es n).run P w=.ok none w/\∀e,e∈es->e.key≠.agg xs.toArray) ∨
  ∃j e,(Instr.findAsking t (.agg xs.toArray) es n).run P w=.ok (some (n+j,e.val)) w/\es[j]? = some e/\e.key=.agg xs.toArray/\∀i e',i<j->es[i]? = some e'->e'.key≠.agg xs.toArray
 |[],n,_=>.inl ⟨rfl,by simp⟩
 |e::es,n,hg=>by
  obtain⟨ys,hy,he⟩:=hg e (by simp)
  obtain⟨b,hb,ib⟩:=h.eq w xs ys hx hy
  simp only[cellVal,if_true] at hb
  have hstep:(Instr.findAsking t (.agg xs.toArray) (e::es) n).run P w=if b=true then .ok (some (n,e.val)) w else (Instr.findAsking t (.agg xs.toArray) es (n+1)).run P w:=by
   rw[Instr.findAsking,he,Op.equal,Op.maxDepth]
   simp only[Sem.run_bind,hb,Result.andThen_ok]
   cases b<;>rfl
  by_cases hbt:b=true
  ·refine .inr ⟨0,e,by rw[hstep,if_pos hbt];rfl,rfl,by rw[he,ib.1 hbt],by simp⟩
  ·have hne:e.key≠.agg xs.toArray:=by
    rw[he]
    intro e'
    simp only[Value.agg.injEq] at e'
    have:xs=ys:=by have:=congrArg Array.toList e';simpa using this.symm
    exact hbt (ib.2 this)
   rcases findAsk h w xs hx es (n+1) (fun e' he'=>hg e' (by simp[he'])) with ⟨a1,a2⟩|⟨j,e',a1,a2,a3,a4⟩
   ·refine .inl ⟨by rw[hstep,if_neg hbt,a1],fun e' he'=>?_⟩
    rcases List.mem_cons.1 he' with rfl|he'
    ·exact hne
    ·exact a2 e' he'
   ·refine .inr ⟨j+1,e',by rw[hstep,if_neg hbt,a1,show n+1+j=n+(j+1) by omega],by simpa using a2,a3,fun i e'' hi he''=>?_⟩
    cases i with
    |zero=>simp at he'';subst he'';exact hne
    |succ i=>exact a4 i e'' (by omega) (by simpa using he'')
theorem keyT_agg{P:Program}{t:TypeId}{k:Nat}{good:List Value->Prop}{gv:Value->Prop}(h:EqOk P 10000 t k true good)(hu:P.underlying t=some (.struct (P.fieldsOf t)))(hg:∀v,gv v->∃xs,good xs/\v=.agg xs.toArray):KeyT P t gv where
 check:=by
  intro b w v hv
  obtain⟨xs,hx,rfl⟩:=hg v hv
  exact h.key b w xs hx
 find:=by
  intro w x hx es hes
  obtain⟨xs,hxs,rfl⟩:=hg x hx
  have hnow:∀es:List MapEntry,Instr.findNow (.struct (P.fieldsOf t)) (.agg xs.toArray) es 0=none\/es=[]:=by
   intro es
   cases es with
   |nil=>exact .inr rfl
   |cons e es=>
    left
    simp[Instr.findNow,Instr.sameNow]
  have hfk:(Instr.findKey t (.agg xs.toArray) es).run P w=(Instr.findAsking t (.agg xs.toArray) es 0).run P w:=by
   simp only[Instr.findKey,Sem.run_bind,run_underlying hu,Result.andThen_ok]
   rcases hnow es with hn|rfl
   ·rw[hn]
   ·rfl
  rw[hfk]
  rcases findAsk h w xs hxs es 0 (fun e he=>by obtain⟨ys,h1,h2⟩:=hg e.key (hes e he);exact⟨ys,h1,h2⟩) with h1|⟨j,e,h1,h2⟩
  ·exact .inl h1
  ·exact .inr ⟨j,e,by rw[h1];simp,h2⟩
 stays:=by
  intro w v hv
  obtain⟨xs,hx,rfl⟩:=hg v hv
  have hb:=h.bits xs hx
  have:Instr.sameBits 10000 (.agg xs.toArray) (.agg xs.toArray)=true:=by
   rw[show(10000:Nat)=9999+1 from rfl,Instr.sameBits]
   simp only[beq_self_eq_true,Bool.true_and,List.all_eq_true]
   rintro⟨x,y⟩ hxy
   have hxy':x=y/\x∈xs:=by
    obtain⟨i,hi⟩:=List.mem_iff_getElem?.1 hxy
    rw[List.getElem?_zip_eq_some] at hi
    simp only at hi
    obtain⟨h1,h2⟩:=hi
    rw[h1] at h2
    exact⟨Option.some.inj h2,List.mem_of_getElem? (by simpa using h1)⟩
   obtain⟨rfl,hm⟩:=hxy'
   exact sameBits_mono x (List.all_eq_true.1 hb x hm)
  simp only[Instr.keyThatStays,this,if_true];rfl
theorem inj_bool:∀a b:Bool,(Value.bool a)=.bool b->a=b:=by intro a b h;cases h;rfl
section
variable{K:Ctx}{Q:Post}{S S':St}{ops:Array Oper}{rest:List Oper}{op:Op}{ty:TypeId}{pos:String}{after:Array Edge}{g:Option (Nat×Bool)}
variable{m:Mem}{β:Locs}{w:World}{a:Act}
theorem ghost_res:Ghost K S ⟨S.env,(S.nx,.res)::S.hp,S.nx+1⟩:=by
 intro m β w a r
 let β':Locs:=⟨β.f,fun i=>if i=S.nx then fun _=>False else β.hid i⟩
 have hle:β.le β':=fun _ _ h=>h
 have hn:β'.hid S.nx=fun _=>False:=by show(if _ then _ else _)=_;rw[if_pos rfl]
 have hho:∀i,i≠S.nx->β'.hid i=β.hid i:=fun i h=>by show(if _ then _ else _)=_;rw[if_neg h]
 have hlive:∀i,i≠S.nx->hget ((S.nx,Ob.res)::S.hp) i≠.dead->hget S.hp i≠.dead:=by
  intro i h hi
  rw[hget_put,if_neg (Ne.symm h)] at hi;exact hi
 refine⟨m,β',r.imm,r.ext,r.mold,r.frame,r.size,r.same,r.tn,r.df,fun t=>(r.env t).mono (Mem.le_refl _) hle,?_,?_,?_,?_,fun id h=>r.nx id (Nat.le_of_succ_le h),fun q hq=>⟨Nat.lt_succ_of_lt (r.pin q hq).1,(r.pin q hq).2⟩⟩
 ·intro id
  show ObOk m β' w (β'.hid id) (β id) (hget ((S.nx,Ob.res)::S.hp) id)
  rw[hget_put]
  split
  ·rename_i h;subst h;rw[r.nx _ (Nat.le_refl _)];trivial
  ·rename_i h;rw[hho id (Ne.symm h)];exact ObOk.mono (Mem.le_refl _) hle (fun _ _ h=>h) (fun _ _=>rfl) (r.own id)
 ·intro id b cap hl hb
  rw[hget_put] at hl
  split at hl
  ·rename_i h;subst h;have hb:β S.nx=some (some (b,cap)):=hb;rw[r.nx _ (Nat.le_refl _)] at hb;simp at hb
  ·exact r.priv id b cap hl hb
 ·intro id id' b c c' hl hl' hb hb'
  rw[hget_put] at hl hl'
  split at hl
  ·rename_i h;subst h;have hb:β S.nx=some (some (b,c)):=hb;rw[r.nx _ (Nat.le_refl _)] at hb;simp at hb
  ·split at hl'
   ·rename_i h;subst h;have hb':β S.nx=some (some (b,c')):=hb';rw[r.nx _ (Nat.le_refl _)] at hb';simp at hb'
   ·exact r.inj id id' b c c' hl hl' hb hb'
 ·intro id x hl hx
  by_cases h:id=S.nx
  ·subst h;rw[hn] at hx;exact hx.elim
  ·rw[hho id h] at hx
   have q:=r.hid id x (hlive id h hl) hx
   refine⟨q.lt,q.m,q.old,fun i b c hi hb=>?_,fun i hi hx'=>?_⟩
   ·by_cases h':i=S.nx
    ·subst h';have hb:β S.nx=some (some (b,c)):=hb;rw[r.nx _ (Nat.le_refl _)] at hb;simp at hb
    ·exact q.ne i b c (hlive i h' hi) hb
   ·by_cases h':i=S.nx
    ·subst h';rw[hn] at hx';exact hx'.elim
    ·rw[hho i h'] at hx';exact q.un i (hlive i h' hi) hx'
theorem Rel.free(r:Rel K m β w a S){id:Nat}(h:hget S.hp id=.res):β id=none:=by
 have:=r.own id
 rw[h] at this
 cases hb:β id with
 |none=>rfl
 |some l=>rw[hb] at this;cases l with
  |none=>simp[ObOk] at this
  |some p=>simp[ObOk] at this
theorem Rel.allocAt(r:Rel K m β w a S)(id:Nat)(hid:id<S.nx)(hpid:K.pins<=id)(hres:hget S.hp id=.res)(o:Obj)(ob:Ob)(cap:Cap)(w':World)(hw':w'={ w with heap:=w.heap.push o })
  (hok:∀β',β.le β'->ObOk m β' w' (fun _=>False) (some (some (w.heap.size,cap))) ob):
  ∃β':Locs,β.le β'/\β' id=some (some (w.heap.size,cap))/\Rel K m β' w' a ⟨S.env,(id,ob)::S.hp,S.nx⟩:=
 r.allocG id S.nx (r.free hres) (fun q hq=>by omega) hid (Nat.le_refl _) o ob cap w' hw' (fun _=>False) (fun _ h=>h.elim) hok
theorem aops_alloc_at{d n nx:Nat}{T:TypeId}{zs:List Value}(id:Nat)(hid:(Nat.blt id nx&&Nat.ble K.pins id)=true)(hnx:S.nx=nx)(hres:hget S.hp id=.res)(hz:zeroCells K.P T=some zs)(hn:zs.length=n)(h1:zs.all (·.oneCell')=true)(hw:Wants ops S ⟨some d,.alloc T,ty,pos,after,g⟩ true)
  (hN:Nat.blt d K.N=true)
  (kk:AOps K ops rest Q ⟨(d,.ptr id n 0 0)::S.env,(id,.arr T n [zs.map .con])::S.hp,S.nx⟩):
  AOps K ops (⟨some d,.alloc T,ty,pos,after,g⟩::rest) Q S:=by
 refine aops_runs hw (fun m β w a r=>?_) kk
 subst hn
 obtain⟨z,hz1,hz2⟩:=zero_run hz w
 obtain⟨β',hle,hn,r'⟩:=r.allocAt id (by rw[hnx];exact Nat.le_of_ble_eq_true (Bool.and_eq_true_iff.1 hid).1) (Nat.le_of_ble_eq_true (Bool.and_eq_true_iff.1 hid).2) hres (.cells z.cells T) (.arr T zs.length [zs.map .con]) ⟨1,0⟩ _ rfl (fun β' hle=>by
  refine obok_new0 (vs:=z.cells) (by simp) (by simp[hz2]) (by simp) (by unfold maxLen;omega) (by simp) ?_
  ·intro i j row c hi hj
   cases i with
   |succ i=>simp at hi
   |zero=>
    simp at hi;subst hi
    rw[List.getElem?_map] at hj
    cases hzj:zs[j]? with
    |none=>simp[hzj] at hj
    |some v=>
     simp[hzj] at hj;subst hj
     refine⟨v,by simp[hz2,hzj],.imm (.con v),List.all_eq_true.1 h1 v (List.mem_of_getElem? hzj)⟩)
 refine⟨.pointer (some ⟨w.heap.size,0,none⟩),{ w with heap:=w.heap.push (.cells z.cells T) },m,β',.inl ?_,?_⟩
 rotate_left
 ·exact Rel.put r' hN (by have:=VRel.ptr (m:=m) (k:=zs.length) (i:=0) (off:=0) hn;simpa using this)
 ·simp only[execOp,Instr.alloc]
  simp only[Sem.run_bind,hz1,Result.andThen_ok]
  rfl
theorem aops_box_at{d nx:Nat}{x:Operand}{T:TypeId}{dv:V}(id:Nat)(hid:(Nat.blt id nx&&Nat.ble K.pins id)=true)(hnx:S.nx=nx)(hres:hget S.hp id=.res)(cs:List V)(hw:Wants ops S ⟨some d,.box T x,ty,pos,after,g⟩ true)
  (hx:evl K S x=dv) (hcs:vcells dv=cs) (h1:cs.all oneV=true) (hN:Nat.blt d K.N=true)
  (kk:AOps K ops rest Q ⟨(d,.ptr id cs.length 0 0)::S.env,(id,.arr T cs.length [cs])::S.hp,S.nx⟩):
  AOps K ops (⟨some d,.box T x,ty,pos,after,g⟩::rest) Q S:=by
 refine aops_runs hw (fun m β w a r=>?_) kk
 have h:=r.reads x
 rw[hx] at h
 obtain⟨c1,c2,c3⟩:=h.cells (by rw[hcs];exact h1)
 rw[hcs] at c1 c2
 obtain⟨β',hle,hn,r'⟩:=r.allocAt id (by rw[hnx];exact Nat.le_of_ble_eq_true (Bool.and_eq_true_iff.1 hid).1) (Nat.le_of_ble_eq_true (Bool.and_eq_true_iff.1 hid).2) hres (.cells (a.eval x).cells T) (.arr T cs.length [cs]) ⟨1,0⟩ _ rfl (fun β' hle=>by
  refine obok_new0 (vs:=(a.eval x).cells) (by simp) (by simp[<-c1]) (by simp) (by unfold maxLen;omega) (by simp) ?_
  ·intro i j row c hi hj
   cases i with
   |succ i=>simp at hi
   |zero=>
    simp at hi;subst hi
    have hj':j<(a.eval x).cells.size:=by rw[<-c1];exact(List.getElem?_eq_some_iff.1 hj).1
    refine⟨(a.eval x).cells[j],by simp[hj'],(c2 j c _ hj (by simp[hj'])).mono (Mem.le_refl _) hle,c3 _ (by simp)⟩)
 refine⟨.pointer (some ⟨w.heap.size,0,none⟩),{ w with heap:=w.heap.push (.cells (a.eval x).cells T) },m,β',.inl ?_,?_⟩
 rotate_left
 ·exact Rel.put r' hN (by have:=VRel.ptr (m:=m) (k:=cs.length) (i:=0) (off:=0) hn;simpa using this)
 ·simp only[execOp]
  rfl
theorem aops_makeMap_at{d nx:Nat}{T:TypeId}(id:Nat)(hid:(Nat.blt id nx&&Nat.ble K.pins id)=true)(hnx:S.nx=nx)(hres:hget S.hp id=.res)(hw:Wants ops S ⟨some d,.makeMap T none,ty,pos,after,g⟩ true)(hN:Nat.blt d K.N=true)
  (kk:AOps K ops rest Q ⟨(d,.map id)::S.env,(id,.map [])::S.hp,S.nx⟩):AOps K ops (⟨some d,.makeMap T none,ty,pos,after,g⟩::rest) Q S:=by
 refine aops_runs hw (fun m β w a r=>?_) kk
 obtain⟨β',hle,hn,r2⟩:=r.allocAt id (by rw[hnx];exact Nat.le_of_ble_eq_true (Bool.and_eq_true_iff.1 hid).1) (Nat.le_of_ble_eq_true (Bool.and_eq_true_iff.1 hid).2) hres (.map #[] 0) (.map []) ⟨0,0⟩ _ rfl (fun β' hle=>⟨#[],0,fun _ _=>False,mapAt_nil (by simp),rfl,bls_none,by simp⟩)
 refine⟨.map (some w.heap.size),{ w with heap:=w.heap.push (.map #[] 0) },m,β',.inl ?_,Rel.put r2 hN (.map hn)⟩
 simp only[execOp,Option.map_none]
 rw[Sem.run_bind]
 rfl
theorem aops_emptySlice_at{d T e k bytes nx:Nat}(id:Nat)(hid:(Nat.blt id nx&&Nat.ble K.pins id)=true)(hnx:S.nx=nx)(hres:hget S.hp id=.res)(hT:tyEl K.P T e k bytes=true)(hw:Wants ops S ⟨some d,.buildSlice T 0 #[],ty,pos,after,g⟩ true)(hN:Nat.blt d K.N=true)
  (kk:AOps K ops rest Q ⟨(d,.own id 0)::S.env,(id,.arr e k [])::S.hp,S.nx⟩):AOps K ops (⟨some d,.buildSlice T 0 #[],ty,pos,after,g⟩::rest) Q S:=by
 refine aops_runs hw (fun m β w a r=>?_) kk
 obtain⟨i,z,hu,hi,hs,hby,hzz,hzk⟩:=tyEl_inv hT
 obtain⟨β',hle,hn,r2⟩:=r.allocAt id (by rw[hnx];exact Nat.le_of_ble_eq_true (Bool.and_eq_true_iff.1 hid).1) (Nat.le_of_ble_eq_true (Bool.and_eq_true_iff.1 hid).2) hres (.cells #[] e (0,0)) (.arr e k []) ⟨0,0⟩ _ rfl (fun β' hle=>by
  exact obok_new0 (vs:=#[]) (by simp) (by simp) (by simp) (by unfold maxLen;omega) (by simp) (by simp))
 refine⟨.slice (some ⟨w.heap.size,0,none⟩) 0 0,{ w with heap:=w.heap.push (.cells #[] e (0,0)) },m,β',.inl ?_,Rel.put r2 hN (.own hn)⟩
 simp only[execOp]
 rw[Sem.run_bind]
 have:(Instr.buildSlice T 0 ((#[]:Array (Nat×Operand)).map fun(i,x)=>(i,a.eval x))).run K.P w=.ok (.slice (some ⟨w.heap.size,0,none⟩) 0 0) { w with heap:=w.heap.push (.cells #[] e (0,0)) }:=by
  simp only[Instr.buildSlice,Sem.run_bind,run_underlying hu,Result.andThen_ok,run_sizeOf w hi]
  simp[pure,Sem.run,Instr.fill,newRow,newObj,Sem.run_bind,Result.andThen]
  have e0:(Array.map (fun _=>(default:Value)) (Array.range 0))=#[]:=by apply Array.ext';simp
  rw[e0]
 rw[this]
 rfl
theorem run_buildSlice{d T e k bytes n:Nat}{parts:Array (Nat×Operand)}{zs:List Value}(ps:List (Nat×V))(rows:List (List V))(hT:tyEl K.P T e k bytes=true)(hz:zeroCells K.P e=some zs)
  (h1:zs.all (·.oneCell')=true) (hk:0<k) (hnn:0<n) (hbig:n*k<=16777216)
  (hps:parts.toList.map (fun p=>(p.1,evl K S p.2))=ps) (hf:fillV (fun i=>some (i*k,k)) (((List.range (n*k)).map fun i=>zs.getD (i % k) undef).map .con) ps=some (flat rows))
  (hrl:rows.length=n) (hrk:∀row,row∈rows->row.length=k) (r:Rel K m β w a S):
  ∃cells':Array Value,cells'.size=n*k/\(∀(i j:Nat) (row:List V) (c:V),rows[i]? = some row->row[j]? = some c->∃v,cells'[i*k+j]? = some v/\VRel m β c v/\v.oneCell'=true)/\
   (execOp a.eval ⟨some d,.buildSlice T n parts,ty,pos,after,g⟩).run K.P w=.ok (.value (.slice (some ⟨w.heap.size,0,none⟩) n n)) { w with heap:=w.heap.push (.cells cells' e (0,0)) }:=by
 obtain⟨hl,hr⟩:=parts_rel r parts ps hps
 obtain⟨i,z,hu,hi,hs,hby,hzz,hzk⟩:=tyEl_inv hT
 obtain⟨z',hz1,hz2⟩:=zero_run hz w
 have hzl:zs.length=k:=by
  have:zeroCells K.P e=some z.cells.toList:=by simp[zeroCells,hi,hzz]
  rw[hz] at this;simp only[Option.some.injEq] at this;rw[this];simp[hzk]
 have hkk:K.P.cellsOf e=k:=by simp[Program.cellsOf,hi,hs]
 have hrows:0<n*k:=Nat.mul_pos hnn hk
 have hall:∀v,v∈zs->v.oneCell'=true:=fun v hv=>List.all_eq_true.1 h1 v hv
 have hzc:(Array.range (n*k)).map (fun x=>(z'.cells)[x % z'.cells.size]!)=(((List.range (n*k)).map fun i=>zs.getD (i % k) undef)).toArray:=by
  apply Array.ext'
  simp only[Array.toList_map,Array.toList_range,hz2,List.size_toArray,hzl]
  apply List.map_congr_left
  intro x _
  have:x % k<zs.length:=by rw[hzl];exact Nat.mod_lt _ hk
  simp[this]
 obtain⟨cells',f1,f2⟩:=fill_rel ps _ _ (flat rows) (((List.range (n*k)).map fun i=>zs.getD (i % k) undef)).toArray hf (zero_cells (by
  rw[List.all_eq_true]
  intro v hv
  simp only[List.mem_map,List.mem_range] at hv
  obtain⟨p,_,rfl⟩:=hv
  have:p % k<zs.length:=by rw[hzl];exact Nat.mod_lt _ hk
  simp only[List.getD_eq_getElem?_getD,List.getElem?_eq_getElem this,Option.getD_some]
  exact hall _ (List.getElem_mem _)) m β) hl hr
 have hsize:cells'.size=n*k:=by rw[<-f2.1,flat_length rows hrk,hrl]
 refine⟨cells',hsize,?_,?_⟩
 ·intro i j row c hi hj
  have hg:=flat_get rows hrk i j row c hi hj
  have hlt:i*k+j<cells'.size:=by rw[<-f2.1];exact(List.getElem?_eq_some_iff.1 hg).1
  obtain⟨a1,a2⟩:=f2.2 _ c cells'[i*k+j] hg (by simp[hlt])
  exact⟨cells'[i*k+j],by simp[hlt],a1,a2⟩
 ·simp only[execOp]
  rw[Sem.run_bind]
  have:(Instr.buildSlice T n (parts.map fun(i,x)=>(i,a.eval x))).run K.P w=.ok (.slice (some ⟨w.heap.size,0,none⟩) n n) { w with heap:=w.heap.push (.cells cells' e (0,0)) }:=by
   simp only[Instr.buildSlice,Sem.run_bind,run_underlying hu,Result.andThen_ok,run_sizeOf w hi,hkk]
   rw[if_neg (by omega),if_neg (by omega)]
   simp only[Sem.run_bind,hz1,Result.andThen_ok,pure,Sem.run,hzc,f1,newRow,newObj]
  rw[this]
  rfl
theorem aops_buildSlice_at{d T e k bytes n nx:Nat}{parts:Array (Nat×Operand)}{zs:List Value}(id:Nat)(hid:(Nat.blt id nx&&Nat.ble K.pins id)=true)(hnx:S.nx=nx)(hres:hget S.hp id=.res)(ps:List (Nat×V))(rows:List (List V))(hT:tyEl K.P T e k bytes=true)(hz:zeroCells K.P e=some zs)
  (hw:Wants ops S ⟨some d,.buildSlice T n parts,ty,pos,after,g⟩ true)
  (h1:zs.all (·.oneCell')=true) (hk:Nat.blt 0 k=true) (hnn:Nat.blt 0 n=true) (hbig:Nat.ble (n*k) 16777216=true)
  (hps:parts.toList.map (fun p=>(p.1,evl K S p.2))=ps) (hf:fillV (fun i=>some (i*k,k)) (((List.range (n*k)).map fun i=>zs.getD (i % k) undef).map .con) ps=some (flat rows))
  (hrl:rows.length=n) (hrk:∀row,row∈rows->row.length=k) (hN:Nat.blt d K.N=true)
  (kk:AOps K ops rest Q ⟨(d,.own id n)::S.env,(id,.arr e k rows)::S.hp,S.nx⟩):
  AOps K ops (⟨some d,.buildSlice T n parts,ty,pos,after,g⟩::rest) Q S:=by
 refine aops_runs hw (fun m β w a r=>?_) kk
 have hk:=Nat.le_of_ble_eq_true hk
 have hnn:=Nat.le_of_ble_eq_true hnn
 have hbig:=Nat.le_of_ble_eq_true hbig
 obtain⟨cells',hsize,hcl,hrun⟩:=run_buildSlice (d:=d) (ty:=ty) (pos:=pos) (after:=after) (g:=g) ps rows hT hz h1 hk hnn hbig hps hf hrl hrk r
 obtain⟨β',hle,hn,r2⟩:=r.allocAt id (by rw[hnx];exact Nat.le_of_ble_eq_true (Bool.and_eq_true_iff.1 hid).1) (Nat.le_of_ble_eq_true (Bool.and_eq_true_iff.1 hid).2) hres (.cells cells' e (0,0)) (.arr e k rows) ⟨n,0⟩ _ rfl (fun β' hle=>by
  refine obok_new0 (vs:=cells') (by simp) hsize (by omega) (by unfold maxLen;have:=Nat.le_mul_of_pos_right n hk;omega) hrk ?_
  intro i j row c hi hj
  obtain⟨v,h1,h2,h3⟩:=hcl i j row c hi hj
  exact⟨v,h1,h2.mono (Mem.le_refl _) hle,h3⟩)
 exact⟨_,_,m,β',.inl hrun,Rel.put r2 hN (.own hn)⟩
theorem aops_buildSlice_imm{d T e k bytes n:Nat}{parts:Array (Nat×Operand)}{zs:List Value}(ps:List (Nat×V))(rows:List (List V))(hT:tyEl K.P T e k bytes=true)(hz:zeroCells K.P e=some zs)
  (hw:Wants ops S ⟨some d,.buildSlice T n parts,ty,pos,after,g⟩ true)
  (h1:zs.all (·.oneCell')=true) (hk:Nat.blt 0 k=true) (hnn:Nat.blt 0 n=true) (hbig:Nat.ble (n*k) 16777216=true)
  (hps:parts.toList.map (fun p=>(p.1,evl K S p.2))=ps) (hf:fillV (fun i=>some (i*k,k)) (((List.range (n*k)).map fun i=>zs.getD (i % k) undef).map .con) ps=some (flat rows))
  (hrl:rows.length=n) (hrk:∀row,row∈rows->row.length=k) (him:∀row,row∈rows->Imms row) (hN:Nat.blt d K.N=true)
  (kk:AOps K ops rest Q (S.put d (.lst k rows))):
  AOps K ops (⟨some d,.buildSlice T n parts,ty,pos,after,g⟩::rest) Q S:=by
 refine aops_runs hw (fun m β w a r=>?_) kk
 have hk:=Nat.le_of_ble_eq_true hk
 have hnn:=Nat.le_of_ble_eq_true hnn
 have hbig:=Nat.le_of_ble_eq_true hbig
 obtain⟨cells',hsize,hcl,hrun⟩:=run_buildSlice (d:=d) (ty:=ty) (pos:=pos) (after:=after) (g:=g) ps rows hT hz h1 hk hnn hbig hps hf hrl hrk r
 let m':Mem:=fun b=>if b=w.heap.size then some (.cells cells' e (0,0)) else m b
 have hnone:m w.heap.size=none:=by
  cases hm:m w.heap.size with
  |none=>rfl
  |some o'=>have:=lt_of_some (r.imm _ _ hm);omega
 have hle:m.le m':=by
  intro b o h
  have:b≠w.heap.size:=by intro e;rw[e,hnone] at h;simp at h
  simp[m',this,h]
 have hg:Grew m m' w { w with heap:=w.heap.push (.cells cells' e (0,0)) }:=by
  refine⟨hle,?_,?_,?_,by simp,⟨rfl,rfl,rfl,trivial⟩⟩
  ·intro b o h
   by_cases hb:b=w.heap.size
   ·subst hb;simp[m'] at h;simp[h]
   ·simp[m',hb] at h
    have:=lt_of_some (r.imm _ _ h)
    simp only[Array.getElem?_push];rw[if_neg hb];exact r.imm _ _ h
  ·intro b hb
   have:b≠w.heap.size:=by omega
   simp[m',this]
  ·intro b hb
   simp only[Array.getElem?_push];rw[if_neg (by omega)]
 refine⟨_,_,m',β,.inl hrun,Rel.put (r.grow hg) hN (.imm (.lst (arr:=cells') (T:=e) (fr:=(0,0)) (fun i=>(cells'[i]?).getD undef) (by simp[m']) rfl hrl (Nat.le_refl _) (Nat.le_trans (Nat.le_trans (Nat.le_mul_of_pos_right n hk) hbig) (by unfold maxLen;omega)) hrk ?_ ?_))⟩
 ·intro i hi
  rw[hrl] at hi
  simp[show i<cells'.size by omega]
 ·intro i j row c hi hj
  obtain⟨v,h1,h2,h3⟩:=hcl i j row c hi hj
  simp only[h1,Option.getD_some]
  exact((him row (List.mem_of_getElem? hi) c (List.mem_of_getElem? hj)).2 m β v h2).mono hle
end
end Go.Pv
