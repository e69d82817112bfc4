/- Part of the proof. -/
import Derived.Test.YtppfkkkifdbnaaaGreatDoorVPvP
set_option linter.unusedSimpArgs false
set_option linter.unusedVariables false
namespace Go.Pv
open Go
section
variable{K:Ctx}{Q:Post}{S S':St}{ops:Array Oper}{rest:List Oper}{op:Op}{ty:TypeId}{pos:String}{after:Array Edge}{g:Option (Nat×Bool)}
variable{m:Mem}{β:Locs}{w:World}{a:Act}
abbrev iV(n:Int):V:=.con (.int .i64 n)
abbrev bV(b:Bool):V:=.con (.bool b)
abbrev sV(l:List UInt8):V:=.con (str l)
abbrev nV:V:=.con (.slice none 0 0)
abbrev w64(n:Int):Int:=IntKind.wrap .i64 n
theorem awp_cond_t{c:Operand}{x y:Code}{b:Bool}(hc:evl K S c=.con (.bool b))(hb:b=true)(h:AWP K x Q S):AWP K (.cond c x y) Q S:=
 awp_cond b hc (fun _=>h) (fun hf=>by grind)
theorem awp_cond_f{c:Operand}{x y:Code}{b:Bool}(hc:evl K S c=.con (.bool b))(hb:b=false)(h:AWP K y Q S):AWP K (.cond c x y) Q S:=
 awp_cond b hc (fun hf=>by grind) (fun _=>h)
def jn{α β:Type}(k:α)(b:α->β):β:=b k
theorem chk_some{α:Type}{p:Prop}[Decidable p]{x:Option α}{r:α}(h:(if p then x else none)=some r):p/\x=some r:=by
 grind
theorem bind_some{α β:Type}{o:Option α}{f:α->Option β}{r:β}(h:o.bind f=some r):∃x,o=some x/\f x=some r:=Option.bind_eq_some_iff.1 h
def idx{α:Type}(xs:List α)(n:Int):Option α:=if 0<=n then xs[n.toNat]? else none
theorem idx_some{α:Type}{xs:List α}{n:Int}{x:α}(h:idx xs n=some x):0<=n/\xs[n.toNat]? = some x:=by
 simp_all[idx]
theorem idx_map{α β:Type}{xs:List α}{n:Int}{x:α}(f:α->β)(h:idx xs n=some x):(xs.map f)[n.toNat]? = some (f x):=by
 simp_all[idx_some]
theorem idx_lt{α:Type}{xs:List α}{n:Int}{x:α}(h:idx xs n=some x):n.toNat<xs.length:=(aw8.1 (idx_some h).2).1
theorem rows_imm{α:Type}{enc:α->List V}(h:∀x,Imms (enc x)){xs:List α}:∀row,row∈xs.map enc->Imms row:=by
 grind
theorem rows_one{α:Type}{enc:α->List V}(h:∀x,(enc x).all oneV=true){xs:List α}:∀row,row∈xs.map enc->row.all oneV=true:=by
 grind
theorem map_snoc{α β:Type}(f:α->β)(xs ys:List α):xs.map f++ys.map f=(xs++ys).map f:=ca8.symm
theorem map_set{α β:Type}(f:α->β)(xs:List α)(i:Nat)(x:α):(xs.map f).set i (f x)=(xs.set i x).map f:=List.map_set.symm
theorem ObSub.boxC{Y:Hy}{e k:Nat}{r r':List V}(hl:r.length=r'.length)(h:∀(j:Nat) c c',r[j]? = some c->r'[j]? = some c'->CSub Y c c'):ObSub Y (.arr e k [r]) (.arr e k [r']):=by
 refine⟨rfl,rfl,rfl,fun i a b h1 h2=>?_⟩
 grind
theorem ObSub.box{Y:Hy}{e k:Nat}{r r':List V}(h:Subs Y r r')(hd:ndB r'=true:=by rfl):ObSub Y (.arr e k [r]) (.arr e k [r']):=
 .boxC h.len (fun j c c' h1 h2=>.sub (h.get j c c' h1 h2) (ndB_at hd h2))
theorem ObSub.rowsK{n:Nat}{σ:Nat->Nat}{e k:Nat}{rows:List (List V)}(h:∀row,row∈rows->Keeps row):ObSub (Ren n σ) (.arr e k rows) (.arr e k rows):=by
 refine⟨rfl,rfl,rfl,fun i a b h1 h2=>?_⟩
 rw[h1] at h2
 simp only[aq8] at h2;subst h2
 refine⟨rfl,fun j c c' h3 h4=>?_⟩
 rw[h3] at h4
 simp only[aq8] at h4;subst h4
 exact .same HyMC.h (Sub.kp (h a (ar8 h1) c (ar8 h3)))
theorem ObSub.rows{n:Nat}{σ:Nat->Nat}{e k:Nat}{rows:List (List V)}(h:∀row,row∈rows->Imms row):ObSub (Ren n σ) (.arr e k rows) (.arr e k rows):=.rowsK fun row hr=>(h row hr).keep
theorem ObSub.mapsK{n:Nat}{σ:Nat->Nat}{es:List (Value×V)}(h:∀p,p∈es->Keep p.2):ObSub (Ren n σ) (.map es) (.map es):=by
 refine⟨rfl,fun i a b h1 h2=>?_⟩
 rw[h1] at h2
 simp only[aq8] at h2;subst h2
 exact⟨rfl,.same HyMC.h (Sub.kp (h a (ar8 h1)))⟩
theorem ObSub.keep{Y:Hy}[HyMC Y](hk:∀v,Sub Y v v)(ob:Ob):ObSub Y ob ob:=.keep' HyMC.h (fun c=>.same HyMC.h (hk c)) ob
inductive OSteps(K:Ctx)(nx:Nat)(ops:Array Oper):List Oper->List OD->Prop
 |nil:OSteps K nx ops [] []
 |cons {o:Oper} {D:OD} {os:List Oper} {ds:List OD} (h:OStep K nx ops o D) (t:OSteps K nx ops os ds):OSteps K nx ops (o::os) (D::ds)
theorem OSteps.get{nx:Nat}{ops:Array Oper}{os:List Oper}{ds:List OD}(h:OSteps K nx ops os ds):∀(i:Nat) (o:Oper) (D:OD),os[i]? = some o->ds[i]? = some D->OStep K nx ops o D:=by
 induction h<;>grind
theorem awp_any{rid:Nat}{l:List Oper}(ds:List OD)(hm:K.P.follows .mixedOrders=true)(hlex:LexOk S ds)(hok:anyOk l ds=true)
  (hst:OSteps K S.nx l.toArray l ds) (hend:Q .normal (lexEnd S ds)):AWP K (.region rid l.toArray true) Q S:=awp_region_any ds hm hlex hok hst.get hend
theorem hpFrz{id k:Nat}{rows:List (List V)}{hp:Heap}(ob:Ob)(id2:Nat)(ho:ObSub (Frz id k rows) ob (hget hp id2)):
  ∀i,ObSub (Frz id k rows) (hget ((id,.dead)::(id2,ob)::hp) i) (hget hp i):=by
 grind [hget_put,ObSub,ObSub.keep,Sub.keep]
theorem hpFrz0{id k:Nat}{rows:List (List V)}{hp:Heap}:∀i,ObSub (Frz id k rows) (hget ((id,.dead)::hp) i) (hget hp i):=by
 grind [hget_put,ObSub,ObSub.keep,Sub.keep]
theorem Sub.frzAll{id k n:Nat}{rows:List (List V)}(hn:n=rows.length):Sub (Frz id k rows) (.lst k rows) (.own id n):=Sub.frz (Nat.le_of_eq hn) (by grind)
theorem ghost_frzE(id t:Nat){e k n:Nat}{rows:List (List V)}(ho:hget S.hp id=.arr e k rows)(hi:∀row,row∈rows->Imms row)
  (ht:get S.env t=.own id n) (hn:n=rows.length):Ghost K S ⟨(t,.lst k rows)::S.env,(id,.dead)::S.hp,S.nx⟩:=
 ghost_freeze id _ _ ho hi (envPut (fun _=>Sub.keep) (by simp_all[Sub.frzAll])) hpFrz0 (by simp[hget_put])
theorem ghost_frzC(id id2:Nat){e k:Nat}{rows:List (List V)}(ob:Ob)(ho:hget S.hp id=.arr e k rows)(hi:∀row,row∈rows->Imms row)
  (hob:ObSub (Frz id k rows) ob (hget S.hp id2)):Ghost K S ⟨S.env,(id,.dead)::(id2,ob)::S.hp,S.nx⟩:=
 ghost_freeze id _ _ ho hi (fun _=>Sub.keep) (hpFrz ob id2 hob) (by simp[hget_put])
theorem ghost_frzP(id t:Nat){e k i o:Nat}{rows:List (List V)}{row:List V}(ho:hget S.hp id=.arr e k rows)(hi:∀row,row∈rows->Imms row)
  (ht:get S.env t=.ptr id k i o) (hr:rows[i]? = some row):Ghost K S ⟨(t,.iptr row o)::S.env,(id,.dead)::S.hp,S.nx⟩:=
 ghost_freeze id _ _ ho hi (envPut (fun _=>Sub.keep) (by simp_all[Sub.frzptr])) hpFrz0 (by simp[hget_put])
theorem ghost_nilE(t e k:Nat)(ht:get S.env t=nV):Ghost K S ⟨(t,.own S.nx 0)::S.env,(S.nx,.arr e k [])::S.hp,S.nx+1⟩:=
 ghost_nil e k _ _ (envPut (fun _=>Sub.keepNil) (by grind [Sub.mkNil])) (fun _=>ObSub.keep (fun _=>Sub.keepNil) _)
theorem ghost_nilC(id2 e k:Nat)(ob:Ob)(hob:ObSub (Nil S.nx) ob (hget S.hp id2)):Ghost K S ⟨S.env,(S.nx,.arr e k [])::(id2,ob)::S.hp,S.nx+1⟩:=
 ghost_nil e k _ _ (fun _=>Sub.keepNil) (fun i=>by
  grind [hget_put,ObSub.keep,Sub.keepNil])
end
section
variable{K:Ctx}{Q:Post}{S S':St}{ops:Array Oper}{rest:List Oper}{op:Op}{ty:TypeId}{pos:String}{after:Array Edge}{g:Option (Nat×Bool)}
variable{m:Mem}{β:Locs}{w:World}{a:Act}
theorem evm_nil:([]:List Operand).map (evl K S)=[]:=rfl
theorem evm_cons{x:Operand}{v:V}{xs:List Operand}{vs:List V}(h:evl K S x=v)(t:xs.map (evl K S)=vs):(x::xs).map (evl K S)=v::vs:=by grind
theorem evp_nil:([]:List (Nat×Operand)).map (fun p=>(p.1,evl K S p.2))=[]:=rfl
theorem evp_cons{i:Nat}{x:Operand}{v:V}{xs:List (Nat×Operand)}{vs:List (Nat×V)}(h:evl K S x=v)(t:xs.map (fun p=>(p.1,evl K S p.2))=vs):
  ((i,x)::xs).map (fun p=>(p.1,evl K S p.2))=(i,v)::vs:=by grind
inductive ImmRows:List (List V)->Prop
 |nil:ImmRows []
 |cons {r:List V} {rs:List (List V)} (h:Imms r) (t:ImmRows rs):ImmRows (r::rs)
theorem imms_rows{rows:List (List V)}(h:ImmRows rows):∀row,row∈rows->Imms row:=by
 induction h<;>simp_all
def mput{α β:Type}[DecidableEq α]:List (α×β)->α->β->List (α×β)
 |[],k,v=>[(k,v)]
 |p::r,k,v=>if p.1=k then (k,v)::r else p::mput r k v
def mget{α β:Type}[DecidableEq α]:List (α×β)->α->Option β
 |[],_=>none
 |p::r,k=>if p.1=k then some p.2 else mget r k
theorem puts_map{α β:Type}[DecidableEq α]{kv:α->Value}{ev:β->V}(hinj:∀a b,kv a=kv b->a=b)(xs:List (α×β))(k:α)(v:β):
  Puts (kv k) (ev v) (xs.map fun p=>(kv p.1,ev p.2)) ((mput xs k v).map fun p=>(kv p.1,ev p.2)):=by
 induction xs with
 |nil=>exact .nil
 |cons p r ih=>
  simp only[bd8,mput]
  split
  ·rename_i h;subst h;exact .here
  ·rename_i h;exact .there (fun e=>h (hinj _ _ e)) ih
theorem look_map{α β:Type}[DecidableEq α]{kv:α->Value}{ev:β->V}(hinj:∀a b,kv a=kv b->a=b)(xs:List (α×β))(k:α):
  Look (kv k) (xs.map fun p=>(kv p.1,ev p.2)) ((mget xs k).map ev):=by
 induction xs with
 |nil=>exact .nil
 |cons p r ih=>
  simp only[bd8,mget]
  split
  ·rename_i h;subst h;exact .here
  ·rename_i h;exact .there (fun e=>h (hinj _ _ e)) ih
theorem getD_map{β:Type}(ev:β->V)(o:Option β)(z:β):(o.map ev).getD (ev z)=ev (o.getD z):=by simp_all
theorem inj_int{k:IntKind}:∀a b:Int,(Value.int k a)=.int k b->a=b:=by grind
theorem inj_str:∀a b:List UInt8,str a=str b->a=b:=by
 grind
theorem ghost_frzV(id t:Nat){e k:Nat}{rows:List (List V)}(v:V)(ho:hget S.hp id=.arr e k rows)(hi:∀row,row∈rows->Imms row)
  {v0:V} (ht:get S.env t=v0) (hv:Sub (Frz id k rows) v v0):Ghost K S ⟨(t,v)::S.env,(id,.dead)::S.hp,S.nx⟩:=
 ghost_freeze id _ _ ho hi (envPut (fun _=>Sub.keep) (by grind)) hpFrz0 (by simp[hget_put])
theorem Sub.fnc{Y:Hy}{f:Fn}{cs cs':List V}(h:Subs Y cs cs'):Sub Y (.fn f [] cs) (.fn f [] cs'):=fun m β m' β' x hy hx=>by
 have key:∀us:Array Value,cs'.length=us.size->(∀(i:Nat) (c:V) (v:Value),cs'[i]? = some c->us[i]? = some v->VRel m β c v)->
   ∀(i:Nat) (c:V) (v:Value),cs[i]? = some c->us[i]? = some v->VRel m' β' c v:=by
  intro us hl hh i c v h1 h2
  have h3:i<cs'.length:=by rw[<-h.len];exact(aw8.1 h1).1
  exact h.get i c _ h1 (as8 h3) _ _ _ _ _ hy (hh i _ v (as8 h3) h2)
 cases hx with
 |imm hx=>cases hx with
  |fn h1 h2 h3 h4=>exact .fn h1 (by rw[h.len];exact h2) (fun i c v q=>by simp at q) (key _ h2 fun i c v q1 q2=>.imm (h4 i c v q1 q2))
 |fn h1 h2 h3 h4=>exact .fn h1 (by rw[h.len];exact h2) (fun i c v q=>by simp at q) (key _ h2 h4)
def Idn:Hy:=fun m β m' β'=>m'=m/\β'=β
instance:HyMC Idn:=⟨fun m β m' β' hy=>by rw[hy.1];exact Mem.le_refl _⟩
theorem Sub.keepI{v:V}:Sub Idn v v:=fun _ _ _ _ _ hy hx=>by obtain⟨rfl,rfl⟩:=hy;exact hx
theorem ghost_idn(env:Env)(hp:Heap)(henv:∀t,Sub Idn (get env t) (get S.env t))(hhp:∀i,ObSub Idn (hget hp i) (hget S.hp i)):Ghost K S ⟨env,hp,S.nx⟩:=by
 intro m β w a r
 have hy:Idn m β m β:=⟨rfl,rfl⟩
 have hlive:∀i,hget hp i≠.dead->hget S.hp i≠.dead:=by
  intro i h hdd
  have h2:=hhp i
  rw[hdd] at h2
  cases ho':hget hp i with
  |dead=>exact h ho'
  |arr=>simp_all[ObSub]
  |res=>simp_all[ObSub]
  |map=>simp_all[ObSub]
  |iter=>simp_all[ObSub]
  |bld=>simp_all[ObSub]
 exact⟨m,β,r.imm,r.ext,r.mold,r.frame,r.size,r.same,r.tn,r.df,fun t=>henv t _ _ _ _ _ hy (r.env t),fun i=>(hhp i).ok hy (r.own i),fun i b c h=>r.priv i b c (hlive i h),
  fun i i' b c c' h h'=>r.inj i i' b c c' (hlive i h) (hlive i' h'),fun i x h hx=>(r.hid i x (hlive i h) hx).weak hlive,r.nx,r.pin⟩
def upd{α:Type}(f:Nat->α)(j:Nat)(x:α):Nat->α:=fun i=>if i=j then x else f i
def arrOf{α:Type}(d:α)(l:List α):Nat->α:=fun i=>l.getD i d
theorem arr_get{n j o:Nat}(pre post:List V)(g:Nat->V)(h:j<n){row:List V}(hrow:row=pre++(List.range n).map g++post)(ho:o=pre.length+j*1):row[o]? = some (g j):=by
 grind
theorem aops_nilCheck_ptr{d id k i o:Nat}{x:Operand}(hw:Wants ops S ⟨some d,.nilCheck x,ty,pos,after,g⟩ true)(hx:evl K S x=.ptr id k i o)(hN:Nat.blt d K.N=true)
  (kk:AOps K ops rest Q (S.put d (.ptr id k i o))):AOps K ops (⟨some d,.nilCheck x,ty,pos,after,g⟩::rest) Q S:=
 aops_val _ hw hN (fun m β w a r=>by
  have h:=r.reads x
  rw[hx] at h
  obtain⟨b,cap,hb,hv⟩:=h.ptr_inv<;>simp_all[execOp]) kk
theorem aops_nilCheck_iptr{d o:Nat}{row:List V}{x:Operand}(hw:Wants ops S ⟨some d,.nilCheck x,ty,pos,after,g⟩ true)(hx:evl K S x=.iptr row o)(hN:Nat.blt d K.N=true)
  (kk:AOps K ops rest Q (S.put d (.iptr row o))):AOps K ops (⟨some d,.nilCheck x,ty,pos,after,g⟩::rest) Q S:=
 aops_val _ hw hN (fun m β w a r=>by
  have h:=r.reads x
  rw[hx] at h
  obtain⟨ad,arr,T',fr,f,base,hv,_⟩:=h.iptr_inv<;>simp_all[execOp]) kk
end
section
variable{K:Ctx}{Q:Post}{S S':St}{ops:Array Oper}{rest:List Oper}{op:Op}{ty:TypeId}{pos:String}{after:Array Edge}{g:Option (Nat×Bool)}
variable{m:Mem}{β:Locs}{w:World}{a:Act}
theorem run_eqNil{P:Program}{T:TypeId}{x y:Operand}(neg:Bool)(hT:tySlice P T=true)(ad:Option Addr)(n c:Nat):
  ∃b:Bool,(n≠0->ad.isSome=true->b=false)/\(ad=none->b=true)/\
   (do eqGuard (if neg then .neq else .eql) T x y (.slice ad n c) (.slice none 0 0);binOp (if neg then .neq else .eql) T (.slice ad n c) (.slice none 0 0):Sem Value).run P w=.ok (.bool (if neg then !b else b)) w:=by
 obtain⟨e,hu⟩:∃e,P.underlying T=some (.slice e):=by
  grind [tySlice]
 have hd:(10000:Nat)=9999+1:=rfl
 have hg:∀op:BinOp,(eqGuard op T x y (.slice ad n c) (.slice none 0 0)).run P w=.ok () w:=by
  intro op;unfold eqGuard;simp_all
 have hq:(Op.equal T (.slice ad n c) (.slice none 0 0)).run P w=.ok ad.isNone w:=by
  rw[Op.equal,Op.maxDepth,hd,Op.equalIn]
  simp only[Sem.run_bind,run_underlying hu,Result.andThen_ok]
  cases ad<;>rfl
 refine⟨ad.isNone,fun _ h=>by simp_all,fun h=>by simp[h],?_⟩
 rw[Sem.run_bind,hg,Result.andThen_ok]
 cases neg<;>simp_all[binOp]
theorem aops_nilNil{d:Nat}{x y:Operand}{T T':TypeId}(neg:Bool)(hT:tySlice K.P T=true)(hw:Wants ops S ⟨some d,.binOp (if neg then .neq else .eql) T x y T',ty,pos,after,g⟩ true)
  (hx:evl K S x=nV) (hy:evl K S y=nV) (hN:Nat.blt d K.N=true)
  (k:AOps K ops rest Q (S.put d (bV (if neg then false else true)))):AOps K ops (⟨some d,.binOp (if neg then .neq else .eql) T x y T',ty,pos,after,g⟩::rest) Q S:=
 aops_val _ hw hN (fun m β w a r=>by
  obtain⟨b,_,hb,hr⟩:=run_eqNil (P:=K.P) (w:=w) (x:=x) (y:=y) neg hT none 0 0
  rw[hb rfl] at hr
  refine⟨.bool (if neg then !true else true),?_,?_⟩
  ·simp only[execOp,r.con hx,r.con hy]
   exact run_value hr
  ·cases neg<;>exact .imm (.con _)) k
def snil:V->Option Nat
 | .lst _ rows=>some rows.length
 | .own _ n=>some n
 |_=>none
theorem aops_isNil{d n:Nat}{x y:Operand}{T T':TypeId}{v:V}(neg:Bool)(hT:tySlice K.P T=true)(hw:Wants ops S ⟨some d,.binOp (if neg then .neq else .eql) T x y T',ty,pos,after,g⟩ true)
  (hx:evl K S x=v) (hy:evl K S y=nV) (hn:snil v=some n) (hN:Nat.blt d K.N=true)
  (k:∀b:Bool,(n≠0->b=false)->AOps K ops rest Q (S.put d (bV (if neg then !b else b)))):AOps K ops (⟨some d,.binOp (if neg then .neq else .eql) T x y T',ty,pos,after,g⟩::rest) Q S:=by
 intro m β w a r
 have h:=r.reads x
 rw[hx] at h
 have key:∃ad c,a.eval x=.slice ad n c/\(n≠0->ad.isSome=true):=by
  generalize hv:a.eval x=u at h
  cases v with
  |lst k rows=>
   simp only[snil,aq8] at hn
   cases h with
   |imm h=>
    cases h<;>simp_all
  |own id n'=>
   simp only[snil,aq8] at hn
   subst hn
   cases h with
   |imm h=>cases h
   |ownNil=>grind
   |own=>grind
  |_=>simp[snil] at hn
 obtain⟨ad,c,hv,hs⟩:=key
 obtain⟨b,hb,_,hr⟩:=run_eqNil (P:=K.P) (w:=w) (x:=x) (y:=y) neg hT ad n c
 have kk:=k b fun hn=>hb hn (hs hn)
 unfold wpListIn
 rw[if_pos (hw.at r)]
 refine op_in (.inr (fun c h=>by cases h)) ?_
 unfold Oper.wp
 have hrun:(execOp a.eval ⟨some d,.binOp (if neg then .neq else .eql) T x y T',ty,pos,after,g⟩).run K.P w=.ok (.value (.bool (if neg then !b else b))) w:=by
  simp only[execOp,hv,r.con hy]
  exact run_value hr
 rw[hrun]
 exact kk m β w _ (r.put hN (.imm (.con _)))
theorem aops_emptySlice{d T e k bytes:Nat}(hT:tyEl K.P T e k bytes=true)(hw:Wants ops S ⟨some d,.buildSlice T 0 #[],ty,pos,after,g⟩ true)(hN:Nat.blt d K.N=true)
  (kk:AOps K ops rest Q ⟨(d,.own S.nx 0)::S.env,(S.nx,.arr e k [])::S.hp,S.nx+1⟩):AOps K ops (⟨some d,.buildSlice T 0 #[],ty,pos,after,g⟩::rest) Q S:=by
 refine aops_runs hw (fun m β w a r=>?_) kk
 obtain⟨i,z,hu,hi,hs,hby,hzz,hzk⟩:=tyEl_inv hT
 obtain⟨β',hle,hnx,r2⟩:=r.alloc (.cells #[] e (0,0)) (.arr e k []) ⟨0,0⟩ _ rfl (fun β' hle=>by
  grind [obok_new0])
 refine⟨.slice (some ⟨w.heap.size,0,none⟩) 0 0,{ w with heap:=w.heap.push (.cells #[] e (0,0)) },m,β',.inl ?_,Rel.put r2 hN (.own hnx)⟩
 simp only[execOp]
 rw[Sem.run_bind]
 have:(Instr.buildSlice T 0 ((#[]:Array (Nat×Operand)).map fun(i,x)=>(i,a.eval x))).run K.P w=.ok (.slice (some ⟨w.heap.size,0,none⟩) 0 0) { w with heap:=w.heap.push (.cells #[] e (0,0)) }:=by
  simp only[Instr.buildSlice,Sem.run_bind,run_underlying hu,Result.andThen_ok,run_sizeOf w hi]
  simp[pure,Sem.run,Instr.fill,newRow,newObj,Sem.run_bind,Result.andThen]
  have e0:(Array.map (fun _=>(default:Value)) (Array.range 0))=#[]:=by apply an9;simp
  rw[e0]
 simp_all
def cellVal(agg:Bool)(l:List Value):Value:=if agg then .agg l.toArray else l.headD undef
structure EqOk(P:Program)(d:Nat)(t:TypeId)(k:Nat)(agg:Bool)(good:List Value->Prop):Prop where
 len:∀l,good l->l.length=k
 kind:∀w,(isAgg t).run P w=.ok agg w/\(sizeOf t).run P w=.ok k w
 eq:∀w xs ys,good xs->good ys->∃b,(Op.equalIn d t (cellVal agg xs) (cellVal agg ys)).run P w=.ok b w/\(b=true<->xs=ys)
 key:∀b w xs,good xs->(Instr.checkKey b d t (cellVal agg xs)).run P w=.ok () w
 bits:∀xs,good xs->xs.all (fun v=>Instr.sameBits 0 v v)=true
 guard:P.eqGuardType d t=false
theorem EqOk.weaken{P:Program}{d k:Nat}{t:TypeId}{agg:Bool}{good good':List Value->Prop}(h:EqOk P d t k agg good)(hg:∀l,good' l->good l):EqOk P d t k agg good':=
 ⟨fun l hl=>h.len l (hg l hl),h.kind,fun w xs ys hx hy=>h.eq w xs ys (hg _ hx) (hg _ hy),fun b w xs hx=>h.key b w xs (hg _ hx),fun xs hx=>h.bits xs (hg _ hx),h.guard⟩
theorem eqOk_int{P:Program}{d:Nat}{t:TypeId}{k:IntKind}(hu:P.underlying t=some (.int k))(hc:tyC P t=true):EqOk P (d+1) t 1 false (fun l=>∃n,l=[.int k n]) where
 len:=by grind
 kind:=fun w=>tyC_run hc w
 eq:=by
  rintro w xs ys ⟨n,rfl⟩ ⟨n',rfl⟩
  exact⟨_,run_equalIn_int w d t k k n n' hu,by simp⟩
 key:=by
  simp_all[Instr.checkKey,run_underlying]
 bits:=by simp_all[Instr.sameBits]
 guard:=by simp[Program.eqGuardType,hu]
theorem eqOk_str{P:Program}{d:Nat}{t:TypeId}(hu:P.underlying t=some .string)(hc:tyC P t=true):EqOk P (d+1) t 1 false (fun l=>∃s,l=[.string s]) where
 len:=by grind
 kind:=fun w=>tyC_run hc w
 eq:=by
  rintro w xs ys ⟨n,rfl⟩ ⟨n',rfl⟩
  refine⟨_,run_equalIn_string w d t n n' hu,?_⟩
  rw[<-beq_toListBytes,bytes_beq];simp
 key:=by
  simp_all[Instr.checkKey,run_underlying]
 bits:=by simp_all[Instr.sameBits,bytes_beq]
 guard:=by simp[Program.eqGuardType,hu]
def GoodF(g1 g2:List Value->Prop)(l:List Value):Prop:=∃a b,l=a++b/\g1 a/\g2 b
structure EqF(P:Program)(d N:Nat)(fs:List Field)(off:Nat)(good:List Value->Prop):Prop where
 len:∀l,good l->off+l.length=N
 eq:∀w (xs ys:List Value),good (xs.drop off)->good (ys.drop off)->∃b,(Op.eqFields d xs.toArray ys.toArray fs).run P w=.ok b w/\(b=true<->xs.drop off=ys.drop off)
 key:∀b w (xs:List Value),good (xs.drop off)->∀f,f∈fs->f.name ≠ "_" → ∃v,(part f.type xs.toArray f.offset).run P w=.ok v w/\(Instr.checkKey b d f.type v).run P w=.ok () w
 bits:∀l,good l->l.all (fun v=>Instr.sameBits 0 v v)=true
 guard:fs.any (fun f=>f.name != "_" && P.eqGuardType d f.type)=false
theorem part_run{P:Program}{d:Nat}{t:TypeId}{k:Nat}{agg:Bool}{good:List Value->Prop}(h:EqOk P d t k agg good)(w:World)(xs:List Value)(off:Nat){a b:List Value}(hd:xs.drop off=a++b)(hg:good a)
  (h1:agg=false->k=1):(part t xs.toArray off).run P w=.ok (cellVal agg a) w:=by
 have hl:=h.len _ hg
 unfold part
 simp only[Sem.run_bind,(h.kind w).1,Result.andThen_ok]
 cases agg with
 |true=>
  simp only[if_true,Sem.run_bind,(h.kind w).2,Result.andThen_ok,cellVal]
  simp_all
 |false=>
  have hk:=h1 rfl
  rw[hk] at hl
  match a,hl with
  |[v],_=>
   have:xs[off]? = some v:=by
    have:=congrArg (fun l=>l[0]?) hd
    simpa using this
   simp_all[cellVal]
theorem eqF_nil{P:Program}{d N:Nat}:EqF P d N [] N (fun l=>l=[]) where
 len:=by grind
 eq:=by
  rintro w xs ys hx hy
  exact⟨true,rfl,by grind⟩
 key:=by grind
 bits:=by grind
 guard:=rfl
theorem eqF_cons {P:Program} {d N off k:Nat} {f:Field} {fs:List Field} {agg:Bool} {g1 g2:List Value->Prop} (h:EqOk P d f.type k agg g1) (h1:agg=false->k=1) (hf:f.offset=off) (hn:f.name ≠ "_")
  (hr:EqF P d N fs (off+k) g2):EqF P d N (f::fs) off (GoodF g1 g2) where
 len:=by
  rintro l ⟨a,b,rfl,ha,hb⟩
  have e1:=h.len a ha
  have e2:=hr.len b hb
  grind
 eq:=by
  rintro w xs ys ⟨a,b,ha,ga,gb⟩ ⟨a',b',ha',ga',gb'⟩
  have e1:=h.len a ga
  have e2:=h.len a' ga'
  have db:xs.drop (off+k)=b:=by rw[<-bu8,ha,<-e1];simp
  have db':ys.drop (off+k)=b':=by rw[<-bu8,ha',<-e2];simp
  obtain⟨r1,hr1,ir1⟩:=h.eq w a a' ga ga'
  obtain⟨r2,hr2,ir2⟩:=hr.eq w xs ys (by grind) (by grind)
  rw[db,db'] at ir2
  rw[ha,ha']
  refine⟨r1&&r2,?_,?_⟩
  ·simp only[Op.eqFields]
   rw[if_pos hn]
   simp only[Sem.run_bind,hf,part_run h w xs off ha ga h1,part_run h w ys off ha' ga' h1,Result.andThen_ok,hr1]
   cases r1<;>simp_all
  ·rw[al9,ir1,ir2]
   grind [List.append_inj]
 key:=by
  rintro b w xs ⟨a,c,ha,ga,gc⟩ f' hf' hn'
  have e1:=h.len a ga
  have dc:xs.drop (off+k)=c:=by rw[<-bu8,ha,<-e1];simp
  rcases am8.1 hf' with rfl|hm
  ·exact⟨_,by grind [part_run],h.key b w a ga⟩
  ·exact hr.key b w xs (by grind) f' hm hn'
 bits:=by
  rintro l ⟨a,b,rfl,ga,gb⟩
  rw[bv9,h.bits a ga,hr.bits b gb];rfl
 guard:=by
  rw[bs8,hr.guard,h.guard];simp
theorem forIn_ok{P:Program}{w:World}{β:Type}(f:Field->β->Sem (ForInStep β)):∀(fs:List Field) (x:β),(∀g,g∈fs->(f g x).run P w=.ok (.yield x) w)->(forIn fs x f).run P w=.ok x w
 |[],x,_=>rfl
 |g::fs,x,h=>by
  simp_all[forIn_ok]
theorem eqOk_struct{P:Program}{d t N:Nat}{good:List Value->Prop}{fs:List Field}(hf:(P.fieldsOf t).toList=fs)(hu:P.underlying t=some (.struct (P.fieldsOf t)))(hc:tyA P t N=true)(hp:P.stoodInHeld t=false)
  (h:EqF P d N fs 0 good):EqOk P (d+1) t N true good where
 len:=fun l hl=>by have:=h.len l hl;omega
 kind:=fun w=>tyA_run hc w
 eq:=by
  intro w xs ys hx hy
  simp only[cellVal,if_true]
  rw[run_equalIn_agg w d t _ _ hu hp,hf]
  exact h.eq w xs ys hx hy
 key:=by
  intro b w xs hx
  simp only[cellVal,if_true]
  rw[Instr.checkKey]
  simp only[Sem.run_bind,run_underlying hu,Result.andThen_ok]
  rw[<-Array.forIn_toList,hf]
  rw[forIn_ok]
  ·rfl
  ·intro f hf'
   by_cases hn:f.name = "_"
   ·simp[hn]
   ·obtain⟨v,h1,h2⟩:=h.key b w xs hx f hf' hn<;>simp_all
 bits:=h.bits
 guard:=by
  simp only[Program.eqGuardType,hu]
  rw[<-Array.any_toList,hf]
  exact h.guard
end
theorem eq_b{α β:Type}[DecidableEq α](cv:α->β)(u v:α)(inj:cv u=cv v->u=v):cv u=cv v<->decide (u=v)=true:=by
 rw[decide_eq_true_eq]
 exact⟨inj,fun h=>by rw[h]⟩
theorem aops_eqS{K:Ctx}{Q:Post}{S:St}{ops:Array Oper}{rest:List Oper}{ty:TypeId}{pos:String}{after:Array Edge}{g:Option (Nat×Bool)}
  {d k:Nat} {x y:Operand} {T T':TypeId} {xs ys:List Value} (neg:Bool) {b:Bool} {good:List Value->Prop} (h:EqOk K.P 10000 T k true good)
  (gx:good xs) (gy:good ys) (hb:xs=ys<->b=true) (hg:K.P.eqGuardType K.P.depth T=false) (hw:Wants ops S ⟨some d,.binOp (if neg then .neq else .eql) T x y T',ty,pos,after,g⟩ true)
  (hx:evl K S x=.agg (xs.map .con)) (hy:evl K S y=.agg (ys.map .con)) (hN:Nat.blt d K.N=true)
  (kk:AOps K ops rest Q (S.put d (.con (.bool (if neg then !b else b))))):AOps K ops (⟨some d,.binOp (if neg then .neq else .eql) T x y T',ty,pos,after,g⟩::rest) Q S:=
 aops_eqA neg hg (fun w=>by
  obtain⟨r,h1,h2⟩:=h.eq w xs ys gx gy
  simp only[cellVal,if_true] at h1
  have:r=b:=by
   cases r<;>cases b<;>simp_all
  rw[h1,this]) hw hx hy rfl rfl hN kk
section
variable{K:Ctx}{Q:Post}{S S':St}{ops:Array Oper}{rest:List Oper}{op:Op}{ty:TypeId}{pos:String}{after:Array Edge}{g:Option (Nat×Bool)}
variable{m:Mem}{β:Locs}{w:World}{a:Act}
theorem ghost_res:Ghost K S ⟨S.env,(S.nx,.res)::S.hp,S.nx+1⟩:=by
 intro m β w a r
 let β':Locs:=⟨β.f,fun i=>if i=S.nx then fun _=>False else β.hid i⟩
 have hle:β.le β':=fun _ _ h=>h
 have hn:β'.hid S.nx=fun _=>False:=by show(if _ then _ else _)=_;grind
 have hho:∀i,i≠S.nx->β'.hid i=β.hid i:=fun i h=>by grind
 have hlive:∀i,i≠S.nx->hget ((S.nx,Ob.res)::S.hp) i≠.dead->hget S.hp i≠.dead:=by
  intro i h hi
  rw[hget_put,if_neg (Ne.symm h)] at hi;exact hi
 refine⟨m,β',r.imm,r.ext,r.mold,r.frame,r.size,r.same,r.tn,r.df,fun t=>(r.env t).mono (Mem.le_refl _) hle,?_,?_,?_,?_,fun id h=>r.nx id (Nat.le_of_succ_le h),fun q hq=>⟨Nat.lt_succ_of_lt (r.pin q hq).1,(r.pin q hq).2⟩⟩
 ·intro id
  show ObOk m β' w (β'.hid id) (β id) (hget ((S.nx,Ob.res)::S.hp) id)
  rw[hget_put]
  split
  ·rename_i h;subst h;rw[r.nx _ (ab8 _)];trivial
  ·rename_i h;rw[hho id (Ne.symm h)];exact ObOk.mono (Mem.le_refl _) hle (fun _ _ h=>h) (fun _ _=>rfl) (r.own id)
 ·intro id b cap hl hb
  rw[hget_put] at hl
  split at hl
  ·rename_i h;subst h;have hb:β S.nx=some (some (b,cap)):=hb;rw[r.nx _ (ab8 _)] at hb;simp at hb
  ·exact r.priv id b cap hl hb
 ·intro id id' b c c' hl hl' hb hb'
  rw[hget_put] at hl hl'
  split at hl
  ·rename_i h;subst h;have hb:β S.nx=some (some (b,c)):=hb;rw[r.nx _ (ab8 _)] at hb;simp at hb
  ·split at hl'
   ·rename_i h;subst h;have hb':β S.nx=some (some (b,c')):=hb';rw[r.nx _ (ab8 _)] at hb';simp at hb'
   ·exact r.inj id id' b c c' hl hl' hb hb'
 ·intro id x hl hx
  by_cases h:id=S.nx
  ·grind
  ·rw[hho id h] at hx
   have q:=r.hid id x (hlive id h hl) hx
   refine⟨q.lt,q.m,q.old,fun i b c hi hb=>?_,fun i hi hx'=>?_⟩
   ·by_cases h':i=S.nx
    ·subst h';have hb:β S.nx=some (some (b,c)):=hb;rw[r.nx _ (ab8 _)] at hb;simp at hb
    ·exact q.ne i b c (hlive i h' hi) hb
   ·by_cases h':i=S.nx
    ·grind
    ·rw[hho i h'] at hx';exact q.un i (hlive i h' hi) hx'
theorem Rel.free(r:Rel K m β w a S){id:Nat}(h:hget S.hp id=.res):β id=none:=by
 have:=r.own id
 grind [ObOk]
theorem Rel.allocAt(r:Rel K m β w a S)(id:Nat)(hid:id<S.nx)(hpid:K.pins<=id)(hres:hget S.hp id=.res)(o:Obj)(ob:Ob)(cap:Cap)(w':World)(hw':w'={ w with heap:=w.heap.push o })
  (hok:∀β',β.le β'->ObOk m β' w' (fun _=>False) (some (some (w.heap.size,cap))) ob):
  ∃β':Locs,β.le β'/\β' id=some (some (w.heap.size,cap))/\Rel K m β' w' a ⟨S.env,(id,ob)::S.hp,S.nx⟩:=
 r.allocG id S.nx (r.free hres) (fun q hq=>by omega) hid (ab8 _) o ob cap w' hw' (fun _=>False) (fun _ h=>h.elim) hok
theorem aops_alloc_at{d n nx:Nat}{T:TypeId}{zs:List Value}(id:Nat)(hid:(Nat.blt id nx&&Nat.ble K.pins id)=true)(hnx:S.nx=nx)(hres:hget S.hp id=.res)(hz:zeroCells K.P T=some zs)(hn:zs.length=n)(h1:zs.all (·.oneCell')=true)(hw:Wants ops S ⟨some d,.alloc T,ty,pos,after,g⟩ true)
  (hN:Nat.blt d K.N=true)
  (kk:AOps K ops rest Q ⟨(d,.ptr id n 0 0)::S.env,(id,.arr T n [zs.map .con])::S.hp,S.nx⟩):
  AOps K ops (⟨some d,.alloc T,ty,pos,after,g⟩::rest) Q S:=by
 refine aops_runs hw (fun m β w a r=>?_) kk
 subst hn
 obtain⟨z,hz1,hz2⟩:=zero_run hz w
 obtain⟨β',hle,hn,r'⟩:=r.allocAt id (by simp_all) (ar9 (bx9.1 hid).2) hres (.cells z.cells T) (.arr T zs.length [zs.map .con]) ⟨1,0⟩ _ rfl (fun β' hle=>by
  refine obok_new0 (vs:=z.cells) (by simp) (by simp[hz2]) (by simp) (by grind [maxLen]) (by simp) ?_
  ·intro i j row c hi hj
   cases i with
   |succ i=>simp at hi
   |zero=>
    simp at hi;subst hi
    rw[at9] at hj
    cases hzj:zs[j]? with
    |none=>grind
    |some v=>
     simp[hzj] at hj;subst hj
     refine⟨v,by grind,.imm (.con v),al8.1 h1 v (ar8 hzj)⟩)
 refine⟨.pointer (some ⟨w.heap.size,0,none⟩),{ w with heap:=w.heap.push (.cells z.cells T) },m,β',.inl ?_,?_⟩
 rotate_left
 ·exact Rel.put r' hN (by have:=VRel.ptr (m:=m) (k:=zs.length) (i:=0) (off:=0) hn;grind)
 ·simp only[execOp,Instr.alloc]
  simp only[Sem.run_bind,hz1,Result.andThen_ok]
  rfl
theorem aops_box_at{d nx:Nat}{x:Operand}{T:TypeId}{dv:V}(id:Nat)(hid:(Nat.blt id nx&&Nat.ble K.pins id)=true)(hnx:S.nx=nx)(hres:hget S.hp id=.res)(cs:List V)(hw:Wants ops S ⟨some d,.box T x,ty,pos,after,g⟩ true)
  (hx:evl K S x=dv) (hcs:vcells dv=cs) (h1:cs.all oneV=true) (hN:Nat.blt d K.N=true)
  (kk:AOps K ops rest Q ⟨(d,.ptr id cs.length 0 0)::S.env,(id,.arr T cs.length [cs])::S.hp,S.nx⟩):
  AOps K ops (⟨some d,.box T x,ty,pos,after,g⟩::rest) Q S:=by
 refine aops_runs hw (fun m β w a r=>?_) kk
 have h:=r.reads x
 rw[hx] at h
 obtain⟨c1,c2,c3⟩:=h.cells (by grind)
 rw[hcs] at c1 c2
 obtain⟨β',hle,hn,r'⟩:=r.allocAt id (by simp_all) (ar9 (bx9.1 hid).2) hres (.cells (a.eval x).cells T) (.arr T cs.length [cs]) ⟨1,0⟩ _ rfl (fun β' hle=>by
  refine obok_new0 (vs:=(a.eval x).cells) (by simp) (by grind) (by simp) (by grind [maxLen]) (by simp) ?_
  ·intro i j row c hi hj
   cases i with
   |succ i=>simp at hi
   |zero=>
    simp at hi;subst hi
    have hj':j<(a.eval x).cells.size:=by rw[<-c1];exact(aw8.1 hj).1
    refine⟨(a.eval x).cells[j],by simp[hj'],(c2 j c _ hj (by simp[hj'])).mono (Mem.le_refl _) hle,c3 _ (by simp)⟩)
 refine⟨.pointer (some ⟨w.heap.size,0,none⟩),{ w with heap:=w.heap.push (.cells (a.eval x).cells T) },m,β',.inl ?_,?_⟩
 rotate_left
 ·exact Rel.put r' hN (by have:=VRel.ptr (m:=m) (k:=cs.length) (i:=0) (off:=0) hn;grind)
 ·simp only[execOp]
  rfl
theorem aops_makeMap_at{d nx:Nat}{T:TypeId}(id:Nat)(hid:(Nat.blt id nx&&Nat.ble K.pins id)=true)(hnx:S.nx=nx)(hres:hget S.hp id=.res)(hw:Wants ops S ⟨some d,.makeMap T none,ty,pos,after,g⟩ true)(hN:Nat.blt d K.N=true)
  (kk:AOps K ops rest Q ⟨(d,.map id)::S.env,(id,.map [])::S.hp,S.nx⟩):AOps K ops (⟨some d,.makeMap T none,ty,pos,after,g⟩::rest) Q S:=by
 refine aops_runs hw (fun m β w a r=>?_) kk
 obtain⟨β',hle,hn,r2⟩:=r.allocAt id (by simp_all) (ar9 (bx9.1 hid).2) hres (.map #[] 0) (.map []) ⟨0,0⟩ _ rfl (fun β' hle=>⟨#[],0,fun _ _=>False,mapAt_nil (by simp),rfl,bls_none,by simp⟩)
 refine⟨.map (some w.heap.size),{ w with heap:=w.heap.push (.map #[] 0) },m,β',.inl ?_,Rel.put r2 hN (.map hn)⟩
 simp only[execOp,ag9]
 rw[Sem.run_bind]
 rfl
theorem aops_emptySlice_at{d T e k bytes nx:Nat}(id:Nat)(hid:(Nat.blt id nx&&Nat.ble K.pins id)=true)(hnx:S.nx=nx)(hres:hget S.hp id=.res)(hT:tyEl K.P T e k bytes=true)(hw:Wants ops S ⟨some d,.buildSlice T 0 #[],ty,pos,after,g⟩ true)(hN:Nat.blt d K.N=true)
  (kk:AOps K ops rest Q ⟨(d,.own id 0)::S.env,(id,.arr e k [])::S.hp,S.nx⟩):AOps K ops (⟨some d,.buildSlice T 0 #[],ty,pos,after,g⟩::rest) Q S:=by
 refine aops_runs hw (fun m β w a r=>?_) kk
 obtain⟨i,z,hu,hi,hs,hby,hzz,hzk⟩:=tyEl_inv hT
 obtain⟨β',hle,hn,r2⟩:=r.allocAt id (by simp_all) (ar9 (bx9.1 hid).2) hres (.cells #[] e (0,0)) (.arr e k []) ⟨0,0⟩ _ rfl (fun β' hle=>by
  grind [obok_new0])
 refine⟨.slice (some ⟨w.heap.size,0,none⟩) 0 0,{ w with heap:=w.heap.push (.cells #[] e (0,0)) },m,β',.inl ?_,Rel.put r2 hN (.own hn)⟩
 simp only[execOp]
 rw[Sem.run_bind]
 have:(Instr.buildSlice T 0 ((#[]:Array (Nat×Operand)).map fun(i,x)=>(i,a.eval x))).run K.P w=.ok (.slice (some ⟨w.heap.size,0,none⟩) 0 0) { w with heap:=w.heap.push (.cells #[] e (0,0)) }:=by
  simp only[Instr.buildSlice,Sem.run_bind,run_underlying hu,Result.andThen_ok,run_sizeOf w hi]
  simp[pure,Sem.run,Instr.fill,newRow,newObj,Sem.run_bind,Result.andThen]
  have e0:(Array.map (fun _=>(default:Value)) (Array.range 0))=#[]:=by apply an9;simp
  rw[e0]
 simp_all
theorem run_buildSlice{d T e k bytes n:Nat}{parts:Array (Nat×Operand)}{zs:List Value}(ps:List (Nat×V))(rows:List (List V))(hT:tyEl K.P T e k bytes=true)(hz:zeroCells K.P e=some zs)
  (h1:zs.all (·.oneCell')=true) (hk:0<k) (hnn:0<n) (hbig:n*k<=16777216)
  (hps:parts.toList.map (fun p=>(p.1,evl K S p.2))=ps) (hf:fillV (fun i=>some (i*k,k)) (((List.range (n*k)).map fun i=>zs.getD (i % k) undef).map .con) ps=some (flat rows))
  (hrl:rows.length=n) (hrk:∀row,row∈rows->row.length=k) (r:Rel K m β w a S):
  ∃cells':Array Value,cells'.size=n*k/\(∀(i j:Nat) (row:List V) (c:V),rows[i]? = some row->row[j]? = some c->∃v,cells'[i*k+j]? = some v/\VRel m β c v/\v.oneCell'=true)/\
   (execOp a.eval ⟨some d,.buildSlice T n parts,ty,pos,after,g⟩).run K.P w=.ok (.value (.slice (some ⟨w.heap.size,0,none⟩) n n)) { w with heap:=w.heap.push (.cells cells' e (0,0)) }:=by
 obtain⟨hl,hr⟩:=parts_rel r parts ps hps
 obtain⟨i,z,hu,hi,hs,hby,hzz,hzk⟩:=tyEl_inv hT
 obtain⟨z',hz1,hz2⟩:=zero_run hz w
 have hzl:zs.length=k:=by
  have:zeroCells K.P e=some z.cells.toList:=by simp[zeroCells,hi,hzz]
  rw[hz] at this;simp only[aq8] at this;rw[this];simp[hzk]
 have hkk:K.P.cellsOf e=k:=by simp[Program.cellsOf,hi,hs]
 have hrows:0<n*k:=Nat.mul_pos hnn hk
 have hall:∀v,v∈zs->v.oneCell'=true:=fun v hv=>al8.1 h1 v hv
 have hzc:(Array.range (n*k)).map (fun x=>(z'.cells)[x % z'.cells.size]!)=(((List.range (n*k)).map fun i=>zs.getD (i % k) undef)).toArray:=by
  apply an9
  simp only[Array.toList_map,Array.toList_range,hz2,be8,hzl]
  apply br8
  intro x _
  have:x % k<zs.length:=by rw[hzl];exact aj8 _ hk
  simp[this]
 obtain⟨cells',f1,f2⟩:=fill_rel ps _ _ (flat rows) (((List.range (n*k)).map fun i=>zs.getD (i % k) undef)).toArray hf (zero_cells (by
  simp_all[aj8]) m β) hl hr
 have hsize:cells'.size=n*k:=by rw[<-f2.1,flat_length rows hrk,hrl]
 refine⟨cells',hsize,?_,?_⟩
 ·intro i j row c hi hj
  have hg:=flat_get rows hrk i j row c hi hj
  have hlt:i*k+j<cells'.size:=by rw[<-f2.1];exact(aw8.1 hg).1
  obtain⟨a1,a2⟩:=f2.2 _ c cells'[i*k+j] hg (by simp[hlt])<;>grind
 ·simp only[execOp]
  rw[Sem.run_bind]
  have:(Instr.buildSlice T n (parts.map fun(i,x)=>(i,a.eval x))).run K.P w=.ok (.slice (some ⟨w.heap.size,0,none⟩) n n) { w with heap:=w.heap.push (.cells cells' e (0,0)) }:=by
   simp only[Instr.buildSlice,Sem.run_bind,run_underlying hu,Result.andThen_ok,run_sizeOf w hi,hkk]
   rw[if_neg (by omega),if_neg (by omega)]
   simp only[Sem.run_bind,hz1,Result.andThen_ok,pure,Sem.run,hzc,f1,newRow,newObj]
  simp_all
theorem aops_buildSlice_at{d T e k bytes n nx:Nat}{parts:Array (Nat×Operand)}{zs:List Value}(id:Nat)(hid:(Nat.blt id nx&&Nat.ble K.pins id)=true)(hnx:S.nx=nx)(hres:hget S.hp id=.res)(ps:List (Nat×V))(rows:List (List V))(hT:tyEl K.P T e k bytes=true)(hz:zeroCells K.P e=some zs)
  (hw:Wants ops S ⟨some d,.buildSlice T n parts,ty,pos,after,g⟩ true)
  (h1:zs.all (·.oneCell')=true) (hk:Nat.blt 0 k=true) (hnn:Nat.blt 0 n=true) (hbig:Nat.ble (n*k) 16777216=true)
  (hps:parts.toList.map (fun p=>(p.1,evl K S p.2))=ps) (hf:fillV (fun i=>some (i*k,k)) (((List.range (n*k)).map fun i=>zs.getD (i % k) undef).map .con) ps=some (flat rows))
  (hrl:rows.length=n) (hrk:∀row,row∈rows->row.length=k) (hN:Nat.blt d K.N=true)
  (kk:AOps K ops rest Q ⟨(d,.own id n)::S.env,(id,.arr e k rows)::S.hp,S.nx⟩):
  AOps K ops (⟨some d,.buildSlice T n parts,ty,pos,after,g⟩::rest) Q S:=by
 refine aops_runs hw (fun m β w a r=>?_) kk
 have hk:=ar9 hk
 have hnn:=ar9 hnn
 have hbig:=ar9 hbig
 obtain⟨cells',hsize,hcl,hrun⟩:=run_buildSlice (d:=d) (ty:=ty) (pos:=pos) (after:=after) (g:=g) ps rows hT hz h1 hk hnn hbig hps hf hrl hrk r
 obtain⟨β',hle,hn,r2⟩:=r.allocAt id (by simp_all) (ar9 (bx9.1 hid).2) hres (.cells cells' e (0,0)) (.arr e k rows) ⟨n,0⟩ _ rfl (fun β' hle=>by
  refine obok_new0 (vs:=cells') (by simp) hsize (by omega) (by unfold maxLen;have:=bq8 n hk;omega) hrk ?_
  intro i j row c hi hj
  obtain⟨v,h1,h2,h3⟩:=hcl i j row c hi hj
  exact⟨v,h1,h2.mono (Mem.le_refl _) hle,h3⟩)
 exact⟨_,_,m,β',.inl hrun,Rel.put r2 hN (.own hn)⟩
theorem aops_buildSlice_imm{d T e k bytes n:Nat}{parts:Array (Nat×Operand)}{zs:List Value}(ps:List (Nat×V))(rows:List (List V))(hT:tyEl K.P T e k bytes=true)(hz:zeroCells K.P e=some zs)
  (hw:Wants ops S ⟨some d,.buildSlice T n parts,ty,pos,after,g⟩ true)
  (h1:zs.all (·.oneCell')=true) (hk:Nat.blt 0 k=true) (hnn:Nat.blt 0 n=true) (hbig:Nat.ble (n*k) 16777216=true)
  (hps:parts.toList.map (fun p=>(p.1,evl K S p.2))=ps) (hf:fillV (fun i=>some (i*k,k)) (((List.range (n*k)).map fun i=>zs.getD (i % k) undef).map .con) ps=some (flat rows))
  (hrl:rows.length=n) (hrk:∀row,row∈rows->row.length=k) (him:∀row,row∈rows->Imms row) (hN:Nat.blt d K.N=true)
  (kk:AOps K ops rest Q (S.put d (.lst k rows))):
  AOps K ops (⟨some d,.buildSlice T n parts,ty,pos,after,g⟩::rest) Q S:=by
 refine aops_runs hw (fun m β w a r=>?_) kk
 have hk:=ar9 hk
 have hnn:=ar9 hnn
 have hbig:=ar9 hbig
 obtain⟨cells',hsize,hcl,hrun⟩:=run_buildSlice (d:=d) (ty:=ty) (pos:=pos) (after:=after) (g:=g) ps rows hT hz h1 hk hnn hbig hps hf hrl hrk r
 let m':Mem:=fun b=>if b=w.heap.size then some (.cells cells' e (0,0)) else m b
 have hnone:m w.heap.size=none:=by
  cases hm:m w.heap.size with
  |none=>rfl
  |some o'=>have:=lt_of_some (r.imm _ _ hm);omega
 have hle:m.le m':=by
  intro b o h
  have:b≠w.heap.size:=by intro e;rw[e,hnone] at h;simp at h
  simp[m',this,h]
 have hg:Grew m m' w { w with heap:=w.heap.push (.cells cells' e (0,0)) }:=by
  refine⟨hle,?_,?_,?_,by simp,⟨rfl,rfl,rfl,trivial⟩⟩
  ·intro b o h
   by_cases hb:b=w.heap.size
   ·grind
   ·simp[m',hb] at h
    have:=lt_of_some (r.imm _ _ h)
    simp only[bg9];rw[if_neg hb];exact r.imm _ _ h
  ·grind
  ·grind
 refine⟨_,_,m',β,.inl hrun,Rel.put (r.grow hg) hN (.imm (.lst (arr:=cells') (T:=e) (fr:=(0,0)) (fun i=>(cells'[i]?).getD undef) (by simp[m']) rfl hrl (ab8 _) (bk8 (bk8 (bq8 n hk) hbig) (by grind [maxLen])) hrk ?_ ?_))⟩
 ·grind
 ·intro i j row c hi hj
  obtain⟨v,h1,h2,h3⟩:=hcl i j row c hi hj
  simp only[h1,bm9]
  exact((him row (ar8 hi) c (ar8 hj)).2 m β v h2).mono hle
end
end Go.Pv
