/- Part of the proof. -/
import Derived.Test.YtppfkkkifdbnaaaGreatDoorVPvU
import Derived.Shelf.Sort.Plain
import Derived.Shelf.Slices.In.SortNone
import Derived.Stop.BytesEq
import Derived.Lib.Repeat
import Derived.Shelf.Strconv.Itoa3
set_option linter.unusedSimpArgs false
set_option linter.unusedVariables false
namespace Go.Pv
open Go
section
variable{K:Ctx}{Q:Post}{S:St}
variable{m:Mem}{β:Locs}{w:World}{a:Act}
variable{ops:Array Oper}{rest:List Oper}{ty:TypeId}{pos:String}{after:Array Edge}{g:Option (Nat×Bool)}
structure VRels(m:Mem)(β:Locs)(ds:List V)(vs:Array Value):Prop where
 len:ds.length=vs.size
 at':∀(i:Nat) (c:V) (v:Value),ds[i]? = some c->vs[i]? = some v->VRel m β c v
def Foreign(hp:Heap)(β:Locs)(b:Nat):Prop:=∀id,hget hp id≠.dead->(∀cap,β id≠some (some (b,cap)))/\¬β.hid id b
structure After(m:Mem)(β:Locs)(w:World)(k:Nat)(hp:Heap)(m':Mem)(β':Locs)(w':World)(k':Nat)(hp':Heap):Prop where
 le:m.le m'
 imm:∀b o,m' b=some o->w'.heap[b]? = some o
 old:∀b,b<w.heap.size->Foreign hp β b->m' b=m b/\w'.heap[b]? = w.heap[b]?
 size:w.heap.size<=w'.heap.size
 same:Same w w'
 own:∀id,ObOk m' β' w' (β'.hid id) (β' id) (hget hp' id)
 priv:∀id b cap,hget hp' id≠.dead->β' id=some (some (b,cap))->m' b=none/\(b<w.heap.size->¬Foreign hp β b)
 inj:∀id id' b cap cap',hget hp' id≠.dead->hget hp' id'≠.dead->β' id=some (some (b,cap))->β' id'=some (some (b,cap'))->id=id'
 hid:∀id x,hget hp' id≠.dead->β'.hid id x->x<w'.heap.size/\m' x=none/\(x<w.heap.size->¬Foreign hp β x)/\(∀i b c,hget hp' i≠.dead->β' i=some (some (b,c))->x≠b)/\∀i,hget hp' i≠.dead->β'.hid i x->i=id
 nx:∀id,k'<=id->β' id=none
 pin:∀q,q<k->q<k'/\β' q=β q
def MutG(gl:Gl)(P:Program)(f:FuncId)(args:List V)(k:Nat)(hp:Heap)(d:V)(k':Nat)(hp':Heap):Prop:=
 ∀(m:Mem) (β:Locs) (w:World) (vs:Array Value),(∀(b:Nat) o,m b=some o->w.heap[b]? = some o)->GlOk gl m->VRels m β args vs->
  (∀id,ObOk m β w (β.hid id) (β id) (hget hp id))->(∀id b cap,hget hp id≠.dead->β id=some (some (b,cap))->m b=none)->
  (∀id id' b cap cap',hget hp id≠.dead->hget hp id'≠.dead->β id=some (some (b,cap))->β id'=some (some (b,cap'))->id=id')->
  (∀id x,hget hp id≠.dead->β.hid id x->x<w.heap.size/\m x=none/\(∀i b c,hget hp i≠.dead->β i=some (some (b,c))->x≠b)/\∀i,hget hp i≠.dead->β.hid i x->i=id)->
  (∀id,k<=id->β id=none)->
  Calls P f vs w fun e w'=>∃v m' β',e=.returned v/\VRel m' β' d v/\After m β w k hp m' β' w' k' hp'
@[reducible] def mctx(gl:Gl)(P:Program)(N:Nat)(k:Nat)(hp:Heap)(w0:World)(m0:Mem)(β0:Locs)(hg:GlOk gl m0):Ctx:=⟨P,N,w0,m0,Foreign hp β0,k,β0.f,gl,hg,none⟩
inductive ResOneM(P:Program)(S:St):ResultVar->V->Prop
 |tmp {t:Tmp} {d:V} (h:get S.env t=d):ResOneM P S (.tmp t) d
 |agg {x:Tmp} {T n id k i o:Nat} {e:TypeId} {rows:List (List V)} {row cs:List V} (hT:tyA P T n=true) (hx:get S.env x=.ptr id k i o) (ho:hget S.hp id=.arr e k rows)
   (hr:rows[i]? = some row) (hc:(row.drop o).take n=cs) (hn:cs.length=n) (hnd:ndB cs=true:=by rfl):ResOneM P S (.cell x T) (.agg cs)
 |cell {x:Tmp} {T id k i o:Nat} {e:TypeId} {rows:List (List V)} {row:List V} {c:V} (hT:tyC P T=true) (hx:get S.env x=.ptr id k i o) (ho:hget S.hp id=.arr e k rows)
   (hr:rows[i]? = some row) (hc:row[o]? = some c) (hd:c.deep=false:=by rfl):ResOneM P S (.cell x T) c
theorem ResOneM.run{rv:ResultVar}{d:V}(h:ResOneM K.P S rv d)(r:Rel K m β w a S):∃v,(resSem a.tmps rv).run K.P w=.ok v w/\VRel m β d v:=by
 cases h with
 | @tmp t _ h=>exact⟨_,rfl,by rw[<-h];exact r.env t⟩
 | @agg x T n id k i o e rows row cs hT hx ho hr hc hn hnd=>
  have h:=r.env x
  rw[hx] at h
  obtain⟨b,cap,hb,hv⟩:=h.ptr_inv
  obtain⟨arr,bl,h1,h2,h3,h4,h5,_,h6⟩:=r.obj hb ho
  have hcell:∀j c,cs[j]? = some c->∃v,arr[cap.off+(i*k+o)+j]? = some v/\VRel m β c v:=by
   intro j c hj
   have hd:=ndB_at hnd hj
   rw[<-hc,ba9] at hj
   split at hj
   ·rw[ap9] at hj
    obtain⟨v,a1,a2,_⟩:=h6 i (o+j) row c hr hj
    exact⟨v,by grind,a2.v hd⟩
   ·simp at hj
  have hrun:=run_load_agg (P:=K.P) (w:=w) (b:=b) (o:=cap.off+(i*k+o)) (fun j=>arr.getD (cap.off+(i*k+o)+j) undef) hT (fun j hj=>by
   rw[cell_of_heap h1]
   obtain⟨v,a1,_⟩:=hcell j cs[j] (by simp[hn,hj])<;>simp_all)
  refine⟨_,asAddr_load hv hrun,?_⟩
  ·refine .agg (by simp[hn]) (fun j c v hj hv=>?_)
   obtain⟨v',a1,a2⟩:=hcell j c hj
   simp only[az8,at9] at hv
   have hj':j<n:=by rw[<-hn];exact(aw8.1 hj).1
   simp_all
 | @cell x T id k i o e rows row c hT hx ho hr hc hd=>
  have h:=r.env x
  rw[hx] at h
  obtain⟨b,cap,hb,hv⟩:=h.ptr_inv
  obtain⟨arr,bl,h1,h2,h3,h4,h5,_,h6⟩:=r.obj hb ho
  obtain⟨v,a1,a2,_⟩:=h6 i o row _ hr hc
  exact⟨v,asAddr_load hv (run_load_cell hT (by grind [cell_of_heap])),a2.v hd⟩
inductive ResL(P:Program)(S:St):List ResultVar->List V->Prop
 |nil:ResL P S [] []
 |cons {r:ResultVar} {d:V} {rs:List ResultVar} {ds:List V} (h:ResOneM P S r d) (t:ResL P S rs ds):ResL P S (r::rs) (d::ds)
theorem ResL.run{l:List ResultVar}{ds:List V}(h:ResL K.P S l ds)(r:Rel K m β w a S):
  ∃vs:List Value,(l.mapM (resSem a.tmps)).run K.P w=.ok vs w/\vs.length=l.length/\ds.length=l.length/\∀(i:Nat) c v,ds[i]? = some c->vs[i]? = some v->VRel m β c v:=by
 induction h with
 |nil=>simp_all
 |cons h t ih=>
  obtain⟨v,h1,h2⟩:=h.run r
  obtain⟨vs,g1,g2,g3,g4⟩:=ih
  refine⟨v::vs,?_,by simp[g2],by simp[g3],?_⟩
  ·simp_all
  grind
def resV:List V->V
 |[d]=>d
 |ds=>.tup ds
theorem ResL.runs{fn:Func}{l:List ResultVar}{ds:List V}(hl:fn.results=l.toArray)(h:ResL K.P S l ds)(r:Rel K m β w a S):
  ∃v,(results fn a.tmps).run K.P w=.ok v w/\VRel m β (resV ds) v:=by
 obtain⟨vs,h1,h2,h3,h4⟩:=h.run r
 have hm:(fn.results.mapM (resSem a.tmps)).run K.P w=.ok vs.toArray w:=by
  rw[hl]
  simp[h1]
 rw[results_eq]
 simp only[Sem.run_bind,hm,Result.andThen_ok]
 by_cases h5:vs.length=1
 ·match vs,ds,h5,h2,h3,h4 with
  |[v],[d],_,_,_,h4=>exact⟨v,by simp[pure],h4 0 d v rfl rfl⟩
  |[v],[],_,h2,h3,_=>simp at h2 h3;omega
  |[v],_::_::_,_,h2,h3,_=>simp at h2 h3;omega
 ·refine⟨.tuple vs.toArray,by simp[h5,pure],?_⟩
  have:resV ds=.tup ds:=by
   match ds,h3 with
   |[],_=>rfl
   |[d],h3=>simp at h3;omega
   |_::_::_,_=>rfl
  rw[this]
  exact .tup (by simp[h3,h2]) (fun i c v hc hv=>h4 i c v hc (by simpa using hv))
def retM(K:Ctx)(l:List ResultVar)(ds:List V)(k':Nat)(hp':Heap):Post:=fun e S=>(e=.ret\/e=.normal)/\∃env':Env,Ghost K S ⟨env',hp',k'⟩/\ResL K.P ⟨env',hp',k'⟩ l ds
theorem mut_enter{gl:Gl}{P:Program}{f:FuncId}{fn:Func}{c:Code}{N k k':Nat}{hp hp':Heap}{args:List V}{l:List ResultVar}{ds:List V}(hf:P.funcs[f]? = some fn)(hb:fn.body=some c)(hN:fn.ntmps=N)
  (hl:fn.results=l.toArray) (ha:Nat.ble args.length N=true) (env:Env) (henv:argEnv 0 args=env)
  (h:∀(w0:World) (m0:Mem) (β0:Locs) (hg:GlOk gl m0),AWP (mctx gl P N k hp w0 m0 β0 hg) c (retM (mctx gl P N k hp w0 m0 β0 hg) l ds k' hp') ⟨env,hp,k⟩):MutG gl P f args k hp (resV ds) k' hp':=by
 intro m β w vs himm hgl hargs hown hpriv hinj hhid hnx
 have ha:=ar9 ha
 refine calls_of_walk hf hb ?_
 have hsz:(vs++Array.replicate (fn.ntmps - vs.size) undef).size=N:=by
  have:=hargs.len
  simp only[bp8,Array.size_replicate,hN];omega
 have r:Rel (mctx gl P N k hp w m β hgl) m β w ⟨vs++Array.replicate (fn.ntmps - vs.size) undef,[]⟩ ⟨env,hp,k⟩:=by
  constructor
  ·exact himm
  ·exact Mem.le_refl _
  ·grind
  ·grind
  ·grind
  ·exact⟨rfl,rfl,rfl,trivial⟩
  ·exact hsz
  ·exact Marks.nil
  ·intro t
   show VRel _ _ (get env t) _
   rw[<-henv,get_argEnv]
   simp only[af8,if_true,Nat.sub_zero]
   by_cases ht:t<args.length
   ·have ht':t<vs.size:=by rw[<-hargs.len];exact ht
    simp only[ca9,as8 ht,bm9,be9,bq9,if_pos ht',av9 ht']
    exact hargs.at' t _ _ (as8 ht) (av9 ht')
   ·simp only[ca9,ap8 (Nat.le_of_not_lt ht),Option.getD_none]
    exact .imm (.any _)
  ·exact hown
  ·exact fun id b cap hl hb=>⟨hpriv id b cap hl hb,fun _ hF=>(hF id hl).1 cap hb⟩
  ·exact hinj
  ·exact fun id x hl hx=>let q:=hhid id x hl hx;⟨q.1,q.2.1,fun _ hF=>(hF id hl).2 hx,q.2.2.1,q.2.2.2⟩
  ·exact hnx
  ·grind
 refine wpIn_mono (h w m β hgl m _ w _ r) ?_
 rintro e a' w1 ⟨_,S1,m1,β1,⟨he,env',hg',hres⟩,r1⟩
 obtain⟨m2,β',r2⟩:=hg' _ _ _ _ r1
 refine⟨he,Rel.leave _ m2 w1 a' rfl r2 (fun m' w' r'=>?_)⟩
 obtain⟨v,h1,h2⟩:=hres.runs hl r'
 have hg:After m β w k hp m' β' w' k' hp':=⟨r'.ext,r'.imm,fun b hb hF=>⟨r'.mold b hb hF,r'.frame b hb hF⟩,r'.size,r'.same,r'.own,r'.priv,r'.inj,fun id x hl hx=>let q:=r'.hid id x hl hx;⟨q.lt,q.m,q.old,q.ne,q.un⟩,r'.nx,r'.pin⟩
 grind
theorem Sub.ownE{n id j l l':Nat}{σ:Nat->Nat}(hn:Nat.blt id n=true)(hj:σ id=j)(hl:l=l'):Sub (Ren n σ) (.own id l) (.own j l'):=by
 simp_all[Sub.own]
def To(k':Nat)(τ:Nat->Nat):Hy:=fun m β m' β'=>m'=m/\∀j,j<k'->β' (τ j)=β j
instance {k':Nat} {τ:Nat->Nat}:HyMC (To k' τ):=⟨fun m β m' β' hy=>by rw[hy.1];exact Mem.le_refl _⟩
theorem Sub.immT{k':Nat}{τ:Nat->Nat}{v:V}(h:Imm v):Sub (To k' τ) v v:=fun m β m' β' x hy hx=>by
 obtain⟨rfl,_⟩:=hy;exact .imm (h.2 _ _ _ hx)
theorem Sub.ptrT{k' j i' k i o:Nat}{τ:Nat->Nat}(hn:Nat.blt j k'=true)(hj:τ j=i'):Sub (To k' τ) (.ptr i' k i o) (.ptr j k i o):=fun m β m' β' x hy hx=>by
 obtain⟨rfl,hy⟩:=hy
 have:=hy j (ar9 hn)
 rw[hj] at this
 cases hx with
 |imm h=>cases h
 |ptr h=>exact .ptr (by grind)
theorem ObSub.deadT{Y:Hy}{ob:Ob}:ObSub Y .dead ob:=trivial
inductive HpTo(Y:Hy)(τ:Nat->Nat)(hp':Heap)(k':Nat):Nat->Heap->Prop
 |nil:HpTo Y τ hp' k' k' []
 |cons {j t:Nat} {ob:Ob} {u:Heap} (ht:τ j=t) (ho:ObSub Y ob (hget hp' j)) (h:HpTo Y τ hp' k' (j+1) u):HpTo Y τ hp' k' j ((t,ob)::u)
theorem HpTo.le{Y:Hy}{τ:Nat->Nat}{hp':Heap}{k' j:Nat}{u:Heap}(h:HpTo Y τ hp' k' j u):j<=k':=by
 induction h<;>grind
theorem HpTo.get{Y:Hy}{τ:Nat->Nat}{hp':Heap}{k' j0:Nat}{u:Heap}(h:HpTo Y τ hp' k' j0 u)(hτ:∀i j,i<k'->j<k'->τ i=τ j->i=j)(hp:Heap):
  (∀j,j0<=j->j<k'->ObSub Y (hget (u++hp) (τ j)) (hget hp' j))/\∀t,(∀j,j0<=j->j<k'->t≠τ j)->hget (u++hp) t=hget hp t:=by
 induction h with
 |nil=>grind
 | @cons j1 t ob u ht ho h ih=>
  have hle:=h.le
  refine⟨fun j h1 h2=>?_,fun t' h'=>?_⟩
  ·show ObSub Y (hget ((t,ob)::(u++hp)) (τ j)) _
   rw[hget_put]
   grind
  ·show hget ((t,ob)::(u++hp)) t'=_
   rw[hget_put,if_neg]
   ·grind
   grind
def injB(n:Nat)(τ:Nat->Nat):Bool:=(List.range n).all fun i=>(List.range n).all fun j=>!(Nat.beq (τ i) (τ j))||Nat.beq i j
theorem injB_at{n:Nat}{τ:Nat->Nat}(h:injB n τ=true):∀i j,i<n->j<n->τ i=τ j->i=j:=by
 intro i j hi hj e
 have h1:=al8.1 (al8.1 h i (bz8.2 hi)) j (bz8.2 hj)
 simp_all
def toB(k k' nx nx':Nat)(σ τ:Nat->Nat)(free:Nat->Bool):Bool:=
 (List.range k').all fun j=>Nat.blt (τ j) nx'&&(if Nat.blt j k then Nat.beq (τ j) (σ j)&&Nat.blt (τ j) nx else Nat.ble nx (τ j)||free (τ j))
theorem toB_at{k k' nx nx':Nat}{σ τ:Nat->Nat}{free:Nat->Bool}(h:toB k k' nx nx' σ τ free=true)(j:Nat)(hj:j<k'):
  τ j<nx'/\(j<k->τ j=σ j/\τ j<nx)/\(k<=j->nx<=τ j\/free (τ j)=true):=by
 have h1:=al8.1 h j (bz8.2 hj)
 simp only[al9] at h1
 refine⟨ar9 h1.1,fun hk=>?_,fun hk=>?_⟩
 ·rw[if_pos (show Nat.blt j k=true from bx8 hk)] at h1
  simp only[al9] at h1
  exact⟨bw8 h1.2.1,ar9 h1.2.2⟩
 simp_all[if_neg]
def Locs.sub(β:Locs)(k:Nat)(σ:Nat->Nat):Locs:=⟨fun id=>if id<k then β (σ id) else none,fun id=>β.hid (σ id)⟩
structure Handed(m:Mem)(β:Locs)(w:World)(k:Nat)(hp:Heap):Prop where
 own:∀id,ObOk m β w (β.hid id) (β id) (hget hp id)
 priv:∀id b cap,hget hp id≠.dead->β id=some (some (b,cap))->m b=none
 inj:∀id id' b cap cap',hget hp id≠.dead->hget hp id'≠.dead->β id=some (some (b,cap))->β id'=some (some (b,cap'))->id=id'
 hid:∀id x,hget hp id≠.dead->β.hid id x->x<w.heap.size/\m x=none/\(∀i b c,hget hp i≠.dead->β i=some (some (b,c))->x≠b)/\∀i,hget hp i≠.dead->β.hid i x->i=id
 nx:∀id,k<=id->β id=none
theorem Rel.hand{σ:Nat->Nat}{k:Nat}{hp:Heap}(r:Rel K m β w a S)(hhp:HpOk (Ren k σ) k σ S.hp hp)(hinj:∀i j,i<k->j<k->σ i=σ j->i=j):Handed m (β.sub k σ) w k hp:=by
 let β0:Locs:=β.sub k σ
 have e0:∀id,id<k->β0 id=β (σ id):=fun id h=>by show(if _ then _ else _)=_;grind
 have hy:Ren k σ m β m β0:=⟨rfl,e0⟩
 have hlive:∀id,hget hp id≠.dead->id<k/\hget S.hp (σ id)≠.dead:=by
  intro id h
  obtain⟨h1,h2⟩:=hhp id
  refine⟨h1.resolve_left h,fun hd=>?_⟩
  rw[hd] at h2
  cases ho:hget hp id with
  |dead=>exact h ho
  |arr=>simp_all[ObSub]
  |res=>simp_all[ObSub]
  |map=>simp_all[ObSub]
  |iter=>simp_all[ObSub]
  |bld=>simp_all[ObSub]
 refine⟨?_,?_,?_,?_,?_⟩
 ·intro id
  obtain⟨h1,h2⟩:=hhp id
  rcases h1 with h1|h1
  ·simp_all[ObOk.dead']
  ·show ObOk m β0 w (β.hid (σ id)) (β0 id) _
   rw[e0 id h1];exact h2.ok hy (r.own (σ id))
 ·intro id b cap hl hb
  obtain⟨h1,h2⟩:=hlive id hl
  rw[e0 id h1] at hb
  exact(r.priv _ _ _ h2 hb).1
 ·intro id id' b cap cap' hl hl' hb hb'
  obtain⟨h1,h2⟩:=hlive id hl
  obtain⟨h1',h2'⟩:=hlive id' hl'
  rw[e0 id h1] at hb;rw[e0 id' h1'] at hb'
  have:=r.inj _ _ _ _ _ h2 h2' hb hb'
  grind
 ·intro id x hl hx
  obtain⟨h1,h2⟩:=hlive id hl
  have q:=r.hid (σ id) x h2 hx
  refine⟨q.lt,q.m,fun i b c hi hb=>?_,fun i hi hx'=>?_⟩
  ·obtain⟨h1',h2'⟩:=hlive i hi
   rw[e0 i h1'] at hb
   exact q.ne _ b c h2' hb
  ·obtain⟨h1',h2'⟩:=hlive i hi
   have:=q.un _ h2' hx'
   grind
 ·intro id hid
  show(if _ then _ else _)=_
  grind
theorem Rel.back{k k':Nat}{hp hp':Heap}(σ τ:Nat->Nat)(nx':Nat)(u:Heap)(free:Nat->Bool)(r:Rel K m β w a S)(hhp:HpOk (Ren k σ) k σ S.hp hp)
  (hfree:∀i,free i=true->hget S.hp i=.res) (hto:toB k k' S.nx nx' σ τ free=true) (hτ:injB k' τ=true) (hle:Nat.ble S.nx nx'=true) (hkk:Nat.ble k k'=true)
  (hpf:∀i,free i=true->K.pins<=i) (hu:HpTo (To k' τ) τ hp' k' 0 u) {m':Mem} {β':Locs} {w':World} (g:After m (β.sub k σ) w k hp m' β' w' k' hp'):
  ∃β2,Rel K m' β2 w' a ⟨S.env,u++S.hp,nx'⟩/\To k' τ m' β' m' β2:=by
 have hkk:=ar9 hkk
 have hinj:=injB_at hτ
 have hto:=toB_at hto
 have hle:=ar9 hle
 let β0:Locs:=β.sub k σ
 have e0:∀id,id<k->β0 id=β (σ id):=fun id h=>by show(if _ then _ else _)=_;grind
 have hlive:∀id,hget hp id≠.dead->id<k/\hget S.hp (σ id)≠.dead:=by
  intro id h
  obtain⟨h1,h2⟩:=hhp id
  refine⟨h1.resolve_left h,fun hd=>?_⟩
  rw[hd] at h2
  cases ho:hget hp id with
  |dead=>exact h ho
  |arr=>simp_all[ObSub]
  |res=>simp_all[ObSub]
  |map=>simp_all[ObSub]
  |iter=>simp_all[ObSub]
  |bld=>simp_all[ObSub]
 have hσ:∀i,i<k->σ i=τ i:=fun i hi=>((hto i (by omega)).2.1 hi).1.symm
 classical
 let β2:Locs:=⟨fun id=>if h:∃j,k<=j/\j<k'/\τ j=id then β' h.choose else β id,fun id=>if h:∃j,j<k'/\τ j=id then β'.hid h.choose else β.hid id⟩
 have hβk:∀j,j<k'->β2 (τ j)=β' j:=by
  intro j hj
  show(if h:∃j',k<=j'/\j'<k'/\τ j'=τ j then β' h.choose else β (τ j))=_
  by_cases hjk:j<k
  ·have:¬∃j',k<=j'/\j'<k'/\τ j'=τ j:=by
    rintro⟨j',a1,a2,a3⟩
    have:=hinj j' j a2 hj a3
    omega
   rw[dif_neg this,(g.pin j hjk).2,e0 j hjk,hσ j hjk]
  ·have:∃j',k<=j'/\j'<k'/\τ j'=τ j:=⟨j,by omega,hj,rfl⟩
   grind
 have hhk:∀j,j<k'->β2.hid (τ j)=β'.hid j:=by
  intro j hj
  show(if h:∃j',j'<k'/\τ j'=τ j then β'.hid h.choose else β.hid (τ j))=_
  have:∃j',j'<k'/\τ j'=τ j:=⟨j,hj,rfl⟩
  rw[dif_pos this]
  have hc:=this.choose_spec
  grind
 have hβo:∀id,(∀j,k<=j->j<k'->id≠τ j)->β2 id=β id:=by
  intro id hid
  show(if h:∃j',k<=j'/\j'<k'/\τ j'=id then β' h.choose else β id)=_
  rw[dif_neg]
  rintro⟨j,a1,a2,a3⟩
  exact hid j a1 a2 a3.symm
 have hho:∀id,(∀j,j<k'->id≠τ j)->β2.hid id=β.hid id:=by
  intro id hid
  show(if h:∃j',j'<k'/\τ j'=id then β'.hid h.choose else β.hid id)=_
  rw[dif_neg]
  rintro⟨j,a2,a3⟩
  exact hid j a2 a3.symm
 have hfr:∀j,k<=j->j<k'->β (τ j)=none:=by
  intro j h1 h2
  rcases(hto j h2).2.2 h1 with h|h
  ·exact r.nx _ h
  ·exact r.free (hfree _ h)
 have hβle:β.le β2:=by
  intro id l hl
  rw[hβo id]
  ·exact hl
  ·grind
 have hyT:To k' τ m' β' m' β2:=⟨rfl,hβk⟩
 obtain⟨hu1,hu2⟩:=hu.get hinj S.hp
 -- a block of an object that was not handed over
 have hforeign:∀b,(∀id,id<k->hget S.hp (τ id)≠.dead->(∀cap,β (τ id)≠some (some (b,cap)))/\¬β.hid (τ id) b)->Foreign hp β0 b:=by
  intro b hb id hl
  obtain⟨h1,h2⟩:=hlive id hl
  rw[hσ id h1] at h2
  obtain⟨q1,q2⟩:=hb id h1 h2
  refine⟨fun cap hbb=>?_,fun hx=>?_⟩
  ·grind
  ·have hx:β.hid (σ id) b:=hx
   grind
 have hrest:∀id,(∀j,j<k'->id≠τ j)->hget (u++S.hp) id=hget S.hp id:=fun id h=>hu2 id (fun j _ hj=>h j hj)
 have hdec:∀id,(∃j,j<k'/\id=τ j)\/∀j,j<k'->id≠τ j:=by
  intro id
  by_cases h:∃j,j<k'/\id=τ j
  ·grind
  ·grind
 have hobl:∀j,j<k'->hget (u++S.hp) (τ j)≠.dead->hget hp' j≠.dead:=by
  intro j hj hl hd
  have:=hu1 j (af8 _) hj
  rw[hd] at this
  cases ho:hget (u++S.hp) (τ j) with
  |dead=>exact hl ho
  |arr=>grind [ObSub]
  |res=>grind [ObSub]
  |map=>grind [ObSub]
  |iter=>grind [ObSub]
  |bld=>grind [ObSub]
 -- an object that was not handed over, and is alive, lies in a foreign block
 have hother:∀id b cap,(∀j,j<k'->id≠τ j)->hget S.hp id≠.dead->β id=some (some (b,cap))->b<w.heap.size/\Foreign hp β0 b:=by
  intro id b cap hid hl hb
  refine⟨live_lt hl hb (r.own id),hforeign b fun i hi hl'=>⟨fun c hb'=>?_,fun hx=>?_⟩⟩
  ·have:=r.inj _ _ _ _ _ hl hl' hb hb'
   grind
  ·exact(r.hid _ _ hl' hx).ne id b cap hl hb rfl
 have hotherH:∀id x,(∀j,j<k'->id≠τ j)->hget S.hp id≠.dead->β.hid id x->x<w.heap.size/\Foreign hp β0 x:=by
  intro id x hid hl hx
  have q:=r.hid id x hl hx
  refine⟨q.lt,hforeign x fun i hi hl'=>⟨fun c hb'=>q.ne _ x c hl' hb' rfl,fun hx'=>?_⟩⟩
  exact hid i (by omega) (q.un _ hl' hx').symm
 have hold:∀b,b<K.w0.heap.size->K.old b->b<w.heap.size/\Foreign hp β0 b:=by
  intro b hb ho
  exact⟨bz9 hb r.size,hforeign b fun i hi hl=>⟨fun c hb'=>(r.priv _ _ _ hl hb').2 hb ho,fun hx=>(r.hid _ _ hl hx).old hb ho⟩⟩
 have r2:Rel K m' β2 w' a ⟨S.env,u++S.hp,nx'⟩:=by
  constructor
  ·exact g.imm
  ·exact Mem.le_trans r.ext g.le
  ·intro b hb ho
   obtain⟨q1,q2⟩:=hold b hb ho
   rw[(g.old b q1 q2).1]
   exact r.mold b hb ho
  ·intro b hb ho
   obtain⟨q1,q2⟩:=hold b hb ho
   rw[(g.old b q1 q2).2]
   exact r.frame b hb ho
  ·exact bk8 r.size g.size
  ·exact r.same.trans g.same
  ·exact r.tn
  ·exact r.df.mono g.le
  ·exact fun t=>(r.env t).mono g.le hβle
  ·intro id
   rcases hdec id with ⟨j,hj,rfl⟩|hid
   ·show ObOk m' β2 w' (β2.hid (τ j)) (β2 (τ j)) (hget (u++S.hp) (τ j))
    rw[hβk j hj,hhk j hj]
    exact(hu1 j (af8 _) hj).ok hyT (g.own j)
   ·show ObOk m' β2 w' (β2.hid id) (β2 id) (hget (u++S.hp) id)
    rw[hrest id hid,hβo id (fun j _ hj=>hid j hj),hho id hid]
    by_cases hl:hget S.hp id=.dead
    ·grind [ObOk.dead']
    ·refine ObOk.congr (w:=w) (fun b cap hb=>?_) (fun x hx=>?_) ?_
     ·obtain⟨q1,q2⟩:=hother id b cap hid hl hb
      exact(g.old b q1 q2).2
     ·obtain⟨q1,q2⟩:=hotherH id x hid hl hx
      exact(g.old x q1 q2).2
     ·exact ObOk.mono g.le hβle (fun _ _ h=>h) (fun _ _=>rfl) (r.own id)
  ·intro id b cap hl hb
   rcases hdec id with ⟨j,hj,rfl⟩|hid
   ·rw[hβk j hj] at hb
    obtain⟨q1,q2⟩:=g.priv j b cap (hobl j hj hl) hb<;>grind
   ·have hl':hget S.hp id≠.dead:=by rw[<-hrest id hid];exact hl
    rw[hβo id (fun j _ hj=>hid j hj)] at hb
    obtain⟨q1,q2⟩:=hother id b cap hid hl' hb
    obtain⟨p1,p2⟩:=r.priv id b cap hl' hb
    exact⟨by rw[(g.old b q1 q2).1];exact p1,p2⟩
  ·intro id id' b cap cap' hl hl' hb hb'
   have mix:∀j id cap cap',j<k'->(∀j,j<k'->id≠τ j)->hget (u++S.hp) (τ j)≠.dead->hget (u++S.hp) id≠.dead->β2 (τ j)=some (some (b,cap))->β2 id=some (some (b,cap'))->False:=by
    intro j id cap cap' hj hid hl hl' hb hb'
    rw[hβk j hj] at hb
    have hl2:hget S.hp id≠.dead:=by rw[<-hrest id hid];exact hl'
    rw[hβo id (fun j _ hj=>hid j hj)] at hb'
    obtain⟨q1,q2⟩:=hother id b cap' hid hl2 hb'
    exact(g.priv j b cap (hobl j hj hl) hb).2 q1 q2
   rcases hdec id with ⟨j,hj,rfl⟩|hid<;>rcases hdec id' with ⟨j',hj',rfl⟩|hid'
   ·rw[hβk j hj] at hb;rw[hβk j' hj'] at hb'
    rw[g.inj j j' b cap cap' (hobl j hj hl) (hobl j' hj' hl') hb hb']
   ·grind
   ·grind
   ·rw[hβo id (fun j _ hj=>hid j hj)] at hb
    rw[hβo id' (fun j _ hj=>hid' j hj)] at hb'
    exact r.inj id id' b cap cap' (by grind) (by grind) hb hb'
  ·intro id x hl hx
   rcases hdec id with ⟨j,hj,rfl⟩|hid
   ·rw[hhk j hj] at hx
    obtain⟨q1,q2,q3,q4,q5⟩:=g.hid j x (hobl j hj hl) hx
    refine⟨q1,q2,fun hb0 ho=>q3 (hold x hb0 ho).1 (hold x hb0 ho).2,fun i b c hi hb=>?_,fun i hi hx'=>?_⟩
    ·rcases hdec i with ⟨j',hj',rfl⟩|hid'<;>grind
    ·rcases hdec i with ⟨j',hj',rfl⟩|hid'
     ·rw[hhk j' hj'] at hx'
      grind
     grind
   ·have hl2:hget S.hp id≠.dead:=by rw[<-hrest id hid];exact hl
    rw[hho id hid] at hx
    have q:=r.hid id x hl2 hx
    obtain⟨p1,p2⟩:=hotherH id x hid hl2 hx
    refine⟨bz9 p1 g.size,by rw[(g.old x p1 p2).1];exact q.m,q.old,fun i b c hi hb=>?_,fun i hi hx'=>?_⟩
    ·rcases hdec i with ⟨j',hj',rfl⟩|hid'
     ·rw[hβk j' hj'] at hb
      intro e;subst e;exact(g.priv j' _ c (hobl j' hj' hi) hb).2 p1 p2
     ·have hl3:hget S.hp i≠.dead:=by rw[<-hrest i hid'];exact hi
      rw[hβo i (fun j _ hj=>hid' j hj)] at hb
      exact q.ne i b c hl3 hb
    ·rcases hdec i with ⟨j',hj',rfl⟩|hid'
     ·rw[hhk j' hj'] at hx'
      exact absurd p2 ((g.hid j' x (hobl j' hj' hi) hx').2.2.1 p1)
     ·have hl3:hget S.hp i≠.dead:=by rw[<-hrest i hid'];exact hi
      rw[hho i hid'] at hx'
      exact q.un i hl3 hx'
  ·intro id hid
   have hid:nx'<=id:=hid
   rw[hβo id]
   ·exact r.nx id (by omega)
   grind
  ·intro q hq
   obtain⟨p1,p2⟩:=r.pin q hq<;>grind
 grind
theorem aops_mcalls{o:Oper}{d:Nat}{f:FuncId}{avs avs':List V}{k k':Nat}{hp hp':Heap}{dc dv:V}(σ τ:Nat->Nat)(nx':Nat)(u:Heap)(free:Nat->Bool)
  (hw:Wants ops S o true) (hd:o.dst=some d) (hN:Nat.blt d K.N=true)
  (hrun:∀m β w a,Rel K m β w a S->∃vs:Array Value,(execOp a.eval o).run K.P w=.ok (.enter f vs) w/\VRels m β avs vs)
  (hsub:Subs (Ren k σ) avs' avs) (hhp:HpOk (Ren k σ) k σ S.hp hp)
  (hc:MutG K.gl K.P f avs' k hp dc k' hp')
  (hfree:∀i,free i=true->hget S.hp i=.res) (hto:toB k k' S.nx nx' σ τ free=true) (hτ:injB k' τ=true) (hle:Nat.ble S.nx nx'=true) (hkk:Nat.ble k k'=true)
  (hpf:∀i,free i=true->K.pins<=i)
  (hdv:Sub (To k' τ) dv dc) (hu:HpTo (To k' τ) τ hp' k' 0 u)
  (kk:AOps K ops rest Q ⟨(d,dv)::S.env,u++S.hp,nx'⟩):AOps K ops (o::rest) Q S:=by
 intro m β w a r
 unfold wpListIn
 rw[if_pos (hw.at r)]
 have hkk0:=hkk
 have hkk:=ar9 hkk
 obtain⟨vs,h1,h2⟩:=hrun m β w a r
 refine op_in (.inr (nd_run h1 (fun d e=>by cases e))) ?_
 unfold Oper.wp
 rw[h1]
 have hinj:=injB_at hτ
 have hto0:=hto
 have hto:=toB_at hto
 have hle0:=hle
 have hle:=ar9 hle
 have hσ:∀i,i<k->σ i=τ i:=fun i hi=>((hto i (by omega)).2.1 hi).1.symm
 have hy:Ren k σ m β m (β.sub k σ):=⟨rfl,fun id h=>by show(if _ then _ else _)=_;grind⟩
 have hargs:VRels m (β.sub k σ) avs' vs:=by
  refine⟨by rw[hsub.len];exact h2.len,fun i c v hi hv=>?_⟩
  have hlt:=(aw8.1 hi).1
  have hlt':i<avs.length:=by rw[<-hsub.len];exact hlt
  exact hsub.get i c _ hi (as8 hlt') _ _ _ _ _ hy (h2.at' i _ v (as8 hlt') hv)
 have H:=r.hand hhp (fun i j hi hj e=>hinj i j (by omega) (by omega) (by grind))
 refine(hc m (β.sub k σ) w vs r.imm (K.glok.mono r.ext) hargs H.own H.priv H.inj H.hid H.nx).mono ?_
 rintro e w' ⟨v,m',β',rfl,hv,g⟩
 simp only[hd]
 obtain⟨β2,r2,hyT⟩:=r.back σ τ nx' u free hhp hfree hto0 hτ hle0 hkk0 hpf hu g
 exact kk m' β2 w' _ (r2.put hN (hdv _ _ _ _ _ hyT hv))
theorem mcall_run{d:Option Nat}{f:FuncId}{args:Array Operand}{at':Array TypeId}{avs:List V}(hf:fnOk K.P f=true)(ha:args.toList.map (evl K S)=avs):
  ∀m β w a,Rel K m β w a S->∃vs:Array Value,(execOp a.eval ⟨d,.call ⟨.value (.func f),args,at'⟩,ty,pos,after,g⟩).run K.P w=.ok (.enter f vs) w/\VRels m β avs vs:=by
 intro m β w a r
 refine⟨args.map a.eval,?_,?_⟩
 ·simp_all[execOp,resolve,Act.eval,Deferred.ofValue,invoke,run_enter]
 ·refine⟨by grind,fun i c v h1 h2=>?_⟩
  rw[<-ha,at9] at h1
  rw[bp9] at h2
  cases hx:args[i]? with
  |none=>grind
  |some x=>
   simp[hx] at h1 h2
   subst h1;subst h2
   exact r.reads x
theorem aops_mcall{d:Nat}{f:FuncId}{args:Array Operand}{at':Array TypeId}{avs':List V}{k k':Nat}{hp hp':Heap}{dc:V}(dv:V)(avs:List V)(σ τ:Nat->Nat)(nx nx':Nat)(u:Heap)(hf:fnOk K.P f=true)
  (hw:Wants ops S ⟨some d,.call ⟨.value (.func f),args,at'⟩,ty,pos,after,g⟩ true) (hN:Nat.blt d K.N=true) (ha:args.toList.map (evl K S)=avs)
  (hsub:Subs (Ren k σ) avs' avs) (hhp:HpSub (Ren k σ) k σ S.hp hp) (hc:MutG K.gl K.P f avs' k hp dc k' hp') (hnx:S.nx=nx)
  (hto:toB k k' nx nx' σ τ (fun _=>false)=true) (hτ:injB k' τ=true) (hle:Nat.ble nx nx'=true) (hkk:Nat.ble k k'=true)
  (hdv:Sub (To k' τ) dv dc) (hu:HpTo (To k' τ) τ hp' k' 0 u)
  (kk:AOps K ops rest Q ⟨(d,dv)::S.env,u++S.hp,nx'⟩):AOps K ops (⟨some d,.call ⟨.value (.func f),args,at'⟩,ty,pos,after,g⟩::rest) Q S:=
 aops_mcalls σ τ nx' u (fun _=>false) hw rfl hN (mcall_run hf ha) hsub (HpSub.get hhp) hc (fun _ h=>by simp at h) (by grind) hτ (by grind) hkk (fun _ h=>by simp at h) hdv hu kk
theorem mcallv_run{d:Option Nat}{f:FuncId}{fx:Operand}{first captured:List V}{args:Array Operand}{at':Array TypeId}{avs:List V}(hf:fnOk K.P f=true)
  (hfx:evl K S fx=.fn (.func f) first captured) (ha:first++args.toList.map (evl K S)++captured=avs):
  ∀m β w a,Rel K m β w a S->∃vs:Array Value,(execOp a.eval ⟨d,.call ⟨.value fx,args,at'⟩,ty,pos,after,g⟩).run K.P w=.ok (.enter f vs) w/\VRels m β avs vs:=by
 intro m β w a r
 have h:=r.reads fx
 rw[hfx] at h
 have key:∃fs cs:Array Value,a.eval fx=.func (.func f) fs cs/\first.length=fs.size/\captured.length=cs.size/\(∀(i:Nat) c v,first[i]? = some c->fs[i]? = some v->VRel m β c v)/\
   ∀(i:Nat) c v,captured[i]? = some c->cs[i]? = some v->VRel m β c v:=by
  generalize a.eval fx=v at h
  cases h with
  |imm h=>cases h with|fn h1 h2 h3 h4=>exact⟨_,_,rfl,h1,h2,fun i c v a b=>.imm (h3 i c v a b),fun i c v a b=>.imm (h4 i c v a b)⟩
  |fn h1 h2 h3 h4=>grind
 obtain⟨fs,cs,e1,e2,e3,e4,e5⟩:=key
 refine⟨fs++args.map a.eval++cs,?_,?_⟩
 ·simp_all[execOp,resolve,Deferred.ofValue,invoke,run_enter]
 ·refine⟨by grind,fun i c v h1 h2=>?_⟩
  rw[<-ha,bj9,ba8,bb8] at h1
  rw[bq9,bp8,Array.size_map,<-e2] at h2
  simp only[bc8] at h1
  split at h1
  ·rename_i hlt
   rw[if_pos hlt] at h2
   rw[bj9] at h1
   rw[bq9,<-e2] at h2
   split at h1
   ·grind
   ·rename_i hlt'
    rw[if_neg hlt'] at h2
    rw[at9] at h1
    rw[bp9] at h2
    cases hx:args[i - first.length]? with
    |none=>grind
    |some x=>
     simp[hx] at h1 h2
     subst h1;subst h2
     exact r.reads x
  grind
theorem aops_mcallv{d:Nat}{f:FuncId}{fx:Operand}{first captured:List V}{args:Array Operand}{at':Array TypeId}{avs':List V}{k k':Nat}{hp hp':Heap}{dc:V}(dv:V)(avs:List V)(σ τ:Nat->Nat)(nx nx':Nat)(u:Heap)(hf:fnOk K.P f=true)
  (hw:Wants ops S ⟨some d,.call ⟨.value fx,args,at'⟩,ty,pos,after,g⟩ true) (hN:Nat.blt d K.N=true) (hfx:evl K S fx=.fn (.func f) first captured) (ha:first++args.toList.map (evl K S)++captured=avs)
  (hsub:Subs (Ren k σ) avs' avs) (hhp:HpSub (Ren k σ) k σ S.hp hp) (hc:MutG K.gl K.P f avs' k hp dc k' hp') (hnx:S.nx=nx)
  (hto:toB k k' nx nx' σ τ (fun _=>false)=true) (hτ:injB k' τ=true) (hle:Nat.ble nx nx'=true) (hkk:Nat.ble k k'=true)
  (hdv:Sub (To k' τ) dv dc) (hu:HpTo (To k' τ) τ hp' k' 0 u)
  (kk:AOps K ops rest Q ⟨(d,dv)::S.env,u++S.hp,nx'⟩):AOps K ops (⟨some d,.call ⟨.value fx,args,at'⟩,ty,pos,after,g⟩::rest) Q S:=
 aops_mcalls σ τ nx' u (fun _=>false) hw rfl hN (mcallv_run hf hfx ha) hsub (HpSub.get hhp) hc (fun _ h=>by simp at h) (by grind) hτ (by grind) hkk (fun _ h=>by simp at h) hdv hu kk
end
section
variable{K:Ctx}{Q:Post}{S:St}
variable{m:Mem}{β:Locs}{w:World}{a:Act}
variable{ops:Array Oper}{rest:List Oper}{ty:TypeId}{pos:String}{after:Array Edge}{g:Option (Nat×Bool)}
theorem aops_append_at{d T T' e k bytes n n' id nx:Nat}{s x:Operand}{sv:V}{rows:List (List V)}(idn:Nat)(hid:(Nat.blt idn nx&&Nat.ble K.pins idn)=true)(hnxx:S.nx=nx)(hres:hget S.hp idn=.res)(rows2 rows':List (List V))(hT:tyEl K.P T e k bytes=true)(hT':tySlice K.P T'=true)
  (hpos:Nat.blt 0 bytes=true) (hkp:Nat.blt 0 k=true)
  (hw:Wants ops S ⟨some d,.call ⟨.builtin .append,#[s,x],#[T,T']⟩,ty,pos,after,g⟩ true)
  (hs:evl K S s=.own id n) (ho:hget S.hp id=.arr e k rows) (hn:rows.length=n) (hx:evl K S x=sv) (hsrc:Src S k sv rows2)
  (hr:rows++rows2=rows') (hn':rows'.length=n') (hb:n'*bytes<=140737488355328) (hN:Nat.blt d K.N=true)
  (kk:AOps K ops rest Q ⟨(d,.own idn n')::S.env,(idn,.arr e k rows')::(id,.dead)::S.hp,S.nx⟩):
  AOps K ops (⟨some d,.call ⟨.builtin .append,#[s,x],#[T,T']⟩,ty,pos,after,g⟩::rest) Q S:=
 aops_appendG idn S.nx (fun _ _ _ _ r=>⟨r.free hres,fun q hq=>by have:=ar9 (bx9.1 hid).2;omega⟩) (by simp_all) (ab8 _) rows2 rows' hT (tySlice_SS hT') hpos hkp hw hs ho hn hx hsrc hr hn' (.inl hb) hN kk
end
theorem slT_hi{α:Type}{l:List α}{a:Nat}:(l.drop a).take (l.length - a)=l.drop a:=by rw[List.take_of_length_le];simp
theorem slT_lo{α:Type}{l:List α}{b:Nat}:(l.drop 0).take (b - 0)=l.take b:=by simp
theorem slL_lo{α β:Type}{f:α->β}{l:List α}{b:Nat}:((l.map f).drop 0).take (b - 0)=(l.take b).map f:=by simp
section
variable{K:Ctx}{Q:Post}{S:St}
variable{ops:Array Oper}{rest:List Oper}{ty:TypeId}{pos:String}{after:Array Edge}{g:Option (Nat×Bool)}
theorem aops_lookup_okB{d:Nat}{T k e:TypeId}{x y:Operand}{good:Value->Prop}{kv zv:Value}{mv:V}{es:List (Value×V)}(res:Option V)(zd dv:V)(hT:tyMap K.P T k e=true)(hK:KeyT K.P k good)
  (hz:(K.P.info? e).bind (·.zero)=some zv) (hzd:∀m,IRel m zd zv)
  (hw:Wants ops S ⟨some d,.lookup T x y true,ty,pos,after,g⟩ true) (hx:evl K S x=mv) (hm:MapIs S mv es) (hy:KeyIs K S y kv) (hg:good kv) (hges:∀p,p∈es->good p.1)
  (hl:Look kv es res) (hd:res.getD zd=dv) {b:Bool} (hb:res.isSome=b) (hN:Nat.blt d K.N=true)
  (kk:AOps K ops rest Q (S.put d (.tup [dv,.con (.bool b)]))) (hdd:dv.deep=false:=by rfl):AOps K ops (⟨some d,.lookup T x y true,ty,pos,after,g⟩::rest) Q S:=
 by grind [aops_lookup_ok]
end
section
variable{K:Ctx}{Q:Post}{S:St}
theorem awp_len{c:Code}{α:Type}{k:Nat}{A:List α}{enc:α->List V}(t:Nat)(ht:get S.env t=.lst k (A.map enc))(h:A.length<=maxLen->AWP K c Q S):AWP K c Q S:=by
 intro m β w a r
 refine h ?_ m β w a r
 have:=r.env t
 rw[ht] at this
 generalize a.tmps.getD t undef=v at this
 generalize hrows:A.map enc=rows at this
 cases this with
 |imm h=>
  cases h<;>grind [List.length_map]
def RG{α:Type}(A:List α)(X:List α->Int->Prop)(n:Nat)(N:Int):Prop:=∃j:Nat,N=j/\j<=A.length/\A.length - j<n/\X (A.drop j) N
theorem RG.zero{α:Type}{A:List α}{X:List α->Int->Prop}{N:Int}:¬RG A X 0 N:=fun⟨_,_,_,h,_⟩=>by omega
theorem RG.start{α:Type}{A:List α}{X:List α->Int->Prop}(h:X A 0):RG A X (A.length+1) 0:=⟨0,rfl,af8 _,by omega,h⟩
theorem w64_nat{n:Nat}(h:n<=maxLen):IntKind.wrap .i64 (n:Int)=n:=by
 have h:n<=9223372036854775807:=h
 grind [IntKind.wrap,IntKind.bits]
theorem RG.t{α:Type}{A:List α}{X:List α->Int->Prop}{n:Nat}{N:Int}(hA:A.length<=maxLen)(h:RG A X (n+1) N)(hb:decide (N<((A.length:Nat):Int))=true):
  ∃x l,idx A N=some x/\X (x::l) N/\∀X':List α->Int->Prop,X' l (N+1)->RG A X' n (IntKind.wrap .i64 (N+1)):=by
 obtain⟨j,rfl,h1,h2,h3⟩:=h
 have hj:j<A.length:=by have:=of_decide_eq_true hb;omega
 refine⟨A[j],A.drop (j+1),by simp[idx,hj],by simp_all,fun X' h=>?_⟩
 have e:IntKind.wrap .i64 ((j:Int)+1)=((j+1:Nat):Int):=w64_nat (n:=j+1) (by omega)
 rw[e]
 exact⟨j+1,rfl,hj,by omega,h⟩
theorem RG.f{α:Type}{A:List α}{X:List α->Int->Prop}{n:Nat}{N:Int}(h:RG A X (n+1) N)(hb:decide (N<((A.length:Nat):Int))=false):X [] N:=by
 obtain⟨j,rfl,h1,h2,h3⟩:=h<;>grind
def RC(B:Int)(X:Nat->Int->Prop)(n:Nat)(N:Int):Prop:=∃j:Nat,N=j/\j<=B.toNat/\B.toNat - j<n/\X (B.toNat - j) N
theorem RC.zero{B:Int}{X:Nat->Int->Prop}{N:Int}:¬RC B X 0 N:=fun⟨_,_,_,h,_⟩=>by omega
theorem RC.start{B:Int}{X:Nat->Int->Prop}(h:X B.toNat 0):RC B X (B.toNat+1) 0:=⟨0,rfl,af8 _,by omega,h⟩
theorem RC.t{B:Int}{X:Nat->Int->Prop}{n:Nat}{N:Int}(hB:B<=9223372036854775807)(h:RC B X (n+1) N)(hb:decide (N<B)=true):
  ∃l,X (l+1) N/\∀X':Nat->Int->Prop,X' l (N+1)->RC B X' n (IntKind.wrap .i64 (N+1)):=by
 obtain⟨j,rfl,h1,h2,h3⟩:=h
 have hj:j<B.toNat:=by have:=of_decide_eq_true hb;omega
 refine⟨B.toNat - (j+1),by grind,fun X' h=>?_⟩
 have e:IntKind.wrap .i64 ((j:Int)+1)=((j+1:Nat):Int):=w64_nat (n:=j+1) (by grind [maxLen])
 rw[e]
 exact⟨j+1,rfl,hj,by omega,h⟩
theorem RC.f{B:Int}{X:Nat->Int->Prop}{n:Nat}{N:Int}(h:RC B X (n+1) N)(hb:decide (N<B)=false):X 0 N:=by
 obtain⟨j,rfl,h1,h2,h3⟩:=h<;>simp_all
end
end Go.Pv
namespace Go.Pv
open Go Go.RowKit
theorem grew_below{m:Mem}{w w':World}(hm:∀(b:Nat) o,m b=some o->w.heap[b]? = some o)(h:Below w.heap.size w w')(hd:True):Grew m m w w':=
 ⟨Mem.le_refl _,fun b o hb=>by rw[h.block b (lt_of_some (hm b o hb))];grind,fun _ _=>rfl,h.block,h.size,⟨h.os,h.tape,h.output,hd⟩⟩
theorem irels_con{m:Mem}{vs:Array Value}:∀{l:List Value},IRels m (l.map V.con) vs->vs=l.toArray:=by
 intro l h
 apply Array.ext
 ·have:=h.len;grind
 ·intro i h1 h2
  have:=h.at' i (.con (l[i]'(by grind))) vs[i] (by grind) (by simp[h1])
  generalize vs[i]=x at this ⊢
  cases this
  simp
theorem pure_below{gl:Gl}{P:Program}{f:FuncId}{l:List Value}{d:V}{v:Value}(h:∀w,Calls P f l.toArray w fun e w'=>e=.returned v/\Below w.heap.size w w'/\True)(hd:∀m,IRel m d v):PureG gl P f (l.map V.con) d:=by
 intro m w vs himm _ hargs
 obtain rfl:=irels_con hargs
 refine(h w).mono ?_
 rintro e w' ⟨rfl,hb,hdr⟩
 exact⟨v,m,rfl,hd m,grew_below himm hb hdr⟩
theorem pure_same{gl:Gl}{P:Program}{f:FuncId}{l:List Value}{d:V}{v:Value}(h:∀w,Calls P f l.toArray w fun e w'=>e=.returned v/\w'=w)(hd:∀m,IRel m d v):PureG gl P f (l.map V.con) d:=
 pure_below (fun w=>(h w).mono (by rintro e w' ⟨rfl,rfl⟩;exact⟨rfl,Below.refl _ _,trivial⟩)) hd
theorem hget_one{id:Nat}{a b:Ob}(q:Nat):hget [(id,b)] q=hget ((id,b)::[(id,a)]) q:=by
 simp_all[hget_put]
theorem MutG.heap{gl:Gl}{P:Program}{f:FuncId}{args:List V}{k k':Nat}{hp hp' hp'':Heap}{d:V}(h:MutG gl P f args k hp d k' hp')(he:∀q,hget hp'' q=hget hp' q):MutG gl P f args k hp d k' hp'':=by
 intro m β w vs a1 a2 a3 a4 a5 a6 a7 a8
 refine(h m β w vs a1 a2 a3 a4 a5 a6 a7 a8).mono ?_
 rintro e w' ⟨v,m',β',e1,e2,A⟩
 refine⟨v,m',β',e1,e2,⟨A.le,A.imm,A.old,A.size,A.same,fun id=>by rw[he];exact A.own id,fun id b cap hl=>A.priv id b cap (by grind),fun id id' b c c' hl hl'=>A.inj id id' b c c' (by grind) (by grind),
  fun id x hl hx=>let q:=A.hid id x (by grind) hx;⟨q.1,q.2.1,q.2.2.1,fun i b c hi=>q.2.2.2.1 i b c (by grind),fun i hi=>q.2.2.2.2 i (by grind)⟩,A.nx,A.pin⟩⟩
section
variable{K:Ctx}{Q:Post}{S:St}
variable{ops:Array Oper}{rest:List Oper}{ty:TypeId}{pos:String}{after:Array Edge}{g:Option (Nat×Bool)}
theorem aops_makeSlice{d T e k bytes:Nat}{x:Operand}{n:Int}{zs:List Value}{ln:Nat}(rows:List (List V))(hT:tyEl K.P T e k bytes=true)(hz:zeroCells K.P e=some zs)
  (h1:zs.all (·.oneCell')=true) (hk:Nat.blt 0 k=true) (h0:0<=n/\(bytes:Int)*n<=140737488355328/\n<=140737488355328) (hr:rows=List.replicate n.toNat (zs.map V.con)) (hln:ln=n.toNat) (hw:Wants ops S ⟨some d,.makeSlice T x x,ty,pos,after,g⟩ true)
  (hx:evl K S x=.con (.int .i64 n)) (hN:Nat.blt d K.N=true)
  (kk:AOps K ops rest Q ⟨(d,.own S.nx ln)::S.env,(S.nx,.arr e k rows)::S.hp,S.nx+1⟩):
  AOps K ops (⟨some d,.makeSlice T x x,ty,pos,after,g⟩::rest) Q S:=by
 subst hr hln
 refine aops_runs hw (fun m β w a r=>?_) kk
 have hk:=ar9 hk
 obtain⟨i,z,hu,hi,hs,hby,hzz,hzk⟩:=tyEl_inv hT
 have hzs:zs=z.cells.toList:=by
  have:zeroCells K.P e=some z.cells.toList:=by simp[zeroCells,hi,hzz]
  rw[hz] at this;exact ae8 this
 have hzl:zs.length=k:=by rw[hzs];simp[hzk]
 have hrun:=run_make (P:=K.P) w T e i z hu hi hzz .i64 .i64 n n h0.1 (Int.le_refl _) (by grind) (by omega)
 obtain⟨β',hle,hnx,r2⟩:=r.alloc (.cells (madeCells z.cells (n.toNat*i.size)) e (0,0)) (.arr e k (List.replicate n.toNat (zs.map V.con))) ⟨n.toNat,0⟩ _ rfl (fun β' hle=>by
  refine obok_new0 (vs:=madeCells z.cells (n.toNat*i.size)) (by simp) (by rw[size_madeCells,hs]) (by simp) (by grind [maxLen]) (fun row hrow=>by grind) ?_
  intro p j row c hp hj
  have hpn:p<n.toNat:=by have:=(aw8.1 hp).1;simpa using this
  have hrow:row=zs.map V.con:=by
   have:=(aw8.1 hp).2
   rw[List.getElem_replicate] at this;exact this.symm
  subst hrow
  rw[at9] at hj
  cases hzj:zs[j]? with
  |none=>grind
  |some v=>
   rw[hzj] at hj
   simp at hj
   subst hj
   have hjk:j<k:=by have:=(aw8.1 hzj).1;omega
   have hv:zs[j]'(by omega)=v:=(aw8.1 hzj).2
   refine⟨v,?_,.imm (.con _),al8.1 h1 v (ar8 hzj)⟩
   have hlt:p*k+j<n.toNat*i.size:=by
    rw[hs]
    have:(p+1)*k<=n.toNat*k:=ay9 k hpn
    rw[ay8] at this
    omega
   unfold madeCells
   rw[bp9,Array.getElem?_range,if_pos hlt,au9,hzk,Nat.mul_comm,Nat.mul_add_mod,Nat.mod_eq_of_lt hjk,getElem!_pos _ j (by omega)]
   grind)
 refine⟨.slice (some ⟨w.heap.size,0,none⟩) n.toNat n.toNat,_,m,β',.inl ?_,Rel.put r2 hN (.own hnx)⟩
 simp only[execOp]
 rw[Sem.run_bind]
 have hxv:=r.con hx
 simp_all
theorem aops_makeSlice_at{d T e k bytes nx:Nat}{x:Operand}{n:Int}{zs:List Value}{ln:Nat}(id:Nat)(hid:(Nat.blt id nx&&Nat.ble K.pins id)=true)(hnx0:S.nx=nx)(hres:hget S.hp id=.res)(rows:List (List V))(hT:tyEl K.P T e k bytes=true)(hz:zeroCells K.P e=some zs)
  (h1:zs.all (·.oneCell')=true) (hk:Nat.blt 0 k=true) (h0:0<=n/\(bytes:Int)*n<=140737488355328/\n<=140737488355328) (hr:rows=List.replicate n.toNat (zs.map V.con)) (hln:ln=n.toNat) (hw:Wants ops S ⟨some d,.makeSlice T x x,ty,pos,after,g⟩ true)
  (hx:evl K S x=.con (.int .i64 n)) (hN:Nat.blt d K.N=true)
  (kk:AOps K ops rest Q ⟨(d,.own id ln)::S.env,(id,.arr e k rows)::S.hp,S.nx⟩):
  AOps K ops (⟨some d,.makeSlice T x x,ty,pos,after,g⟩::rest) Q S:=by
 subst hr hln
 refine aops_runs hw (fun m β w a r=>?_) kk
 have hk:=ar9 hk
 obtain⟨i,z,hu,hi,hs,hby,hzz,hzk⟩:=tyEl_inv hT
 have hzs:zs=z.cells.toList:=by
  have:zeroCells K.P e=some z.cells.toList:=by simp[zeroCells,hi,hzz]
  rw[hz] at this;exact ae8 this
 have hzl:zs.length=k:=by rw[hzs];simp[hzk]
 have hrun:=run_make (P:=K.P) w T e i z hu hi hzz .i64 .i64 n n h0.1 (Int.le_refl _) (by grind) (by omega)
 obtain⟨β',hle,hnx,r2⟩:=r.allocAt id (by simp_all) (ar9 (bx9.1 hid).2) hres (.cells (madeCells z.cells (n.toNat*i.size)) e (0,0)) (.arr e k (List.replicate n.toNat (zs.map V.con))) ⟨n.toNat,0⟩ _ rfl (fun β' hle=>by
  refine obok_new0 (vs:=madeCells z.cells (n.toNat*i.size)) (by simp) (by rw[size_madeCells,hs]) (by simp) (by grind [maxLen]) (fun row hrow=>by grind) ?_
  intro p j row c hp hj
  have hpn:p<n.toNat:=by have:=(aw8.1 hp).1;simpa using this
  have hrow:row=zs.map V.con:=by
   have:=(aw8.1 hp).2
   rw[List.getElem_replicate] at this;exact this.symm
  subst hrow
  rw[at9] at hj
  cases hzj:zs[j]? with
  |none=>grind
  |some v=>
   rw[hzj] at hj
   simp at hj
   subst hj
   have hjk:j<k:=by have:=(aw8.1 hzj).1;omega
   have hv:zs[j]'(by omega)=v:=(aw8.1 hzj).2
   refine⟨v,?_,.imm (.con _),al8.1 h1 v (ar8 hzj)⟩
   have hlt:p*k+j<n.toNat*i.size:=by
    rw[hs]
    have:(p+1)*k<=n.toNat*k:=ay9 k hpn
    rw[ay8] at this
    omega
   unfold madeCells
   rw[bp9,Array.getElem?_range,if_pos hlt,au9,hzk,Nat.mul_comm,Nat.mul_add_mod,Nat.mod_eq_of_lt hjk,getElem!_pos _ j (by omega)]
   grind)
 refine⟨.slice (some ⟨w.heap.size,0,none⟩) n.toNat n.toNat,_,m,β',.inl ?_,Rel.put r2 hN (.own hnx)⟩
 simp only[execOp]
 rw[Sem.run_bind]
 have hxv:=r.con hx
 simp_all
end
end Go.Pv
namespace Go.Pv
open Go
section
variable{K:Ctx}{Q:Post}{S:St}{ops:Array Oper}{rest:List Oper}{ty:TypeId}{pos:String}{after:Array Edge}{g:Option (Nat×Bool)}
theorem aops_index_iarr{d o len s:Nat}{x y:Operand}{T:TypeId}{row:List V}{ik:IntKind}{n:Int}(hT:tyArr K.P T len s=true)
  (hw:Wants ops S ⟨some d,.indexAddr T x y,ty,pos,after,g⟩ true) (hx:evl K S x=.iptr row o) (hy:evl K S y=.con (.int ik n))
  (h0:0<=n) (hr:n.toNat<len) (hN:Nat.blt d K.N=true)
  (kk:AOps K ops rest Q (S.put d (.iptr row (o+n.toNat*s)))):
  AOps K ops (⟨some d,.indexAddr T x y,ty,pos,after,g⟩::rest) Q S:=
 aops_val _ hw hN (fun m β w a r=>by
  have h:=r.reads x
  rw[hx] at h
  obtain⟨ad,arr,T',fr,f,base,hv,h1,h2,h3,h4,h5⟩:=h.iptr_inv
  refine⟨.pointer (some ⟨ad.block,ad.off+n.toNat*s,none⟩),?_,.imm (.iptr (a:=⟨ad.block,ad.off+n.toNat*s,none⟩) f base h1 rfl (by simp[h3,ac8]) h4 h5)⟩
  simp only[execOp,hv,r.con hy]
  rw[addr_eta h2]
  exact run_value (run_index_arr hT h0 hr)) kk
def eU8(n:Int):List V:=[V.con (.int .u8 n)]
def tyBytes(P:Program)(T:TypeId):Bool:=
 match P.underlying T with|some (.slice e)=>(match P.underlying e with|some (.int .u8)=>true|_=>false)|_=>false
theorem tyBytes_inv{P:Program}{T:TypeId}(h:tyBytes P T=true):∃e,P.underlying T=some (.slice e)/\P.underlying e=some (.int .u8):=by
 grind [tyBytes]
theorem aops_bytesStr{d:Nat}{x:Operand}{src dst:TypeId}(xs:List Int)(hs:tyBytes K.P src=true)(hd:tyStr K.P dst=true)
  (hw:Wants ops S ⟨some d,.convert src dst x,ty,pos,after,g⟩ true) (hx:evl K S x=.lst 1 (xs.map eU8)) (hN:Nat.blt d K.N=true)
  (kk:AOps K ops rest Q (S.put d (.con (str (xs.map fun n=>UInt8.ofNat n.toNat))))):AOps K ops (⟨some d,.convert src dst x,ty,pos,after,g⟩::rest) Q S:=
 aops_val _ hw hN (fun m β w a r=>by
  obtain⟨e,h1,h2⟩:=tyBytes_inv hs
  have h:=r.reads x
  rw[hx] at h
  refine⟨.string ⟨(xs.map fun n=>UInt8.ofNat n.toNat).toArray⟩,?_,.imm (.con _)⟩
  generalize hxs:xs.map eU8=rows at h
  generalize hv:a.eval x=v at h
  simp only[execOp,hv]
  refine run_value ?_
  cases h with
  |imm h=>
   cases h with
   |nil _ ad cap=>
    have:xs=[]:=by simpa using hxs
    subst this
    rw[run_convert_bytes_string w src dst e ad 0 cap h1 h2 (tyStr_inv hd)]
    cases ad with
    |none=>simp[Conv.bytesToString];rfl
    |some ad=>
     rw[run_bytesToString w ad 0 cap [] (by simpa using run_loadCells_list (P:=K.P) w ad [] (by simp))]
     rfl
   | @lst _ _ ad n cap arr T' fr f hm hsp hn hcap hbd hk hf hc=>
    have hlen:xs.length=n:=by rw[<-hn,<-hxs];simp
    rw[addr_eta hsp]
    have:=run_convert_bytes_arg (P:=K.P) w src e h1 h2 ad.block ad.off n cap xs hlen (fun i hi=>by
     have hi':i<xs.length:=by omega
     have h3:=hf i (by omega)
     have h4:=hc i 0 (eU8 xs[i]) (V.con (.int .u8 xs[i])) (by grind) rfl
     have h5:f i=.int .u8 xs[i]:=by
      have:i*1+0=i:=by omega
      rw[this] at h4
      exact(VRel.imm (β:=β) h4).of_con
     have h6:=r.imm _ _ hm
     grind [cell_of_heap]) dst (tyStr_inv hd)
    rw[this]
    rfl) kk
end
section
variable{K:Ctx}{Q:Post}{S:St}{ops:Array Oper}{rest:List Oper}{ty:TypeId}{pos:String}{after:Array Edge}{g:Option (Nat×Bool)}
end
theorem tab_is{gl:Gl}{P:Program}{m:Mem}{w:World}(himm:∀(b:Nat) o,m b=some o->w.heap[b]? = some o)(hgl:GlOk gl m){name:String}{g:Nat}{k:IntKind}{vals:List Int}
  (hg:glk gl g=some (vals.map fun z=>V.con (.int k z))) (hn:P.globalNamed name=some g):Lib.TabIs P w name k vals:=by
 obtain⟨hr,arr,T,fr,hm,hsz⟩:=hgl g _ hg
 unfold Lib.TabIs World.var?
 rw[hn,bn9,himm _ _ hm]
 simp only[aq8]
 cases hr with
 | @iptr _ _ _ arr' T' fr' f base hm' hs ho hf h=>
 rw[hm] at hm'
 cases hm'
 have hb:base=0:=by simp at ho;omega
 subst hb
 simp only[bb8] at hsz hf
 apply Array.ext
 ·simp[hsz]
 ·intro i h1 h2
  have hi:i<vals.length:=by omega
  have e1:=hf i hi
  have e2:=h i (V.con (.int k vals[i])) (by simp[as8 hi])
  rw[br9,av9 h1] at e1
  have e3:=ae8 e1
  rw[<-e3] at e2
  generalize arr[i]=v at e2
  cases e2
  simp
open Go.RowKit Go.Sort in
theorem below_drewN(w:World)(k:Nat)(os:Array Obj):Below w.heap.size w (grow (w.drewN k) os):=
 ⟨rfl,rfl,rfl,by simp[grow,World.drewN],fun i hi=>by simp only[grow,World.drewN];rw[Array.getElem?_append_left hi]⟩
open Go.RowKit Go.Sort Go.Lib in
theorem pure_itoa {gl:Gl} {P:Program} {f:FuncId} {n:Int} {g:Nat} (hg:glk gl g=some (Lib.pow10Tab.map fun z=>V.con (.int .u64 z))) (hn:P.globalNamed "internal/strconv.uint64pow10" = some g)
  (_ : -9223372036854775808<=n/\n<=9223372036854775807)
  (h:∀w,Lib.TabIs P w "internal/strconv.uint64pow10" .u64 Lib.pow10Tab->Calls P f #[.int .i64 n] w fun e w'=>e=.returned (.string ⟨(Lib.itoa n).toArray⟩)/\∃k os,w'=grow (w.drewN k) os):
  PureG gl P f [iV n] (sV (Lib.itoa n)):=by
 intro m w vs himm hgl hargs
 obtain rfl:=irels_con (l:=[.int .i64 n]) hargs
 refine(h w (tab_is himm hgl hg hn)).mono ?_
 rintro e w' ⟨rfl,k,os,rfl⟩
 exact⟨_,m,rfl,.con _,grew_below himm (below_drewN w k os) trivial⟩
end Go.Pv
