/- Part of the proof: H, I, J. -/
import Derived.Test.YtelmfadihfcgnaaGreatDoorDPvG
import Derived.Room.Entries
namespace Go.Pv
open Go
set_option linter.unusedVariables false
section
variable{K:Ctx}{Q:Post}{S S':St}{ops:Array Oper}{rest:List Oper}{op:Op}{ty:TypeId}{pos:String}{after:Array Edge}{g:Option (Nat×Bool)}
variable{m:Mem}{β:Locs}{w:World}{a:Act}
def Ghost(K:Ctx)(S S':St):Prop:=∀m β w a,Rel K m β w a S->∃m' β',Rel K m' β' w a S'
theorem Ghost.trans{S'':St}(h:Ghost K S S')(h':Ghost K S' S''):Ghost K S S'':=fun m β w a r=>
 let ⟨m',β',r'⟩:=h m β w a r;h' m' β' w a r'
theorem Ghost.refl:Ghost K S S:=fun m β _ _ r=>⟨m,β,r⟩
theorem awp_ghost{c:Code}(h:Ghost K S S')(k:AWP K c Q S'):AWP K c Q S:=fun m β w a r=>let ⟨m',β',r'⟩:=h m β w a r;k m' β' w a r'
theorem aops_ghost{l:List Oper}(h:Ghost K S S')(k:AOps K ops l Q S'):AOps K ops l Q S:=fun m β w a r=>let ⟨m',β',r'⟩:=h m β w a r;k m' β' w a r'
abbrev Hy:=Mem->Locs->Mem->Locs->Prop
def Sub(Y:Hy)(v' v:V):Prop:=∀m β m' β' x,Y m β m' β'->VRel m β v x->VRel m' β' v' x
theorem Sub.any{Y:Hy}{v:V}:Sub Y .any v:=fun _ _ _ _ _ _ _=>.imm (.any _)
inductive EnvSub(Y:Hy)(env:Env):Env->Prop
 |nil:EnvSub Y env []
 |cons {t:Nat} {v:V} {e:Env} (h:Sub Y v (get env t)) (h':EnvSub Y env e):EnvSub Y env ((t,v)::e)
theorem EnvSub.get{Y:Hy}{env env':Env}(h:EnvSub Y env env')(t:Nat):Sub Y (get env' t) (get env t):=by
 induction h with
 |nil=>exact Sub.any
 | @cons t' v e h h' ih=>
  rw[get_put]
  split
  ·rename_i he;subst he;exact h
  ·exact ih
def CSub(Y:Hy)(c c':V):Prop:=∀m β m' β' w B x,Y m β m' β'->CRel m β w B c' x->CRel m' β' w B c x
def HyM(Y:Hy):Prop:=∀m β m' β',Y m β m' β'->m.le m'
class HyMC (Y:Hy):Prop where
 h:HyM Y
theorem CSub.sub{Y:Hy}{c c':V}(h:Sub Y c c')(hd:c'.deep=false):CSub Y c c':=fun _ _ _ _ _ _ _ hy hx=>.inl (h _ _ _ _ _ hy (hx.v hd))
theorem CSub.same{Y:Hy}(hm:HyM Y){c:V}(h:Sub Y c c):CSub Y c c:=fun _ _ _ _ _ _ _ hy hx=>hx.elim (fun hx=>.inl (h _ _ _ _ _ hy hx)) (fun hx=>.inr (hx.mono (hm _ _ _ _ hy) (fun _ h=>h) (fun _ _=>rfl)))
def ObSub(Y:Hy):Ob->Ob->Prop
 | .dead,_=>True
 | .res,.res=>True
 | .arr e k rows,.arr e' k' rows'=>e=e'/\k=k'/\rows.length=rows'.length/\(∀(i:Nat) r r',rows[i]? = some r->rows'[i]? = some r'->r.length=r'.length/\
   ∀(j:Nat) c c',r[j]? = some c->r'[j]? = some c'->CSub Y c c')
 | .map es,.map es'=>es.length=es'.length/\∀(i:Nat) p p',es[i]? = some p->es'[i]? = some p'->p.1=p'.1/\CSub Y p.2 p'.2
 | .iter c l,.iter c' l'=>(∀p,p∈c->p∈c')/\l=l'/\HyM Y
 | .bld T e l fr,.bld T' e' l' fr'=>T=T'/\e=e'/\l=l'/\fr=fr'
 |_,_=>False
theorem ObSub.ok{Y:Hy}{m m':Mem}{β β':Locs}{B:Nat->Prop}(hy:Y m β m' β'){l:Option (Option (Nat×Cap))}{ob ob':Ob}(h:ObSub Y ob ob')(ho:ObOk m β w B l ob'):ObOk m' β' w B l ob:=by
 cases ob with
 |dead=>exact ObOk.dead' _
 |res=>
  cases ob' with
  |res=>
   match l,ho with
   |none,_=>trivial
   |some none,ho|some (some (b,c)),ho=>exact absurd ho (by simp[ObOk])
  |_=>simp[ObSub] at h
 |arr e k rows=>
  cases ob' with
  |dead=>simp[ObSub] at h
  |res=>simp[ObSub] at h
  |map es=>simp[ObSub] at h
  |iter c l=>simp[ObSub] at h
  |bld T e l fr=>simp[ObSub] at h
  |arr e' k' rows'=>
   obtain⟨rfl,rfl,hl,hr⟩:=h
   match l,ho with
   |some none,ho=>
    have:rows'=[]:=ho
    subst this
    have:rows=[]:=List.length_eq_zero_iff.1 (by simpa using hl)
    subst this
    simp[ObOk]
   |some (some (b,cap)),ho=>
    obtain⟨arr,bl,h1,h2,h3,h4,h5,hBl,h6⟩:=ho
    refine⟨arr,bl,h1,h2,by rw[hl];exact h3,h4,?_,hBl,?_⟩
    ·intro row hrow
     obtain⟨i,hi,rfl⟩:=List.getElem_of_mem hrow
     have hi':i<rows'.length:=by rw[<-hl];exact hi
     rw[(hr i _ _ (List.getElem?_eq_getElem hi) (List.getElem?_eq_getElem hi')).1]
     exact h5 _ (List.getElem_mem _)
    ·intro i j row c hi hj
     have hlt:=(List.getElem?_eq_some_iff.1 hi).1
     have hlt':i<rows'.length:=by rw[<-hl];exact hlt
     obtain⟨a1,a2⟩:=hr i row _ hi (List.getElem?_eq_getElem hlt')
     have hj1:=(List.getElem?_eq_some_iff.1 hj).1
     have hj2:j<rows'[i].length:=by rw[<-a1];exact hj1
     obtain⟨v,b1,b2,b3⟩:=h6 i j _ _ (List.getElem?_eq_getElem hlt') (List.getElem?_eq_getElem hj2)
     exact⟨v,b1,a2 j c _ hj (List.getElem?_eq_getElem hj2) _ _ _ _ _ _ _ hy b2,b3⟩
   |none,ho=>exact absurd ho (by simp[ObOk])
 |map es=>
  cases ob' with
  |dead=>simp[ObSub] at h
  |res=>simp[ObSub] at h
  |arr e k rows=>simp[ObSub] at h
  |iter c l=>simp[ObSub] at h
  |bld T e l fr=>simp[ObSub] at h
  |map es'=>
   obtain⟨hl,hr⟩:=h
   match l,ho with
   |some (some (b,cap)),ho=>
    obtain⟨ents,clock,bl,h1,h2,hBl,h3⟩:=ho
    refine⟨ents,clock,bl,h1,by rw[hl];exact h2,hBl,?_⟩
    intro i p e hi he
    have hlt:=(List.getElem?_eq_some_iff.1 hi).1
    have hlt':i<es'.length:=by rw[<-hl];exact hlt
    obtain⟨a1,a2⟩:=hr i p _ hi (List.getElem?_eq_getElem hlt')
    obtain⟨b1,b2⟩:=h3 i _ e (List.getElem?_eq_getElem hlt') he
    exact⟨by rw[a1];exact b1,a2 _ _ _ _ _ _ _ hy b2⟩
   |none,ho=>exact absurd ho (by simp[ObOk])
   |some none,ho=>exact absurd ho (by simp[ObOk])
 |iter cu lf=>
  cases ob' with
  |dead=>simp[ObSub] at h
  |res=>simp[ObSub] at h
  |arr e k rows=>simp[ObSub] at h
  |map es=>simp[ObSub] at h
  |bld T e l fr=>simp[ObSub] at h
  |iter cu' lf'=>
   obtain⟨hcc,rfl,hm⟩:=h
   have hm:=hm _ _ _ _ hy
   match l,ho with
   |some (some (b,cap)),ho=>
    obtain⟨bm,seen,E,clock,v,h0,h1,h2,h3,h4,h5,h6,h7⟩:=ho
    exact⟨bm,seen,E,clock,v,h0,h1,hm _ _ h2,h3,h4,h5,fun i p e hi he=>⟨(h6 i p e hi he).1,(h6 i p e hi he).2.mono hm⟩,fun p hp=>let ⟨e,a1,a2,a3,a4⟩:=h7 p (hcc p hp);⟨e,a1,a2,a3,a4.mono hm⟩⟩
   |none,ho=>exact absurd ho (by simp[ObOk])
   |some none,ho=>exact absurd ho (by simp[ObOk])
 |bld T e bs fr=>
  cases ob' with
  |bld T' e' bs' fr'=>
   obtain⟨rfl,rfl,rfl,rfl⟩:=h
   match l,ho with
   |some (some (b,cap)),ho=>exact ho
   |none,ho=>exact absurd ho (by simp[ObOk])
   |some none,ho=>exact absurd ho (by simp[ObOk])
  |_=>simp[ObSub] at h
theorem ObSub.keep'{Y:Hy}(hm:HyM Y)(hk:∀c,CSub Y c c)(ob:Ob):ObSub Y ob ob:=by
 cases ob with
 |dead=>trivial
 |res=>trivial
 |iter c l=>exact⟨fun _ h=>h,rfl,hm⟩
 |bld T e l fr=>exact⟨rfl,rfl,rfl,rfl⟩
 |arr e k rows=>
  refine⟨rfl,rfl,rfl,fun i r r' h1 h2=>?_⟩
  rw[h1,Option.some.injEq] at h2;subst h2
  refine⟨rfl,fun j c c' h3 h4=>?_⟩
  rw[h3,Option.some.injEq] at h4;subst h4;exact hk c
 |map es=>
  refine⟨rfl,fun i p p' h1 h2=>?_⟩
  rw[h1,Option.some.injEq] at h2;subst h2;exact⟨rfl,hk _⟩
def Ren(n:Nat)(σ:Nat->Nat):Hy:=fun m β m' β'=>m'=m/\∀id,id<n->β' id=β (σ id)
instance {n:Nat} {σ:Nat->Nat}:HyMC (Ren n σ):=⟨fun m β m' β' hy=>by rw[hy.1];exact Mem.le_refl _⟩
theorem Sub.kp{n:Nat}{σ:Nat->Nat}{v:V}(h:Keep v):Sub (Ren n σ) v v:=fun m β m' β' x hy hx=>by
 obtain⟨rfl,_⟩:=hy
 exact .imm (h _ β x hx)
theorem Sub.imm{n:Nat}{σ:Nat->Nat}{v:V}(h:Imm v):Sub (Ren n σ) v v:=fun m β m' β' x hy hx=>by
 obtain⟨rfl,_⟩:=hy
 exact .imm (h.2 _ β x hx)
theorem Sub.nil{Y:Hy}(k:Nat):Sub Y (.lst k []) (.con (.slice none 0 0)):=fun m β m' β' x _ hx=>by
 rw[hx.of_con];exact .imm (.nil k none 0)
theorem Sub.own{n id j l:Nat}{σ:Nat->Nat}(hn:Nat.blt id n=true)(hj:σ id=j):Sub (Ren n σ) (.own id l) (.own j l):=fun m β m' β' x hy hx=>by
 have h:=hy.2 id (Nat.le_of_ble_eq_true hn)
 rw[hj] at h
 cases hx with
 |imm h=>cases h
 |ownNil hb=>exact .ownNil (by rw[h];exact hb)
 |own hb=>exact .own (by rw[h];exact hb)
theorem Sub.ptr{n id j k i o:Nat}{σ:Nat->Nat}(hn:Nat.blt id n=true)(hj:σ id=j):Sub (Ren n σ) (.ptr id k i o) (.ptr j k i o):=fun m β m' β' x hy hx=>by
 have h:=hy.2 id (Nat.le_of_ble_eq_true hn)
 rw[hj] at h
 cases hx with
 |imm h=>cases h
 |ptr hb=>exact .ptr (by rw[h];exact hb)
theorem Sub.map{n id j:Nat}{σ:Nat->Nat}(hn:Nat.blt id n=true)(hj:σ id=j):Sub (Ren n σ) (.map id) (.map j):=fun m β m' β' x hy hx=>by
 have h:=hy.2 id (Nat.le_of_ble_eq_true hn)
 rw[hj] at h
 cases hx with
 |imm h=>cases h
 |map hb=>exact .map (by rw[h];exact hb)
inductive Subs(Y:Hy):List V->List V->Prop
 |nil:Subs Y [] []
 |cons {v v':V} {l l':List V} (h:Sub Y v v') (h':Subs Y l l'):Subs Y (v::l) (v'::l')
theorem Subs.len{Y:Hy}{l l':List V}(h:Subs Y l l'):l.length=l'.length:=by
 induction h with
 |nil=>rfl
 |cons _ _ ih=>simp[ih]
theorem Subs.get{Y:Hy}{l l':List V}(h:Subs Y l l'):∀(i:Nat) c c',l[i]? = some c->l'[i]? = some c'->Sub Y c c':=by
 induction h with
 |nil=>intro i c c' h;simp at h
 |cons h _ ih=>
  intro i c c' h1 h2
  cases i with
  |zero=>simp at h1 h2;subst h1;subst h2;exact h
  |succ i=>simp at h1 h2;exact ih i c c' h1 h2
theorem Sub.agg{Y:Hy}{l l':List V}(h:Subs Y l l'):Sub Y (.agg l) (.agg l'):=fun m β m' β' x hh hx=>by
 cases hx with
 |imm hx=>cases hx with
  |agg hl hx=>
   refine .agg (by rw[h.len];exact hl) fun i c v h1 h2=>?_
   have h3:i<l'.length:=by rw[<-h.len];exact(List.getElem?_eq_some_iff.1 h1).1
   exact h.get i c _ h1 (List.getElem?_eq_getElem h3) _ _ _ _ _ hh (.imm (hx i _ v (List.getElem?_eq_getElem h3) h2))
 |agg hl hx=>
  refine .agg (by rw[h.len];exact hl) fun i c v h1 h2=>?_
  have h3:i<l'.length:=by rw[<-h.len];exact(List.getElem?_eq_some_iff.1 h1).1
  exact h.get i c _ h1 (List.getElem?_eq_getElem h3) _ _ _ _ _ hh (hx i _ v (List.getElem?_eq_getElem h3) h2)
inductive HpSub(Y:Hy)(n:Nat)(σ:Nat->Nat)(hp:Heap):Heap->Prop
 |nil:HpSub Y n σ hp []
 |cons {id:Nat} {ob:Ob} {e:Heap} (hn:Nat.blt id n=true) (h:ObSub Y ob (hget hp (σ id))) (h':HpSub Y n σ hp e):HpSub Y n σ hp ((id,ob)::e)
theorem HpSub.get{Y:Hy}{n:Nat}{σ:Nat->Nat}{hp hp':Heap}(h:HpSub Y n σ hp hp')(id:Nat):(hget hp' id=.dead\/id<n)/\ObSub Y (hget hp' id) (hget hp (σ id)):=by
 induction h with
 |nil=>exact⟨.inl rfl,trivial⟩
 | @cons id' ob e hn h h' ih=>
  rw[hget_put]
  split
  ·rename_i he;subst he;exact⟨.inr (Nat.le_of_ble_eq_true hn),h⟩
  ·exact ih
def HpOk(Y:Hy)(n:Nat)(σ:Nat->Nat)(hp hp':Heap):Prop:=∀id,(hget hp' id=.dead\/id<n)/\ObSub Y (hget hp' id) (hget hp (σ id))
theorem envPut{Y:Hy}{env:Env}{t:Nat}{v:V}(hk:∀v,Sub Y v v)(h:Sub Y v (get env t)):∀t',Sub Y (get ((t,v)::env) t') (get env t'):=by
 intro t'
 rw[get_put]
 split
 ·rename_i he;subst he;exact h
 ·exact hk _
def pinsOk(n:Nat)(σ:Nat->Nat):Nat->Bool
 |0=>true
 |q+1=>Nat.blt q n&&Nat.beq (σ q) q&&pinsOk n σ q
theorem pinsOk_at{n:Nat}{σ:Nat->Nat}:∀{p q:Nat},pinsOk n σ p=true->q<p->q<n/\σ q=q
 |p+1,q,h,hq=>by
  simp only[pinsOk,Bool.and_eq_true] at h
  by_cases e:q=p
  ·subst e;exact⟨Nat.le_of_ble_eq_true h.1.1,Nat.eq_of_beq_eq_true h.1.2⟩
  ·exact pinsOk_at h.2 (by omega)
theorem ghost_ren(n:Nat)(σ:Nat->Nat)(env:Env)(hp:Heap)(hσ:∀i,i<n->∀j,j<n->σ i=σ j->i=j)(henv:∀t,Sub (Ren n σ) (get env t) (get S.env t))(hhp:HpOk (Ren n σ) n σ S.hp hp)
  (hpin:pinsOk n σ K.pins=true):Ghost K S ⟨env,hp,n⟩:=by
 intro m β w a r
 let β':Locs:=⟨fun id=>if id<n then β (σ id) else none,fun id=>β.hid (σ id)⟩
 have eβ:∀id,id<n->β' id=β (σ id):=fun id h=>by show(if _ then _ else _)=_;rw[if_pos h]
 have hy:Ren n σ m β m β':=⟨rfl,eβ⟩
 have hlive:∀id,hget hp id≠.dead->id<n/\hget S.hp (σ id)≠.dead:=by
  intro id h
  obtain⟨h1,h2⟩:=hhp id
  refine⟨h1.resolve_left h,fun hd=>?_⟩
  rw[hd] at h2
  cases ho:hget hp id with
  |dead=>exact h ho
  |arr=>rw[ho] at h2;simp[ObSub] at h2
  |res=>rw[ho] at h2;simp[ObSub] at h2
  |map=>rw[ho] at h2;simp[ObSub] at h2
  |iter=>rw[ho] at h2;simp[ObSub] at h2
  |bld=>rw[ho] at h2;simp[ObSub] at h2
 refine⟨m,β',?_⟩
 constructor
 ·exact r.imm
 ·exact r.ext
 ·exact r.mold
 ·exact r.frame
 ·exact r.size
 ·exact r.same
 ·exact r.tn
 ·exact r.df
 ·exact fun t=>henv t _ _ _ _ _ hy (r.env t)
 ·intro id
  obtain⟨h1,h2⟩:=hhp id
  rcases h1 with h1|h1
  ·show ObOk m β' w _ _ (hget hp id);rw[h1];exact ObOk.dead' _
  ·show ObOk m β' w (β.hid (σ id)) (β' id) (hget hp id)
   rw[eβ id h1]
   exact h2.ok hy (r.own (σ id))
 ·intro id b cap hl hb
  obtain⟨h1,h2⟩:=hlive id hl
  have:=eβ id h1
  rw[this] at hb
  exact r.priv _ _ _ h2 hb
 ·intro id id' b cap cap' hl hl' hb hb'
  obtain⟨h1,h2⟩:=hlive id hl
  obtain⟨h1',h2'⟩:=hlive id' hl'
  have e1:=eβ id h1
  have e2:=eβ id' h1'
  rw[e1] at hb;rw[e2] at hb'
  exact hσ id h1 id' h1' (r.inj _ _ _ _ _ h2 h2' hb hb')
 ·intro id x hl hx
  obtain⟨h1,h2⟩:=hlive id hl
  have h:=r.hid (σ id) x h2 hx
  refine⟨h.lt,h.m,h.old,fun i b c hi hb=>?_,fun i hi hx'=>?_⟩
  ·obtain⟨h1',h2'⟩:=hlive i hi
   rw[eβ i h1'] at hb
   exact h.ne _ b c h2' hb
  ·obtain⟨h1',h2'⟩:=hlive i hi
   exact hσ i h1' id h1 (h.un _ h2' hx')
 ·intro id hid
  have:¬id<n:=Nat.not_lt.2 hid
  show(if _ then _ else _)=_
  rw[if_neg this]
 ·intro q hq
  obtain⟨h1,h2⟩:=pinsOk_at hpin hq
  refine⟨h1,?_⟩
  rw[eβ q h1,h2];exact(r.pin q hq).2
def Frz(id k:Nat)(rows:List (List V)):Hy:=fun m β m' β'=>m.le m'/\β'=β/\(∀n x,VRel m β (.own id n) x->n<=rows.length->IRel m' (.lst k (rows.take n)) x)/\
 ∀i o row x,rows[i]? = some row->VRel m β (.ptr id k i o) x->IRel m' (.iptr row o) x
instance {id k:Nat} {rows:List (List V)}:HyMC (Frz id k rows):=⟨fun m β m' β' hy=>hy.1⟩
theorem Sub.keep{id k:Nat}{rows:List (List V)}{v:V}:Sub (Frz id k rows) v v:=fun _ _ _ _ _ hy hx=>by
 obtain⟨h1,rfl,_⟩:=hy
 exact hx.mono h1 (Locs.le_refl _)
theorem Sub.frz{id k n:Nat}{rows rows':List (List V)}(hn:n<=rows.length)(hr:rows.take n=rows'):Sub (Frz id k rows) (.lst k rows') (.own id n):=fun _ _ _ _ _ hy hx=>by
 subst hr
 exact .imm (hy.2.2.1 n _ hx hn)
theorem Sub.frzptr{id k i o:Nat}{rows:List (List V)}{row:List V}(hr:rows[i]? = some row):Sub (Frz id k rows) (.iptr row o) (.ptr id k i o):=fun _ _ _ _ _ hy hx=>.imm (hy.2.2.2 i o row _ hr hx)
theorem ghost_freeze(id:Nat){e:TypeId}{k:Nat}{rows:List (List V)}(env:Env)(hp:Heap)(ho:hget S.hp id=.arr e k rows)(hi:∀row,row∈rows->Imms row)
  (henv:∀t,Sub (Frz id k rows) (get env t) (get S.env t)) (hhp:∀i,ObSub (Frz id k rows) (hget hp i) (hget S.hp i)) (hd:hget hp id=.dead):Ghost K S ⟨env,hp,S.nx⟩:=by
 intro m β w a r
 have hown:=r.own id
 rw[ho] at hown
 cases hb:β id with
 |none=>rw[hb] at hown;simp[ObOk] at hown
 |some l=>
 have key:∃m',(∀b o,m' b=some o->w.heap[b]? = some o)/\Frz id k rows m β m' β/\(∀b,m' b=m b\/∃cap,l=some (b,cap)):=by
  cases l with
  |none=>
   rw[hb] at hown
   have:rows=[]:=hown
   subst this
   refine⟨m,r.imm,⟨Mem.le_refl _,rfl,fun n x hx hn=>?_,fun i o row x hr=>by simp at hr⟩,fun b=>.inl rfl⟩
   simp at hn;subst hn
   cases hx with
   |imm h=>cases h
   |ownNil h=>exact .nil k _ 0
   |own h=>rw[hb] at h;simp at h
  |some p=>
   obtain⟨b,cap⟩:=p
   rw[hb] at hown
   obtain⟨arr,bl,h1,h2,h3,h4,h5,hBl,h6⟩:=hown
   have hp':=r.priv id b cap (by rw[ho];simp) hb
   let m':Mem:=fun b'=>if b'=b then some (.cells arr e (0,0)) else m b'
   have hle:m.le m':=by
    intro b' o h
    have:b'≠b:=by intro e';subst e';rw[hp'.1] at h;simp at h
    simp[m',this,h]
   have hcells:∀i,i<rows.length*k->arr[cap.off+i]? = some (arr.getD (cap.off+i) undef):=by
    intro i hi'
    have:cap.off+i<arr.size:=by rw[h2];have:=Nat.lt_of_lt_of_le hi' (Nat.mul_le_mul_right k h3);omega
    simp[Array.getD_eq_getD_getElem?,this]
   have hrel:∀(i j:Nat) (row:List V) (c:V),rows[i]? = some row->row[j]? = some c->IRel m' c (arr.getD (cap.off+(i*k+j)) undef):=by
    intro i j row c hr hj
    obtain⟨v,a1,a2,_⟩:=h6 i j row c hr hj
    have hcc:=hi row (List.mem_of_getElem? hr) c (List.mem_of_getElem? hj)
    have:=hcc.2 m β v (a2.v hcc.1)
    simp only[Array.getD_eq_getD_getElem?,a1,Option.getD_some]
    exact this.mono hle
   refine⟨m',?_,⟨hle,rfl,?_,?_⟩,?_⟩
   ·intro b' o h
    by_cases hbb:b'=b
    ·subst hbb;simp[m'] at h;rw[h1,h]
    ·simp[m',hbb] at h;exact r.imm _ _ h
   ·intro n x hx hn
    cases hx with
    |imm h=>cases h
    |ownNil h=>exact .nil k _ 0
    | @own _ _ b2 cap2 h=>
     rw[hb] at h
     simp only[Option.some.injEq,Prod.mk.injEq] at h
     obtain⟨rfl,rfl⟩:=h
     refine .lst (T:=e) (arr:=arr) (fr:=(0,0)) (fun i=>arr.getD (cap.off+i) undef) (by simp[m']) rfl (by simp;omega) (by omega) (by omega) (fun row hr=>h5 row (List.mem_of_mem_take hr)) ?_ ?_
     ·intro i hi'
      refine hcells i (Nat.lt_of_lt_of_le hi' (Nat.mul_le_mul_right _ ?_))
      simp;exact Nat.min_le_right _ _
     ·intro i j row c hr hj
      rw[List.getElem?_take] at hr
      split at hr
      ·exact hrel i j row c hr hj
      ·simp at hr
   ·intro i o row x hr hx
    cases hx with
    |imm h=>cases h
    | @ptr _ _ _ _ b2 cap2 h=>
     rw[hb] at h
     simp only[Option.some.injEq,Prod.mk.injEq] at h
     obtain⟨rfl,rfl⟩:=h
     have hrk:=h5 row (List.mem_of_getElem? hr)
     refine .iptr (T:=e) (arr:=arr) (fr:=(0,0)) (fun j=>arr.getD (cap.off+(i*k+j)) undef) (cap.off+i*k) (by simp[m']) rfl (by simp;omega) ?_ ?_
     ·intro j hj
      rw[Nat.add_assoc]
      refine hcells _ ?_
      calc i*k+j<i*k+k:=by omega
       _=(i+1)*k:=by rw[Nat.add_mul,Nat.one_mul]
       _<=rows.length*k:=Nat.mul_le_mul_right _ (List.getElem?_eq_some_iff.1 hr).1
     ·exact fun j c hj=>hrel i j row c hr hj
   ·intro b'
    by_cases hbb:b'=b
    ·exact .inr ⟨cap,by rw[hbb]⟩
    ·exact .inl (by simp[m',hbb])
 obtain⟨m',k1,hy,k2⟩:=key
 have hlid:hget S.hp id≠.dead:=by rw[ho];simp
 have hlive:∀i,hget hp i≠.dead->hget S.hp i≠.dead/\i≠id:=by
  intro i h
  have h2:=hhp i
  refine⟨fun hdd=>?_,fun he=>h (by rw[he];exact hd)⟩
  rw[hdd] at h2
  cases ho':hget hp i with
  |dead=>exact h ho'
  |arr=>rw[ho'] at h2;simp[ObSub] at h2
  |res=>rw[ho'] at h2;simp[ObSub] at h2
  |map=>rw[ho'] at h2;simp[ObSub] at h2
  |iter=>rw[ho'] at h2;simp[ObSub] at h2
  |bld=>rw[ho'] at h2;simp[ObSub] at h2
 refine⟨m',β,?_⟩
 constructor
 ·exact k1
 ·exact Mem.le_trans r.ext hy.1
 ·intro b hb' hold
  rcases k2 b with h|⟨cap,h⟩
  ·rw[h];exact r.mold b hb' hold
  ·subst h
   have hp':=r.priv id b cap (by rw[ho];simp) hb
   exact absurd hold (hp'.2 hb')
 ·exact r.frame
 ·exact r.size
 ·exact r.same
 ·exact r.tn
 ·exact r.df.mono hy.1
 ·exact fun t=>henv t _ _ _ _ _ hy (r.env t)
 ·intro i
  exact(hhp i).ok hy (r.own i)
 ·intro i b cap hl hb'
  obtain⟨h1,h2⟩:=hlive i hl
  have hp':=r.priv i b cap h1 hb'
  refine⟨?_,hp'.2⟩
  rcases k2 b with h|⟨cap',h⟩
  ·rw[h];exact hp'.1
  ·subst h
   exact absurd (r.inj i id b cap cap' h1 (by rw[ho];simp) hb' hb) h2
 ·intro i i' b cap cap' hl hl'
  exact r.inj i i' b cap cap' (hlive i hl).1 (hlive i' hl').1
 ·intro i x hl hx
  have h:=r.hid i x (hlive i hl).1 hx
  refine⟨h.lt,?_,h.old,fun i' b c hi'=>h.ne i' b c (hlive i' hi').1,fun i' hi'=>h.un i' (hlive i' hi').1⟩
  rcases k2 x with h'|⟨cap',h'⟩
  ·rw[h'];exact h.m
  ·subst h'
   exact absurd rfl (h.ne id x cap' hlid hb)
 ·exact r.nx
 ·exact r.pin
end
section
variable{K:Ctx}{Q:Post}{S S':St}{ops:Array Oper}{rest:List Oper}{op:Op}{ty:TypeId}{pos:String}{after:Array Edge}{g:Option (Nat×Bool)}
variable{m:Mem}{β:Locs}{w:World}{a:Act}
def tyEl(P:Program)(T e k bytes:Nat):Bool:=
 match P.underlying T with
 |some (.slice e')=>e'==e&&(match P.info? e with|some i=>i.size==k&&i.bytes==bytes&&(match i.zero with|some z=>z.cells.size==k|none=>false)|none=>false)
 |_=>false
theorem tyEl_inv{P:Program}{T e k bytes:Nat}(h:tyEl P T e k bytes=true):∃i z,P.underlying T=some (.slice e)/\P.info? e=some i/\i.size=k/\i.bytes=bytes/\i.zero=some z/\z.cells.size=k:=by
 unfold tyEl at h
 cases hu:P.underlying T with
 |none=>simp[hu] at h
 |some d=>
  rw[hu] at h
  cases d<;>simp only[Bool.false_eq_true] at h
  rename_i e'
  simp only[Bool.and_eq_true,beq_iff_eq] at h
  obtain⟨rfl,h⟩:=h
  cases hi:P.info? e' with
  |none=>rw[hi] at h;simp at h
  |some i=>
   rw[hi] at h
   cases hz:i.zero with
   |none=>simp[hz] at h
   |some z=>
    simp only[hz,Bool.and_eq_true,beq_iff_eq] at h
    obtain⟨⟨h1,h2⟩,h3⟩:=h
    exact⟨i,z,rfl,rfl,h1,h2,hz,h3⟩
theorem run_firstCells{P:Program}{w:World}{ad:Addr}{n c k:Nat}(f:Nat->Value)(h:∀j,j<n*k->w.cell? (ad.add j)=some (f j)):
  (Builtin.firstCells k n (.slice (some ad) n c)).run P w=.ok ((List.range (n*k)).map f).toArray w:=by
 simp only[Builtin.firstCells]
 exact run_loadCells w ad (n*k) f h
theorem zeroCells_size(z:Array Value)(n:Nat):(Builtin.zeroCells z n).size=n*z.size:=by simp[Builtin.zeroCells]
theorem run_append_fits{P:Program}{w:World}{T T' e k bytes b n cap off mm:Nat}{arr:Array Value}{x:Value}{news:List Value}(hT:tyEl P T e k bytes=true)(hT':tySS P T'=true)
  (hb:w.heap[b]? = some (.cells arr e (0,0))) (hsz:arr.size=off+cap*k)
  (hlen:(Builtin.lenOf x).run P w=.ok mm w) (hfc:(Builtin.firstCells k mm x).run P w=.ok news.toArray w) (hnl:news.length=mm*k) (h1:∀v,v∈news->v.oneCell'=true)
  (hfit:n+mm<=cap):
  (Builtin.append_ #[T,T'] ty #[.slice (some ⟨b,off,none⟩) n cap,x]).run P w =
   .ok (.slice (some ⟨b,off,none⟩) (n+mm) cap) (w.setRow b (arr.toList.take (off+n*k)++news++arr.toList.drop (off+n*k+news.length)).toArray):=by
 obtain⟨i,z,hu,hi,hs,hby,hz,hzk⟩:=tyEl_inv hT
 have hle:off+n*k+news.length<=arr.size:=by
  have:n*k+mm*k<=cap*k:=by rw[<-Nat.add_mul];exact Nat.mul_le_mul_right _ hfit
  rw[hnl,hsz];omega
 have hst:=run_storeCells_at (P:=P) b (off+n*k) e news 0 arr w hb (by omega) h1
 simp only[Nat.add_zero] at hst
 have hk:P.cellsOf e=k:=by simp[Program.cellsOf,hi,hs]
 rcases tySS_inv hT' with ⟨e',hu'⟩|hu' <;>
 simp only[Builtin.append_,List.getElem?_toArray,List.getElem?_cons_zero,List.getElem?_cons_succ,Sem.run_bind,run_underlying hu,Result.andThen_ok,run_sizeOf w hi,hk,run_underlying hu',pure,Sem.run,
  Bool.false_eq_true,if_false,hlen,if_pos hfit,Bool.not_false,if_true,hfc,add_spot,hst]
theorem room_ok{n mm cap bytes:Nat}(hpos:0<bytes)(hcap:n<=cap)(hfit:¬n+mm<=cap)(hb:(n+mm)*bytes<=140737488355328\/(mm=1/\(n+mm)*bytes<=211106232532992/\bytes<=1000000)):
  n+mm<=281474976710656/\(n+mm)*bytes<=2 ^ 48/\Builtin.nextslicecap (n+mm) cap*bytes<=2 ^ 48:=by
 have h0:n+mm<=(n+mm)*bytes:=Nat.le_mul_of_pos_right _ hpos
 rcases hb with hb|⟨h1,hb,h2⟩
 ·refine⟨by omega,by omega,?_⟩
  have:=Room.nextslicecap_le' (need:=n+mm) (old:=cap) (by omega)
  calc Builtin.nextslicecap (n+mm) cap*bytes<=(2*(n+mm))*bytes:=Nat.mul_le_mul_right _ this
   _=2*((n+mm)*bytes):=by rw[Nat.mul_assoc]
   _<=2 ^ 48:=by omega
 ·subst h1
  have hc:cap=n:=by omega
  subst hc
  refine⟨by omega,by omega,?_⟩
  have hn:Builtin.nextslicecap (cap+1) cap<=cap+cap / 4+512:=by
   unfold Builtin.nextslicecap
   split
   ·omega
   ·split
    ·omega
    ·rw[Room.growBy_four']
     repeat' split
     all_goals omega
  have h3:cap*bytes<=211106232532992:=Nat.le_trans (Nat.mul_le_mul_right _ (Nat.le_succ _)) hb
  have h4:cap / 4*bytes<=52776558133248:=by
   have:cap / 4*4<=cap:=Nat.div_mul_le_self cap 4
   have h5:=Nat.mul_le_mul_right bytes this
   rw[Nat.mul_right_comm] at h5
   omega
  calc Builtin.nextslicecap (cap+1) cap*bytes<=(cap+cap / 4+512)*bytes:=Nat.mul_le_mul_right _ hn
   _=cap*bytes+cap / 4*bytes+512*bytes:=by rw[Nat.add_mul,Nat.add_mul]
   _<=2 ^ 48:=by omega
theorem run_append_grows{P:Program}{w:World}{T T' e k bytes n cap mm:Nat}{s x:Value}{base:Option Addr}{olds news:List Value}(hT:tyEl P T e k bytes=true)(hT':tySS P T'=true)(hs:s=.slice base n cap)
  (hold:(Builtin.firstCells k n s).run P { w with drawn:=w.drawn+1 }=.ok olds.toArray { w with drawn:=w.drawn+1 })
  (hlen:(Builtin.lenOf x).run P w=.ok mm w) (hfc:(Builtin.firstCells k mm x).run P { w with drawn:=w.drawn+1 }=.ok news.toArray { w with drawn:=w.drawn+1 })
  (hol:olds.length=n*k) (hnl:news.length=mm*k)
  (hfit:¬n+mm<=cap) (hneed:n+mm<=281474976710656) (hnext:Builtin.nextslicecap (n+mm) cap*bytes<=2 ^ 48):
  ∃cap' arr',(Builtin.append_ #[T,T'] ty #[s,x]).run P w=.ok (.slice (some ⟨w.heap.size,0,none⟩) (n+mm) cap') { w with drawn:=w.drawn+1,heap:=w.heap.push (.cells arr' e (0,0)) }/\
   n+mm<=cap'/\cap'<=maxLen/\arr'.size=cap'*k/\∀j,j<(n+mm)*k->arr'[j]? = (olds++news)[j]?:=by
 subst hs
 obtain⟨i,z,hu,hi,hs,hby,hz,hzk⟩:=tyEl_inv hT
 have hk:P.cellsOf e=k:=by simp[Program.cellsOf,hi,hs]
 have hmax:IntKind.i64.max=9223372036854775807:=by decide
 let c':=(n+mm)+w.tape w.drawn (.appendCap (n+mm) cap e) % (2 ^ 63 - (n+mm))
 let w1:World:={ w with drawn:=w.drawn+1 }
 have hc':n+mm<=c'/\c'<=maxLen:=by
  have:w.tape w.drawn (.appendCap (n+mm) cap e) % (2 ^ 63 - (n+mm))<2 ^ 63 - (n+mm):=Nat.mod_lt _ (by omega)
  simp only[c',maxLen];omega
 refine⟨c',olds.toArray++news.toArray++Builtin.zeroCells z.cells (c' - (n+mm)),?_,hc'.1,hc'.2,?_,?_⟩
 ·have hask:∀(w:World),(askRoom (c'*bytes)).run P w=.ok () w:=by
   intro w;unfold askRoom;split<;>rfl
  have hch:(choose (.appendCap (n+mm) cap e)).run P w=.ok c' w1:=by simp[choose,Sem.run,Question.forced,Question.cut,c',w1]
  have hzr:(zeroValue e).run P w1=.ok z w1:=by
   simp only[zeroValue,Sem.run_bind,run_typeInfo w1 hi,Result.andThen_ok,hz];rfl
  rcases tySS_inv hT' with ⟨e',hu'⟩|hu'
  all_goals
   simp only[Builtin.append_,List.getElem?_toArray,List.getElem?_cons_zero,List.getElem?_cons_succ,Sem.run_bind,run_underlying hu,Result.andThen_ok,run_sizeOf w hi,hk,run_underlying hu',pure,Sem.run,
    Bool.false_eq_true,if_false,hlen,if_neg hfit,Bool.not_false,if_true,run_typeInfo w hi,hby,false_or]
   rw[if_neg (by omega)]
   simp only[Sem.run_bind,run_typeInfo w hi,Result.andThen_ok,hby]
   rw[if_neg (by omega)]
   simp only[Sem.run_bind,Sem.run,Result.andThen_ok,hch,run_typeInfo w1 hi,hby,hask,hold,hfc,hzr,w1,newRow,newObj,pure]
 ·simp only[Array.size_append,List.size_toArray,hol,hnl,zeroCells_size,hzk]
  rw[<-Nat.add_mul,<-Nat.add_mul];congr 1;omega
 ·intro j hj
  rw[Array.getElem?_append,if_pos (by simp only[Array.size_append,List.size_toArray,hol,hnl];rw[<-Nat.add_mul];exact hj)]
  simp
theorem Rel.drawn(r:Rel K m β w a S)(n:Nat)(hn:w.drawn<=n):Rel K m β { w with drawn:=n } a S:=
 ⟨r.imm,r.ext,r.mold,r.frame,r.size,⟨r.same.os,r.same.tape,r.same.output,trivial⟩,r.tn,r.df,r.env,fun id=>ObOk.congr (w:=w) (fun _ _ _=>rfl) (fun _ _=>rfl) (r.own id),r.priv,r.inj,fun id x hl hx=>⟨(r.hid id x hl hx).lt,(r.hid id x hl hx).m,(r.hid id x hl hx).old,(r.hid id x hl hx).ne,(r.hid id x hl hx).un⟩,r.nx,r.pin⟩
theorem Rel.kill(r:Rel K m β w a S)(id:Nat):Rel K m β w a ⟨S.env,(id,.dead)::S.hp,S.nx⟩:=by
 have live:∀i,hget ((id,.dead)::S.hp) i≠.dead->hget S.hp i≠.dead:=by
  intro i hi
  rw[hget_put] at hi
  split at hi
  ·exact absurd rfl hi
  ·exact hi
 refine⟨r.imm,r.ext,r.mold,r.frame,r.size,r.same,r.tn,r.df,r.env,fun i=>?_,fun i b c h=>r.priv i b c (live i h),fun i i' b c c' h h'=>r.inj i i' b c c' (live i h) (live i' h'),fun i x h hx=>⟨(r.hid i x (live i h) hx).lt,(r.hid i x (live i h) hx).m,(r.hid i x (live i h) hx).old,fun i' b c h'=>(r.hid i x (live i h) hx).ne i' b c (live i' h'),fun i' h'=>(r.hid i x (live i h) hx).un i' (live i' h')⟩,r.nx,r.pin⟩
 show ObOk m β w (β.hid i) (β i) (hget ((id,.dead)::S.hp) i)
 rw[hget_put]
 split
 ·exact ObOk.dead' _
 ·exact r.own i
theorem Rel.moveG(r:Rel K m β w a S)(id idn nx':Nat)(hfree:β idn=none)(hpid:∀q,q<K.pins->q≠idn)(hidn:idn<nx')(hnn:S.nx<=nx'){ob:Ob}(ho:hget S.hp id=ob)(hl:ob≠.dead)(hl2:ob≠.res):∃β':Locs,β.le β'/\β' idn=β id/\Rel K m β' w a ⟨S.env,(idn,ob)::(id,.dead)::S.hp,nx'⟩:=by
 let β':Locs:=⟨fun i=>if i=idn then β id else β i,fun i=>if i=idn then β.hid id else β.hid i⟩
 have en:β' idn=β id:=by show(if _ then _ else _)=_;rw[if_pos rfl]
 have eo:∀i,i≠idn->β' i=β i:=fun i h=>by show(if _ then _ else _)=_;rw[if_neg h]
 have hn:β'.hid idn=β.hid id:=by show(if _ then _ else _)=_;rw[if_pos rfl]
 have hho:∀i,i≠idn->β'.hid i=β.hid i:=fun i h=>by show(if _ then _ else _)=_;rw[if_neg h]
 have hle:β.le β':=by
  intro i l h
  rw[eo i]
  ·exact h
  ·intro e;rw[e,hfree] at h;simp at h
 have hne:id≠idn:=by
  intro e
  have:=r.own id
  rw[ho,e,hfree] at this
  cases ob<;>simp[ObOk] at this hl hl2
 -- the object at a number, and where it was
 have key:∀i,hget ((idn,ob)::(id,.dead)::S.hp) i≠.dead->∃j,(i=idn/\j=id\/i≠idn/\i≠id/\j=i)/\β' i=β j/\β'.hid i=β.hid j/\hget ((idn,ob)::(id,.dead)::S.hp) i=hget S.hp j:=by
  intro i hi
  rw[hget_put] at hi ⊢
  by_cases h:idn=i
  ·subst h;exact⟨id,.inl ⟨rfl,rfl⟩,en,hn,by simp[ho]⟩
  ·rw[if_neg h] at hi ⊢
   rw[hget_put] at hi ⊢
   by_cases h2:id=i
   ·rw[if_pos h2] at hi;exact absurd rfl hi
   ·rw[if_neg h2];exact⟨i,.inr ⟨Ne.symm h,Ne.symm h2,rfl⟩,eo i (Ne.symm h),hho i (Ne.symm h),rfl⟩
 have back:∀i j i' j',(i=idn/\j=id\/i≠idn/\i≠id/\j=i)->(i'=idn/\j'=id\/i'≠idn/\i'≠id/\j'=i')->j=j'->i=i':=by
  intro i j i' j' h1 h1' this
  rcases h1 with ⟨e1,e2⟩|⟨e1,e2,e3⟩<;>rcases h1' with ⟨f1,f2⟩|⟨f1,f2,f3⟩
  ·rw[e1,f1]
  ·exfalso;apply f2;rw[<-f3,<-this,e2]
  ·exfalso;apply e2;rw[<-e3,this,f2]
  ·rw[<-e3,<-f3,this]
 refine⟨β',hle,en,?_⟩
 refine⟨r.imm,r.ext,r.mold,r.frame,r.size,r.same,r.tn,r.df,fun t=>(r.env t).mono (Mem.le_refl _) hle,fun i=>?_,fun i b c h hb=>?_,fun i i' b c c' h h' hb hb'=>?_,fun i x h hx=>?_,fun i hi=>?_,fun q hq=>?_⟩
 ·by_cases hd:hget ((idn,ob)::(id,.dead)::S.hp) i=.dead
  ·show ObOk m β' w _ _ (hget ((idn,ob)::(id,.dead)::S.hp) i);rw[hd];exact ObOk.dead' _
  ·obtain⟨j,_,h2,h2',h3⟩:=key i hd
   show ObOk m β' w _ _ (hget ((idn,ob)::(id,.dead)::S.hp) i)
   rw[h2,h2',h3]
   exact ObOk.mono (Mem.le_refl _) hle (fun _ _ h=>h) (fun _ _=>rfl) (r.own j)
 ·obtain⟨j,_,h2,_,h3⟩:=key i h
  rw[h2] at hb
  exact r.priv j b c (by rw[<-h3];exact h) hb
 ·obtain⟨j,h1,h2,_,h3⟩:=key i h
  obtain⟨j',h1',h2',_,h3'⟩:=key i' h'
  rw[h2] at hb;rw[h2'] at hb'
  exact back _ _ _ _ h1 h1' (r.inj j j' b c c' (by rw[<-h3];exact h) (by rw[<-h3'];exact h') hb hb')
 ·obtain⟨j,h1,h2,h2h,h3⟩:=key i h
  rw[h2h] at hx
  have q:=r.hid j x (by rw[<-h3];exact h) hx
  refine⟨q.lt,q.m,q.old,fun i' b c h' hb'=>?_,fun i' h' hx'=>?_⟩
  ·obtain⟨j',h1',h2',_,h3'⟩:=key i' h'
   rw[h2'] at hb'
   exact q.ne j' b c (by rw[<-h3'];exact h') hb'
  ·obtain⟨j',h1',h2',h2h',h3'⟩:=key i' h'
   rw[h2h'] at hx'
   exact back _ _ _ _ h1' h1 (q.un j' (by rw[<-h3'];exact h') hx')
 ·have hi':nx'<=i:=hi
  rw[eo i (by omega)]
  exact r.nx i (by omega)
 ·obtain⟨h1,h2⟩:=r.pin q hq
  exact⟨Nat.lt_of_lt_of_le h1 hnn,by rw[<-h2];exact eo q (hpid q hq)⟩
theorem Rel.move(r:Rel K m β w a S)(id:Nat){ob:Ob}(ho:hget S.hp id=ob)(hl:ob≠.dead)(hl2:ob≠.res):∃β':Locs,β.le β'/\β' S.nx=β id/\Rel K m β' w a ⟨S.env,(S.nx,ob)::(id,.dead)::S.hp,S.nx+1⟩:=
 r.moveG id S.nx (S.nx+1) (r.nx _ (Nat.le_refl _)) (fun q hq=>Nat.ne_of_lt (r.pin q hq).1) (Nat.lt_succ_self _) (Nat.le_succ _) ho hl hl2
def Nil(n:Nat):Hy:=fun m β m' β'=>m'=m/\β.le β'/\β' n=some none
instance {n:Nat}:HyMC (Nil n):=⟨fun m β m' β' hy=>by rw[hy.1];exact Mem.le_refl _⟩
theorem Sub.keepNil{n:Nat}{v:V}:Sub (Nil n) v v:=fun _ _ _ _ _ hy hx=>by
 obtain⟨rfl,h,_⟩:=hy
 exact hx.mono (Mem.le_refl _) h
theorem Sub.mkNil{n:Nat}:Sub (Nil n) (.own n 0) (.con (.slice none 0 0)):=fun _ _ _ _ _ hy hx=>by
 rw[hx.of_con];exact .ownNil hy.2.2
theorem ghost_nil(e:TypeId)(k:Nat)(env:Env)(hp:Heap)(henv:∀t,Sub (Nil S.nx) (get env t) (get S.env t))(hhp:∀i,ObSub (Nil S.nx) (hget hp i) (hget S.hp i)):
  Ghost K S ⟨env,(S.nx,.arr e k [])::hp,S.nx+1⟩:=by
 intro m β w a r
 let β':Locs:=⟨fun i=>if i=S.nx then some none else β i,fun i=>if i=S.nx then fun _=>False else β.hid i⟩
 have en:β' S.nx=some none:=by show(if _ then _ else _)=_;rw[if_pos rfl]
 have eo:∀i,i≠S.nx->β' i=β i:=fun i h=>by show(if _ then _ else _)=_;rw[if_neg h]
 have hn:β'.hid S.nx=fun _=>False:=by show(if _ then _ else _)=_;rw[if_pos rfl]
 have hho:∀i,i≠S.nx->β'.hid i=β.hid i:=fun i h=>by show(if _ then _ else _)=_;rw[if_neg h]
 have hle:β.le β':=by
  intro i l h
  rw[eo i]
  ·exact h
  ·intro e;rw[e,r.nx _ (Nat.le_refl _)] at h;simp at h
 have hy:Nil S.nx m β m β':=⟨rfl,hle,en⟩
 have hdead:∀i,hget hp i≠.dead->hget S.hp i≠.dead:=by
  intro i h hd
  have h2:=hhp i
  rw[hd] at h2
  cases ho':hget hp i with
  |dead=>exact h ho'
  |arr=>rw[ho'] at h2;simp[ObSub] at h2
  |res=>rw[ho'] at h2;simp[ObSub] at h2
  |map=>rw[ho'] at h2;simp[ObSub] at h2
  |iter=>rw[ho'] at h2;simp[ObSub] at h2
  |bld=>rw[ho'] at h2;simp[ObSub] at h2
 have hlive:∀i b c,hget ((S.nx,.arr e k [])::hp) i≠.dead->β' i=some (some (b,c))->hget S.hp i≠.dead/\β i=some (some (b,c)):=by
  intro i b c h hb
  rw[hget_put] at h
  by_cases hi:S.nx=i
  ·subst hi;rw[en] at hb;simp at hb
  ·rw[if_neg hi] at h
   exact⟨hdead i h,by rw[eo i (Ne.symm hi)] at hb;exact hb⟩
 refine⟨m,β',r.imm,r.ext,r.mold,r.frame,r.size,r.same,r.tn,r.df,fun t=>henv t _ _ _ _ _ hy (r.env t),fun i=>?_,fun i b c h hb=>?_,fun i i' b c c' h h' hb hb'=>?_,fun i x h hx=>?_,fun i hi=>?_,fun q hq=>?_⟩
 ·show ObOk m β' w (β'.hid i) (β' i) (hget ((S.nx,.arr e k [])::hp) i)
  rw[hget_put]
  by_cases hi:S.nx=i
  ·subst hi;rw[if_pos rfl,en];simp[ObOk]
  ·rw[if_neg hi]
   have h2:=hhp i
   rw[eo i (Ne.symm hi),hho i (Ne.symm hi)]
   exact h2.ok hy (r.own i)
 ·obtain⟨h1,h2⟩:=hlive i b c h hb
  exact r.priv i b c h1 h2
 ·obtain⟨h1,h2⟩:=hlive i b c h hb
  obtain⟨h1',h2'⟩:=hlive i' b c' h' hb'
  exact r.inj i i' b c c' h1 h1' h2 h2'
 ·have h0:hget ((S.nx,.arr e k [])::hp) i≠.dead:=h
  rw[hget_put] at h0
  by_cases hi:S.nx=i
  ·subst hi;rw[hn] at hx;exact hx.elim
  ·rw[if_neg hi] at h0;rw[hho i (Ne.symm hi)] at hx
   have q:=r.hid i x (hdead i h0) hx
   refine⟨q.lt,q.m,q.old,fun i' b c h' hb'=>?_,fun i' h' hx'=>?_⟩
   ·obtain⟨h1,h2⟩:=hlive i' b c h' hb'
    exact q.ne i' b c h1 h2
   ·have h0':hget ((S.nx,.arr e k [])::hp) i'≠.dead:=h'
    rw[hget_put] at h0'
    by_cases hi':S.nx=i'
    ·subst hi';rw[hn] at hx';exact hx'.elim
    ·rw[if_neg hi'] at h0';rw[hho i' (Ne.symm hi')] at hx'
     exact q.un i' (hdead i' h0') hx'
 ·have hi':S.nx+1<=i:=hi
  rw[eo i (by omega)]
  exact r.nx i (by omega)
 ·obtain⟨h1,h2⟩:=r.pin q hq
  exact⟨Nat.lt_succ_of_lt h1,by rw[<-h2];exact eo q (by omega)⟩
end
section
variable{K:Ctx}{Q:Post}{S S':St}{ops:Array Oper}{rest:List Oper}{op:Op}{ty:TypeId}{pos:String}{after:Array Edge}{g:Option (Nat×Bool)}
variable{m:Mem}{β:Locs}{w:World}{a:Act}
inductive Src(S:St)(k:Nat):V->List (List V)->Prop
 |own {id:Nat} {e:TypeId} {rows:List (List V)} {n:Nat} (ho:hget S.hp id=.arr e k rows) (hn:rows.length=n) (hd:∀row,row∈rows->∀c,c∈row->c.deep=false):Src S k (.own id n) rows
 |lst {rows:List (List V)} (h:∀row,row∈rows->row.all oneV=true):Src S k (.lst k rows) rows
 |nil:Src S k (.con (.slice none 0 0)) []
 |str {s:List UInt8} {rows:List (List V)} (hk:k=1) (hr:rows=s.map fun c=>[V.con (.int .u8 (c.toNat:Int))]):Src S k (.con (.string ⟨s.toArray⟩)) rows
theorem row_index{k p n:Nat}(hk:0<k)(h:p<n*k):p / k<n/\p % k<k/\p / k*k+p % k=p:=
 ⟨(Nat.div_lt_iff_lt_mul hk).2 h,Nat.mod_lt _ hk,Nat.div_add_mod' p k⟩
theorem Src.read{k:Nat}{sv:V}{rows:List (List V)}(hk:0<k)(h:Src S k sv rows)(r:Rel K m β w a S){x:Value}(hx:VRel m β sv x):
  ∃news:List Value,(∀w':World,w'.heap=w.heap->(Builtin.lenOf x).run K.P w'=.ok rows.length w'/\(Builtin.firstCells k rows.length x).run K.P w'=.ok news.toArray w')/\news.length=rows.length*k/\
   (∀v,v∈news->v.oneCell'=true)/\(∀row,row∈rows->row.length=k)/\
   ∀(i j:Nat) (row:List V) (c:V),rows[i]? = some row->row[j]? = some c->∃v,news[i*k+j]? = some v/\VRel m β c v/\v.oneCell'=true:=by
 -- from cells to the list
 have mk:∀(ad:Addr) (n cap:Nat) (arr:Array Value) (T:TypeId) (fr:Nat×Nat) (f:Nat->Value),ad.spot=none->w.heap[ad.block]? = some (.cells arr T fr)->rows.length=n->(∀row,row∈rows->row.length=k)->
   (∀i,i<rows.length*k->arr[ad.off+i]? = some (f i))->
   (∀(i j:Nat) (row:List V) (c:V),rows[i]? = some row->row[j]? = some c->VRel m β c (f (i*k+j))/\(f (i*k+j)).oneCell'=true)->
   ∃news:List Value,(∀w':World,w'.heap=w.heap->(Builtin.lenOf (.slice (some ad) n cap)).run K.P w'=.ok rows.length w'/\(Builtin.firstCells k rows.length (.slice (some ad) n cap)).run K.P w'=.ok news.toArray w')/\news.length=rows.length*k/\
   (∀v,v∈news->v.oneCell'=true)/\(∀row,row∈rows->row.length=k)/\
   ∀(i j:Nat) (row:List V) (c:V),rows[i]? = some row->row[j]? = some c->∃v,news[i*k+j]? = some v/\VRel m β c v/\v.oneCell'=true:=by
  intro ad n cap arr T fr f hs hh hn hr hf hc
  subst hn
  refine⟨(List.range (rows.length*k)).map f,fun w' hw'=>⟨rfl,?_⟩,by simp,?_,hr,?_⟩
  ·refine run_firstCells f fun j hj=>?_
   rw[addr_eta hs,add_spot,cell_of_heap (arr:=arr) (T:=T) (fr:=fr) (by rw[hw'];exact hh)]
   exact hf j hj
  ·intro v hv
   simp only[List.mem_map,List.mem_range] at hv
   obtain⟨p,hp,rfl⟩:=hv
   obtain⟨h1,h2,h3⟩:=row_index hk hp
   have hrow:=hr _ (List.getElem_mem h1)
   have:=(hc (p / k) (p % k) _ _ (List.getElem?_eq_getElem h1) (List.getElem?_eq_getElem (by rw[hrow];exact h2))).2
   rw[h3] at this
   exact this
  ·intro i j row c hi hj
   have hrow:=hr _ (List.mem_of_getElem? hi)
   have hj':j<k:=by rw[<-hrow];exact(List.getElem?_eq_some_iff.1 hj).1
   have hi':=(List.getElem?_eq_some_iff.1 hi).1
   have hlt:i*k+j<rows.length*k:=by
    calc i*k+j<i*k+k:=by omega
     _=(i+1)*k:=by rw[Nat.add_mul,Nat.one_mul]
     _<=rows.length*k:=Nat.mul_le_mul_right _ hi'
   exact⟨f (i*k+j),by rw[List.getElem?_map,List.getElem?_range hlt];rfl,hc i j row c hi hj⟩
 have empty:∀(ad:Option Addr) (cap:Nat),rows=[]->∃news:List Value,(∀w':World,w'.heap=w.heap->(Builtin.lenOf (.slice ad 0 cap)).run K.P w'=.ok rows.length w'/\(Builtin.firstCells k rows.length (.slice ad 0 cap)).run K.P w'=.ok news.toArray w')/\news.length=rows.length*k/\
   (∀v,v∈news->v.oneCell'=true)/\(∀row,row∈rows->row.length=k)/\
   ∀(i j:Nat) (row:List V) (c:V),rows[i]? = some row->row[j]? = some c->∃v,news[i*k+j]? = some v/\VRel m β c v/\v.oneCell'=true:=by
  rintro ad cap rfl
  refine⟨[],fun w' _=>⟨rfl,?_⟩,by simp,by simp,by simp,by simp⟩
  cases ad<;>simp[Builtin.firstCells,loadCells,loadCellsFrom,pure]
 cases h with
 | @own id e _ n ho hn hd=>
  subst hn
  generalize hlen:rows.length=n at hx
  cases hx with
  |imm h=>cases h
  |ownNil h=>have h0:=List.length_eq_zero_iff.1 hlen;subst h0;exact empty _ _ rfl
  | @own _ _ b cap hb=>
   obtain⟨arr,bl,h1,h2,h3,h4,h5,_,h6⟩:=r.obj hb ho
   subst hlen
   refine mk ⟨b,cap.off,none⟩ _ cap.n arr e (0,0) (fun i=>arr.getD (cap.off+i) undef) rfl h1 rfl h5 ?_ ?_
   ·intro i hi
    have:cap.off+i<arr.size:=by rw[h2];have:=Nat.lt_of_lt_of_le hi (Nat.mul_le_mul_right k h3);omega
    simp[Array.getD_eq_getD_getElem?,this]
   ·intro i j row c hi hj
    obtain⟨v,a1,a2,a3⟩:=h6 i j row c hi hj
    simp only[Array.getD_eq_getD_getElem?,a1,Option.getD_some]
    exact⟨a2.v (hd row (List.mem_of_getElem? hi) c (List.mem_of_getElem? hj)),a3⟩
 |lst hone=>
  cases hx with
  |imm h=>
   cases h with
   |nil=>exact empty _ _ rfl
   | @lst _ _ ad n cap arr T fr f hm hs hn hcap hbd hkk hf h=>
    refine mk ad n cap arr T fr f hs (r.imm _ _ hm) hn hkk hf ?_
    intro i j row c hi hj
    have h1:=VRel.imm (β:=β) (h i j row c hi hj)
    exact⟨h1,h1.one (List.all_eq_true.1 (hone row (List.mem_of_getElem? hi)) c (List.mem_of_getElem? hj))⟩
 |nil=>rw[hx.of_con];exact empty _ _ rfl
 | @str s _ hk1 hr=>
  subst hk1 hr
  rw[hx.of_con]
  refine⟨s.map fun c=>.int .u8 (c.toNat:Int),fun w' _=>⟨by simp[Builtin.lenOf,ByteArray.size,pure],?_⟩,by simp,by simp[Value.oneCell'],by simp,?_⟩
  ·have hl:(s.map fun c=>[V.con (.int .u8 (c.toNat:Int))]).length=(⟨s.toArray⟩:ByteArray).size:=by simp[ByteArray.size]
   rw[hl]
   simp only[Builtin.firstCells,pure,Sem.run,ByteArray.extract_zero_size]
   congr 1
   apply Array.ext'
   simp
  ·intro i j row c hi hj
   rw[List.getElem?_map] at hi
   cases hs:s[i]? with
   |none=>rw[hs] at hi;cases hi
   |some u=>
    rw[hs] at hi
    cases hi
    cases j with
    |zero=>cases hj;exact⟨.int .u8 (u.toNat:Int),by simp[hs],.imm (.con _),rfl⟩
    |succ j=>simp at hj
theorem aops_appendG{d T T' e k bytes n n' id:Nat}{s x:Operand}{sv:V}{rows:List (List V)}(idn nx':Nat)(hfree:∀m β w a,Rel K m β w a S->β idn=none/\∀q,q<K.pins->q≠idn)(hidn:idn<nx')(hnn:S.nx<=nx')(rows2 rows':List (List V))(hT:tyEl K.P T e k bytes=true)(hT':tySS K.P T'=true)
  (hpos:Nat.blt 0 bytes=true) (hkp:Nat.blt 0 k=true)
  (hw:Wants ops S ⟨some d,.call ⟨.builtin .append,#[s,x],#[T,T']⟩,ty,pos,after,g⟩ true)
  (hs:evl K S s=.own id n) (ho:hget S.hp id=.arr e k rows) (hn:rows.length=n) (hx:evl K S x=sv) (hsrc:Src S k sv rows2)
  (hr:rows++rows2=rows') (hn':rows'.length=n') (hb:n'*bytes<=140737488355328\/(rows2.length=1/\n'*bytes<=211106232532992/\bytes<=1000000)) (hN:Nat.blt d K.N=true)
  (kk:AOps K ops rest Q ⟨(d,.own idn n')::S.env,(idn,.arr e k rows')::(id,.dead)::S.hp,nx'⟩):
  AOps K ops (⟨some d,.call ⟨.builtin .append,#[s,x],#[T,T']⟩,ty,pos,after,g⟩::rest) Q S:=by
 refine aops_runs hw (fun m β w a r=>?_) kk
 have hpos:=Nat.le_of_ble_eq_true hpos
 have hkp:0<k:=Nat.le_of_ble_eq_true hkp
 obtain⟨news,n1,n2,n3,n4,n5⟩:=hsrc.read hkp r (by rw[<-hx];exact r.reads x)
 have hlen:n'=n+rows2.length:=by rw[<-hn',<-hr,List.length_append,hn]
 have hsv:=r.reads s
 rw[hs] at hsv
 have hop:∀(v:Value) (w':World),(Builtin.append_ #[T,T'] ty #[a.eval s,a.eval x]).run K.P w=.ok v w'->
   (execOp a.eval ⟨some d,.call ⟨.builtin .append,#[s,x],#[T,T']⟩,ty,pos,after,g⟩).run K.P w=.ok (.value v) w':=by
  intro v w' h
  refine run_builtin rfl ?_
  simp only[builtin,List.map_toArray,List.map_cons,List.map_nil,Sem.run_bind,h,Result.andThen_ok]
  rfl
 -- rows of the result
 have hrows':∀row,row∈rows'->(∀row,row∈rows->row.length=k)->row.length=k:=by
  intro row h h5
  rw[<-hr] at h
  rcases List.mem_append.1 h with h|h
  ·exact h5 row h
  ·exact n4 row h
 have hcells:∀(β':Locs) (w':World) (bl:Nat->Nat->Prop) (off:Nat) (old:Nat->Option Value) (arr':Array Value),β.le β'->(∀p x,bl p x->w'.heap[x]? = w.heap[x]?)->(∀row,row∈rows->row.length=k)->
   (∀(i j:Nat) (row:List V) (c:V),rows[i]? = some row->row[j]? = some c->∃v,old (i*k+j)=some v/\CRel m β w (bl (i*k+j)) c v/\v.oneCell'=true)->
   (∀p,p<n*k->arr'[off+p]? = old p)->(∀p,p<rows2.length*k->arr'[off+(n*k+p)]? = news[p]?)->
   ∀(i j:Nat) (row:List V) (c:V),rows'[i]? = some row->row[j]? = some c->∃v,arr'[off+(i*k+j)]? = some v/\CRel m β' w' (bl (i*k+j)) c v/\v.oneCell'=true:=by
  intro β' w' bl off old arr' hle hbl h5 h6 ha hb' i j row c hi hj
  have hrk:=hrows' row (List.mem_of_getElem? hi) h5
  have hjk:j<k:=by rw[<-hrk];exact(List.getElem?_eq_some_iff.1 hj).1
  rw[<-hr,List.getElem?_append] at hi
  have hmul:∀p q:Nat,p<q->p*k+j<q*k:=by
   intro p q hpq
   calc p*k+j<p*k+k:=by omega
    _=(p+1)*k:=by rw[Nat.add_mul,Nat.one_mul]
    _<=q*k:=Nat.mul_le_mul_right _ hpq
  split at hi
  ·rename_i hlt
   obtain⟨v,a1,a2,a3⟩:=h6 i j row c hi hj
   exact⟨v,by rw[ha _ (by rw[<-hn];exact hmul _ _ hlt)];exact a1,a2.mono (Mem.le_refl _) hle (fun _ h=>h) (fun x hx=>hbl _ x hx),a3⟩
  ·rename_i hlt
   obtain⟨v,a1,a2,a3⟩:=n5 (i - rows.length) j row c hi hj
   have hi2:=(List.getElem?_eq_some_iff.1 hi).1
   have e1:i*k+j=n*k+((i - rows.length)*k+j):=by
    rw[<-Nat.add_assoc,<-Nat.add_mul];congr 2;omega
   refine⟨v,?_,.inl (a2.mono (Mem.le_refl _) hle),a3⟩
   rw[e1,hb' _ (hmul _ _ hi2)]
   exact a1
 -- a new block
 have hlid:hget S.hp id≠.dead:=by rw[ho];simp
 have grows:∀(bl:Nat->Nat->Prop) (hBl:Bls (β.hid id) bl) (olds:List Value) (base:Option Addr) (cap:Nat),a.eval s=.slice base n cap->(∀w':World,w'.heap=w.heap->(Builtin.firstCells k n (.slice base n cap)).run K.P w'=.ok olds.toArray w')->olds.length=n*k->
   n<=cap->¬n+rows2.length<=cap->(∀row,row∈rows->row.length=k)->
   (∀(i j:Nat) (row:List V) (c:V),rows[i]? = some row->row[j]? = some c->∃v,olds[i*k+j]? = some v/\CRel m β w (bl (i*k+j)) c v/\v.oneCell'=true)->
   ∃v w' m' β',((execOp a.eval ⟨some d,.call ⟨.builtin .append,#[s,x],#[T,T']⟩,ty,pos,after,g⟩).run K.P w=.ok (.value v) w'\/v=undef/\(execOp a.eval ⟨some d,.call ⟨.builtin .append,#[s,x],#[T,T']⟩,ty,pos,after,g⟩).run K.P w=.ok .skip w')/\
    Rel K m' β' w' (a.put (some d) v) ⟨(d,.own idn n')::S.env,(idn,.arr e k rows')::(id,.dead)::S.hp,nx'⟩:=by
  intro bl hBl olds base cap hsx hold hol hcap hfit h5 h6
  obtain⟨q1,_,q3⟩:=room_ok (mm:=rows2.length) hpos hcap hfit (by rw[<-hlen];exact hb)
  obtain⟨cap',arr',b1,b2,b3,b4,b5⟩:=run_append_grows (ty:=ty) hT hT' rfl (hold { w with drawn:=w.drawn+1 } rfl) (n1 w rfl).1 (n1 { w with drawn:=w.drawn+1 } rfl).2 hol n2 hfit q1 q3
  have r1:=(r.drawn (w.drawn+1) (Nat.le_succ _)).kill id
  have hdd:∀i,hget ((id,.dead)::S.hp) i≠.dead->hget S.hp i≠.dead/\i≠id:=by
   intro i hi
   rw[hget_put] at hi
   split at hi
   ·exact absurd rfl hi
   ·rename_i h;exact⟨hi,Ne.symm h⟩
  obtain⟨β',hle,hnx,r2⟩:=r1.allocG idn nx' (hfree m β w a r).1 (hfree m β w a r).2 hidn hnn (.cells arr' e (0,0)) (.arr e k rows') ⟨cap',0⟩ _ rfl (β.hid id)
   (fun x hx=>let q:=r.hid id x hlid hx;⟨q.lt,q.m,q.old,fun i b c hi hb=>q.ne i b c (hdd i hi).1 hb,fun i hi hx'=>(hdd i hi).2 (q.un i (hdd i hi).1 hx')⟩) (fun β' hle=>by
   refine obok_new (vs:=arr') bl hBl (by simp) (by simpa using b4) (by rw[hn',hlen];exact b2) b3 (fun row h=>hrows' row h h5) ?_
   refine hcells β' _ bl 0 (fun p=>olds[p]?) arr' hle (fun p x hx=>?_) h5 h6 ?_ ?_
   ·have:=(r.hid id x hlid (hBl.1 p x hx)).lt
    simp only[Array.getElem?_push];rw[if_neg (by omega)]
   ·intro p hp
    rw[Nat.zero_add,b5 p (Nat.lt_of_lt_of_le hp (Nat.mul_le_mul_right _ (by omega))),List.getElem?_append,if_pos (by rw[hol];exact hp)]
   ·intro p hp
    rw[Nat.zero_add,b5 _ (by rw[Nat.add_mul];omega),List.getElem?_append,if_neg (by rw[hol];omega),hol,Nat.add_sub_cancel_left])
  refine⟨.slice (some ⟨w.heap.size,0,none⟩) n' cap',{ w with drawn:=w.drawn+1,heap:=w.heap.push (.cells arr' e (0,0)) },m,β',.inl ?_,?_⟩
  ·refine hop _ _ ?_
   rw[hsx,b1,hlen]
  ·exact Rel.put r2 hN (.own hnx)
 generalize hsx:a.eval s=sx at hsv
 cases hsv with
 |imm h=>cases h
 | @ownNil _ ad hbn=>
  have h0:=r.own id
  rw[hbn,ho] at h0
  have h0:rows=[]:=h0
  subst h0
  by_cases hfit:0+rows2.length<=0
  ·have h2:rows2=[]:=List.length_eq_zero_iff.1 (by omega)
   subst h2
   have h3:rows'=[]:=by rw[<-hr];rfl
   subst h3
   have hn0:n'=0:=by simpa using hn'.symm
   subst hn0
   obtain⟨β',hle,hnx,r2⟩:=r.moveG id idn nx' (hfree m β w a r).1 (hfree m β w a r).2 hidn hnn ho (by simp) (by simp)
   refine⟨.slice ad 0 0,w,m,β',.inl ?_,Rel.put r2 hN (.ownNil (by rw[hnx];exact hbn))⟩
   refine hop _ _ ?_
   rw[hsx]
   obtain⟨i,z,hu,hi,hs',hby,hz,hzk⟩:=tyEl_inv hT
   have hk:K.P.cellsOf e=k:=by simp[Program.cellsOf,hi,hs']
   obtain⟨q1,q2⟩:=n1 w rfl
   have hnews:news=[]:=List.length_eq_zero_iff.1 (by simpa using n2)
   subst hnews
   simp only[List.length_nil] at q2
   rcases tySS_inv hT' with ⟨e',hu'⟩|hu'
   all_goals
    simp only[Builtin.append_,List.getElem?_toArray,List.getElem?_cons_zero,List.getElem?_cons_succ,Sem.run_bind,run_underlying hu,Result.andThen_ok,run_sizeOf w hi,hk,run_underlying hu',pure,Sem.run,
     Bool.false_eq_true,if_false,q1,List.length_nil,Nat.add_zero,Nat.le_refl,if_true,Bool.not_false]
    cases ad<;>simp[q2,storeCells,pure,Sem.run]
  ·exact grows _ bls_none [] ad 0 hsx (fun w' _=>by cases ad<;>simp[Builtin.firstCells,loadCells,loadCellsFrom,pure]) (by simp) (Nat.zero_le _) hfit (by simp) (by simp)
 | @own _ _ b cap hbb=>
  obtain⟨arr,bl,h1,h2,h3,h4,h5,hBl,h6⟩:=r.obj hbb ho
  have hnk:cap.off+n*k<=arr.size:=by rw[h2,<-hn];have:=Nat.mul_le_mul_right k h3;omega
  by_cases hfit:n+rows2.length<=cap.n
  ·have hrun:=run_append_fits (ty:=ty) hT hT' h1 h2 (n1 w rfl).1 (n1 w rfl).2 n2 n3 hfit
   have hle2:cap.off+n*k+news.length<=arr.size:=by
    have:n*k+rows2.length*k<=cap.n*k:=by rw[<-Nat.add_mul];exact Nat.mul_le_mul_right _ hfit
    rw[n2,h2];omega
   have hgt:∀p,(arr.toList.take (cap.off+n*k)++news++arr.toList.drop (cap.off+n*k+news.length)).toArray[p]? = if cap.off+n*k<=p/\p<cap.off+n*k+news.length then news[p - (cap.off+n*k)]? else arr[p]?:=by
    intro p
    rw[List.getElem?_toArray,splice_get _ _ _ (by simpa using hle2)]
    split<;>simp
   have r1:=r.update (id:=id) (ob:=.arr e k rows') (by rw[ho];simp) hbb (w.setRow b (arr.toList.take (cap.off+n*k)++news++arr.toList.drop (cap.off+n*k+news.length)).toArray) (fun b' hb'=>heap_setRow hb') (by simp[World.setRow]) ⟨rfl,rfl,rfl,trivial⟩ (fun hkeep=>by
    refine obok_new bl hBl (heap_setRow_self h1) ?_ (by rw[hn',hlen];exact hfit) h4 (fun row h=>hrows' row h h5) ?_
    ·have:(arr.toList.take (cap.off+n*k)++news++arr.toList.drop (cap.off+n*k+news.length)).length=arr.size:=by
      simp only[List.length_append,List.length_take,List.length_drop,Array.length_toList];omega
     rw[List.size_toArray,this,h2]
    ·refine hcells β _ bl cap.off (fun p=>arr[cap.off+p]?) _ (Locs.le_refl _) (fun p x hx=>hkeep x (hBl.1 p x hx)) h5 h6 ?_ ?_
     ·intro p hp;rw[hgt,if_neg (by omega)]
     ·intro p hp;rw[hgt,if_pos (by rw[n2];omega)];congr 1;omega)
   obtain⟨β',hle,hnx,r2⟩:=r1.moveG id idn nx' (hfree m β w a r).1 (hfree m β w a r).2 hidn hnn (ob:=.arr e k rows') (by rw[hget_put];simp) (by simp) (by simp)
   have r3:Rel K m β' (w.setRow b (arr.toList.take (cap.off+n*k)++news++arr.toList.drop (cap.off+n*k+news.length)).toArray) a ⟨S.env,(idn,.arr e k rows')::(id,.dead)::S.hp,nx'⟩:=by
    have hsame:∀i,hget ((idn,Ob.arr e k rows')::(id,.dead)::(id,.arr e k rows')::S.hp) i=hget ((idn,Ob.arr e k rows')::(id,.dead)::S.hp) i:=by
     intro i
     simp only[hget_put]
     by_cases q1:idn=i
     ·rw[if_pos q1,if_pos q1]
     ·rw[if_neg q1,if_neg q1]
      by_cases q2:id=i
      ·rw[if_pos q2,if_pos q2]
      ·rw[if_neg q2,if_neg q2,if_neg q2]
    exact⟨r2.imm,r2.ext,r2.mold,r2.frame,r2.size,r2.same,r2.tn,r2.df,r2.env,fun i=>by have:=r2.own i;simp only[hsame] at this;exact this,
     fun i b c h=>r2.priv i b c (by simp only[hsame];exact h),fun i i' b c c' h h'=>r2.inj i i' b c c' (by simp only[hsame];exact h) (by simp only[hsame];exact h'),
     fun i x h hx=>let q:=r2.hid i x (by simp only[hsame];exact h) hx;⟨q.lt,q.m,q.old,fun i' b c h'=>q.ne i' b c (by simp only[hsame];exact h'),fun i' h'=>q.un i' (by simp only[hsame];exact h')⟩,r2.nx,r2.pin⟩
   refine⟨.slice (some ⟨b,cap.off,none⟩) n' cap.n,w.setRow b (arr.toList.take (cap.off+n*k)++news++arr.toList.drop (cap.off+n*k+news.length)).toArray,m,β',.inl ?_,Rel.put r3 hN (.own (by rw[hnx];exact hbb))⟩
   refine hop _ _ ?_
   rw[hsx,hrun,hlen]
  ·refine grows bl hBl ((arr.toList.drop cap.off).take (n*k)) (some ⟨b,cap.off,none⟩) cap.n hsx (fun w' hw'=>?_) (by simp;omega) (by omega) hfit h5 ?_
   ·have:=run_firstCells (P:=K.P) (w:=w') (ad:=⟨b,cap.off,none⟩) (n:=n) (c:=cap.n) (k:=k) (fun j=>arr.getD (cap.off+j) undef) (fun j hj=>by
     rw[add_spot,cell_of_heap (arr:=arr) (T:=e) (fr:=(0,0)) (by rw[hw'];exact h1)]
     have:cap.off+j<arr.size:=by omega
     simp[Array.getD_eq_getD_getElem?,this])
    rw[this]
    congr 2
    apply List.ext_getElem?
    intro j
    rw[List.getElem?_map,List.getElem?_take]
    by_cases hj:j<n*k
    ·rw[List.getElem?_range hj,if_pos hj,List.getElem?_drop]
     have:cap.off+j<arr.size:=by omega
     simp[Array.getD_eq_getD_getElem?,this]
    ·rw[if_neg hj,List.getElem?_eq_none (by simp;omega)];rfl
   ·intro i j row c hi hj
    obtain⟨v,a1,a2,a3⟩:=h6 i j row c hi hj
    refine⟨v,?_,a2,a3⟩
    rw[List.getElem?_take,if_pos]
    ·rw[List.getElem?_drop];simpa using a1
    ·have hrk:=h5 row (List.mem_of_getElem? hi)
     have hjk:j<k:=by rw[<-hrk];exact(List.getElem?_eq_some_iff.1 hj).1
     calc i*k+j<i*k+k:=by omega
      _=(i+1)*k:=by rw[Nat.add_mul,Nat.one_mul]
      _<=n*k:=Nat.mul_le_mul_right _ (by rw[<-hn];exact(List.getElem?_eq_some_iff.1 hi).1)
theorem aops_appendO{d T T' e k bytes n n' id:Nat}{s x:Operand}{sv:V}{rows:List (List V)}(rows2 rows':List (List V))(hT:tyEl K.P T e k bytes=true)(hT':tySlice K.P T'=true)
  (hpos:Nat.blt 0 bytes=true) (hkp:Nat.blt 0 k=true)
  (hw:Wants ops S ⟨some d,.call ⟨.builtin .append,#[s,x],#[T,T']⟩,ty,pos,after,g⟩ true)
  (hs:evl K S s=.own id n) (ho:hget S.hp id=.arr e k rows) (hn:rows.length=n) (hx:evl K S x=sv) (hsrc:Src S k sv rows2)
  (hr:rows++rows2=rows') (hn':rows'.length=n') (hb:n'*bytes<=140737488355328\/(rows2.length=1/\n'*bytes<=211106232532992/\bytes<=1000000)) (hN:Nat.blt d K.N=true)
  (kk:AOps K ops rest Q ⟨(d,.own S.nx n')::S.env,(S.nx,.arr e k rows')::(id,.dead)::S.hp,S.nx+1⟩):
  AOps K ops (⟨some d,.call ⟨.builtin .append,#[s,x],#[T,T']⟩,ty,pos,after,g⟩::rest) Q S:=
 aops_appendG S.nx (S.nx+1) (fun _ _ _ _ r=>⟨r.nx _ (Nat.le_refl _),fun q hq=>Nat.ne_of_lt (r.pin q hq).1⟩) (Nat.lt_succ_self _) (Nat.le_succ _) rows2 rows' hT (tySlice_SS hT') hpos hkp hw hs ho hn hx hsrc hr hn' hb hN kk
theorem aops_append{d T T' e k bytes n n' id:Nat}{s x:Operand}{sv:V}{rows:List (List V)}(rows2 rows':List (List V))(hT:tyEl K.P T e k bytes=true)(hT':tySlice K.P T'=true)
  (hpos:Nat.blt 0 bytes=true) (hkp:Nat.blt 0 k=true)
  (hw:Wants ops S ⟨some d,.call ⟨.builtin .append,#[s,x],#[T,T']⟩,ty,pos,after,g⟩ true)
  (hs:evl K S s=.own id n) (ho:hget S.hp id=.arr e k rows) (hn:rows.length=n) (hx:evl K S x=sv) (hsrc:Src S k sv rows2)
  (hr:rows++rows2=rows') (hn':rows'.length=n') (hb:n'*bytes<=140737488355328) (hN:Nat.blt d K.N=true)
  (kk:AOps K ops rest Q ⟨(d,.own S.nx n')::S.env,(S.nx,.arr e k rows')::(id,.dead)::S.hp,S.nx+1⟩):
  AOps K ops (⟨some d,.call ⟨.builtin .append,#[s,x],#[T,T']⟩,ty,pos,after,g⟩::rest) Q S:=
 aops_appendO rows2 rows' hT hT' hpos hkp hw hs ho hn hx hsrc hr hn' (.inl hb) hN kk
end
end Go.Pv
