/- Part of the proof. -/
import Derived.Test.YtppfkkkifdbnaaaGreatDoorVPvG
import Derived.Room.Entries
set_option linter.unusedSimpArgs false
set_option linter.unusedVariables false
namespace Go.Pv
open Go
section
variable{K:Ctx}{Q:Post}{S S':St}{ops:Array Oper}{rest:List Oper}{op:Op}{ty:TypeId}{pos:String}{after:Array Edge}{g:Option (Nat×Bool)}
variable{m:Mem}{β:Locs}{w:World}{a:Act}
def Ghost(K:Ctx)(S S':St):Prop:=∀m β w a,Rel K m β w a S->∃m' β',Rel K m' β' w a S'
theorem Ghost.trans{S'':St}(h:Ghost K S S')(h':Ghost K S' S''):Ghost K S S'':=fun m β w a r=>
 let ⟨m',β',r'⟩:=h m β w a r;h' m' β' w a r'
theorem awp_ghost{c:Code}(h:Ghost K S S')(k:AWP K c Q S'):AWP K c Q S:=fun m β w a r=>let ⟨m',β',r'⟩:=h m β w a r;k m' β' w a r'
theorem aops_ghost{l:List Oper}(h:Ghost K S S')(k:AOps K ops l Q S'):AOps K ops l Q S:=fun m β w a r=>let ⟨m',β',r'⟩:=h m β w a r;k m' β' w a r'
abbrev Hy:=Mem->Locs->Mem->Locs->Prop
def Sub(Y:Hy)(v' v:V):Prop:=∀m β m' β' x,Y m β m' β'->VRel m β v x->VRel m' β' v' x
theorem Sub.any{Y:Hy}{v:V}:Sub Y .any v:=fun _ _ _ _ _ _ _=>.imm (.any _)
inductive EnvSub(Y:Hy)(env:Env):Env->Prop
 |nil:EnvSub Y env []
 |cons {t:Nat} {v:V} {e:Env} (h:Sub Y v (get env t)) (h':EnvSub Y env e):EnvSub Y env ((t,v)::e)
theorem EnvSub.get{Y:Hy}{env env':Env}(h:EnvSub Y env env')(t:Nat):Sub Y (get env' t) (get env t):=by
 induction h with
 |nil=>exact Sub.any
 | @cons t' v e h h' ih=>
  grind [get_put]
def CSub(Y:Hy)(c c':V):Prop:=∀m β m' β' w B x,Y m β m' β'->CRel m β w B c' x->CRel m' β' w B c x
def HyM(Y:Hy):Prop:=∀m β m' β',Y m β m' β'->m.le m'
class HyMC (Y:Hy):Prop where
 h:HyM Y
theorem CSub.sub{Y:Hy}{c c':V}(h:Sub Y c c')(hd:c'.deep=false):CSub Y c c':=fun _ _ _ _ _ _ _ hy hx=>.inl (h _ _ _ _ _ hy (hx.v hd))
theorem CSub.same{Y:Hy}(hm:HyM Y){c:V}(h:Sub Y c c):CSub Y c c:=fun _ _ _ _ _ _ _ hy hx=>hx.elim (fun hx=>.inl (h _ _ _ _ _ hy hx)) (fun hx=>.inr (hx.mono (hm _ _ _ _ hy) (fun _ h=>h) (fun _ _=>rfl)))
def ObSub(Y:Hy):Ob->Ob->Prop
 | .dead,_=>True
 | .res,.res=>True
 | .arr e k rows,.arr e' k' rows'=>e=e'/\k=k'/\rows.length=rows'.length/\(∀(i:Nat) r r',rows[i]? = some r->rows'[i]? = some r'->r.length=r'.length/\
   ∀(j:Nat) c c',r[j]? = some c->r'[j]? = some c'->CSub Y c c')
 | .map es,.map es'=>es.length=es'.length/\∀(i:Nat) p p',es[i]? = some p->es'[i]? = some p'->p.1=p'.1/\CSub Y p.2 p'.2
 | .iter c l,.iter c' l'=>(∀p,p∈c->p∈c')/\l=l'/\HyM Y
 | .bld T e l fr,.bld T' e' l' fr'=>T=T'/\e=e'/\l=l'/\fr=fr'
 |_,_=>False
theorem ObSub.ok{Y:Hy}{m m':Mem}{β β':Locs}{B:Nat->Prop}(hy:Y m β m' β'){l:Option (Option (Nat×Cap))}{ob ob':Ob}(h:ObSub Y ob ob')(ho:ObOk m β w B l ob'):ObOk m' β' w B l ob:=by
 cases ob with
 |dead=>exact ObOk.dead' _
 |res=>
  cases ob' with
  |res=>
   match l,ho with
   |none,_=>trivial
   |some none,ho|some (some (b,c)),ho=>simp_all[ObOk]
  |_=>simp[ObSub] at h
 |arr e k rows=>
  cases ob' with
  |dead=>simp[ObSub] at h
  |res=>simp[ObSub] at h
  |map es=>simp[ObSub] at h
  |iter c l=>simp[ObSub] at h
  |bld T e l fr=>simp[ObSub] at h
  |arr e' k' rows'=>
   obtain⟨rfl,rfl,hl,hr⟩:=h
   match l,ho with
   |some none,ho=>
    have:rows'=[]:=ho
    subst this
    have:rows=[]:=as9.1 (by simpa using hl)
    subst this
    simp[ObOk]
   |some (some (b,cap)),ho=>
    obtain⟨arr,bl,h1,h2,h3,h4,h5,hBl,h6⟩:=ho
    refine⟨arr,bl,h1,h2,by rw[hl];exact h3,h4,?_,hBl,?_⟩
    ·intro row hrow
     obtain⟨i,hi,rfl⟩:=List.getElem_of_mem hrow
     have hi':i<rows'.length:=by rw[<-hl];exact hi
     rw[(hr i _ _ (as8 hi) (as8 hi')).1]
     exact h5 _ (av8 _)
    ·intro i j row c hi hj
     have hlt:=(aw8.1 hi).1
     have hlt':i<rows'.length:=by rw[<-hl];exact hlt
     obtain⟨a1,a2⟩:=hr i row _ hi (as8 hlt')
     have hj1:=(aw8.1 hj).1
     have hj2:j<rows'[i].length:=by rw[<-a1];exact hj1
     obtain⟨v,b1,b2,b3⟩:=h6 i j _ _ (as8 hlt') (as8 hj2)
     exact⟨v,b1,a2 j c _ hj (as8 hj2) _ _ _ _ _ _ _ hy b2,b3⟩
   |none,ho=>simp_all[ObOk]
 |map es=>
  cases ob' with
  |dead=>simp[ObSub] at h
  |res=>simp[ObSub] at h
  |arr e k rows=>simp[ObSub] at h
  |iter c l=>simp[ObSub] at h
  |bld T e l fr=>simp[ObSub] at h
  |map es'=>
   obtain⟨hl,hr⟩:=h
   match l,ho with
   |some (some (b,cap)),ho=>
    obtain⟨ents,clock,bl,h1,h2,hBl,h3⟩:=ho
    refine⟨ents,clock,bl,h1,by rw[hl];exact h2,hBl,?_⟩
    intro i p e hi he
    have hlt:=(aw8.1 hi).1
    have hlt':i<es'.length:=by rw[<-hl];exact hlt
    obtain⟨a1,a2⟩:=hr i p _ hi (as8 hlt')
    obtain⟨b1,b2⟩:=h3 i _ e (as8 hlt') he
    exact⟨by rw[a1];exact b1,a2 _ _ _ _ _ _ _ hy b2⟩
   |none,ho=>exact absurd ho (by simp[ObOk])
   |some none,ho=>simp_all[ObOk]
 |iter cu lf=>
  cases ob' with
  |dead=>simp[ObSub] at h
  |res=>simp[ObSub] at h
  |arr e k rows=>simp[ObSub] at h
  |map es=>simp[ObSub] at h
  |bld T e l fr=>simp[ObSub] at h
  |iter cu' lf'=>
   obtain⟨hcc,rfl,hm⟩:=h
   have hm:=hm _ _ _ _ hy
   match l,ho with
   |some (some (b,cap)),ho=>
    obtain⟨bm,seen,E,clock,v,h0,h1,h2,h3,h4,h5,h6,h7⟩:=ho
    exact⟨bm,seen,E,clock,v,h0,h1,hm _ _ h2,h3,h4,h5,fun i p e hi he=>⟨(h6 i p e hi he).1,(h6 i p e hi he).2.mono hm⟩,fun p hp=>let ⟨e,a1,a2,a3,a4⟩:=h7 p (hcc p hp);⟨e,a1,a2,a3,a4.mono hm⟩⟩
   |none,ho=>exact absurd ho (by simp[ObOk])
   |some none,ho=>exact absurd ho (by simp[ObOk])
 |bld T e bs fr=>
  cases ob' with
  |bld T' e' bs' fr'=>
   obtain⟨rfl,rfl,rfl,rfl⟩:=h
   match l,ho with
   |some (some (b,cap)),ho=>exact ho
   |none,ho=>exact absurd ho (by simp[ObOk])
   |some none,ho=>exact absurd ho (by simp[ObOk])
  |_=>simp[ObSub] at h
theorem ObSub.keep'{Y:Hy}(hm:HyM Y)(hk:∀c,CSub Y c c)(ob:Ob):ObSub Y ob ob:=by
 cases ob with
 |dead=>trivial
 |res=>trivial
 |iter c l=>exact⟨fun _ h=>h,rfl,hm⟩
 |bld T e l fr=>exact⟨rfl,rfl,rfl,rfl⟩
 |arr e k rows=>
  refine⟨rfl,rfl,rfl,fun i r r' h1 h2=>?_⟩
  grind
 |map es=>
  refine⟨rfl,fun i p p' h1 h2=>?_⟩
  grind
def Ren(n:Nat)(σ:Nat->Nat):Hy:=fun m β m' β'=>m'=m/\∀id,id<n->β' id=β (σ id)
instance {n:Nat} {σ:Nat->Nat}:HyMC (Ren n σ):=⟨fun m β m' β' hy=>by rw[hy.1];exact Mem.le_refl _⟩
theorem Sub.kp{n:Nat}{σ:Nat->Nat}{v:V}(h:Keep v):Sub (Ren n σ) v v:=fun m β m' β' x hy hx=>by
 obtain⟨rfl,_⟩:=hy
 exact .imm (h _ β x hx)
theorem Sub.imm{n:Nat}{σ:Nat->Nat}{v:V}(h:Imm v):Sub (Ren n σ) v v:=fun m β m' β' x hy hx=>by
 obtain⟨rfl,_⟩:=hy
 exact .imm (h.2 _ β x hx)
theorem Sub.nil{Y:Hy}(k:Nat):Sub Y (.lst k []) (.con (.slice none 0 0)):=fun m β m' β' x _ hx=>by
 rw[hx.of_con];exact .imm (.nil k none 0)
theorem Sub.own{n id j l:Nat}{σ:Nat->Nat}(hn:Nat.blt id n=true)(hj:σ id=j):Sub (Ren n σ) (.own id l) (.own j l):=fun m β m' β' x hy hx=>by
 have h:=hy.2 id (ar9 hn)
 rw[hj] at h
 cases hx with
 |imm h=>cases h
 |ownNil hb=>exact .ownNil (by grind)
 |own hb=>exact .own (by grind)
theorem Sub.ptr{n id j k i o:Nat}{σ:Nat->Nat}(hn:Nat.blt id n=true)(hj:σ id=j):Sub (Ren n σ) (.ptr id k i o) (.ptr j k i o):=fun m β m' β' x hy hx=>by
 have h:=hy.2 id (ar9 hn)
 rw[hj] at h
 cases hx with
 |imm h=>cases h
 |ptr hb=>exact .ptr (by grind)
theorem Sub.map{n id j:Nat}{σ:Nat->Nat}(hn:Nat.blt id n=true)(hj:σ id=j):Sub (Ren n σ) (.map id) (.map j):=fun m β m' β' x hy hx=>by
 have h:=hy.2 id (ar9 hn)
 rw[hj] at h
 cases hx with
 |imm h=>cases h
 |map hb=>exact .map (by rw[h];exact hb)
inductive Subs(Y:Hy):List V->List V->Prop
 |nil:Subs Y [] []
 |cons {v v':V} {l l':List V} (h:Sub Y v v') (h':Subs Y l l'):Subs Y (v::l) (v'::l')
theorem Subs.len{Y:Hy}{l l':List V}(h:Subs Y l l'):l.length=l'.length:=by
 induction h<;>simp_all
theorem Subs.get{Y:Hy}{l l':List V}(h:Subs Y l l'):∀(i:Nat) c c',l[i]? = some c->l'[i]? = some c'->Sub Y c c':=by
 induction h<;>grind
theorem Sub.agg{Y:Hy}{l l':List V}(h:Subs Y l l'):Sub Y (.agg l) (.agg l'):=fun m β m' β' x hh hx=>by
 cases hx with
 |imm hx=>cases hx with
  |agg hl hx=>
   refine .agg (by rw[h.len];exact hl) fun i c v h1 h2=>?_
   have h3:i<l'.length:=by rw[<-h.len];exact(aw8.1 h1).1
   exact h.get i c _ h1 (as8 h3) _ _ _ _ _ hh (.imm (hx i _ v (as8 h3) h2))
 |agg hl hx=>
  refine .agg (by rw[h.len];exact hl) fun i c v h1 h2=>?_
  have h3:i<l'.length:=by rw[<-h.len];exact(aw8.1 h1).1
  exact h.get i c _ h1 (as8 h3) _ _ _ _ _ hh (hx i _ v (as8 h3) h2)
inductive HpSub(Y:Hy)(n:Nat)(σ:Nat->Nat)(hp:Heap):Heap->Prop
 |nil:HpSub Y n σ hp []
 |cons {id:Nat} {ob:Ob} {e:Heap} (hn:Nat.blt id n=true) (h:ObSub Y ob (hget hp (σ id))) (h':HpSub Y n σ hp e):HpSub Y n σ hp ((id,ob)::e)
theorem HpSub.get{Y:Hy}{n:Nat}{σ:Nat->Nat}{hp hp':Heap}(h:HpSub Y n σ hp hp')(id:Nat):(hget hp' id=.dead\/id<n)/\ObSub Y (hget hp' id) (hget hp (σ id)):=by
 induction h with
 |nil=>exact⟨.inl rfl,trivial⟩
 | @cons id' ob e hn h h' ih=>
  rw[hget_put]
  split<;>simp_all
def HpOk(Y:Hy)(n:Nat)(σ:Nat->Nat)(hp hp':Heap):Prop:=∀id,(hget hp' id=.dead\/id<n)/\ObSub Y (hget hp' id) (hget hp (σ id))
theorem envPut{Y:Hy}{env:Env}{t:Nat}{v:V}(hk:∀v,Sub Y v v)(h:Sub Y v (get env t)):∀t',Sub Y (get ((t,v)::env) t') (get env t'):=by
 grind [get_put]
def pinsOk(n:Nat)(σ:Nat->Nat):Nat->Bool
 |0=>true
 |q+1=>Nat.blt q n&&Nat.beq (σ q) q&&pinsOk n σ q
theorem pinsOk_at{n:Nat}{σ:Nat->Nat}:∀{p q:Nat},pinsOk n σ p=true->q<p->q<n/\σ q=q
 |p+1,q,h,hq=>by
  simp only[pinsOk,al9] at h
  by_cases e:q=p
  ·simp_all
  ·exact pinsOk_at h.2 (by omega)
theorem ghost_ren(n:Nat)(σ:Nat->Nat)(env:Env)(hp:Heap)(hσ:∀i,i<n->∀j,j<n->σ i=σ j->i=j)(henv:∀t,Sub (Ren n σ) (get env t) (get S.env t))(hhp:HpOk (Ren n σ) n σ S.hp hp)
  (hpin:pinsOk n σ K.pins=true):Ghost K S ⟨env,hp,n⟩:=by
 intro m β w a r
 let β':Locs:=⟨fun id=>if id<n then β (σ id) else none,fun id=>β.hid (σ id)⟩
 have eβ:∀id,id<n->β' id=β (σ id):=fun id h=>by grind
 have hy:Ren n σ m β m β':=⟨rfl,eβ⟩
 have hlive:∀id,hget hp id≠.dead->id<n/\hget S.hp (σ id)≠.dead:=by
  intro id h
  obtain⟨h1,h2⟩:=hhp id
  refine⟨h1.resolve_left h,fun hd=>?_⟩
  rw[hd] at h2
  cases ho:hget hp id with
  |dead=>exact h ho
  |arr=>simp_all[ObSub]
  |res=>simp_all[ObSub]
  |map=>simp_all[ObSub]
  |iter=>simp_all[ObSub]
  |bld=>simp_all[ObSub]
 refine⟨m,β',?_⟩
 constructor
 ·exact r.imm
 ·exact r.ext
 ·exact r.mold
 ·exact r.frame
 ·exact r.size
 ·exact r.same
 ·exact r.tn
 ·exact r.df
 ·exact fun t=>henv t _ _ _ _ _ hy (r.env t)
 ·intro id
  obtain⟨h1,h2⟩:=hhp id
  rcases h1 with h1|h1
  ·grind [ObOk.dead']
  ·show ObOk m β' w (β.hid (σ id)) (β' id) (hget hp id)
   rw[eβ id h1]
   exact h2.ok hy (r.own (σ id))
 ·intro id b cap hl hb
  obtain⟨h1,h2⟩:=hlive id hl
  have:=eβ id h1
  rw[this] at hb
  exact r.priv _ _ _ h2 hb
 ·intro id id' b cap cap' hl hl' hb hb'
  obtain⟨h1,h2⟩:=hlive id hl
  obtain⟨h1',h2'⟩:=hlive id' hl'
  have e1:=eβ id h1
  have e2:=eβ id' h1'
  rw[e1] at hb;rw[e2] at hb'
  exact hσ id h1 id' h1' (r.inj _ _ _ _ _ h2 h2' hb hb')
 ·intro id x hl hx
  obtain⟨h1,h2⟩:=hlive id hl
  have h:=r.hid (σ id) x h2 hx
  refine⟨h.lt,h.m,h.old,fun i b c hi hb=>?_,fun i hi hx'=>?_⟩
  ·obtain⟨h1',h2'⟩:=hlive i hi
   rw[eβ i h1'] at hb
   exact h.ne _ b c h2' hb
  ·obtain⟨h1',h2'⟩:=hlive i hi
   exact hσ i h1' id h1 (h.un _ h2' hx')
 ·grind
 ·intro q hq
  obtain⟨h1,h2⟩:=pinsOk_at hpin hq
  refine⟨h1,?_⟩
  rw[eβ q h1,h2];exact(r.pin q hq).2
def Frz(id k:Nat)(rows:List (List V)):Hy:=fun m β m' β'=>m.le m'/\β'=β/\(∀n x,VRel m β (.own id n) x->n<=rows.length->IRel m' (.lst k (rows.take n)) x)/\
 ∀i o row x,rows[i]? = some row->VRel m β (.ptr id k i o) x->IRel m' (.iptr row o) x
instance {id k:Nat} {rows:List (List V)}:HyMC (Frz id k rows):=⟨fun m β m' β' hy=>hy.1⟩
theorem Sub.keep{id k:Nat}{rows:List (List V)}{v:V}:Sub (Frz id k rows) v v:=fun _ _ _ _ _ hy hx=>by
 obtain⟨h1,rfl,_⟩:=hy
 exact hx.mono h1 (Locs.le_refl _)
theorem Sub.frz{id k n:Nat}{rows rows':List (List V)}(hn:n<=rows.length)(hr:rows.take n=rows'):Sub (Frz id k rows) (.lst k rows') (.own id n):=fun _ _ _ _ _ hy hx=>by
 subst hr
 exact .imm (hy.2.2.1 n _ hx hn)
theorem Sub.frzptr{id k i o:Nat}{rows:List (List V)}{row:List V}(hr:rows[i]? = some row):Sub (Frz id k rows) (.iptr row o) (.ptr id k i o):=fun _ _ _ _ _ hy hx=>.imm (hy.2.2.2 i o row _ hr hx)
theorem ghost_freeze(id:Nat){e:TypeId}{k:Nat}{rows:List (List V)}(env:Env)(hp:Heap)(ho:hget S.hp id=.arr e k rows)(hi:∀row,row∈rows->Imms row)
  (henv:∀t,Sub (Frz id k rows) (get env t) (get S.env t)) (hhp:∀i,ObSub (Frz id k rows) (hget hp i) (hget S.hp i)) (hd:hget hp id=.dead):Ghost K S ⟨env,hp,S.nx⟩:=by
 intro m β w a r
 have hown:=r.own id
 rw[ho] at hown
 cases hb:β id with
 |none=>simp_all[ObOk]
 |some l=>
 have key:∃m',(∀b o,m' b=some o->w.heap[b]? = some o)/\Frz id k rows m β m' β/\(∀b,m' b=m b\/∃cap,l=some (b,cap)):=by
  cases l with
  |none=>
   rw[hb] at hown
   have:rows=[]:=hown
   subst this
   refine⟨m,r.imm,⟨Mem.le_refl _,rfl,fun n x hx hn=>?_,fun i o row x hr=>by simp at hr⟩,fun b=>.inl rfl⟩
   simp at hn;subst hn
   cases hx with
   |imm h=>cases h
   |ownNil h=>exact .nil k _ 0
   |own h=>grind
  |some p=>
   obtain⟨b,cap⟩:=p
   rw[hb] at hown
   obtain⟨arr,bl,h1,h2,h3,h4,h5,hBl,h6⟩:=hown
   have hp':=r.priv id b cap (by grind) hb
   let m':Mem:=fun b'=>if b'=b then some (.cells arr e (0,0)) else m b'
   have hle:m.le m':=by
    intro b' o h
    have:b'≠b:=by intro e';subst e';rw[hp'.1] at h;simp at h
    simp[m',this,h]
   have hcells:∀i,i<rows.length*k->arr[cap.off+i]? = some (arr.getD (cap.off+i) undef):=by
    intro i hi'
    have:cap.off+i<arr.size:=by rw[h2];have:=bz9 hi' (ay9 k h3);omega
    simp[be9,this]
   have hrel:∀(i j:Nat) (row:List V) (c:V),rows[i]? = some row->row[j]? = some c->IRel m' c (arr.getD (cap.off+(i*k+j)) undef):=by
    intro i j row c hr hj
    obtain⟨v,a1,a2,_⟩:=h6 i j row c hr hj
    have hcc:=hi row (ar8 hr) c (ar8 hj)
    have:=hcc.2 m β v (a2.v hcc.1)
    simp only[be9,a1,bm9]
    exact this.mono hle
   refine⟨m',?_,⟨hle,rfl,?_,?_⟩,?_⟩
   ·intro b' o h
    by_cases hbb:b'=b
    ·grind
    ·simp[m',hbb] at h;exact r.imm _ _ h
   ·intro n x hx hn
    cases hx with
    |imm h=>cases h
    |ownNil h=>grind
    | @own _ _ b2 cap2 h=>
     rw[hb] at h
     simp only[aq8,Prod.mk.injEq] at h
     obtain⟨rfl,rfl⟩:=h
     refine .lst (T:=e) (arr:=arr) (fr:=(0,0)) (fun i=>arr.getD (cap.off+i) undef) (by simp[m']) rfl (by simp;omega) (by omega) (by omega) (fun row hr=>h5 row (List.mem_of_mem_take hr)) ?_ ?_
     ·grind [Nat.lt_of_lt_of_le,Nat.mul_le_mul_right]
     grind
   ·intro i o row x hr hx
    cases hx with
    |imm h=>cases h
    | @ptr _ _ _ _ b2 cap2 h=>
     rw[hb] at h
     simp only[aq8,Prod.mk.injEq] at h
     obtain⟨rfl,rfl⟩:=h
     have hrk:=h5 row (ar8 hr)
     refine .iptr (T:=e) (arr:=arr) (fr:=(0,0)) (fun j=>arr.getD (cap.off+(i*k+j)) undef) (cap.off+i*k) (by simp[m']) rfl (by simp;omega) ?_ ?_
     ·intro j hj
      rw[ac8]
      refine hcells _ ?_
      calc i*k+j<i*k+k:=by omega
       _=(i+1)*k:=by grind
       _<=rows.length*k:=ay9 _ (aw8.1 hr).1
     grind
   grind
 obtain⟨m',k1,hy,k2⟩:=key
 have hlid:hget S.hp id≠.dead:=by rw[ho];simp
 have hlive:∀i,hget hp i≠.dead->hget S.hp i≠.dead/\i≠id:=by
  intro i h
  have h2:=hhp i
  refine⟨fun hdd=>?_,fun he=>h (by grind)⟩
  rw[hdd] at h2
  cases ho':hget hp i with
  |dead=>exact h ho'
  |arr=>simp_all[ObSub]
  |res=>simp_all[ObSub]
  |map=>simp_all[ObSub]
  |iter=>simp_all[ObSub]
  |bld=>simp_all[ObSub]
 refine⟨m',β,?_⟩
 constructor
 ·exact k1
 ·exact Mem.le_trans r.ext hy.1
 ·intro b hb' hold
  rcases k2 b with h|⟨cap,h⟩
  ·rw[h];exact r.mold b hb' hold
  ·subst h
   have hp':=r.priv id b cap (by grind) hb
   grind
 ·exact r.frame
 ·exact r.size
 ·exact r.same
 ·exact r.tn
 ·exact r.df.mono hy.1
 ·exact fun t=>henv t _ _ _ _ _ hy (r.env t)
 ·intro i
  exact(hhp i).ok hy (r.own i)
 ·intro i b cap hl hb'
  obtain⟨h1,h2⟩:=hlive i hl
  have hp':=r.priv i b cap h1 hb'
  refine⟨?_,hp'.2⟩
  rcases k2 b with h|⟨cap',h⟩
  ·grind
  ·subst h
   exact absurd (r.inj i id b cap cap' h1 (by grind) hb' hb) h2
 ·intro i i' b cap cap' hl hl'
  exact r.inj i i' b cap cap' (hlive i hl).1 (hlive i' hl').1
 ·intro i x hl hx
  have h:=r.hid i x (hlive i hl).1 hx
  refine⟨h.lt,?_,h.old,fun i' b c hi'=>h.ne i' b c (hlive i' hi').1,fun i' hi'=>h.un i' (hlive i' hi').1⟩
  rcases k2 x with h'|⟨cap',h'⟩
  ·rw[h'];exact h.m
  ·subst h'
   exact absurd rfl (h.ne id x cap' hlid hb)
 ·exact r.nx
 ·exact r.pin
end
section
variable{K:Ctx}{Q:Post}{S S':St}{ops:Array Oper}{rest:List Oper}{op:Op}{ty:TypeId}{pos:String}{after:Array Edge}{g:Option (Nat×Bool)}
variable{m:Mem}{β:Locs}{w:World}{a:Act}
def tyEl(P:Program)(T e k bytes:Nat):Bool:=
 match P.underlying T with
 |some (.slice e')=>e'==e&&(match P.info? e with|some i=>i.size==k&&i.bytes==bytes&&(match i.zero with|some z=>z.cells.size==k|none=>false)|none=>false)
 |_=>false
theorem tyEl_inv{P:Program}{T e k bytes:Nat}(h:tyEl P T e k bytes=true):∃i z,P.underlying T=some (.slice e)/\P.info? e=some i/\i.size=k/\i.bytes=bytes/\i.zero=some z/\z.cells.size=k:=by
 unfold tyEl at h
 grind
theorem run_firstCells{P:Program}{w:World}{ad:Addr}{n c k:Nat}(f:Nat->Value)(h:∀j,j<n*k->w.cell? (ad.add j)=some (f j)):
  (Builtin.firstCells k n (.slice (some ad) n c)).run P w=.ok ((List.range (n*k)).map f).toArray w:=by
 simp_all[Builtin.firstCells,run_loadCells]
theorem zeroCells_size(z:Array Value)(n:Nat):(Builtin.zeroCells z n).size=n*z.size:=by simp[Builtin.zeroCells]
theorem run_append_fits{P:Program}{w:World}{T T' e k bytes b n cap off mm:Nat}{arr:Array Value}{x:Value}{news:List Value}(hT:tyEl P T e k bytes=true)(hT':tySS P T'=true)
  (hb:w.heap[b]? = some (.cells arr e (0,0))) (hsz:arr.size=off+cap*k)
  (hlen:(Builtin.lenOf x).run P w=.ok mm w) (hfc:(Builtin.firstCells k mm x).run P w=.ok news.toArray w) (hnl:news.length=mm*k) (h1:∀v,v∈news->v.oneCell'=true)
  (hfit:n+mm<=cap):
  (Builtin.append_ #[T,T'] ty #[.slice (some ⟨b,off,none⟩) n cap,x]).run P w =
   .ok (.slice (some ⟨b,off,none⟩) (n+mm) cap) (w.setRow b (arr.toList.take (off+n*k)++news++arr.toList.drop (off+n*k+news.length)).toArray):=by
 obtain⟨i,z,hu,hi,hs,hby,hz,hzk⟩:=tyEl_inv hT
 have hle:off+n*k+news.length<=arr.size:=by
  have:n*k+mm*k<=cap*k:=by rw[<-ai8];exact ay9 _ hfit
  rw[hnl,hsz];omega
 have hst:=run_storeCells_at (P:=P) b (off+n*k) e news 0 arr w hb (by omega) h1
 simp only[az9] at hst
 have hk:P.cellsOf e=k:=by simp[Program.cellsOf,hi,hs]
 rcases tySS_inv hT' with ⟨e',hu'⟩|hu' <;>
 simp only[Builtin.append_,az8,bf9,bi9,Sem.run_bind,run_underlying hu,Result.andThen_ok,run_sizeOf w hi,hk,run_underlying hu',pure,Sem.run,
  by9,if_false,hlen,if_pos hfit,bl9,if_true,hfc,add_spot,hst]
theorem room_ok{n mm cap bytes:Nat}(hpos:0<bytes)(hcap:n<=cap)(hfit:¬n+mm<=cap)(hb:(n+mm)*bytes<=140737488355328\/(mm=1/\(n+mm)*bytes<=211106232532992/\bytes<=1000000)):
  n+mm<=281474976710656/\(n+mm)*bytes<=2 ^ 48/\Builtin.nextslicecap (n+mm) cap*bytes<=2 ^ 48:=by
 have h0:n+mm<=(n+mm)*bytes:=bq8 _ hpos
 rcases hb with hb|⟨h1,hb,h2⟩
 ·refine⟨by omega,by omega,?_⟩
  have:=Room.nextslicecap_le' (need:=n+mm) (old:=cap) (by omega)
  calc Builtin.nextslicecap (n+mm) cap*bytes<=(2*(n+mm))*bytes:=ay9 _ this
   _=2*((n+mm)*bytes):=by grind
   _<=2 ^ 48:=by omega
 ·subst h1
  have hc:cap=n:=by omega
  subst hc
  refine⟨by omega,by omega,?_⟩
  have hn:Builtin.nextslicecap (cap+1) cap<=cap+cap / 4+512:=by
   unfold Builtin.nextslicecap
   split
   ·omega
   ·grind [Room.growBy_four']
  have h3:cap*bytes<=211106232532992:=bk8 (ay9 _ (ah8 _)) hb
  have h4:cap / 4*bytes<=52776558133248:=by
   have:cap / 4*4<=cap:=Nat.div_mul_le_self cap 4
   have h5:=ay9 bytes this
   rw[Nat.mul_right_comm] at h5
   omega
  calc Builtin.nextslicecap (cap+1) cap*bytes<=(cap+cap / 4+512)*bytes:=ay9 _ hn
   _=cap*bytes+cap / 4*bytes+512*bytes:=by grind
   _<=2 ^ 48:=by omega
theorem run_append_grows{P:Program}{w:World}{T T' e k bytes n cap mm:Nat}{s x:Value}{base:Option Addr}{olds news:List Value}(hT:tyEl P T e k bytes=true)(hT':tySS P T'=true)(hs:s=.slice base n cap)
  (hold:(Builtin.firstCells k n s).run P { w with drawn:=w.drawn+1 }=.ok olds.toArray { w with drawn:=w.drawn+1 })
  (hlen:(Builtin.lenOf x).run P w=.ok mm w) (hfc:(Builtin.firstCells k mm x).run P { w with drawn:=w.drawn+1 }=.ok news.toArray { w with drawn:=w.drawn+1 })
  (hol:olds.length=n*k) (hnl:news.length=mm*k)
  (hfit:¬n+mm<=cap) (hneed:n+mm<=281474976710656) (hnext:Builtin.nextslicecap (n+mm) cap*bytes<=2 ^ 48):
  ∃cap' arr',(Builtin.append_ #[T,T'] ty #[s,x]).run P w=.ok (.slice (some ⟨w.heap.size,0,none⟩) (n+mm) cap') { w with drawn:=w.drawn+1,heap:=w.heap.push (.cells arr' e (0,0)) }/\
   n+mm<=cap'/\cap'<=maxLen/\arr'.size=cap'*k/\∀j,j<(n+mm)*k->arr'[j]? = (olds++news)[j]?:=by
 subst hs
 obtain⟨i,z,hu,hi,hs,hby,hz,hzk⟩:=tyEl_inv hT
 have hk:P.cellsOf e=k:=by simp[Program.cellsOf,hi,hs]
 have hmax:IntKind.i64.max=9223372036854775807:=by decide
 let c':=(n+mm)+w.tape w.drawn (.appendCap (n+mm) cap e) % (2 ^ 63 - (n+mm))
 let w1:World:={ w with drawn:=w.drawn+1 }
 have hc':n+mm<=c'/\c'<=maxLen:=by
  have:w.tape w.drawn (.appendCap (n+mm) cap e) % (2 ^ 63 - (n+mm))<2 ^ 63 - (n+mm):=aj8 _ (by omega)
  simp only[c',maxLen];omega
 refine⟨c',olds.toArray++news.toArray++Builtin.zeroCells z.cells (c' - (n+mm)),?_,hc'.1,hc'.2,?_,?_⟩
 ·have hask:∀(w:World),(askRoom (c'*bytes)).run P w=.ok () w:=by
   intro w;unfold askRoom;split<;>rfl
  have hch:(choose (.appendCap (n+mm) cap e)).run P w=.ok c' w1:=by simp[choose,Sem.run,Question.forced,Question.cut,c',w1]
  have hzr:(zeroValue e).run P w1=.ok z w1:=by
   simp only[zeroValue,Sem.run_bind,run_typeInfo w1 hi,Result.andThen_ok,hz];rfl
  rcases tySS_inv hT' with ⟨e',hu'⟩|hu'
  all_goals
   simp only[Builtin.append_,az8,bf9,bi9,Sem.run_bind,run_underlying hu,Result.andThen_ok,run_sizeOf w hi,hk,run_underlying hu',pure,Sem.run,
    by9,if_false,hlen,if_neg hfit,bl9,if_true,run_typeInfo w hi,hby,false_or]
   rw[if_neg (by omega)]
   simp only[Sem.run_bind,run_typeInfo w hi,Result.andThen_ok,hby]
   rw[if_neg (by omega)]
   simp only[Sem.run_bind,Sem.run,Result.andThen_ok,hch,run_typeInfo w1 hi,hby,hask,hold,hfc,hzr,w1,newRow,newObj,pure]
 ·simp only[bp8,be8,hol,hnl,zeroCells_size,hzk]
  grind
 grind
theorem Rel.drawn(r:Rel K m β w a S)(n:Nat)(hn:w.drawn<=n):Rel K m β { w with drawn:=n } a S:=
 ⟨r.imm,r.ext,r.mold,r.frame,r.size,⟨r.same.os,r.same.tape,r.same.output,trivial⟩,r.tn,r.df,r.env,fun id=>ObOk.congr (w:=w) (fun _ _ _=>rfl) (fun _ _=>rfl) (r.own id),r.priv,r.inj,fun id x hl hx=>⟨(r.hid id x hl hx).lt,(r.hid id x hl hx).m,(r.hid id x hl hx).old,(r.hid id x hl hx).ne,(r.hid id x hl hx).un⟩,r.nx,r.pin⟩
theorem Rel.kill(r:Rel K m β w a S)(id:Nat):Rel K m β w a ⟨S.env,(id,.dead)::S.hp,S.nx⟩:=by
 have live:∀i,hget ((id,.dead)::S.hp) i≠.dead->hget S.hp i≠.dead:=by
  intro i hi
  rw[hget_put] at hi
  split at hi
  ·grind
  ·exact hi
 refine⟨r.imm,r.ext,r.mold,r.frame,r.size,r.same,r.tn,r.df,r.env,fun i=>?_,fun i b c h=>r.priv i b c (live i h),fun i i' b c c' h h'=>r.inj i i' b c c' (live i h) (live i' h'),fun i x h hx=>⟨(r.hid i x (live i h) hx).lt,(r.hid i x (live i h) hx).m,(r.hid i x (live i h) hx).old,fun i' b c h'=>(r.hid i x (live i h) hx).ne i' b c (live i' h'),fun i' h'=>(r.hid i x (live i h) hx).un i' (live i' h')⟩,r.nx,r.pin⟩
 show ObOk m β w (β.hid i) (β i) (hget ((id,.dead)::S.hp) i)
 rw[hget_put]
 split
 ·exact ObOk.dead' _
 ·exact r.own i
theorem Rel.moveG(r:Rel K m β w a S)(id idn nx':Nat)(hfree:β idn=none)(hpid:∀q,q<K.pins->q≠idn)(hidn:idn<nx')(hnn:S.nx<=nx'){ob:Ob}(ho:hget S.hp id=ob)(hl:ob≠.dead)(hl2:ob≠.res):∃β':Locs,β.le β'/\β' idn=β id/\Rel K m β' w a ⟨S.env,(idn,ob)::(id,.dead)::S.hp,nx'⟩:=by
 let β':Locs:=⟨fun i=>if i=idn then β id else β i,fun i=>if i=idn then β.hid id else β.hid i⟩
 have en:β' idn=β id:=by show(if _ then _ else _)=_;grind
 have eo:∀i,i≠idn->β' i=β i:=fun i h=>by grind
 have hn:β'.hid idn=β.hid id:=by show(if _ then _ else _)=_;grind
 have hho:∀i,i≠idn->β'.hid i=β.hid i:=fun i h=>by grind
 have hle:β.le β':=by
  intro i l h
  rw[eo i]
  ·exact h
  ·grind
 have hne:id≠idn:=by
  intro e
  have:=r.own id
  rw[ho,e,hfree] at this
  simp_all[ObOk]
 -- the object at a number, and where it was
 have key:∀i,hget ((idn,ob)::(id,.dead)::S.hp) i≠.dead->∃j,(i=idn/\j=id\/i≠idn/\i≠id/\j=i)/\β' i=β j/\β'.hid i=β.hid j/\hget ((idn,ob)::(id,.dead)::S.hp) i=hget S.hp j:=by
  intro i hi
  rw[hget_put] at hi ⊢
  by_cases h:idn=i
  ·grind
  ·rw[if_neg h] at hi ⊢
   rw[hget_put] at hi ⊢
   grind
 have back:∀i j i' j',(i=idn/\j=id\/i≠idn/\i≠id/\j=i)->(i'=idn/\j'=id\/i'≠idn/\i'≠id/\j'=i')->j=j'->i=i':=by
  intro i j i' j' h1 h1' this
  rcases h1 with ⟨e1,e2⟩|⟨e1,e2,e3⟩<;>rcases h1' with ⟨f1,f2⟩|⟨f1,f2,f3⟩
  ·rw[e1,f1]
  ·grind
  ·grind
  ·grind
 refine⟨β',hle,en,?_⟩
 refine⟨r.imm,r.ext,r.mold,r.frame,r.size,r.same,r.tn,r.df,fun t=>(r.env t).mono (Mem.le_refl _) hle,fun i=>?_,fun i b c h hb=>?_,fun i i' b c c' h h' hb hb'=>?_,fun i x h hx=>?_,fun i hi=>?_,fun q hq=>?_⟩
 ·by_cases hd:hget ((idn,ob)::(id,.dead)::S.hp) i=.dead
  ·grind [ObOk.dead']
  ·obtain⟨j,_,h2,h2',h3⟩:=key i hd
   show ObOk m β' w _ _ (hget ((idn,ob)::(id,.dead)::S.hp) i)
   rw[h2,h2',h3]
   exact ObOk.mono (Mem.le_refl _) hle (fun _ _ h=>h) (fun _ _=>rfl) (r.own j)
 ·obtain⟨j,_,h2,_,h3⟩:=key i h
  rw[h2] at hb
  exact r.priv j b c (by grind) hb
 ·obtain⟨j,h1,h2,_,h3⟩:=key i h
  obtain⟨j',h1',h2',_,h3'⟩:=key i' h'
  rw[h2] at hb;rw[h2'] at hb'
  exact back _ _ _ _ h1 h1' (r.inj j j' b c c' (by grind) (by grind) hb hb')
 ·obtain⟨j,h1,h2,h2h,h3⟩:=key i h
  rw[h2h] at hx
  have q:=r.hid j x (by grind) hx
  refine⟨q.lt,q.m,q.old,fun i' b c h' hb'=>?_,fun i' h' hx'=>?_⟩
  ·obtain⟨j',h1',h2',_,h3'⟩:=key i' h'
   rw[h2'] at hb'
   exact q.ne j' b c (by grind) hb'
  ·obtain⟨j',h1',h2',h2h',h3'⟩:=key i' h'
   rw[h2h'] at hx'
   exact back _ _ _ _ h1' h1 (q.un j' (by grind) hx')
 ·have hi':nx'<=i:=hi
  rw[eo i (by omega)]
  exact r.nx i (by omega)
 ·obtain⟨h1,h2⟩:=r.pin q hq<;>grind
def Nil(n:Nat):Hy:=fun m β m' β'=>m'=m/\β.le β'/\β' n=some none
instance {n:Nat}:HyMC (Nil n):=⟨fun m β m' β' hy=>by rw[hy.1];exact Mem.le_refl _⟩
theorem Sub.keepNil{n:Nat}{v:V}:Sub (Nil n) v v:=fun _ _ _ _ _ hy hx=>by
 obtain⟨rfl,h,_⟩:=hy
 exact hx.mono (Mem.le_refl _) h
theorem Sub.mkNil{n:Nat}:Sub (Nil n) (.own n 0) (.con (.slice none 0 0)):=fun _ _ _ _ _ hy hx=>by
 rw[hx.of_con];exact .ownNil hy.2.2
theorem ghost_nil(e:TypeId)(k:Nat)(env:Env)(hp:Heap)(henv:∀t,Sub (Nil S.nx) (get env t) (get S.env t))(hhp:∀i,ObSub (Nil S.nx) (hget hp i) (hget S.hp i)):
  Ghost K S ⟨env,(S.nx,.arr e k [])::hp,S.nx+1⟩:=by
 intro m β w a r
 let β':Locs:=⟨fun i=>if i=S.nx then some none else β i,fun i=>if i=S.nx then fun _=>False else β.hid i⟩
 have en:β' S.nx=some none:=by show(if _ then _ else _)=_;grind
 have eo:∀i,i≠S.nx->β' i=β i:=fun i h=>by grind
 have hn:β'.hid S.nx=fun _=>False:=by show(if _ then _ else _)=_;grind
 have hho:∀i,i≠S.nx->β'.hid i=β.hid i:=fun i h=>by grind
 have hle:β.le β':=by
  intro i l h
  rw[eo i]
  ·exact h
  ·intro e;rw[e,r.nx _ (ab8 _)] at h;simp at h
 have hy:Nil S.nx m β m β':=⟨rfl,hle,en⟩
 have hdead:∀i,hget hp i≠.dead->hget S.hp i≠.dead:=by
  intro i h hd
  have h2:=hhp i
  rw[hd] at h2
  cases ho':hget hp i with
  |dead=>exact h ho'
  |arr=>simp_all[ObSub]
  |res=>simp_all[ObSub]
  |map=>simp_all[ObSub]
  |iter=>simp_all[ObSub]
  |bld=>simp_all[ObSub]
 have hlive:∀i b c,hget ((S.nx,.arr e k [])::hp) i≠.dead->β' i=some (some (b,c))->hget S.hp i≠.dead/\β i=some (some (b,c)):=by
  intro i b c h hb
  rw[hget_put] at h
  by_cases hi:S.nx=i
  ·grind
  ·grind
 refine⟨m,β',r.imm,r.ext,r.mold,r.frame,r.size,r.same,r.tn,r.df,fun t=>henv t _ _ _ _ _ hy (r.env t),fun i=>?_,fun i b c h hb=>?_,fun i i' b c c' h h' hb hb'=>?_,fun i x h hx=>?_,fun i hi=>?_,fun q hq=>?_⟩
 ·show ObOk m β' w (β'.hid i) (β' i) (hget ((S.nx,.arr e k [])::hp) i)
  rw[hget_put]
  by_cases hi:S.nx=i
  ·simp_all[ObOk]
  ·rw[if_neg hi]
   have h2:=hhp i
   rw[eo i (Ne.symm hi),hho i (Ne.symm hi)]
   exact h2.ok hy (r.own i)
 ·obtain⟨h1,h2⟩:=hlive i b c h hb
  exact r.priv i b c h1 h2
 ·obtain⟨h1,h2⟩:=hlive i b c h hb
  obtain⟨h1',h2'⟩:=hlive i' b c' h' hb'
  exact r.inj i i' b c c' h1 h1' h2 h2'
 ·have h0:hget ((S.nx,.arr e k [])::hp) i≠.dead:=h
  rw[hget_put] at h0
  by_cases hi:S.nx=i
  ·grind
  ·rw[if_neg hi] at h0;rw[hho i (Ne.symm hi)] at hx
   have q:=r.hid i x (hdead i h0) hx
   refine⟨q.lt,q.m,q.old,fun i' b c h' hb'=>?_,fun i' h' hx'=>?_⟩
   ·obtain⟨h1,h2⟩:=hlive i' b c h' hb'
    exact q.ne i' b c h1 h2
   ·have h0':hget ((S.nx,.arr e k [])::hp) i'≠.dead:=h'
    rw[hget_put] at h0'
    by_cases hi':S.nx=i'
    ·grind
    ·rw[if_neg hi'] at h0';rw[hho i' (Ne.symm hi')] at hx'
     exact q.un i' (hdead i' h0') hx'
 ·have hi':S.nx+1<=i:=hi
  rw[eo i (by omega)]
  exact r.nx i (by omega)
 ·obtain⟨h1,h2⟩:=r.pin q hq<;>grind
end
section
variable{K:Ctx}{Q:Post}{S S':St}{ops:Array Oper}{rest:List Oper}{op:Op}{ty:TypeId}{pos:String}{after:Array Edge}{g:Option (Nat×Bool)}
variable{m:Mem}{β:Locs}{w:World}{a:Act}
inductive Src(S:St)(k:Nat):V->List (List V)->Prop
 |own {id:Nat} {e:TypeId} {rows:List (List V)} {n:Nat} (ho:hget S.hp id=.arr e k rows) (hn:rows.length=n) (hd:∀row,row∈rows->∀c,c∈row->c.deep=false):Src S k (.own id n) rows
 |lst {rows:List (List V)} (h:∀row,row∈rows->row.all oneV=true):Src S k (.lst k rows) rows
 |nil:Src S k (.con (.slice none 0 0)) []
 |str {s:List UInt8} {rows:List (List V)} (hk:k=1) (hr:rows=s.map fun c=>[V.con (.int .u8 (c.toNat:Int))]):Src S k (.con (.string ⟨s.toArray⟩)) rows
theorem row_index{k p n:Nat}(hk:0<k)(h:p<n*k):p / k<n/\p % k<k/\p / k*k+p % k=p:=
 ⟨(Nat.div_lt_iff_lt_mul hk).2 h,aj8 _ hk,Nat.div_add_mod' p k⟩
theorem Src.read{k:Nat}{sv:V}{rows:List (List V)}(hk:0<k)(h:Src S k sv rows)(r:Rel K m β w a S){x:Value}(hx:VRel m β sv x):
  ∃news:List Value,(∀w':World,w'.heap=w.heap->(Builtin.lenOf x).run K.P w'=.ok rows.length w'/\(Builtin.firstCells k rows.length x).run K.P w'=.ok news.toArray w')/\news.length=rows.length*k/\
   (∀v,v∈news->v.oneCell'=true)/\(∀row,row∈rows->row.length=k)/\
   ∀(i j:Nat) (row:List V) (c:V),rows[i]? = some row->row[j]? = some c->∃v,news[i*k+j]? = some v/\VRel m β c v/\v.oneCell'=true:=by
 -- from cells to the list
 have mk:∀(ad:Addr) (n cap:Nat) (arr:Array Value) (T:TypeId) (fr:Nat×Nat) (f:Nat->Value),ad.spot=none->w.heap[ad.block]? = some (.cells arr T fr)->rows.length=n->(∀row,row∈rows->row.length=k)->
   (∀i,i<rows.length*k->arr[ad.off+i]? = some (f i))->
   (∀(i j:Nat) (row:List V) (c:V),rows[i]? = some row->row[j]? = some c->VRel m β c (f (i*k+j))/\(f (i*k+j)).oneCell'=true)->
   ∃news:List Value,(∀w':World,w'.heap=w.heap->(Builtin.lenOf (.slice (some ad) n cap)).run K.P w'=.ok rows.length w'/\(Builtin.firstCells k rows.length (.slice (some ad) n cap)).run K.P w'=.ok news.toArray w')/\news.length=rows.length*k/\
   (∀v,v∈news->v.oneCell'=true)/\(∀row,row∈rows->row.length=k)/\
   ∀(i j:Nat) (row:List V) (c:V),rows[i]? = some row->row[j]? = some c->∃v,news[i*k+j]? = some v/\VRel m β c v/\v.oneCell'=true:=by
  intro ad n cap arr T fr f hs hh hn hr hf hc
  subst hn
  refine⟨(List.range (rows.length*k)).map f,fun w' hw'=>⟨rfl,?_⟩,by simp,?_,hr,?_⟩
  ·refine run_firstCells f fun j hj=>?_
   rw[addr_eta hs,add_spot,cell_of_heap (arr:=arr) (T:=T) (fr:=fr) (by rw[hw'];exact hh)]
   exact hf j hj
  ·intro v hv
   simp only[ax9,bz8] at hv
   obtain⟨p,hp,rfl⟩:=hv
   obtain⟨h1,h2,h3⟩:=row_index hk hp
   have hrow:=hr _ (av8 h1)
   have:=(hc (p / k) (p % k) _ _ (as8 h1) (as8 (by rw[hrow];exact h2))).2
   rw[h3] at this
   exact this
  ·intro i j row c hi hj
   have hrow:=hr _ (ar8 hi)
   have hj':j<k:=by rw[<-hrow];exact(aw8.1 hj).1
   have hi':=(aw8.1 hi).1
   have hlt:i*k+j<rows.length*k:=by
    calc i*k+j<i*k+k:=by omega
     _=(i+1)*k:=by rw[ai8,Nat.one_mul]
     _<=rows.length*k:=ay9 _ hi'
   exact⟨f (i*k+j),by rw[at9,at8 hlt];rfl,hc i j row c hi hj⟩
 have empty:∀(ad:Option Addr) (cap:Nat),rows=[]->∃news:List Value,(∀w':World,w'.heap=w.heap->(Builtin.lenOf (.slice ad 0 cap)).run K.P w'=.ok rows.length w'/\(Builtin.firstCells k rows.length (.slice ad 0 cap)).run K.P w'=.ok news.toArray w')/\news.length=rows.length*k/\
   (∀v,v∈news->v.oneCell'=true)/\(∀row,row∈rows->row.length=k)/\
   ∀(i j:Nat) (row:List V) (c:V),rows[i]? = some row->row[j]? = some c->∃v,news[i*k+j]? = some v/\VRel m β c v/\v.oneCell'=true:=by
  rintro ad cap rfl
  refine⟨[],fun w' _=>⟨rfl,?_⟩,by simp,by simp,by simp,by simp⟩
  cases ad<;>simp[Builtin.firstCells,loadCells,loadCellsFrom,pure]
 cases h with
 | @own id e _ n ho hn hd=>
  subst hn
  generalize hlen:rows.length=n at hx
  cases hx with
  |imm h=>cases h
  |ownNil h=>have h0:=as9.1 hlen;subst h0;exact empty _ _ rfl
  | @own _ _ b cap hb=>
   obtain⟨arr,bl,h1,h2,h3,h4,h5,_,h6⟩:=r.obj hb ho
   subst hlen
   refine mk ⟨b,cap.off,none⟩ _ cap.n arr e (0,0) (fun i=>arr.getD (cap.off+i) undef) rfl h1 rfl h5 ?_ ?_
   ·intro i hi
    have:cap.off+i<arr.size:=by rw[h2];have:=bz9 hi (ay9 k h3);omega
    simp[be9,this]
   ·intro i j row c hi hj
    obtain⟨v,a1,a2,a3⟩:=h6 i j row c hi hj
    simp only[be9,a1,bm9]
    exact⟨a2.v (hd row (ar8 hi) c (ar8 hj)),a3⟩
 |lst hone=>
  cases hx with
  |imm h=>
   cases h with
   |nil=>exact empty _ _ rfl
   | @lst _ _ ad n cap arr T fr f hm hs hn hcap hbd hkk hf h=>
    refine mk ad n cap arr T fr f hs (r.imm _ _ hm) hn hkk hf ?_
    intro i j row c hi hj
    have h1:=VRel.imm (β:=β) (h i j row c hi hj)
    exact⟨h1,h1.one (al8.1 (hone row (ar8 hi)) c (ar8 hj))⟩
 |nil=>rw[hx.of_con];exact empty _ _ rfl
 | @str s _ hk1 hr=>
  subst hk1 hr
  rw[hx.of_con]
  refine⟨s.map fun c=>.int .u8 (c.toNat:Int),fun w' _=>⟨by simp[Builtin.lenOf,ByteArray.size,pure],?_⟩,by simp,by simp[Value.oneCell'],by simp,?_⟩
  ·have hl:(s.map fun c=>[V.con (.int .u8 (c.toNat:Int))]).length=(⟨s.toArray⟩:ByteArray).size:=by simp[ByteArray.size]
   rw[hl]
   simp only[Builtin.firstCells,pure,Sem.run,ByteArray.extract_zero_size]
   congr 1
   apply an9
   simp
  ·intro i j row c hi hj
   rw[at9] at hi
   cases hs:s[i]? with
   |none=>rw[hs] at hi;cases hi
   |some u=>
    rw[hs] at hi
    cases hi
    cases j with
    |zero=>cases hj;exact⟨.int .u8 (u.toNat:Int),by simp[hs],.imm (.con _),rfl⟩
    |succ j=>simp at hj
theorem aops_appendG{d T T' e k bytes n n' id:Nat}{s x:Operand}{sv:V}{rows:List (List V)}(idn nx':Nat)(hfree:∀m β w a,Rel K m β w a S->β idn=none/\∀q,q<K.pins->q≠idn)(hidn:idn<nx')(hnn:S.nx<=nx')(rows2 rows':List (List V))(hT:tyEl K.P T e k bytes=true)(hT':tySS K.P T'=true)
  (hpos:Nat.blt 0 bytes=true) (hkp:Nat.blt 0 k=true)
  (hw:Wants ops S ⟨some d,.call ⟨.builtin .append,#[s,x],#[T,T']⟩,ty,pos,after,g⟩ true)
  (hs:evl K S s=.own id n) (ho:hget S.hp id=.arr e k rows) (hn:rows.length=n) (hx:evl K S x=sv) (hsrc:Src S k sv rows2)
  (hr:rows++rows2=rows') (hn':rows'.length=n') (hb:n'*bytes<=140737488355328\/(rows2.length=1/\n'*bytes<=211106232532992/\bytes<=1000000)) (hN:Nat.blt d K.N=true)
  (kk:AOps K ops rest Q ⟨(d,.own idn n')::S.env,(idn,.arr e k rows')::(id,.dead)::S.hp,nx'⟩):
  AOps K ops (⟨some d,.call ⟨.builtin .append,#[s,x],#[T,T']⟩,ty,pos,after,g⟩::rest) Q S:=by
 refine aops_runs hw (fun m β w a r=>?_) kk
 have hpos:=ar9 hpos
 have hkp:0<k:=ar9 hkp
 obtain⟨news,n1,n2,n3,n4,n5⟩:=hsrc.read hkp r (by rw[<-hx];exact r.reads x)
 have hlen:n'=n+rows2.length:=by grind
 have hsv:=r.reads s
 rw[hs] at hsv
 have hop:∀(v:Value) (w':World),(Builtin.append_ #[T,T'] ty #[a.eval s,a.eval x]).run K.P w=.ok v w'->
   (execOp a.eval ⟨some d,.call ⟨.builtin .append,#[s,x],#[T,T']⟩,ty,pos,after,g⟩).run K.P w=.ok (.value v) w':=by
  intro v w' h
  refine run_builtin rfl ?_
  simp only[builtin,bd9,bd8,ak8,Sem.run_bind,h,Result.andThen_ok]
  rfl
 -- rows of the result
 have hrows':∀row,row∈rows'->(∀row,row∈rows->row.length=k)->row.length=k:=by
  intro row h h5
  rw[<-hr] at h
  rcases bo9.1 h with h|h
  ·grind
  ·grind
 have hcells:∀(β':Locs) (w':World) (bl:Nat->Nat->Prop) (off:Nat) (old:Nat->Option Value) (arr':Array Value),β.le β'->(∀p x,bl p x->w'.heap[x]? = w.heap[x]?)->(∀row,row∈rows->row.length=k)->
   (∀(i j:Nat) (row:List V) (c:V),rows[i]? = some row->row[j]? = some c->∃v,old (i*k+j)=some v/\CRel m β w (bl (i*k+j)) c v/\v.oneCell'=true)->
   (∀p,p<n*k->arr'[off+p]? = old p)->(∀p,p<rows2.length*k->arr'[off+(n*k+p)]? = news[p]?)->
   ∀(i j:Nat) (row:List V) (c:V),rows'[i]? = some row->row[j]? = some c->∃v,arr'[off+(i*k+j)]? = some v/\CRel m β' w' (bl (i*k+j)) c v/\v.oneCell'=true:=by
  intro β' w' bl off old arr' hle hbl h5 h6 ha hb' i j row c hi hj
  have hrk:=hrows' row (ar8 hi) h5
  have hjk:j<k:=by rw[<-hrk];exact(aw8.1 hj).1
  rw[<-hr,bj9] at hi
  have hmul:∀p q:Nat,p<q->p*k+j<q*k:=by
   intro p q hpq
   calc p*k+j<p*k+k:=by omega
    _=(p+1)*k:=by grind
    _<=q*k:=ay9 _ hpq
  split at hi
  ·rename_i hlt
   obtain⟨v,a1,a2,a3⟩:=h6 i j row c hi hj
   exact⟨v,by grind,a2.mono (Mem.le_refl _) hle (fun _ h=>h) (fun x hx=>hbl _ x hx),a3⟩
  ·rename_i hlt
   obtain⟨v,a1,a2,a3⟩:=n5 (i - rows.length) j row c hi hj
   have hi2:=(aw8.1 hi).1
   have e1:i*k+j=n*k+((i - rows.length)*k+j):=by
    rw[<-ac8,<-ai8];congr 2;omega
   refine⟨v,?_,.inl (a2.mono (Mem.le_refl _) hle),a3⟩
   simp_all
 -- a new block
 have hlid:hget S.hp id≠.dead:=by rw[ho];simp
 have grows:∀(bl:Nat->Nat->Prop) (hBl:Bls (β.hid id) bl) (olds:List Value) (base:Option Addr) (cap:Nat),a.eval s=.slice base n cap->(∀w':World,w'.heap=w.heap->(Builtin.firstCells k n (.slice base n cap)).run K.P w'=.ok olds.toArray w')->olds.length=n*k->
   n<=cap->¬n+rows2.length<=cap->(∀row,row∈rows->row.length=k)->
   (∀(i j:Nat) (row:List V) (c:V),rows[i]? = some row->row[j]? = some c->∃v,olds[i*k+j]? = some v/\CRel m β w (bl (i*k+j)) c v/\v.oneCell'=true)->
   ∃v w' m' β',((execOp a.eval ⟨some d,.call ⟨.builtin .append,#[s,x],#[T,T']⟩,ty,pos,after,g⟩).run K.P w=.ok (.value v) w'\/v=undef/\(execOp a.eval ⟨some d,.call ⟨.builtin .append,#[s,x],#[T,T']⟩,ty,pos,after,g⟩).run K.P w=.ok .skip w')/\
    Rel K m' β' w' (a.put (some d) v) ⟨(d,.own idn n')::S.env,(idn,.arr e k rows')::(id,.dead)::S.hp,nx'⟩:=by
  intro bl hBl olds base cap hsx hold hol hcap hfit h5 h6
  obtain⟨q1,_,q3⟩:=room_ok (mm:=rows2.length) hpos hcap hfit (by grind)
  obtain⟨cap',arr',b1,b2,b3,b4,b5⟩:=run_append_grows (ty:=ty) hT hT' rfl (hold { w with drawn:=w.drawn+1 } rfl) (n1 w rfl).1 (n1 { w with drawn:=w.drawn+1 } rfl).2 hol n2 hfit q1 q3
  have r1:=(r.drawn (w.drawn+1) (ah8 _)).kill id
  have hdd:∀i,hget ((id,.dead)::S.hp) i≠.dead->hget S.hp i≠.dead/\i≠id:=by
   intro i hi
   rw[hget_put] at hi
   split at hi
   ·grind
   ·grind
  obtain⟨β',hle,hnx,r2⟩:=r1.allocG idn nx' (hfree m β w a r).1 (hfree m β w a r).2 hidn hnn (.cells arr' e (0,0)) (.arr e k rows') ⟨cap',0⟩ _ rfl (β.hid id)
   (fun x hx=>let q:=r.hid id x hlid hx;⟨q.lt,q.m,q.old,fun i b c hi hb=>q.ne i b c (hdd i hi).1 hb,fun i hi hx'=>(hdd i hi).2 (q.un i (hdd i hi).1 hx')⟩) (fun β' hle=>by
   refine obok_new (vs:=arr') bl hBl (by simp) (by grind) (by grind) b3 (fun row h=>hrows' row h h5) ?_
   refine hcells β' _ bl 0 (fun p=>olds[p]?) arr' hle (fun p x hx=>?_) h5 h6 ?_ ?_
   ·have:=(r.hid id x hlid (hBl.1 p x hx)).lt
    grind
   ·grind
   grind)
  refine⟨.slice (some ⟨w.heap.size,0,none⟩) n' cap',{ w with drawn:=w.drawn+1,heap:=w.heap.push (.cells arr' e (0,0)) },m,β',.inl ?_,?_⟩
  ·grind
  ·exact Rel.put r2 hN (.own hnx)
 generalize hsx:a.eval s=sx at hsv
 cases hsv with
 |imm h=>cases h
 | @ownNil _ ad hbn=>
  have h0:=r.own id
  rw[hbn,ho] at h0
  have h0:rows=[]:=h0
  subst h0
  by_cases hfit:0+rows2.length<=0
  ·have h2:rows2=[]:=as9.1 (by omega)
   subst h2
   have h3:rows'=[]:=by rw[<-hr];rfl
   subst h3
   have hn0:n'=0:=by simpa using hn'.symm
   subst hn0
   obtain⟨β',hle,hnx,r2⟩:=r.moveG id idn nx' (hfree m β w a r).1 (hfree m β w a r).2 hidn hnn ho (by simp) (by simp)
   refine⟨.slice ad 0 0,w,m,β',.inl ?_,Rel.put r2 hN (.ownNil (by grind))⟩
   refine hop _ _ ?_
   rw[hsx]
   obtain⟨i,z,hu,hi,hs',hby,hz,hzk⟩:=tyEl_inv hT
   have hk:K.P.cellsOf e=k:=by simp[Program.cellsOf,hi,hs']
   obtain⟨q1,q2⟩:=n1 w rfl
   have hnews:news=[]:=as9.1 (by grind)
   subst hnews
   simp only[bh8] at q2
   rcases tySS_inv hT' with ⟨e',hu'⟩|hu'
   all_goals
    simp only[Builtin.append_,az8,bf9,bi9,Sem.run_bind,run_underlying hu,Result.andThen_ok,run_sizeOf w hi,hk,run_underlying hu',pure,Sem.run,
     by9,if_false,q1,bh8,az9,ab8,if_true,bl9]
    cases ad<;>simp[q2,storeCells,pure,Sem.run]
  ·exact grows _ bls_none [] ad 0 hsx (fun w' _=>by cases ad<;>simp[Builtin.firstCells,loadCells,loadCellsFrom,pure]) (by simp) (af8 _) hfit (by simp) (by simp)
 | @own _ _ b cap hbb=>
  obtain⟨arr,bl,h1,h2,h3,h4,h5,hBl,h6⟩:=r.obj hbb ho
  have hnk:cap.off+n*k<=arr.size:=by rw[h2,<-hn];have:=ay9 k h3;omega
  by_cases hfit:n+rows2.length<=cap.n
  ·have hrun:=run_append_fits (ty:=ty) hT hT' h1 h2 (n1 w rfl).1 (n1 w rfl).2 n2 n3 hfit
   have hle2:cap.off+n*k+news.length<=arr.size:=by
    have:n*k+rows2.length*k<=cap.n*k:=by rw[<-ai8];exact ay9 _ hfit
    rw[n2,h2];omega
   have hgt:∀p,(arr.toList.take (cap.off+n*k)++news++arr.toList.drop (cap.off+n*k+news.length)).toArray[p]? = if cap.off+n*k<=p/\p<cap.off+n*k+news.length then news[p - (cap.off+n*k)]? else arr[p]?:=by
    intro p
    rw[az8,splice_get _ _ _ (by grind)]
    grind
   have r1:=r.update (id:=id) (ob:=.arr e k rows') (by grind) hbb (w.setRow b (arr.toList.take (cap.off+n*k)++news++arr.toList.drop (cap.off+n*k+news.length)).toArray) (fun b' hb'=>heap_setRow hb') (by simp[World.setRow]) ⟨rfl,rfl,rfl,trivial⟩ (fun hkeep=>by
    refine obok_new bl hBl (heap_setRow_self h1) ?_ (by grind) h4 (fun row h=>hrows' row h h5) ?_
    ·grind
    ·refine hcells β _ bl cap.off (fun p=>arr[cap.off+p]?) _ (Locs.le_refl _) (fun p x hx=>hkeep x (hBl.1 p x hx)) h5 h6 ?_ ?_
     ·grind
     grind)
   obtain⟨β',hle,hnx,r2⟩:=r1.moveG id idn nx' (hfree m β w a r).1 (hfree m β w a r).2 hidn hnn (ob:=.arr e k rows') (by rw[hget_put];simp) (by simp) (by simp)
   have r3:Rel K m β' (w.setRow b (arr.toList.take (cap.off+n*k)++news++arr.toList.drop (cap.off+n*k+news.length)).toArray) a ⟨S.env,(idn,.arr e k rows')::(id,.dead)::S.hp,nx'⟩:=by
    have hsame:∀i,hget ((idn,Ob.arr e k rows')::(id,.dead)::(id,.arr e k rows')::S.hp) i=hget ((idn,Ob.arr e k rows')::(id,.dead)::S.hp) i:=by
     intro i
     simp only[hget_put]
     by_cases q1:idn=i
     ·grind
     ·grind
    exact⟨r2.imm,r2.ext,r2.mold,r2.frame,r2.size,r2.same,r2.tn,r2.df,r2.env,fun i=>by have:=r2.own i;grind,
     fun i b c h=>r2.priv i b c (by grind),fun i i' b c c' h h'=>r2.inj i i' b c c' (by grind) (by grind),
     fun i x h hx=>let q:=r2.hid i x (by grind) hx;⟨q.lt,q.m,q.old,fun i' b c h'=>q.ne i' b c (by grind),fun i' h'=>q.un i' (by grind)⟩,r2.nx,r2.pin⟩
   refine⟨.slice (some ⟨b,cap.off,none⟩) n' cap.n,w.setRow b (arr.toList.take (cap.off+n*k)++news++arr.toList.drop (cap.off+n*k+news.length)).toArray,m,β',.inl ?_,Rel.put r3 hN (.own (by grind))⟩
   grind
  ·refine grows bl hBl ((arr.toList.drop cap.off).take (n*k)) (some ⟨b,cap.off,none⟩) cap.n hsx (fun w' hw'=>?_) (by simp;omega) (by omega) hfit h5 ?_
   ·have:=run_firstCells (P:=K.P) (w:=w') (ad:=⟨b,cap.off,none⟩) (n:=n) (c:=cap.n) (k:=k) (fun j=>arr.getD (cap.off+j) undef) (fun j hj=>by
     rw[add_spot,cell_of_heap (arr:=arr) (T:=e) (fr:=(0,0)) (by grind)]
     have:cap.off+j<arr.size:=by omega
     simp_all)
    rw[this]
    congr 2
    apply an8
    intro j
    rw[at9,ba9]
    by_cases hj:j<n*k
    ·rw[at8 hj,if_pos hj,ap9]
     have:cap.off+j<arr.size:=by omega
     simp_all
    grind
   ·intro i j row c hi hj
    obtain⟨v,a1,a2,a3⟩:=h6 i j row c hi hj
    refine⟨v,?_,a2,a3⟩
    rw[ba9,if_pos]
    ·grind
    ·have hrk:=h5 row (ar8 hi)
     have hjk:j<k:=by rw[<-hrk];exact(aw8.1 hj).1
     calc i*k+j<i*k+k:=by omega
      _=(i+1)*k:=by grind
      _<=n*k:=ay9 _ (by grind)
theorem aops_appendO{d T T' e k bytes n n' id:Nat}{s x:Operand}{sv:V}{rows:List (List V)}(rows2 rows':List (List V))(hT:tyEl K.P T e k bytes=true)(hT':tySlice K.P T'=true)
  (hpos:Nat.blt 0 bytes=true) (hkp:Nat.blt 0 k=true)
  (hw:Wants ops S ⟨some d,.call ⟨.builtin .append,#[s,x],#[T,T']⟩,ty,pos,after,g⟩ true)
  (hs:evl K S s=.own id n) (ho:hget S.hp id=.arr e k rows) (hn:rows.length=n) (hx:evl K S x=sv) (hsrc:Src S k sv rows2)
  (hr:rows++rows2=rows') (hn':rows'.length=n') (hb:n'*bytes<=140737488355328\/(rows2.length=1/\n'*bytes<=211106232532992/\bytes<=1000000)) (hN:Nat.blt d K.N=true)
  (kk:AOps K ops rest Q ⟨(d,.own S.nx n')::S.env,(S.nx,.arr e k rows')::(id,.dead)::S.hp,S.nx+1⟩):
  AOps K ops (⟨some d,.call ⟨.builtin .append,#[s,x],#[T,T']⟩,ty,pos,after,g⟩::rest) Q S:=
 aops_appendG S.nx (S.nx+1) (fun _ _ _ _ r=>⟨r.nx _ (ab8 _),fun q hq=>ag8 (r.pin q hq).1⟩) (ah9 _) (ah8 _) rows2 rows' hT (tySlice_SS hT') hpos hkp hw hs ho hn hx hsrc hr hn' hb hN kk
theorem aops_append{d T T' e k bytes n n' id:Nat}{s x:Operand}{sv:V}{rows:List (List V)}(rows2 rows':List (List V))(hT:tyEl K.P T e k bytes=true)(hT':tySlice K.P T'=true)
  (hpos:Nat.blt 0 bytes=true) (hkp:Nat.blt 0 k=true)
  (hw:Wants ops S ⟨some d,.call ⟨.builtin .append,#[s,x],#[T,T']⟩,ty,pos,after,g⟩ true)
  (hs:evl K S s=.own id n) (ho:hget S.hp id=.arr e k rows) (hn:rows.length=n) (hx:evl K S x=sv) (hsrc:Src S k sv rows2)
  (hr:rows++rows2=rows') (hn':rows'.length=n') (hb:n'*bytes<=140737488355328) (hN:Nat.blt d K.N=true)
  (kk:AOps K ops rest Q ⟨(d,.own S.nx n')::S.env,(S.nx,.arr e k rows')::(id,.dead)::S.hp,S.nx+1⟩):
  AOps K ops (⟨some d,.call ⟨.builtin .append,#[s,x],#[T,T']⟩,ty,pos,after,g⟩::rest) Q S:=
 aops_appendO rows2 rows' hT hT' hpos hkp hw hs ho hn hx hsrc hr hn' (.inl hb) hN kk
end
section
variable{K:Ctx}{Q:Post}{S S':St}{ops:Array Oper}{rest:List Oper}{op:Op}{ty:TypeId}{pos:String}{after:Array Edge}{g:Option (Nat×Bool)}
variable{m:Mem}{β:Locs}{w:World}{a:Act}
theorem fold_set(off:Nat):∀(l:List Value) (s:Nat) (cells:Array Value),off+s+l.length<=cells.size->
  ((l.zipIdx s).foldl (fun(cs:Array Value) (x:Value×Nat)=>cs.setIfInBounds (off+x.2) x.1) cells).size=cells.size/\
  ∀p,((l.zipIdx s).foldl (fun(cs:Array Value) (x:Value×Nat)=>cs.setIfInBounds (off+x.2) x.1) cells)[p]? = if off+s<=p/\p<off+s+l.length then l[p - (off+s)]? else cells[p]?
 |[],s,cells,_=>by
  simp_all[if_neg]
 |v::l,s,cells,h=>by
  simp only[bl8] at h
  obtain⟨h1,h2⟩:=fold_set off l (s+1) (cells.setIfInBounds (off+s) v) (by simp;omega)
  simp only[List.zipIdx_cons,List.foldl_cons]
  grind
def fillV(pl:Nat->Option (Nat×Nat)):List V->List (Nat×V)->Option (List V)
 |cs,[]=>some cs
 |cs,(i,v)::rest=>
  match pl i with
  |none=>none
  |some (off,size)=>bif Nat.beq (vcells v).length size&&Nat.ble (off+(vcells v).length) cs.length&&(vcells v).all oneV then fillV pl (cs.take off++vcells v++cs.drop (off+(vcells v).length)) rest else none
def Cells(m:Mem)(β:Locs)(cs:List V)(vs:Array Value):Prop:=
 cs.length=vs.size/\∀(i:Nat) (c:V) (u:Value),cs[i]? = some c->vs[i]? = some u->VRel m β c u/\u.oneCell'=true
theorem fill_rel{pl:Nat->Option (Nat×Nat)}:∀(parts:List (Nat×V)) (vals:List (Nat×Value)) (cs cs':List V) (cells:Array Value),fillV pl cs parts=some cs'->Cells m β cs cells->
  parts.length=vals.length->(∀(i:Nat) (p:Nat×V) (q:Nat×Value),parts[i]? = some p->vals[i]? = some q->p.1=q.1/\VRel m β p.2 q.2)->
  ∃cells',Instr.fill pl cells vals=some cells'/\Cells m β cs' cells'
 |[],[],cs,cs',cells,h,hc,_,_=>by
  simp only[fillV,aq8] at h
  subst h
  exact⟨cells,rfl,hc⟩
 |(i,v)::parts,(i',u)::vals,cs,cs',cells,h,hc,hl,hr=>by
  obtain⟨e1,e2⟩:=hr 0 _ _ rfl rfl
  simp only at e1 e2
  subst e1
  simp only[fillV] at h
  cases hp:pl i with
  |none=>grind
  |some p=>
   obtain⟨off,size⟩:=p
   simp only[hp,cond_eq_ite,al9] at h
   split at h
   ·rename_i hcond
    obtain⟨⟨q1,q2⟩,q3⟩:=hcond
    have q1:=bw8 q1
    have q2:=ar9 q2
    obtain⟨c1,c2,c3⟩:=e2.cells q3
    obtain⟨f1,f2⟩:=fold_set off u.cells.toList 0 cells (by simp only[az9,bc8,<-c1,<-hc.1];exact q2)
    simp only[az9,bc8] at f2
    obtain⟨cells',g1,g2⟩:=fill_rel parts vals _ cs' ((u.cells.toList.zipIdx 0).foldl (fun(cs:Array Value) (x:Value×Nat)=>cs.setIfInBounds (off+x.2) x.1) cells) h (by
     refine⟨by rw[f1];simp only[ba8,bc9,aj9,<-hc.1];omega,fun j c x hj hx=>?_⟩
     rw[splice_get _ _ _ q2] at hj
     rw[f2] at hx
     by_cases hjj:off<=j/\j<off+(vcells v).length
     ·grind
     ·rw[if_neg hjj] at hj
      rw[if_neg (by grind)] at hx
      exact hc.2 j c x hj hx) (by grind) (fun i p q h1 h2=>hr (i+1) p q (by grind) (by grind))
    refine⟨cells',?_,g2⟩
    unfold Instr.fill
    simp only[hp]
    rw[if_neg]
    ·rw[<-g1]
     congr 1
     grind [Array.toList_zipIdx]
    ·simp only[ne_eq,am9,decide_eq_true_eq,not_or,Decidable.not_not,Nat.not_lt]
     exact⟨by grind,by rw[<-c1,<-hc.1];exact q2⟩
   grind
 |[],q::vals,_,_,_,_,_,hl,_=>by simp at hl
 |p::parts,[],_,_,_,_,_,hl,_=>by simp at hl
def tyPlaces(P:Program)(T:TypeId):Option (List (Nat×Nat)):=
 match P.underlying T with
 |some (.struct fs)=>fs.toList.mapM fun f=>(P.info? f.type).map fun i=>(f.offset,i.size)
 |_=>none
theorem parts_rel(r:Rel K m β w a S)(parts:Array (Nat×Operand))(ps:List (Nat×V))(h:parts.toList.map (fun p=>(p.1,evl K S p.2))=ps):
  ps.length=(parts.map fun(i,x)=>(i,a.eval x)).toList.length/\
  ∀(i:Nat) (p:Nat×V) (q:Nat×Value),ps[i]? = some p->(parts.map fun(i,x)=>(i,a.eval x)).toList[i]? = some q->p.1=q.1/\VRel m β p.2 q.2:=by
 subst h
 refine⟨by simp,fun i p q h1 h2=>?_⟩
 simp only[Array.toList_map,at9] at h1 h2
 cases hx:parts.toList[i]? with
 |none=>grind
 |some x=>
  simp[hx] at h1 h2
  subst h1;subst h2
  exact⟨rfl,r.reads x.2⟩
theorem zero_cells{zs:List Value}(h1:zs.all (·.oneCell')=true)(m:Mem)(β:Locs):Cells m β (zs.map .con) zs.toArray:=by
 refine⟨by simp,fun i c u hc hu=>?_⟩
 simp only[at9,az8] at hc hu
 rw[hu] at hc
 simp at hc;subst hc
 exact⟨.imm (.con u),al8.1 h1 u (ar8 hu)⟩
theorem aops_build{d:Nat}{T:TypeId}{parts:Array (Nat×Operand)}{zs:List Value}{pls:List (Nat×Nat)}(ps:List (Nat×V))(cs:List V)(hz:zeroCells K.P T=some zs)(hp:tyPlaces K.P T=some pls)
  (h1:zs.all (·.oneCell')=true) (hw:Wants ops S ⟨some d,.build T parts,ty,pos,after,g⟩ true)
  (hps:parts.toList.map (fun p=>(p.1,evl K S p.2))=ps) (hf:fillV (fun i=>pls[i]?) (zs.map .con) ps=some cs) (hN:Nat.blt d K.N=true)
  (kk:AOps K ops rest Q (S.put d (.agg cs))):AOps K ops (⟨some d,.build T parts,ty,pos,after,g⟩::rest) Q S:=
 aops_val _ hw hN (fun m β w a r=>by
  obtain⟨hl,hr⟩:=parts_rel r parts ps hps
  obtain⟨cells',f1,f2⟩:=fill_rel ps _ _ cs zs.toArray hf (zero_cells h1 m β) hl hr
  have hb:K.P.built T (parts.map fun(i,x)=>(i,a.eval x)).toList=some cells':=by
   unfold zeroCells at hz
   unfold tyPlaces at hp
   cases hi:K.P.info? T with
   |none=>grind
   |some i=>
    cases hzz:i.zero with
    |none=>grind
    |some z=>
     simp[hi,hzz] at hz
     cases hu:K.P.underlying T with
     |none=>grind
     |some dd=>
      cases dd<;>simp only[hu,reduceCtorEq] at hp
      rename_i fs
      simp only[Program.built,hi,hu,hzz,hp]
      rw[<-f1,<-hz]
      simp
  refine⟨.agg cells',by simp_all[execOp,run_build],.agg f2.1 fun i c v hc hv=>(f2.2 i c v hc hv).1⟩) kk
def flat:List (List V)->List V
 |[]=>[]
 |r::rs=>r++flat rs
theorem flat_length{k:Nat}:∀(rows:List (List V)),(∀row,row∈rows->row.length=k)->(flat rows).length=rows.length*k
 |[],_=>by simp[flat]
 |r::rs,h=>by
  simp only[flat,ba8,bl8,ai8,Nat.one_mul,h r (by simp),flat_length rs (fun row hr=>h row (by simp[hr]))]
  omega
theorem flat_get{k:Nat}:∀(rows:List (List V)),(∀row,row∈rows->row.length=k)->∀(i j:Nat) row c,rows[i]? = some row->row[j]? = some c->(flat rows)[i*k+j]? = some c
 |[],_,i,j,row,c,hi,_=>by simp at hi
 |r::rs,h,i,j,row,c,hi,hj=>by
  simp only[flat]
  have hrk:=h r (by simp)
  have hj1:=(aw8.1 hj).1
  cases i with
  |zero=>
   grind
  |succ i=>
   simp at hi
   rw[ao8 (by grind)]
   have:(i+1)*k+j - r.length=i*k+j:=by rw[hrk,ai8,Nat.one_mul];omega
   simp_all[flat_get]
theorem aops_buildSlice{d T e k bytes n:Nat}{parts:Array (Nat×Operand)}{zs:List Value}(ps:List (Nat×V))(rows:List (List V))(hT:tyEl K.P T e k bytes=true)(hz:zeroCells K.P e=some zs)
  (h1:zs.all (·.oneCell')=true) (hk:Nat.blt 0 k=true) (hnn:Nat.blt 0 n=true) (hbig:Nat.ble (n*k) 16777216=true) (hw:Wants ops S ⟨some d,.buildSlice T n parts,ty,pos,after,g⟩ true)
  (hps:parts.toList.map (fun p=>(p.1,evl K S p.2))=ps) (hf:fillV (fun i=>some (i*k,k)) (((List.range (n*k)).map fun i=>zs.getD (i % k) undef).map .con) ps=some (flat rows))
  (hrl:rows.length=n) (hrk:∀row,row∈rows->row.length=k) (hN:Nat.blt d K.N=true)
  (kk:AOps K ops rest Q ⟨(d,.own S.nx n)::S.env,(S.nx,.arr e k rows)::S.hp,S.nx+1⟩):
  AOps K ops (⟨some d,.buildSlice T n parts,ty,pos,after,g⟩::rest) Q S:=by
 refine aops_runs hw (fun m β w a r=>?_) kk
 have hk:=ar9 hk
 have hnn:=ar9 hnn
 have hbig:=ar9 hbig
 obtain⟨hl,hr⟩:=parts_rel r parts ps hps
 obtain⟨i,z,hu,hi,hs,hby,hzz,hzk⟩:=tyEl_inv hT
 obtain⟨z',hz1,hz2⟩:=zero_run hz w
 have hzl:zs.length=k:=by
  have:zeroCells K.P e=some z.cells.toList:=by simp[zeroCells,hi,hzz]
  rw[hz] at this;simp only[aq8] at this;rw[this];simp[hzk]
 have hkk:K.P.cellsOf e=k:=by simp[Program.cellsOf,hi,hs]
 have hrows:0<n*k:=Nat.mul_pos hnn hk
 have hall:∀v,v∈zs->v.oneCell'=true:=fun v hv=>al8.1 h1 v hv
 have hzc:(Array.range (n*k)).map (fun x=>(z'.cells)[x % z'.cells.size]!)=(((List.range (n*k)).map fun i=>zs.getD (i % k) undef)).toArray:=by
  apply an9
  simp only[Array.toList_map,Array.toList_range,hz2,be8,hzl]
  apply br8
  intro x _
  have:x % k<zs.length:=by rw[hzl];exact aj8 _ hk
  simp[this]
 obtain⟨cells',f1,f2⟩:=fill_rel ps _ _ (flat rows) (((List.range (n*k)).map fun i=>zs.getD (i % k) undef)).toArray hf (zero_cells (by
  simp_all[aj8]) m β) hl hr
 have hsize:cells'.size=n*k:=by rw[<-f2.1,flat_length rows hrk,hrl]
 obtain⟨β',hle,hnx,r2⟩:=r.alloc (.cells cells' e (0,0)) (.arr e k rows) ⟨n,0⟩ _ rfl (fun β' hle=>by
  refine obok_new0 (vs:=cells') (by simp) hsize (by omega) (by unfold maxLen;have:=bq8 n hk;omega) hrk ?_
  intro i j row c hi hj
  have hg:=flat_get rows hrk i j row c hi hj
  have hlt:i*k+j<cells'.size:=by rw[<-f2.1];exact(aw8.1 hg).1
  obtain⟨a1,a2⟩:=f2.2 _ c cells'[i*k+j] hg (by simp[hlt])
  exact⟨cells'[i*k+j],by simp[hlt],a1.mono (Mem.le_refl _) hle,a2⟩)
 refine⟨.slice (some ⟨w.heap.size,0,none⟩) n n,{ w with heap:=w.heap.push (.cells cells' e (0,0)) },m,β',.inl ?_,Rel.put r2 hN (.own hnx)⟩
 simp only[execOp]
 rw[Sem.run_bind]
 have:(Instr.buildSlice T n (parts.map fun(i,x)=>(i,a.eval x))).run K.P w=.ok (.slice (some ⟨w.heap.size,0,none⟩) n n) { w with heap:=w.heap.push (.cells cells' e (0,0)) }:=by
  simp only[Instr.buildSlice,Sem.run_bind,run_underlying hu,Result.andThen_ok,run_sizeOf w hi,hkk]
  rw[if_neg (by omega),if_neg (by omega)]
  simp only[Sem.run_bind,hz1,Result.andThen_ok,pure,Sem.run,hzc,f1,newRow,newObj]
 simp_all
theorem aops_makeFunc{d f:Nat}{captured:Array Operand}(cs:List V)(hw:Wants ops S ⟨some d,.makeFunc (.func f) #[] captured,ty,pos,after,g⟩ true)
  (hc:captured.toList.map (evl K S)=cs) (hN:Nat.blt d K.N=true) (kk:AOps K ops rest Q (S.put d (.fn (.func f) [] cs))):
  AOps K ops (⟨some d,.makeFunc (.func f) #[] captured,ty,pos,after,g⟩::rest) Q S:=
 aops_val _ hw hN (fun m β w a r=>by
  refine⟨.func (.func f) #[] (captured.map a.eval),by simp_all[execOp,Instr.makeFunc],.fn rfl (by grind) (by simp) fun i c v h1 h2=>?_⟩
  rw[<-hc,at9] at h1
  rw[bp9] at h2
  cases hx:captured[i]? with
  |none=>grind
  |some x=>
   simp[hx] at h1 h2
   subst h1;subst h2
   exact r.reads x) kk
inductive Flat:V->Prop
 |con (v:Value):Flat (.con v)
 |any:Flat .any
 |tup {ds:List V} (h:∀d,d∈ds->∃v,d=.con v):Flat (.tup ds)
theorem Flat.free{d:V}(h:Flat d){m m':Mem}{v:Value}(hv:IRel m d v):IRel m' d v:=by
 cases h with
 |con=>cases hv;exact .con _
 |any=>exact .any _
 |tup h=>
  cases hv with
  |tup hl hh=>
   refine .tup hl fun i c v hi hv=>?_
   obtain⟨u,rfl⟩:=h c (ar8 hi)
   have:=hh i _ v hi hv
   cases this;exact .con _
theorem aops_lend{o:Oper}{d:Nat}{f:FuncId}{dv:V}{avs:List V}(hw:Wants ops S o true)(hd:o.dst=some d)(hN:Nat.blt d K.N=true)(hg:Ghost K S S')(hfl:Flat dv)
  (hrun:∀m β w a,Rel K m β w a S'->∃vs:Array Value,(execOp a.eval o).run K.P w=.ok (.enter f vs) w/\IRels m avs vs)
  (hc:PureG K.gl K.P f avs dv) (kk:AOps K ops rest Q (S.put d dv)):AOps K ops (o::rest) Q S:=by
 intro m β w a r
 unfold wpListIn
 rw[if_pos (hw.at r)]
 obtain⟨m1,β1,r1⟩:=hg m β w a r
 obtain⟨vs,h1,h2⟩:=hrun m1 β1 w a r1
 refine op_in (.inr (nd_run h1 (fun d e=>by cases e))) ?_
 unfold Oper.wp
 rw[h1]
 refine(hc m1 w vs r1.imm (K.glok.mono r1.ext) h2).mono ?_
 rintro e w' ⟨v,m',rfl,h3,h4⟩
 simp only[hd]
 have hg:Grew m m w w':=⟨Mem.le_refl _,fun b o h=>by have:=r.imm b o h;rw[h4.heap b (lt_of_some this)];exact this,fun _ _=>rfl,h4.heap,h4.size,h4.same⟩
 exact kk m β w' _ ((r.grow hg).put hN (.imm (hfl.free h3)))
theorem aops_lend_call{d:Nat}{f:FuncId}{args:Array Operand}{at':Array TypeId}(dv:V)(avs:List V)(hf:fnOk K.P f=true)(hg:Ghost K S S')(hfl:Flat dv)
  (hw:Wants ops S ⟨some d,.call ⟨.value (.func f),args,at'⟩,ty,pos,after,g⟩ true)
  (ha:args.toList.map (evl K S')=avs) (hi:Imms avs) (hc:PureG K.gl K.P f avs dv) (hN:Nat.blt d K.N=true) (kk:AOps K ops rest Q (S.put d dv)):
  AOps K ops (⟨some d,.call ⟨.value (.func f),args,at'⟩,ty,pos,after,g⟩::rest) Q S:=
 aops_lend hw rfl hN hg hfl (call_run hf ha hi) hc kk
end
end Go.Pv
