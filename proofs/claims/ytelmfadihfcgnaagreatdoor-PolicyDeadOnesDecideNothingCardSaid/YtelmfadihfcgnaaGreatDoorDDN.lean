/- Part of the proof: LM, DP, DQ, DM, DN. -/
import Derived.Test.YtelmfadihfcgnaaGreatDoorDZA
namespace Go.Pv
open Go
set_option linter.unusedVariables false
section
variable{K:Ctx}{Q:Post}{S S':St}
variable{m:Mem}{β:Locs}{w:World}{a:Act}
variable{ops:Array Oper}{rest:List Oper}{ty:TypeId}{pos:String}{after:Array Edge}{g:Option (Nat×Bool)}
theorem Rel.adopt(r:Rel K m β w a S)(id0 nx':Nat)(hfree:β id0=none)(hpid:∀q,q<K.pins->q≠id0)(hidn:id0<nx')(hnn:S.nx<=nx')(loc:Option (Nat×Cap))(ob:Ob)
  (hblk:∀b c,loc=some (b,c)->m b=none/\(b<K.w0.heap.size->¬K.old b)/\(∀i c',hget S.hp i≠.dead->β i≠some (some (b,c')))/\∀i,hget S.hp i≠.dead->¬β.hid i b)
  (hok:∀β',β.le β'->ObOk m β' w (fun _=>False) (some loc) ob):
  ∃β':Locs,β.le β'/\β' id0=some loc/\Rel K m β' w a ⟨S.env,(id0,ob)::S.hp,nx'⟩:=by
 let β':Locs:=⟨fun i=>if i=id0 then some loc else β i,fun i=>if i=id0 then (fun _=>False) else β.hid i⟩
 have hle:β.le β':=by
  intro i l h
  show(if i=id0 then _ else _)=_
  rw[if_neg]
  ·exact h
  ·intro e;rw[e,hfree] at h;simp at h
 have en:β' id0=some loc:=by show(if _ then _ else _)=_;rw[if_pos rfl]
 have eo:∀i,id0≠i->β' i=β i:=fun i h=>by show(if _ then _ else _)=_;rw[if_neg (Ne.symm h)]
 have hn:β'.hid id0=fun _=>False:=by show(if _ then _ else _)=_;rw[if_pos rfl]
 have ho:∀i,id0≠i->β'.hid i=β.hid i:=fun i h=>by show(if _ then _ else _)=_;rw[if_neg (Ne.symm h)]
 refine⟨β',hle,en,?_⟩
 constructor
 ·exact r.imm
 ·exact r.ext
 ·exact r.mold
 ·exact r.frame
 ·exact r.size
 ·exact r.same
 ·exact r.tn
 ·exact r.df
 ·exact fun t=>(r.env t).mono (Mem.le_refl _) hle
 ·intro id
  simp only[hget_put]
  by_cases h:id0=id
  ·subst h;rw[if_pos rfl]
   show ObOk m β' w (β'.hid id0) (β' id0) ob
   rw[en,hn];exact hok β' hle
  ·rw[if_neg h]
   show ObOk m β' w (β'.hid id) (β' id) _
   rw[eo id h,ho id h]
   exact ObOk.mono (Mem.le_refl _) hle (fun _ _ h=>h) (fun _ _=>rfl) (r.own id)
 ·intro id b c hl hb
  simp only[hget_put] at hl
  by_cases h:id0=id
  ·subst h
   rw[en] at hb
   simp only[Option.some.injEq] at hb
   exact⟨(hblk b c hb).1,(hblk b c hb).2.1⟩
  ·rw[if_neg h] at hl
   rw[eo id h] at hb
   exact r.priv id b c hl hb
 ·intro id id' b c c' hl hl' hb hb'
  simp only[hget_put] at hl hl'
  by_cases h:id0=id<;>by_cases h':id0=id'
  ·rw[<-h,<-h']
  ·exfalso
   subst h
   rw[if_neg h'] at hl'
   rw[eo id' h'] at hb'
   rw[en] at hb
   simp only[Option.some.injEq] at hb
   exact(hblk b c hb).2.2.1 id' c' hl' hb'
  ·exfalso
   subst h'
   rw[if_neg h] at hl
   rw[eo id h] at hb
   rw[en] at hb'
   simp only[Option.some.injEq] at hb'
   exact(hblk b c' hb').2.2.1 id c hl hb
  ·rw[if_neg h] at hl
   rw[if_neg h'] at hl'
   rw[eo id h] at hb
   rw[eo id' h'] at hb'
   exact r.inj id id' b c c' hl hl' hb hb'
 ·intro id x hl hx
  simp only[hget_put] at hl
  by_cases h:id0=id
  ·subst h;rw[hn] at hx;exact hx.elim
  ·rw[if_neg h] at hl
   rw[ho id h] at hx
   have q:=r.hid id x hl hx
   refine⟨q.lt,q.m,q.old,fun i b c hi hb=>?_,fun i hi hx'=>?_⟩
   ·simp only[hget_put] at hi
    by_cases h':id0=i
    ·subst h'
     rw[en] at hb
     simp only[Option.some.injEq] at hb
     intro e;subst e
     exact(hblk _ c hb).2.2.2 id hl hx
    ·rw[if_neg h'] at hi
     rw[eo i h'] at hb
     exact q.ne i b c hi hb
   ·simp only[hget_put] at hi
    by_cases h':id0=i
    ·subst h';rw[hn] at hx';exact hx'.elim
    ·rw[if_neg h'] at hi
     rw[ho i h'] at hx'
     exact q.un i hi hx'
 ·intro id hid
  have hid:nx'<=id:=hid
  show β' id=none
  rw[eo id (by omega)]
  exact r.nx id (by omega)
 ·intro q hq
  obtain⟨p1,p2⟩:=r.pin q hq
  exact⟨Nat.lt_of_lt_of_le p1 hnn,by rw[eo q (Ne.symm (hpid q hq))];exact p2⟩
inductive Lent(j:Nat):V->V->Prop
 |con (v:Value):Lent j (.con v) (.con v)
 |own {n:Nat}:Lent j (.own 0 n) (.own j n)
 |tup {cs ds:List V} (hl:cs.length=ds.length) (h:∀(i:Nat) c d,cs[i]? = some c->ds[i]? = some d->(∃v,c=.con v/\d=.con v)\/∃n,c=.own 0 n/\d=.own j n):Lent j (.tup cs) (.tup ds)
theorem Lent.own'{j:Nat}{m m':Mem}{β β':Locs}{n:Nat}{v:Value}(hj:β' j=β 0)(hv:VRel m β (.own 0 n) v):VRel m' β' (.own j n) v:=by
 cases hv with
 |imm h=>cases h
 |ownNil h=>exact .ownNil (by rw[hj];exact h)
 |own h=>exact .own (by rw[hj];exact h)
theorem Lent.get{j:Nat}{c d:V}(h:Lent j c d){m m':Mem}{β β':Locs}{v:Value}(hj:β' j=β 0)(hv:VRel m β c v):VRel m' β' d v:=by
 cases h with
 |con u=>rw[hv.of_con];exact .imm (.con _)
 |own=>exact Lent.own' hj hv
 | @tup cs ds hl h=>
  have key:∀(i:Nat) c d u,cs[i]? = some c->ds[i]? = some d->VRel m β c u->VRel m' β' d u:=by
   intro i c d u hc hd hu
   rcases h i c d hc hd with ⟨x,rfl,rfl⟩|⟨n,rfl,rfl⟩
   ·rw[hu.of_con];exact .imm (.con _)
   ·exact Lent.own' hj hu
  cases hv with
  |imm hi=>
   cases hi with
   |tup hl' hi=>
    refine .tup (by rw[<-hl];exact hl') (fun i c v hc hv=>?_)
    have hlt:=(List.getElem?_eq_some_iff.1 hc).1
    have hlt':i<cs.length:=by rw[hl];exact hlt
    exact key i _ c v (List.getElem?_eq_getElem hlt') hc (.imm (hi i _ v (List.getElem?_eq_getElem hlt') hv))
  |tup hl' hi=>
   refine .tup (by rw[<-hl];exact hl') (fun i c v hc hv=>?_)
   have hlt:=(List.getElem?_eq_some_iff.1 hc).1
   have hlt':i<cs.length:=by rw[hl];exact hlt
   exact key i _ c v (List.getElem?_eq_getElem hlt') hc (hi i _ v (List.getElem?_eq_getElem hlt') hv)
end
end Go.Pv
namespace Go.Pv
open Go
section
variable{K:Ctx}{S:St}
def Mv(id idn:Nat):Hy:=fun m β m' β'=>m'=m/\β'=β/\β idn=β id
instance {id idn:Nat}:HyMC (Mv id idn):=⟨fun m β m' β' hy=>by rw[hy.1];exact Mem.le_refl _⟩
theorem Sub.mv{id idn n:Nat}:Sub (Mv id idn) (.own idn n) (.own id n):=fun m β m' β' x hy hx=>by
 obtain⟨rfl,rfl,e⟩:=hy
 cases hx with
 |imm h=>cases h
 |ownNil h=>exact .ownNil (by rw[e];exact h)
 |own h=>exact .own (by rw[e];exact h)
end
end Go.Pv
namespace Go.Pv
open Go
section
variable{K:Ctx}{Q:Post}{S:St}
variable{m:Mem}{β:Locs}{w:World}{a:Act}
variable{ops:Array Oper}{rest:List Oper}{ty:TypeId}{pos:String}{after:Array Edge}{g:Option (Nat×Bool)}
@[reducible] def BndIs(K:Ctx)(S:St)(o:Option Operand)(n v:Nat):Prop:=match o with|none=>v=n|some y=>∃ik,evl K S y=.con (.int ik v)
theorem slice_own_run(r:Rel K m β w a S){d k n a0 b0:Nat}{x:Operand}{lo hi:Option Operand}{T:TypeId}(hT:tySl K.P T k=true)
  (hlo:BndIs K S lo 0 a0) (hhi:BndIs K S hi n b0)
  (h1:a0<=b0) (h2:b0<=n) (ad:Option Addr) (cap:Nat) (hv:a.eval x=.slice ad n cap) (hcap:n<=cap):
  (execOp a.eval ⟨some d,.slice T x lo hi none,ty,pos,after,g⟩).run K.P w=.ok (.value (.slice (if cap=a0 then ad else ad.map (·.add (a0*k))) (b0 - a0) (cap - a0))) w:=by
 obtain⟨e,i,hu,hi',hs⟩:=tySl_inv hT
 have hk:K.P.cellsOf e=k:=by simp[Program.cellsOf,hi',hs]
 have bnd:∀(n y:Nat) (c:BoundsCode) (ik:IntKind),n<=y->(Instr.sliceBound (.int ik n) y c).run K.P w=.ok n w:=by
  intro n y c ik h
  simp only[Instr.sliceBound,asIntOf,Sem.run_bind,pure,Sem.run,Result.andThen_ok]
  rw[if_pos ⟨by omega,by omega⟩]
  simp
 have hb:(Instr.sliceBounds true n cap (lo.map a.eval) (hi.map a.eval) none).run K.P w=.ok (a0,b0,cap) w:=by
  cases lo with
  |none=>
   have hlo:a0=0:=hlo;subst hlo
   cases hi with
   |none=>have hhi:b0=n:=hhi;subst hhi;simp[Instr.sliceBounds,pure]
   |some y=>
    obtain⟨ik,hy⟩:=hhi
    simp[Instr.sliceBounds,pure,r.con hy,bnd b0 cap _ ik (by omega)]
  |some z=>
   obtain⟨ik,hz⟩:=hlo
   cases hi with
   |none=>have hhi:b0=n:=hhi;subst hhi;simp[Instr.sliceBounds,pure,r.con hz,bnd a0 _ _ ik h1]
   |some y=>
    obtain⟨ik',hy⟩:=hhi
    simp[Instr.sliceBounds,pure,r.con hz,r.con hy,bnd a0 _ _ ik h1,bnd b0 cap _ ik' (by omega)]
 simp only[execOp,hv]
 refine run_value ?_
 simp only[Instr.sliceAt,Sem.run_bind,run_underlying hu,Result.andThen_ok,Option.map_none,Instr.slice,hb,run_sizeOf w hi',hk]
 rfl
theorem aops_slice_ownhi{d k n id e b0:Nat}{x:Operand}{hi:Option Operand}{T:TypeId}{rows:List (List V)}(hT:tySl K.P T k=true)
  (hw:Wants ops S ⟨some d,.slice T x none hi none,ty,pos,after,g⟩ true) (hx:evl K S x=.own id n) (ho:hget S.hp id=.arr e k rows) (hn:n<=rows.length)
  (hhi:BndIs K S hi n b0) (h2:b0<=n) (hN:Nat.blt d K.N=true) (kk:AOps K ops rest Q (S.put d (.own id b0))):
  AOps K ops (⟨some d,.slice T x none hi none,ty,pos,after,g⟩::rest) Q S:=
 aops_val _ hw hN (fun m β w a r=>by
  have h:=r.reads x
  rw[hx] at h
  generalize hv:a.eval x=v at h
  cases h with
  |imm h=>cases h
  | @ownNil _ ad hb=>
   have:=slice_own_run (a0:=0) (b0:=b0) (lo:=none) (d:=d) (ty:=ty) (pos:=pos) (after:=after) (g:=g) r hT rfl hhi (Nat.zero_le _) h2 ad 0 hv (Nat.le_refl _)
   have hb0:b0=0:=by omega
   subst hb0
   exact⟨_,this,by simpa using .ownNil hb⟩
  | @own _ _ b cap hb=>
   obtain⟨arr,bl,q1,q2,q3,q4,q5,q6,q7⟩:=r.obj hb ho
   have:=slice_own_run (a0:=0) (b0:=b0) (lo:=none) (d:=d) (ty:=ty) (pos:=pos) (after:=after) (g:=g) r hT rfl hhi (Nat.zero_le _) h2 _ cap.n hv (by omega)
   have had:(some (⟨b,cap.off,none⟩:Addr)).map (·.add (0*k))=some ⟨b,cap.off,none⟩:=by simp only[Option.map_some];rw[add_spot];simp
   rw[had] at this
   exact⟨_,this,by simpa using .own hb⟩) kk
theorem aops_slice_own{d k n id e nx:Nat}{x:Operand}{lo hi:Option Operand}{T:TypeId}{rows:List (List V)}(a0 b0:Nat)(rows':List (List V))(hT:tySl K.P T k=true)
  (hw:Wants ops S ⟨some d,.slice T x lo hi none,ty,pos,after,g⟩ true) (hx:evl K S x=.own id n) (ho:hget S.hp id=.arr e k rows) (hn:n=rows.length) (hnx:S.nx=nx)
  (hlo:BndIs K S lo 0 a0) (hhi:BndIs K S hi n b0)
  (h1:a0<=b0) (h2:b0<=n) (hl:rows.drop a0=rows') (hnd:∀row,row∈rows->ndB row=true) (hN:Nat.blt d K.N=true)
  (kk:AOps K ops rest Q ⟨(d,.own nx (b0 - a0))::S.env,(nx,.arr e k rows')::(id,.dead)::S.hp,nx+1⟩):
  AOps K ops (⟨some d,.slice T x lo hi none,ty,pos,after,g⟩::rest) Q S:=by
 subst hnx hn hl
 refine aops_runs hw (fun m β w a r=>?_) kk
 have hl0:hget S.hp id≠.dead:=by rw[ho];simp
 have h:=r.reads x
 rw[hx] at h
 generalize hv:a.eval x=v at h
 generalize hnn:rows.length=n at h hv hhi h2
 have rk:=r.kill id
 cases h with
 |imm h=>cases h
 | @ownNil _ ad hb=>
  have:=slice_own_run (a0:=a0) (b0:=b0) (d:=d) (ty:=ty) (pos:=pos) (after:=after) (g:=g) r hT hlo hhi h1 h2 ad 0 hv (Nat.le_refl _)
  have hb0:b0=0:=by omega
  have ha0:a0=0:=by omega
  subst hb0 ha0
  have hr0:rows=[]:=List.length_eq_zero_iff.1 hnn
  subst hr0
  obtain⟨β',hle,hβ,r3⟩:=rk.adopt S.nx (S.nx+1) (r.nx _ (Nat.le_refl _)) (fun q hq=>Nat.ne_of_lt (r.pin q hq).1) (Nat.lt_succ_self _) (Nat.le_succ _) none (.arr e k []) (fun b c hb=>by simp at hb) (fun _ _=>rfl)
  exact⟨_,w,m,β',.inl this,r3.put hN (by simpa using .ownNil hβ)⟩
 | @own _ _ b cap hb=>
  obtain⟨arr,bl,q1,q2,q3,q4,q5,q6,q7⟩:=r.obj hb ho
  have hcn:n<=cap.n:=by omega
  have:=slice_own_run (a0:=a0) (b0:=b0) (d:=d) (ty:=ty) (pos:=pos) (after:=after) (g:=g) r hT hlo hhi h1 h2 _ cap.n hv hcn
  by_cases hc:cap.n=a0
  ·have hb0:b0 - a0=0:=by omega
   have hd:rows.drop a0=[]:=List.drop_eq_nil_of_le (by omega)
   rw[if_pos hc] at this
   obtain⟨β',hle,hβ,r3⟩:=rk.adopt S.nx (S.nx+1) (r.nx _ (Nat.le_refl _)) (fun q hq=>Nat.ne_of_lt (r.pin q hq).1) (Nat.lt_succ_self _) (Nat.le_succ _) none (.arr e k (rows.drop a0)) (fun b c hb=>by simp at hb) (fun _ _=>hd)
   refine⟨_,w,m,β',.inl this,r3.put hN ?_⟩
   rw[hb0,show cap.n - a0=0 by omega]
   exact .ownNil hβ
  ·rw[if_neg hc] at this
   have had:(some (⟨b,cap.off,none⟩:Addr)).map (·.add (a0*k))=some ⟨b,cap.off+a0*k,none⟩:=by simp only[Option.map_some];rw[add_spot]
   rw[had] at this
   obtain⟨p1,p2⟩:=r.priv id b cap hl0 hb
   obtain⟨β',hle,hβ,r3⟩:=rk.adopt S.nx (S.nx+1) (r.nx _ (Nat.le_refl _)) (fun q hq=>Nat.ne_of_lt (r.pin q hq).1) (Nat.lt_succ_self _) (Nat.le_succ _) (some (b,⟨cap.n - a0,cap.off+a0*k⟩)) (.arr e k (rows.drop a0))
    (fun b' c hb'=>by
     simp only[Option.some.injEq,Prod.mk.injEq] at hb'
     obtain⟨rfl,rfl⟩:=hb'
     refine⟨p1,p2,fun i c' hi hbi=>?_,fun i hi hx=>?_⟩
     ·rw[hget_put] at hi
      split at hi
      ·exact hi rfl
      ·rename_i hne
       exact hne (r.inj id i _ _ _ hl0 hi hb hbi)
     ·rw[hget_put] at hi
      split at hi
      ·exact hi rfl
      ·exact(r.hid i _ hi hx).ne id _ cap hl0 hb rfl)
    (fun β' hle=>by
     refine⟨arr,fun _ _=>False,q1,?_,?_,by show cap.n - a0<=maxLen;omega,fun row hr=>q5 row (List.mem_of_mem_drop hr),bls_none,fun i j row c hi hj=>?_⟩
     ·show arr.size=(cap.off+a0*k)+(cap.n - a0)*k
      rw[q2,Nat.add_assoc,<-Nat.add_mul,show a0+(cap.n - a0)=cap.n by omega]
     ·show(rows.drop a0).length<=cap.n - a0
      rw[List.length_drop];omega
     ·rw[List.getElem?_drop] at hi
      obtain⟨v,v1,v2,v3⟩:=q7 (a0+i) j row c hi hj
      refine⟨v,?_,.inl ((v2.v (ndB_at (hnd row (List.mem_of_getElem? hi)) hj)).mono (Mem.le_refl _) hle),v3⟩
      rw[<-v1]
      congr 1
      show cap.off+a0*k+(i*k+j)=_
      rw[Nat.add_mul];omega)
   exact⟨_,w,m,β',.inl this,r3.put hN (.own hβ)⟩
end
end Go.Pv
namespace Go.Pv
open Go
section
variable{K:Ctx}{S:St}
end
end Go.Pv
namespace Go.Pv
open Go
section
variable{K:Ctx}{Q:Post}{S':St}{env:Env}{hpS:Heap}
variable{ops:Array Oper}{rest:List Oper}{ty:TypeId}{pos:String}{after:Array Edge}{g:Option (Nat×Bool)}
theorem aops_mcallS{d:Nat}{f:FuncId}{args:Array Operand}{at':Array TypeId}{avs':List V}{k k':Nat}{hp hp':Heap}{dc:V}(dv:V)(avs:List V)(σ τ:Nat->Nat)(nx nx':Nat)(u:Heap)(hf:fnOk K.P f=true)
  (hw:Wants ops ⟨env,hpS,nx⟩ ⟨some d,.call ⟨.value (.func f),args,at'⟩,ty,pos,after,g⟩ true) (hN:Nat.blt d K.N=true) (ha:args.toList.map (evl K ⟨env,hpS,nx⟩)=avs)
  (hsub:Subs (Ren k σ) avs' avs) (hhp:HpSub (Ren k σ) k σ hpS hp) (hc:MutG K.gl K.P f avs' k hp dc k' hp')
  (hto:toB k k' nx nx' σ τ (fun _=>false)=true) (hτ:injB k' τ=true) (hle:Nat.ble nx nx'=true) (hkk:Nat.ble k k'=true)
  (hdv:Sub (To k' τ) dv dc) (hu:HpTo (To k' τ) τ hp' k' 0 u) (up:Heap) (hup:u++hpS=up)
  (kk:AOps K ops rest Q ⟨(d,dv)::env,up,nx'⟩):AOps K ops (⟨some d,.call ⟨.value (.func f),args,at'⟩,ty,pos,after,g⟩::rest) Q ⟨env,hpS,nx⟩:=
 aops_mcall dv avs σ τ nx nx' u hf hw hN ha hsub hhp hc rfl hto hτ hle hkk hdv hu (by rw[<-hup] at kk;exact kk)
theorem aops_mcallvS{d:Nat}{f:FuncId}{fx:Operand}{first captured:List V}{args:Array Operand}{at':Array TypeId}{avs':List V}{k k':Nat}{hp hp':Heap}{dc:V}(dv:V)(avs:List V)(σ τ:Nat->Nat)(nx nx':Nat)(u:Heap)(hf:fnOk K.P f=true)
  (hw:Wants ops ⟨env,hpS,nx⟩ ⟨some d,.call ⟨.value fx,args,at'⟩,ty,pos,after,g⟩ true) (hN:Nat.blt d K.N=true) (hfx:evl K ⟨env,hpS,nx⟩ fx=.fn (.func f) first captured) (ha:first++args.toList.map (evl K ⟨env,hpS,nx⟩)++captured=avs)
  (hsub:Subs (Ren k σ) avs' avs) (hhp:HpSub (Ren k σ) k σ hpS hp) (hc:MutG K.gl K.P f avs' k hp dc k' hp')
  (hto:toB k k' nx nx' σ τ (fun _=>false)=true) (hτ:injB k' τ=true) (hle:Nat.ble nx nx'=true) (hkk:Nat.ble k k'=true)
  (hdv:Sub (To k' τ) dv dc) (hu:HpTo (To k' τ) τ hp' k' 0 u) (up:Heap) (hup:u++hpS=up)
  (kk:AOps K ops rest Q ⟨(d,dv)::env,up,nx'⟩):AOps K ops (⟨some d,.call ⟨.value fx,args,at'⟩,ty,pos,after,g⟩::rest) Q ⟨env,hpS,nx⟩:=
 aops_mcallv dv avs σ τ nx nx' u hf hw hN hfx ha hsub hhp hc rfl hto hτ hle hkk hdv hu (by rw[<-hup] at kk;exact kk)
end
end Go.Pv
namespace Go.Pv
open Go
section
variable{K:Ctx}{Q:Post}{env:Env}{hpS:Heap}
variable{ops:Array Oper}{rest:List Oper}{ty:TypeId}{pos:String}{after:Array Edge}{g:Option (Nat×Bool)}
end
end Go.Pv
namespace Go.Pv
open Go
section
variable{K:Ctx}{Q:Post}{S:St}
variable{ops:Array Oper}{rest:List Oper}{ty:TypeId}{pos:String}{after:Array Edge}{g:Option (Nat×Bool)}
theorem aops_buildA{d T n k:Nat}{parts:Array (Nat×Operand)}{zs:List Value}(ps:List (Nat×V))(cs:List V)(hz:zeroCells K.P T=some zs)(hA:tyArr K.P T n k=true)
  (h1:zs.all (·.oneCell')=true) (hw:Wants ops S ⟨some d,.build T parts,ty,pos,after,g⟩ true)
  (hps:parts.toList.map (fun p=>(p.1,evl K S p.2))=ps) (hf:fillV (fun i=>some (i*k,k)) (zs.map .con) ps=some cs) (hN:Nat.blt d K.N=true)
  (kk:AOps K ops rest Q (S.put d (.agg cs))):AOps K ops (⟨some d,.build T parts,ty,pos,after,g⟩::rest) Q S:=
 aops_val _ hw hN (fun m β w a r=>by
  obtain⟨hl,hr⟩:=parts_rel r parts ps hps
  obtain⟨cells',f1,f2⟩:=fill_rel ps _ _ cs zs.toArray hf (zero_cells h1 m β) hl hr
  have hb:K.P.built T (parts.map fun(i,x)=>(i,a.eval x)).toList=some cells':=by
   obtain⟨e,i,hu,hi,hs⟩:=tyArr_inv hA
   unfold zeroCells at hz
   cases hii:K.P.info? T with
   |none=>simp[hii] at hz
   |some it=>
    cases hzz:it.zero with
    |none=>simp[hii,hzz] at hz
    |some z=>
     simp[hii,hzz] at hz
     simp only[Program.built,hii,hu,hzz,hi,hs]
     rw[<-f1,<-hz]
  refine⟨.agg cells',by simp only[execOp];exact run_value (run_build w T _ cells' hb),.agg f2.1 fun i c v hc hv=>(f2.2 i c v hc hv).1⟩) kk
end
end Go.Pv
namespace Go.Pv
open Go
section
variable{K:Ctx}{Q:Post}{S:St}
variable{ops:Array Oper}{rest:List Oper}{ty:TypeId}{pos:String}{after:Array Edge}{g:Option (Nat×Bool)}
theorem agg_inv{m:Mem}{β:Locs}{cs:List V}{v:Value}(h:VRel m β (.agg cs) v):∃vs,v=.agg vs/\cs.length=vs.size/\∀(i:Nat) (c:V) (u:Value),cs[i]? = some c->vs[i]? = some u->VRel m β c u:=by
 cases h with
 |imm h=>cases h with|agg hl h=>exact⟨_,rfl,hl,fun i c u a b=>.imm (h i c u a b)⟩
 |agg hl h=>exact⟨_,rfl,hl,h⟩
theorem aops_indexA{d T n k e:Nat}{x y:Operand}{ik:IntKind}{i:Int}{cs:List V}(row:List V)(hT:tyArrA K.P T n k e=true)
  (hw:Wants ops S ⟨some d,.index T x y,ty,pos,after,g⟩ true) (hx:evl K S x=.agg cs) (hy:evl K S y=.con (.int ik i))
  (hi:0<=i/\i.toNat<n) (hl:cs.length=n*k) (hr:(cs.drop (i.toNat*k)).take k=row) (hN:Nat.blt d K.N=true)
  (kk:AOps K ops rest Q (S.put d (.agg row))):AOps K ops (⟨some d,.index T x y,ty,pos,after,g⟩::rest) Q S:=
 aops_val _ hw hN (fun m β w a r=>by
  obtain⟨hu,hA⟩:=tyArrA_inv hT
  have h:=r.reads x
  rw[hx] at h
  obtain⟨vs,h1,h2,h3⟩:=agg_inv h
  have ha:=tyA_run hA w
  refine⟨.agg (vs.extract (i.toNat*k) (i.toNat*k+k)),?_,?_⟩
  ·simp only[execOp,h1,r.con hy]
   refine run_value ?_
   simp only[Instr.index,asIntOf,Sem.run_bind,pure,Sem.run,Result.andThen_ok,run_underlying hu]
   rw[if_pos ⟨hi.1,by omega⟩]
   simp only[Sem.run_bind,ha.2,Result.andThen_ok,part,ha.1,if_true]
   rfl
  ·have hk:i.toNat*k+k<=n*k:=by
    have:(i.toNat+1)*k<=n*k:=Nat.mul_le_mul_right _ hi.2
    rwa [Nat.add_mul,Nat.one_mul] at this
   refine .agg ?_ (fun j c u hc hu=>?_)
   ·rw[<-hr];simp only[List.length_take,List.length_drop,Array.size_extract,hl,<-h2];omega
   ·rw[<-hr,List.getElem?_take] at hc
    split at hc
    ·rename_i hj
     rw[List.getElem?_drop] at hc
     rw[Array.getElem?_extract] at hu
     split at hu
     ·exact h3 _ c u hc hu
     ·simp at hu
    ·simp at hc) kk
theorem aops_indexAC{d T n e:Nat}{x y:Operand}{ik:IntKind}{i:Int}{cs:List V}(c:V)(hT:tyArrC K.P T n e=true)
  (hw:Wants ops S ⟨some d,.index T x y,ty,pos,after,g⟩ true) (hx:evl K S x=.agg cs) (hy:evl K S y=.con (.int ik i))
  (hi:0<=i/\i.toNat<n) (hl:cs[i.toNat]? = some c) (hN:Nat.blt d K.N=true)
  (kk:AOps K ops rest Q (S.put d c)):AOps K ops (⟨some d,.index T x y,ty,pos,after,g⟩::rest) Q S:=
 aops_val _ hw hN (fun m β w a r=>by
  obtain⟨hu,hA⟩:=tyArrC_inv hT
  have h:=r.reads x
  rw[hx] at h
  obtain⟨vs,h1,h2,h3⟩:=agg_inv h
  have ha:=tyC_run hA w
  have hlt:i.toNat<vs.size:=by rw[<-h2];exact(List.getElem?_eq_some_iff.1 hl).1
  refine⟨vs[i.toNat],?_,h3 _ c _ hl (Array.getElem?_eq_getElem hlt)⟩
  simp only[execOp,h1,r.con hy]
  refine run_value ?_
  simp only[Instr.index,asIntOf,Sem.run_bind,pure,Sem.run,Result.andThen_ok,run_underlying hu]
  rw[if_pos ⟨hi.1,by omega⟩]
  simp only[Sem.run_bind,ha.2,Result.andThen_ok,part,ha.1,Nat.mul_one,Array.getElem?_eq_getElem hlt]
  rfl) kk
end
end Go.Pv
namespace Go.Pv
theorem arr_row{α:Type}{n k i:Nat}{f:Nat->α}{enc:α->List V}{cs:List V}(hc:cs=(List.range n).flatMap (fun j=>enc (f j)))(hk:∀x,(enc x).length=k)(hi:i<n):(cs.drop (i*k)).take k=enc (f i):=by
 subst hc
 have key:∀(l:List Nat) (i:Nat) (hi:i<l.length),((l.flatMap (fun j=>enc (f j))).drop (i*k)).take k=enc (f l[i]):=by
  intro l
  induction l with
  |nil=>intro i hi;simp at hi
  |cons a l ih=>
   intro i hi
   cases i with
   |zero=>
    simp only[List.flatMap_cons,Nat.zero_mul,List.drop_zero,List.getElem_cons_zero]
    rw[List.take_append_of_le_length (by rw[hk];exact Nat.le_refl _)]
    exact List.take_of_length_le (by rw[hk];exact Nat.le_refl _)
   |succ i=>
    simp only[List.flatMap_cons,List.getElem_cons_succ]
    rw[Nat.add_mul,Nat.one_mul,Nat.add_comm,<-List.drop_drop,List.drop_left' (hk _)]
    exact ih i (by simpa using hi)
 have:=key (List.range n) i (by simpa using hi)
 simpa using this
end Go.Pv
namespace Go.Pv
open Go
set_option linter.unusedVariables false
set_option linter.unusedSimpArgs false
section
variable{K:Ctx}{S:St}
variable{m:Mem}{β:Locs}{w:World}{a:Act}
def setC(rows:List (List V))(i:Nat)(row:List V)(j:Nat)(c:V):List (List V):=rows.set i (row.set j c)
theorem setC_get{rows:List (List V)}{i j:Nat}{row:List V}{c0 c:V}(hi:rows[i]? = some row)(hj:row[j]? = some c0){i2 j2:Nat}{row2:List V}{c2:V}
  (h1:(setC rows i row j c)[i2]? = some row2) (h2:row2[j2]? = some c2):(i2=i/\j2=j/\c2=c)\/∃row3,rows[i2]? = some row3/\row3[j2]? = some c2/\¬(i2=i/\j2=j):=by
 unfold setC at h1
 rw[List.getElem?_set] at h1
 by_cases e:i=i2
 ·rw[if_pos e] at h1
  split at h1
  ·simp only[Option.some.injEq] at h1
   subst h1
   rw[List.getElem?_set] at h2
   by_cases e2:j=j2
   ·rw[if_pos e2] at h2
    split at h2
    ·simp only[Option.some.injEq] at h2;exact .inl ⟨e.symm,e2.symm,h2.symm⟩
    ·simp at h2
   ·rw[if_neg e2] at h2
    exact .inr ⟨row,by rw[<-e];exact hi,h2,fun h=>e2 h.2.symm⟩
  ·simp at h1
 ·rw[if_neg e] at h1
  exact .inr ⟨row2,h1,h2,fun h=>e h.1.symm⟩
theorem setC_len{rows:List (List V)}{i j:Nat}{row:List V}{c:V}:(setC rows i row j c).length=rows.length:=by simp[setC]
theorem setC_row{rows:List (List V)}{i j k:Nat}{row:List V}{c:V}(hi:rows[i]? = some row)(hk:∀r,r∈rows->r.length=k):∀r,r∈setC rows i row j c->r.length=k:=by
 intro r hr
 rcases List.mem_or_eq_of_mem_set hr with h|h
 ·exact hk r h
 ·subst h;rw[List.length_set];exact hk row (List.mem_of_getElem? hi)
theorem cell_ne{i j i2 j2 k:Nat}(h:¬(i2=i/\j2=j))(h1:j<k)(h2:j2<k):i2*k+j2≠i*k+j:=by
 intro e
 rcases Nat.lt_trichotomy i2 i with h3|h3|h3
 ·have:(i2+1)*k<=i*k:=Nat.mul_le_mul_right _ h3
  rw[Nat.add_mul,Nat.one_mul] at this;omega
 ·subst h3;exact h ⟨rfl,by omega⟩
 ·have:(i+1)*k<=i2*k:=Nat.mul_le_mul_right _ h3
  rw[Nat.add_mul,Nat.one_mul] at this;omega
theorem deep_inv{m:Mem}{β:Locs}{w:World}{B:Nat->Prop}{e k:Nat}{rows:List (List V)}{v:Value}(h:CRel m β w B (.dsl e k rows) v):DRel m w B (.dsl e k rows) v:=by
 rcases h with h|h
 ·cases h with|imm h=>cases h
 ·exact h
theorem Rel.take(r:Rel K m β w a S){id:Nat}(hl0:hget S.hp id≠.dead)(hnid:id≠S.nx)(Bc Bn:Nat->Prop)(loc:Option (Nat×Cap))(ob' ob2:Ob)(hsub:∀x,Bc x->β.hid id x)(hBn:∀x,Bn x->Bc x)
  (hloc:∀b' c',loc=some (b',c')->Bc b'/\¬Bn b') (hobj:∀β':Locs,ObOk m β' w Bn (some loc) ob2)
  (hob:∀β':Locs,β.le β'->β' S.nx=some loc->ObOk m β' w (fun x=>β.hid id x/\¬Bc x) (β id) ob'):
  ∃m' β',Rel K m' β' w a ⟨S.env,(id,ob')::(S.nx,ob2)::S.hp,S.nx+1⟩:=by
 let β':Locs:=⟨fun q=>if q=S.nx then some loc else β q,fun q=>if q=S.nx then Bn else if q=id then (fun x=>β.hid id x/\¬Bc x) else β.hid q⟩
 have en:β' S.nx=some loc:=by show(if _ then _ else _)=_;rw[if_pos rfl]
 have eo:∀q,q≠S.nx->β' q=β q:=fun q h=>by show(if _ then _ else _)=_;rw[if_neg h]
 have hn:β'.hid S.nx=Bn:=by show(if _ then _ else _)=_;rw[if_pos rfl]
 have hid':β'.hid id=fun x=>β.hid id x/\¬Bc x:=by show(if _ then _ else if _ then _ else _)=_;rw[if_neg hnid,if_pos rfl]
 have hoth:∀q,q≠S.nx->q≠id->β'.hid q=β.hid q:=fun q h1 h2=>by show(if _ then _ else if _ then _ else _)=_;rw[if_neg h1,if_neg h2]
 have hle:β.le β':=by
  intro q l h
  rw[eo q]
  ·exact h
  ·intro e;rw[e,r.nx _ (Nat.le_refl _)] at h;simp at h
 have hg:∀q,hget ((id,ob')::(S.nx,ob2)::S.hp) q=if id=q then ob' else if S.nx=q then ob2 else hget S.hp q:=fun q=>by rw[hget_put,hget_put]
 have live:∀q,q≠S.nx->hget ((id,ob')::(S.nx,ob2)::S.hp) q≠.dead->hget S.hp q≠.dead:=by
  intro q hq h
  rw[hg] at h
  split at h
  ·rename_i e;rw[<-e];exact hl0
  ·rw[if_neg (Ne.symm hq)] at h;exact h
 -- the hidden blocks of the new state, seen in the old one
 have hh:∀q x,hget ((id,ob')::(S.nx,ob2)::S.hp) q≠.dead->β'.hid q x->(q=S.nx/\Bn x)\/(q≠S.nx/\hget S.hp q≠.dead/\β.hid q x/\(q=id->¬Bc x)):=by
  intro q x hl hx
  by_cases e1:q=S.nx
  ·subst e1;rw[hn] at hx;exact .inl ⟨rfl,hx⟩
  ·refine .inr ⟨e1,live q e1 hl,?_⟩
   by_cases e2:q=id
   ·subst e2;rw[hid'] at hx;exact⟨hx.1,fun _=>hx.2⟩
   ·rw[hoth q e1 e2] at hx;exact⟨hx,fun h=>absurd h e2⟩
 refine⟨m,β',r.imm,r.ext,r.mold,r.frame,r.size,r.same,r.tn,r.df,fun t=>(r.env t).mono (Mem.le_refl _) hle,fun q=>?_,fun q b1 c1 hl hb1=>?_,fun q q' b1 c1 c2 hl hl' hb1 hb2=>?_,fun q x hl hx=>?_,fun q hq=>?_,fun q hq=>?_⟩
 ·rw[hg]
  split
  ·rename_i h;subst h
   show ObOk m β' w (β'.hid id) (β' id) _
   rw[hid',eo id hnid];exact hob β' hle en
  ·split
   ·rename_i h;subst h
    show ObOk m β' w (β'.hid S.nx) (β' S.nx) _
    rw[hn,en];exact hobj β'
   ·rename_i h1 h2
    show ObOk m β' w (β'.hid q) (β' q) _
    rw[hoth q (Ne.symm h2) (Ne.symm h1),eo q (Ne.symm h2)]
    exact ObOk.mono (Mem.le_refl _) hle (fun _ _ h=>h) (fun _ _=>rfl) (r.own q)
 ·by_cases e1:q=S.nx
  ·subst e1;rw[en] at hb1
   simp only[Option.some.injEq] at hb1
   have h:=r.hid id b1 hl0 (hsub _ (hloc b1 c1 hb1).1)
   exact⟨h.m,h.old⟩
  ·rw[eo q e1] at hb1;exact r.priv q b1 c1 (live q e1 hl) hb1
 ·have key:∀q c,q≠S.nx->hget S.hp q≠.dead->β q=some (some (b1,c))->∀c',loc=some (b1,c')->False:=by
   intro q c _ hl hbq c' hc
   exact(r.hid id b1 hl0 (hsub _ (hloc b1 c' hc).1)).ne q b1 c hl hbq rfl
  by_cases e1:q=S.nx<;>by_cases e2:q'=S.nx
  ·rw[e1,e2]
  ·exfalso;subst e1
   rw[en] at hb1;rw[eo q' e2] at hb2
   simp only[Option.some.injEq] at hb1
   exact key q' c2 e2 (live q' e2 hl') hb2 c1 hb1
  ·exfalso;subst e2
   rw[en] at hb2;rw[eo q e1] at hb1
   simp only[Option.some.injEq] at hb2
   exact key q c1 e1 (live q e1 hl) hb1 c2 hb2
  ·rw[eo q e1] at hb1;rw[eo q' e2] at hb2
   exact r.inj q q' b1 c1 c2 (live q e1 hl) (live q' e2 hl') hb1 hb2
 ·
  have hx0:=hh q x hl hx
  have hidx:∃q0,hget S.hp q0≠.dead/\β.hid q0 x/\(q=S.nx->q0=id/\Bc x)/\(q≠S.nx->q0=q):=by
   rcases hx0 with ⟨e1,h1⟩|⟨e1,h1,h2,h3⟩
   ·exact⟨id,hl0,hsub x (hBn x h1),fun _=>⟨rfl,hBn x h1⟩,fun h=>absurd e1 h⟩
   ·exact⟨q,h1,h2,fun h=>absurd h e1,fun _=>rfl⟩
  obtain⟨q0,g1,g2,g3,g4⟩:=hidx
  have hr:=r.hid q0 x g1 g2
  refine⟨hr.lt,hr.m,hr.old,fun p b1 c1 hl1 hb1=>?_,fun p hl1 hx1=>?_⟩
  ·by_cases e2:p=S.nx
   ·subst e2
    rw[en] at hb1
    simp only[Option.some.injEq] at hb1
    intro e;subst e
    obtain⟨k1,k2⟩:=hloc _ c1 hb1
    rcases hx0 with ⟨e1,h1⟩|⟨e1,h1,h2,h3⟩
    ·exact k2 h1
    ·have:=(r.hid q _ h1 h2).un id hl0 (hsub _ k1)
     exact h3 this.symm k1
   ·rw[eo p e2] at hb1
    exact hr.ne p b1 c1 (live p e2 hl1) hb1
  ·rcases hh p x hl1 hx1 with ⟨e2,h2⟩|⟨e2,h2,h3,h4⟩
   ·rcases hx0 with ⟨e1,h1⟩|⟨e1,h1,h2',h3'⟩
    ·rw[e1,e2]
    ·exfalso
     have:=(r.hid q _ h1 h2').un id hl0 (hsub _ (hBn x h2))
     exact h3' this.symm (hBn x h2)
   ·rcases hx0 with ⟨e1,h1⟩|⟨e1,h1,h2',h3'⟩
    ·exfalso
     have:=(r.hid id _ hl0 (hsub _ (hBn x h1))).un p h2 h3
     exact h4 this (hBn x h1)
    ·exact(r.hid q _ h1 h2').un p h2 h3
 ·have hq:S.nx+1<=q:=hq
  rw[eo q (by omega)];exact r.nx q (by omega)
 ·obtain⟨p1,p2⟩:=r.pin q hq
  exact⟨Nat.lt_succ_of_lt p1,by rw[eo q (Nat.ne_of_lt p1)];exact p2⟩
theorem ghost_take(id i j nx:Nat){e k e' k':Nat}{rows:List (List V)}{row:List V}{rws:List (List V)}(ho:hget S.hp id=.arr e k rows)(hi:rows[i]? = some row)(hj:row[j]? = some (.dsl e' k' rws))(hnx:S.nx=nx):
  Ghost K S ⟨S.env,(id,.arr e k (setC rows i row j (.own nx rws.length)))::(nx,.arr e' k' rws)::S.hp,nx+1⟩:=by
 subst hnx
 intro m β w a r
 have hl0:hget S.hp id≠.dead:=by rw[ho];simp
 have hown:=r.own id
 rw[ho] at hown
 obtain⟨b,cap,hb⟩:∃b cap,β id=some (some (b,cap)):=by
  match hh:β id,hown with
  |none,hown=>simp[ObOk] at hown
  |some none,hown=>have hown:rows=[]:=hown;subst hown;simp at hi
  |some (some (b,cap)),_=>exact⟨b,cap,rfl⟩
 rw[hb] at hown
 obtain⟨arr,bl,q1,q2,q3,q4,q5,q6,q7⟩:=hown
 obtain⟨v,v1,v2,v3⟩:=q7 i j row _ hi hj
 have hjk:j<k:=by rw[<-q5 row (List.mem_of_getElem? hi)];exact(List.getElem?_eq_some_iff.1 hj).1
 have hnid:id≠S.nx:=fun h=>by have:=r.nx S.nx (Nat.le_refl _);rw[<-h,hb] at this;simp at this
 -- where the new object lies, and what it alone leads to
 obtain⟨loc,Bn,hv,hBn,hloc,hobj⟩:∃(loc:Option (Nat×Cap)) (Bn:Nat->Prop),(∀β':Locs,β' S.nx=some loc->VRel m β' (.own S.nx rws.length) v)/\(∀x,Bn x->bl (i*k+j) x)/\
   (∀b' c',loc=some (b',c')->bl (i*k+j) b'/\¬Bn b')/\∀β':Locs,ObOk m β' w Bn (some loc) (.arr e' k' rws):=by
  have hd:=deep_inv v2
  cases hd with
  |imm h=>cases h
  |nil e k a=>exact⟨none,fun _=>False,fun β' h=>.ownNil h,fun _ h=>h.elim,fun _ _ h=>by simp at h,fun _=>rfl⟩
  | @sl _ _ b' cap' off' _ _ arr' bl' f hb' hbb hB hw hs hr hcap hk hf h=>
   refine⟨some (b',⟨cap',off'⟩),fun x=>∃p,bl' p x,fun β' h=>.own h,fun x ⟨p,hx⟩=>hB.1 p x hx,fun b2 c2 h=>?_,fun β'=>?_⟩
   ·simp only[Option.some.injEq,Prod.mk.injEq] at h;obtain⟨rfl,_⟩:=h;exact⟨hb',fun⟨p,hx⟩=>hbb p hx⟩
   ·refine⟨arr',bl',hw,hs,hr,hcap,hk,⟨fun p x hx=>⟨p,hx⟩,hB.2⟩,fun i2 j2 row2 c2 h1 h2=>?_⟩
    obtain⟨f1,f2⟩:=hf i2 j2 row2 c2 h1 h2
    exact⟨_,f1,.inr (h i2 j2 row2 c2 h1 h2),f2⟩
 obtain⟨m',β',rr⟩:=r.take hl0 hnid (bl (i*k+j)) Bn loc (.arr e k (setC rows i row j (.own S.nx rws.length))) (.arr e' k' rws) (fun x hx=>q6.1 _ x hx) hBn hloc hobj (fun β' hle en=>by
  rw[hb]
  refine⟨arr,fun p=>if p=i*k+j then (fun _=>False) else bl p,q1,q2,by rw[setC_len];exact q3,q4,setC_row hi q5,⟨fun p x hx=>?_,fun p p' x hx hx'=>?_⟩,fun i2 j2 row2 c2 h1 h2=>?_⟩
  ·dsimp only at hx
   split at hx
   ·exact hx.elim
   ·rename_i hne;exact⟨q6.1 p x hx,fun h=>hne (q6.2 _ _ x hx h)⟩
  ·dsimp only at hx hx'
   split at hx
   ·exact hx.elim
   ·split at hx'
    ·exact hx'.elim
    ·exact q6.2 _ _ x hx hx'
  ·rcases setC_get hi hj h1 h2 with ⟨rfl,rfl,rfl⟩|⟨row3,h3,h4,h5⟩
   ·exact⟨v,v1,.inl (hv β' en),v3⟩
   ·obtain⟨u,u1,u2,u3⟩:=q7 i2 j2 row3 c2 h3 h4
    have hj2:j2<k:=by rw[<-q5 row3 (List.mem_of_getElem? h3)];exact(List.getElem?_eq_some_iff.1 h4).1
    refine⟨u,u1,?_,u3⟩
    show CRel _ _ _ (if _ then _ else _) _ _
    rw[if_neg (cell_ne h5 hjk hj2)]
    exact u2.mono (Mem.le_refl _) hle (fun _ h=>h) (fun _ _=>rfl))
 exact⟨m',β',rr⟩
theorem Rel.untake(r:Rel K m β w a S){id id2:Nat}(hl0:hget S.hp id≠.dead)(hl2:hget S.hp id2≠.dead)(hne:id≠id2)(ob':Ob)
  (hob:∀β':Locs,β.le β'->ObOk m β' w (fun x=>β.hid id x\/(β.hid id2 x\/∃c,β id2=some (some (x,c)))) (β id) ob'):
  ∃m' β',Rel K m' β' w a ⟨S.env,(id,ob')::(id2,.dead)::S.hp,S.nx⟩:=by
 let Bn:Nat->Prop:=fun x=>β.hid id2 x\/∃c,β id2=some (some (x,c))
 let β':Locs:=⟨β.f,fun q=>if q=id then (fun x=>β.hid id x\/Bn x) else β.hid q⟩
 have hid':β'.hid id=fun x=>β.hid id x\/Bn x:=by show(if _ then _ else _)=_;rw[if_pos rfl]
 have hoth:∀q,q≠id->β'.hid q=β.hid q:=fun q h=>by show(if _ then _ else _)=_;rw[if_neg h]
 have hle:β.le β':=fun q l h=>h
 have hg:∀q,hget ((id,ob')::(id2,.dead)::S.hp) q=if id=q then ob' else if id2=q then .dead else hget S.hp q:=fun q=>by rw[hget_put,hget_put]
 have live:∀q,hget ((id,ob')::(id2,.dead)::S.hp) q≠.dead->hget S.hp q≠.dead/\q≠id2:=by
  intro q h
  rw[hg] at h
  split at h
  ·rename_i e;subst e;exact⟨hl0,hne⟩
  ·split at h
   ·exact absurd rfl h
   ·rename_i e1 e2;exact⟨h,Ne.symm e2⟩
 -- the blocks that the cell leads to now
 have hBn:∀x,Bn x->x<w.heap.size/\m x=none/\(x<K.w0.heap.size->¬K.old x)/\(∀p b c,hget S.hp p≠.dead->p≠id2->β p=some (some (b,c))->x≠b)/\∀p,hget S.hp p≠.dead->p≠id2->¬β.hid p x:=by
  intro x hx
  rcases hx with hx|⟨c,hx⟩
  ·have h:=r.hid id2 x hl2 hx
   exact⟨h.lt,h.m,h.old,fun p b c hp _ hb=>h.ne p b c hp hb,fun p hp hpe hh=>hpe (h.un p hp hh)⟩
  ·obtain⟨h1,h2⟩:=r.priv id2 x c hl2 hx
   exact⟨live_lt hl2 hx (r.own id2),h1,h2,fun p b c2 hp hpe hb e=>by subst e;exact hpe (r.inj p id2 x c2 c hp hl2 hb hx),fun p hp hpe hh=>(r.hid p x hp hh).ne id2 x c hl2 hx rfl⟩
 refine⟨m,β',r.imm,r.ext,r.mold,r.frame,r.size,r.same,r.tn,r.df,fun t=>(r.env t).mono (Mem.le_refl _) hle,fun q=>?_,fun q b1 c1 hl hb1=>r.priv q b1 c1 (live q hl).1 hb1,fun q q' b1 c1 c2 hl hl' hb1 hb2=>r.inj q q' b1 c1 c2 (live q hl).1 (live q' hl').1 hb1 hb2,fun q x hl hx=>?_,r.nx,r.pin⟩
 ·rw[hg]
  split
  ·rename_i h;subst h
   show ObOk m β' w (β'.hid id) (β id) _
   rw[hid'];exact hob β' hle
  ·split
   ·exact ObOk.dead' _
   ·rename_i h1 h2
    show ObOk m β' w (β'.hid q) (β q) _
    rw[hoth q (Ne.symm h1)]
    exact ObOk.mono (Mem.le_refl _) hle (fun _ _ h=>h) (fun _ _=>rfl) (r.own q)
 ·obtain⟨l1,l2⟩:=live q hl
  by_cases e1:q=id
  ·subst e1
   rw[hid'] at hx
   rcases hx with hx|hx
   ·have h:=r.hid q x hl0 hx
    refine⟨h.lt,h.m,h.old,fun p b1 c1 hp hb1=>h.ne p b1 c1 (live p hp).1 hb1,fun p hp hx'=>?_⟩
    by_cases e2:p=q
    ·exact e2
    ·rw[hoth p e2] at hx';exact h.un p (live p hp).1 hx'
   ·obtain⟨h1,h2,h3,h4,h5⟩:=hBn x hx
    refine⟨h1,h2,h3,fun p b1 c1 hp hb1=>h4 p b1 c1 (live p hp).1 (live p hp).2 hb1,fun p hp hx'=>?_⟩
    by_cases e2:p=q
    ·exact e2
    ·rw[hoth p e2] at hx';exact absurd hx' (h5 p (live p hp).1 (live p hp).2)
  ·rw[hoth q e1] at hx
   have h:=r.hid q x l1 hx
   refine⟨h.lt,h.m,h.old,fun p b1 c1 hp hb1=>h.ne p b1 c1 (live p hp).1 hb1,fun p hp hx'=>?_⟩
   by_cases e2:p=id
   ·subst e2
    rw[hid'] at hx'
    rcases hx' with hx'|hx'
    ·exact h.un p hl0 hx'
    ·exact absurd hx ((hBn x hx').2.2.2.2 q l1 l2)
   ·rw[hoth p e2] at hx';exact h.un p (live p hp).1 hx'
theorem ghost_untake(id i j id2:Nat){e k e' k' n:Nat}{rows:List (List V)}{row:List V}{rws:List (List V)}(ho:hget S.hp id=.arr e k rows)(hi:rows[i]? = some row)(hj:row[j]? = some (.own id2 n))
  (ho2:hget S.hp id2=.arr e' k' rws) (hn:n=rws.length) (hne:Nat.beq id id2=false) (hkp:∀r,r∈rws->Keeps r):
  Ghost K S ⟨S.env,(id,.arr e k (setC rows i row j (.dsl e' k' rws)))::(id2,.dead)::S.hp,S.nx⟩:=by
 subst hn
 have hne:id≠id2:=fun h=>by rw[h,Nat.beq_refl] at hne;simp at hne
 intro m β w a r
 have hl0:hget S.hp id≠.dead:=by rw[ho];simp
 have hl2:hget S.hp id2≠.dead:=by rw[ho2];simp
 have hown:=r.own id
 rw[ho] at hown
 obtain⟨b,cap,hb⟩:∃b cap,β id=some (some (b,cap)):=by
  match hh:β id,hown with
  |none,hown=>simp[ObOk] at hown
  |some none,hown=>have hown:rows=[]:=hown;subst hown;simp at hi
  |some (some (b,cap)),_=>exact⟨b,cap,rfl⟩
 rw[hb] at hown
 obtain⟨arr,bl,q1,q2,q3,q4,q5,q6,q7⟩:=hown
 obtain⟨v,v1,v2,v3⟩:=q7 i j row _ hi hj
 have v2:=v2.v rfl
 have hjk:j<k:=by rw[<-q5 row (List.mem_of_getElem? hi)];exact(List.getElem?_eq_some_iff.1 hj).1
 have hown2:=r.own id2
 rw[ho2] at hown2
 let Bn:Nat->Prop:=fun x=>β.hid id2 x\/∃c,β id2=some (some (x,c))
 have hd:DRel m w Bn (.dsl e' k' rws) v:=by
  generalize hnn:rws.length=n at v2
  cases v2 with
  |imm h=>cases h
  |ownNil h=>
   have:rws=[]:=List.length_eq_zero_iff.1 hnn
   subst this;exact .nil _ _ _
  | @own _ _ b2 cap2 hb2=>
   rw[hb2] at hown2
   obtain⟨arr2,bl2,p1,p2,p3,p4,p5,p6,p7⟩:=hown2
   rw[<-hnn]
   refine .sl bl2 (fun p=>arr2.getD (cap2.off+p) undef) (.inr ⟨cap2,hb2⟩) (fun p hx=>?_) ⟨fun p x hx=>.inl (p6.1 p x hx),p6.2⟩ p1 p2 p3 p4 p5 (fun i2 j2 row2 c2 h1 h2=>?_) (fun i2 j2 row2 c2 h1 h2=>?_)
   ·exact(r.hid id2 b2 hl2 (p6.1 p b2 hx)).ne id2 b2 cap2 hl2 hb2 rfl
   ·obtain⟨u,u1,_,u3⟩:=p7 i2 j2 row2 c2 h1 h2
    have:arr2.getD (cap2.off+(i2*k'+j2)) undef=u:=by simp[Array.getD_eq_getD_getElem?,u1]
    simp only[this];exact⟨u1,u3⟩
   ·obtain⟨u,u1,u2,_⟩:=p7 i2 j2 row2 c2 h1 h2
    have:arr2.getD (cap2.off+(i2*k'+j2)) undef=u:=by simp[Array.getD_eq_getD_getElem?,u1]
    simp only[this]
    rcases u2 with h|h
    ·exact .imm (hkp row2 (List.mem_of_getElem? h1) c2 (List.mem_of_getElem? h2) _ _ _ h)
    ·exact h
 have hBd:∀x,Bn x->¬β.hid id x:=by
  intro x hx hh
  rcases hx with hx|⟨c,hx⟩
  ·exact hne ((r.hid id2 x hl2 hx).un id hl0 hh)
  ·exact(r.hid id x hl0 hh).ne id2 x c hl2 hx rfl
 obtain⟨m',β',rr⟩:=r.untake hl0 hl2 hne (.arr e k (setC rows i row j (.dsl e' k' rws))) (fun β' hle=>by
  rw[hb]
  refine⟨arr,fun p=>if p=i*k+j then Bn else bl p,q1,q2,by rw[setC_len];exact q3,q4,setC_row hi q5,⟨fun p x hx=>?_,fun p p' x hx hx'=>?_⟩,fun i2 j2 row2 c2 h1 h2=>?_⟩
  ·dsimp only at hx
   split at hx
   ·exact .inr hx
   ·exact .inl (q6.1 p x hx)
  ·dsimp only at hx hx'
   split at hx<;>split at hx'
   ·rename_i e1 e2;rw[e1,e2]
   ·exact absurd (q6.1 _ x hx') (hBd x hx)
   ·exact absurd (q6.1 _ x hx) (hBd x hx')
   ·exact q6.2 _ _ x hx hx'
  ·rcases setC_get hi hj h1 h2 with ⟨rfl,rfl,rfl⟩|⟨row3,h3,h4,h5⟩
   ·exact⟨v,v1,by show CRel _ _ _ (if _ then _ else _) _ _;rw[if_pos rfl];exact .inr hd,v3⟩
   ·obtain⟨u,u1,u2,u3⟩:=q7 i2 j2 row3 c2 h3 h4
    have hj2:j2<k:=by rw[<-q5 row3 (List.mem_of_getElem? h3)];exact(List.getElem?_eq_some_iff.1 h4).1
    refine⟨u,u1,?_,u3⟩
    show CRel _ _ _ (if _ then _ else _) _ _
    rw[if_neg (cell_ne h5 hjk hj2)]
    exact u2.mono (Mem.le_refl _) hle (fun _ h=>h) (fun _ _=>rfl))
 exact⟨m',β',rr⟩
end
inductive Und:V->V->Prop
 |imm {c:V} (h:c.deep=false):Und c c
 |sl {e k:Nat} {rows rows':List (List V)} (hl:rows.length=rows'.length)
   (h0:∀(i:Nat) (r r':List V),rows[i]? = some r->rows'[i]? = some r'->r.length=r'.length)
   (h:∀(i j:Nat) (r r':List V) (c c':V),rows[i]? = some r->rows'[i]? = some r'->r[j]? = some c->r'[j]? = some c'->Und c c'):Und (.dsl e k rows) (.lst k rows')
 |mp {es es':List (Value×V)} (hl:es.length=es'.length)
   (hk:∀(i:Nat) (p p':Value×V),es[i]? = some p->es'[i]? = some p'->p.1=p'.1)
   (h:∀(i:Nat) (p p':Value×V),es[i]? = some p->es'[i]? = some p'->Und p.2 p'.2):Und (.dmp es) (.imap es')
 |pt {e:Nat} {row row':List V} (hl:row.length=row'.length) (h:∀(j:Nat) (c c':V),row[j]? = some c->row'[j]? = some c'->Und c c'):Und (.dpt e row) (.iptr row' 0)
theorem flat_idx{k n p:Nat}(h:p<n*k):p / k<n/\p % k<k/\(p / k)*k+p % k=p:=by
 have hk:0<k:=by
  rcases Nat.eq_zero_or_pos k with h0|h0
  ·subst h0;simp at h
  ·exact h0
 refine⟨(Nat.div_lt_iff_lt_mul hk).2 h,Nat.mod_lt _ hk,?_⟩
 rw[Nat.mul_comm];exact Nat.div_add_mod p k
theorem DRel.und{m m':Mem}{w:World}{B:Nat->Prop}{c:V}{v:Value}(h:DRel m w B c v)(hm:m.le m'):∀c',Und c c'->(∀x,B x->m' x=w.heap[x]?)->IRel m' c' v:=by
 induction h with
 |imm h=>
  intro c' hu _
  cases hu with
  |imm _=>exact h.mono hm
  |sl _ _ _=>cases h
  |mp _ _ _=>cases h
  |pt _ _=>cases h
 |dx _ _=>
  intro c' hu _
  cases hu with
  |imm h=>simp[V.deep] at h
 |nil e k a=>
  intro c' hu _
  cases hu with
  |imm h=>simp[V.deep] at h
  |sl hl _ _=>
   have:=List.length_eq_zero_iff.1 hl.symm
   subst this;exact .nil _ _ _
 | @sl B k b cap off e rows arr bl f hb hbb hBl h1 h2 h3 h4 h5 h6 _ ih=>
  intro c' hu hB
  cases hu with
  |imm h=>simp[V.deep] at h
  | @sl _ _ _ rows' hl h0 hh=>
   have hlen:∀r',r'∈rows'->r'.length=k:=by
    intro r' hr
    obtain⟨i,hi⟩:=List.mem_iff_getElem?.1 hr
    have hlt:=(List.getElem?_eq_some_iff.1 hi).1
    have hlt':i<rows.length:=by omega
    rw[<-h0 i _ r' (List.getElem?_eq_getElem hlt') hi]
    exact h5 _ (List.getElem_mem hlt')
   refine .lst (T:=e) (arr:=arr) (fr:=(0,0)) f (by rw[hB b hb,h1]) rfl hl.symm h3 (by omega) hlen (fun p hp=>?_) (fun i j r' c' hr hc=>?_)
   ·rw[<-hl] at hp
    obtain⟨g1,g2,g3⟩:=flat_idx hp
    have hr:rows[p / k]? = some rows[p / k]:=List.getElem?_eq_getElem g1
    have hlr:p % k<rows[p / k].length:=by rw[h5 _ (List.getElem_mem g1)];exact g2
    have:=(h6 (p / k) (p % k) _ _ hr (List.getElem?_eq_getElem hlr)).1
    rw[g3] at this;exact this
   ·have hlt:=(List.getElem?_eq_some_iff.1 hr).1
    have hlt':i<rows.length:=by omega
    have hr0:rows[i]? = some rows[i]:=List.getElem?_eq_getElem hlt'
    have hj:=(List.getElem?_eq_some_iff.1 hc).1
    have hj':j<rows[i].length:=by rw[h0 i _ r' hr0 hr];exact hj
    have hc0:rows[i][j]? = some rows[i][j]:=List.getElem?_eq_getElem hj'
    exact ih i j _ _ hr0 hc0 c' (hh i j _ r' _ c' hr0 hr hc0 hc) (fun x hx=>hB x (hBl.1 _ x hx))
 | @mp B b es ents clock bl hb hbb hBl h1 h2 h3 _ ih=>
  intro c' hu hB
  cases hu with
  |imm h=>simp[V.deep] at h
  | @mp _ es' hl hkk hh=>
   refine .imap (by rw[hB b hb];exact h1) (by rw[<-hl];exact h2) (fun i p' e hp he=>?_) (fun i p' e hp he=>?_)
   ·have hlt:i<es.length:=by rw[hl];exact(List.getElem?_eq_some_iff.1 hp).1
    rw[h3 i _ e (List.getElem?_eq_getElem hlt) he]
    exact hkk i _ p' (List.getElem?_eq_getElem hlt) hp
   ·have hlt:i<es.length:=by rw[hl];exact(List.getElem?_eq_some_iff.1 hp).1
    exact ih i _ e (List.getElem?_eq_getElem hlt) he _ (hh i _ p' (List.getElem?_eq_getElem hlt) hp) (fun x hx=>hB x (hBl.1 _ x hx))
 | @pt B b n off row T arr bl f hb hbb hBl h1 h2 hn1 hn2 h3 _ ih=>
  intro c' hu hB
  cases hu with
  |imm h=>simp[V.deep] at h
  | @pt _ _ row' hl hh=>
   refine .iptr (T:=T) (arr:=arr) (fr:=(0,0)) f off (by rw[hB b hb,h1]) rfl rfl (fun p hp=>?_) (fun j c' hc=>?_)
   ·have hlt:p<row.length:=by omega
    exact(h3 p _ (List.getElem?_eq_getElem hlt)).1
   ·have hlt:j<row.length:=by rw[hl];exact(List.getElem?_eq_some_iff.1 hc).1
    exact ih j _ (List.getElem?_eq_getElem hlt) c' (hh j _ c' (List.getElem?_eq_getElem hlt) hc) (fun x hx=>hB x (hBl.1 _ x hx))
section
variable{K:Ctx}{S:St}
end
end Go.Pv
namespace Go.Pv
open Go
set_option linter.unusedVariables false
set_option linter.unusedSimpArgs false
section
variable{K:Ctx}{Q:Post}{S:St}
variable{m:Mem}{β:Locs}{w:World}{a:Act}
variable{ops:Array Oper}{rest:List Oper}{ty:TypeId}{pos:String}{after:Array Edge}{g:Option (Nat×Bool)}
theorem map_loc(r:Rel K m β w a S){id:Nat}{es:List (Value×V)}(ho:hget S.hp id=.map es):∃b cap,β id=some (some (b,cap)):=by
 have hown:=r.own id
 rw[ho] at hown
 match hh:β id,hown with
 |none,hown=>simp[ObOk] at hown
 |some none,hown=>simp[ObOk] at hown
 |some (some (b,cap)),_=>exact⟨b,cap,rfl⟩
inductive LookT(x:Value)(nx e k:Nat):List (Value×V)->List (Value×V)->List (List V)->Prop
 |nil:LookT x nx e k [] [] []
 |here {rws:List (List V)} {es:List (Value×V)}:LookT x nx e k ((x,.dsl e k rws)::es) ((x,.own nx rws.length)::es) rws
 |there {q:Value} {v:V} {es es':List (Value×V)} {rws:List (List V)} (h:q≠x) (h':LookT x nx e k es es' rws):LookT x nx e k ((q,v)::es) ((q,v)::es') rws
theorem LookT.cases{x:Value}{nx e k:Nat}{es es':List (Value×V)}{rws:List (List V)}(h:LookT x nx e k es es' rws):
  (es'=es/\rws=[]/\∀p,p∈es->p.1≠x)\/∃i,es[i]? = some (x,.dsl e k rws)/\es'=es.set i (x,.own nx rws.length)/\Look x es' (some (.own nx rws.length)):=by
 induction h with
 |nil=>exact .inl ⟨rfl,rfl,by simp⟩
 |here=>exact .inr ⟨0,rfl,rfl,.here⟩
 | @there q v es es' rws h h' ih=>
  rcases ih with ⟨h1,h2,h3⟩|⟨i,h1,h2,h3⟩
  ·refine .inl ⟨by rw[h1],h2,fun p hp=>?_⟩
   rcases List.mem_cons.1 hp with e|e
   ·rw[e];exact h
   ·exact h3 p e
  ·exact .inr ⟨i+1,by simpa using h1,by rw[h2];rfl,.there h h3⟩
end
end Go.Pv
namespace Go.Pv
open Go
section
variable{K:Ctx}{Q:Post}{S:St}
variable{m:Mem}{β:Locs}{w:World}{a:Act}
variable{ops:Array Oper}{rest:List Oper}{ty:TypeId}{pos:String}{after:Array Edge}{g:Option (Nat×Bool)}
theorem Puts.other{x:Value}{v:V}{es es3:List (Value×V)}(h:Puts x v es es3)(v':V):∃es2 i,Puts x v' es es2/\es2[i]? = some (x,v')/\es3=es2.set i (x,v):=by
 induction h with
 |nil=>exact⟨[(x,v')],0,.nil,rfl,rfl⟩
 | @here v0 es=>exact⟨(x,v')::es,0,.here,rfl,rfl⟩
 | @there k v0 es es3 h h' ih=>
  obtain⟨es2,i,h1,h2,h3⟩:=ih
  exact⟨(k,v0)::es2,i+1,.there h h1,by simpa using h2,by rw[h3];rfl⟩
theorem ghost_congr{S':St}(he:∀t,get S'.env t=get S.env t)(hh:∀t,hget S'.hp t=hget S.hp t)(hn:S'.nx=S.nx):Ghost K S S':=fun m β _ _ r=>⟨m,β,r.congr he hh hn⟩
variable{κ α:Type}[DecidableEq κ]
def holeM(E:κ×List α->Value×V)(nx:Nat)(k0:κ):List (κ×List α)->List (Value×V)
 |[]=>[]
 |p::xs=>if p.1=k0 then ((E p).1,.own nx p.2.length)::xs.map E else E p::holeM E nx k0 xs
theorem lookT_enc(E:κ×List α->Value×V)(kf:κ->Value)(enc:α->List V)(e k nx:Nat)(hE:∀p,E p=(kf p.1,.dsl e k (p.2.map enc)))(hk:∀a b,kf a=kf b->a=b)(k0:κ):
  ∀xs:List (κ×List α),LookT (kf k0) nx e k (xs.map E) (holeM E nx k0 xs) (((mget xs k0).getD []).map enc)
 |[]=>.nil
 |p::xs=>by
  obtain⟨q,l⟩:=p
  simp only[List.map_cons,holeM,mget,hE]
  by_cases h:q=k0
  ·subst h
   simp only[if_pos]
   have:l.length=(l.map enc).length:=by simp
   rw[this];exact .here
  ·rw[if_neg h,if_neg h]
   exact .there (fun e=>h (hk _ _ e)) (lookT_enc E kf enc e k nx hE hk k0 xs)
theorem puts_hole(E:κ×List α->Value×V)(kf:κ->Value)(enc:α->List V)(e k nx:Nat)(hE:∀p,E p=(kf p.1,.dsl e k (p.2.map enc)))(hk:∀a b,kf a=kf b->a=b)(k0:κ)(l':List α):
  ∀xs:List (κ×List α),Puts (kf k0) (.dsl e k (l'.map enc)) (holeM E nx k0 xs) ((mput xs k0 l').map E)
 |[]=>by simp only[holeM,mput,List.map_cons,List.map_nil,hE];exact .nil
 |p::xs=>by
  obtain⟨q,l⟩:=p
  simp only[holeM,mput]
  by_cases h:q=k0
  ·subst h
   simp only[if_pos,hE,List.map_cons];exact .here
  ·rw[if_neg h,if_neg h]
   simp only[hE,List.map_cons]
   exact .there (fun e=>h (hk _ _ e)) (by have:=puts_hole E kf enc e k nx hE hk k0 l' xs;simpa only[hE] using this)
end
end Go.Pv
namespace Go.Pv
open Go
set_option linter.unusedVariables false
set_option linter.unusedSimpArgs false
section
variable{K:Ctx}{S:St}
variable{m:Mem}{β:Locs}{w:World}{a:Act}
theorem Rel.takeGx(r:Rel K m β w a S)(id0 nx':Nat)(hfree:β id0=none)(hpid:∀q,q<K.pins->q≠id0)(hidn:id0<nx')(hnn:S.nx<=nx'){id:Nat}(hl0:hget S.hp id≠.dead)(hnid:id≠id0)(Bc Bn:Nat->Prop)(loc:Option (Nat×Cap))(ob' ob2:Ob)(hsub:∀x,Bc x->β.hid id x)(hBn:∀x,Bn x->Bc x)
  (hloc:∀b' c',loc=some (b',c')->Bc b'/\¬Bn b') (hobj:∀β':Locs,ObOk m β' w Bn (some loc) ob2)
  (hob:∀β':Locs,β.le β'->β' id0=some loc->ObOk m β' w (fun x=>β.hid id x/\¬Bc x) (β id) ob'):
  ∃β':Locs,Rel K m β' w a ⟨S.env,(id,ob')::(id0,ob2)::S.hp,nx'⟩/\β.le β'/\β' id0=some loc:=by
 let β':Locs:=⟨fun q=>if q=id0 then some loc else β q,fun q=>if q=id0 then Bn else if q=id then (fun x=>β.hid id x/\¬Bc x) else β.hid q⟩
 have en:β' id0=some loc:=by show(if _ then _ else _)=_;rw[if_pos rfl]
 have eo:∀q,q≠id0->β' q=β q:=fun q h=>by show(if _ then _ else _)=_;rw[if_neg h]
 have hn:β'.hid id0=Bn:=by show(if _ then _ else _)=_;rw[if_pos rfl]
 have hid':β'.hid id=fun x=>β.hid id x/\¬Bc x:=by show(if _ then _ else if _ then _ else _)=_;rw[if_neg hnid,if_pos rfl]
 have hoth:∀q,q≠id0->q≠id->β'.hid q=β.hid q:=fun q h1 h2=>by show(if _ then _ else if _ then _ else _)=_;rw[if_neg h1,if_neg h2]
 have hle:β.le β':=by
  intro q l h
  rw[eo q]
  ·exact h
  ·intro e;rw[e,hfree] at h;simp at h
 have hg:∀q,hget ((id,ob')::(id0,ob2)::S.hp) q=if id=q then ob' else if id0=q then ob2 else hget S.hp q:=fun q=>by rw[hget_put,hget_put]
 have live:∀q,q≠id0->hget ((id,ob')::(id0,ob2)::S.hp) q≠.dead->hget S.hp q≠.dead:=by
  intro q hq h
  rw[hg] at h
  split at h
  ·rename_i e;rw[<-e];exact hl0
  ·rw[if_neg (Ne.symm hq)] at h;exact h
 -- the hidden blocks of the new state, seen in the old one
 have hh:∀q x,hget ((id,ob')::(id0,ob2)::S.hp) q≠.dead->β'.hid q x->(q=id0/\Bn x)\/(q≠id0/\hget S.hp q≠.dead/\β.hid q x/\(q=id->¬Bc x)):=by
  intro q x hl hx
  by_cases e1:q=id0
  ·subst e1;rw[hn] at hx;exact .inl ⟨rfl,hx⟩
  ·refine .inr ⟨e1,live q e1 hl,?_⟩
   by_cases e2:q=id
   ·subst e2;rw[hid'] at hx;exact⟨hx.1,fun _=>hx.2⟩
   ·rw[hoth q e1 e2] at hx;exact⟨hx,fun h=>absurd h e2⟩
 refine⟨β',⟨r.imm,r.ext,r.mold,r.frame,r.size,r.same,r.tn,r.df,fun t=>(r.env t).mono (Mem.le_refl _) hle,fun q=>?_,fun q b1 c1 hl hb1=>?_,fun q q' b1 c1 c2 hl hl' hb1 hb2=>?_,fun q x hl hx=>?_,fun q hq=>?_,fun q hq=>?_⟩,hle,en⟩
 ·rw[hg]
  split
  ·rename_i h;subst h
   show ObOk m β' w (β'.hid id) (β' id) _
   rw[hid',eo id hnid];exact hob β' hle en
  ·split
   ·rename_i h;subst h
    show ObOk m β' w (β'.hid id0) (β' id0) _
    rw[hn,en];exact hobj β'
   ·rename_i h1 h2
    show ObOk m β' w (β'.hid q) (β' q) _
    rw[hoth q (Ne.symm h2) (Ne.symm h1),eo q (Ne.symm h2)]
    exact ObOk.mono (Mem.le_refl _) hle (fun _ _ h=>h) (fun _ _=>rfl) (r.own q)
 ·by_cases e1:q=id0
  ·subst e1;rw[en] at hb1
   simp only[Option.some.injEq] at hb1
   have h:=r.hid id b1 hl0 (hsub _ (hloc b1 c1 hb1).1)
   exact⟨h.m,h.old⟩
  ·rw[eo q e1] at hb1;exact r.priv q b1 c1 (live q e1 hl) hb1
 ·have key:∀q c,q≠id0->hget S.hp q≠.dead->β q=some (some (b1,c))->∀c',loc=some (b1,c')->False:=by
   intro q c _ hl hbq c' hc
   exact(r.hid id b1 hl0 (hsub _ (hloc b1 c' hc).1)).ne q b1 c hl hbq rfl
  by_cases e1:q=id0<;>by_cases e2:q'=id0
  ·rw[e1,e2]
  ·exfalso;subst e1
   rw[en] at hb1;rw[eo q' e2] at hb2
   simp only[Option.some.injEq] at hb1
   exact key q' c2 e2 (live q' e2 hl') hb2 c1 hb1
  ·exfalso;subst e2
   rw[en] at hb2;rw[eo q e1] at hb1
   simp only[Option.some.injEq] at hb2
   exact key q c1 e1 (live q e1 hl) hb1 c2 hb2
  ·rw[eo q e1] at hb1;rw[eo q' e2] at hb2
   exact r.inj q q' b1 c1 c2 (live q e1 hl) (live q' e2 hl') hb1 hb2
 ·
  have hx0:=hh q x hl hx
  have hidx:∃q0,hget S.hp q0≠.dead/\β.hid q0 x/\(q=id0->q0=id/\Bc x)/\(q≠id0->q0=q):=by
   rcases hx0 with ⟨e1,h1⟩|⟨e1,h1,h2,h3⟩
   ·exact⟨id,hl0,hsub x (hBn x h1),fun _=>⟨rfl,hBn x h1⟩,fun h=>absurd e1 h⟩
   ·exact⟨q,h1,h2,fun h=>absurd h e1,fun _=>rfl⟩
  obtain⟨q0,g1,g2,g3,g4⟩:=hidx
  have hr:=r.hid q0 x g1 g2
  refine⟨hr.lt,hr.m,hr.old,fun p b1 c1 hl1 hb1=>?_,fun p hl1 hx1=>?_⟩
  ·by_cases e2:p=id0
   ·subst e2
    rw[en] at hb1
    simp only[Option.some.injEq] at hb1
    intro e;subst e
    obtain⟨k1,k2⟩:=hloc _ c1 hb1
    rcases hx0 with ⟨e1,h1⟩|⟨e1,h1,h2,h3⟩
    ·exact k2 h1
    ·have:=(r.hid q _ h1 h2).un id hl0 (hsub _ k1)
     exact h3 this.symm k1
   ·rw[eo p e2] at hb1
    exact hr.ne p b1 c1 (live p e2 hl1) hb1
  ·rcases hh p x hl1 hx1 with ⟨e2,h2⟩|⟨e2,h2,h3,h4⟩
   ·rcases hx0 with ⟨e1,h1⟩|⟨e1,h1,h2',h3'⟩
    ·rw[e1,e2]
    ·exfalso
     have:=(r.hid q _ h1 h2').un id hl0 (hsub _ (hBn x h2))
     exact h3' this.symm (hBn x h2)
   ·rcases hx0 with ⟨e1,h1⟩|⟨e1,h1,h2',h3'⟩
    ·exfalso
     have:=(r.hid id _ hl0 (hsub _ (hBn x h1))).un p h2 h3
     exact h4 this (hBn x h1)
    ·exact(r.hid q _ h1 h2').un p h2 h3
 ·have hq:nx'<=q:=hq
  rw[eo q (by omega)];exact r.nx q (by omega)
 ·obtain⟨p1,p2⟩:=r.pin q hq
  exact⟨Nat.lt_of_lt_of_le p1 hnn,by rw[eo q (hpid q hq)];exact p2⟩
theorem Rel.takeG(r:Rel K m β w a S)(id0 nx':Nat)(hfree:β id0=none)(hpid:∀q,q<K.pins->q≠id0)(hidn:id0<nx')(hnn:S.nx<=nx'){id:Nat}(hl0:hget S.hp id≠.dead)(hnid:id≠id0)(Bc Bn:Nat->Prop)(loc:Option (Nat×Cap))(ob' ob2:Ob)(hsub:∀x,Bc x->β.hid id x)(hBn:∀x,Bn x->Bc x)
  (hloc:∀b' c',loc=some (b',c')->Bc b'/\¬Bn b') (hobj:∀β':Locs,ObOk m β' w Bn (some loc) ob2)
  (hob:∀β':Locs,β.le β'->β' id0=some loc->ObOk m β' w (fun x=>β.hid id x/\¬Bc x) (β id) ob'):
  ∃m' β',Rel K m' β' w a ⟨S.env,(id,ob')::(id0,ob2)::S.hp,nx'⟩:=
 let ⟨β',h,_⟩:=r.takeGx id0 nx' hfree hpid hidn hnn hl0 hnid Bc Bn loc ob' ob2 hsub hBn hloc hobj hob
 ⟨m,β',h⟩
def ovl:V->Nat->Option (V×Ob)
 | .dsl e k rws,nx=>some (.own nx rws.length,.arr e k rws)
 | .dmp es,nx=>some (.map nx,.map es)
 |_,_=>none
def OKeep:Ob->Prop
 | .arr _ _ rws=>∀r,r∈rws->Keeps r
 | .map es=>∀p,p∈es->Keep p.2
 |_=>True
theorem ovl_live{d o:V}{ob:Ob}{id:Nat}(h:ovl d id=some (o,ob)):ob≠.dead/\o.deep=false/\d.deep=true:=by
 cases d<;>simp[ovl] at h
 ·obtain⟨rfl,rfl⟩:=h;exact⟨by simp,rfl,rfl⟩
 ·obtain⟨rfl,rfl⟩:=h;exact⟨by simp,rfl,rfl⟩
theorem deepG_inv{B:Nat->Prop}{d:V}{v:Value}(hd:d.deep=true)(h:CRel m β w B d v):DRel m w B d v:=by
 rcases h with h|h
 ·cases h with
  |imm h=>exact .imm h
  |_=>simp[V.deep] at hd
 ·exact h
theorem deep_take{B:Nat->Prop}{d o:V}{ob:Ob}{v:Value}{id0:Nat}(h:DRel m w B d v)(hov:ovl d id0=some (o,ob)):
  ∃(loc:Option (Nat×Cap)) (Bn:Nat->Prop),(∀β':Locs,β' id0=some loc->VRel m β' o v)/\(∀x,Bn x->B x)/\(∀b' c',loc=some (b',c')->B b'/\¬Bn b')/\∀β':Locs,ObOk m β' w Bn (some loc) ob:=by
 cases h with
 |imm h=>cases h<;>simp[ovl] at hov
 |nil e k a=>
  simp only[ovl,Option.some.injEq,Prod.mk.injEq] at hov
  obtain⟨rfl,rfl⟩:=hov
  exact⟨none,fun _=>False,fun β' h=>.ownNil h,fun _ h=>h.elim,fun _ _ h=>by simp at h,fun _=>rfl⟩
 | @sl _ k b' cap' off' e rows arr' bl' f hb' hbb hB hw hs hr hcap hk hf h=>
  simp only[ovl,Option.some.injEq,Prod.mk.injEq] at hov
  obtain⟨rfl,rfl⟩:=hov
  refine⟨some (b',⟨cap',off'⟩),fun x=>∃p,bl' p x,fun β' h=>.own h,fun x ⟨p,hx⟩=>hB.1 p x hx,fun b2 c2 h=>?_,fun β'=>?_⟩
  ·simp only[Option.some.injEq,Prod.mk.injEq] at h;obtain⟨rfl,_⟩:=h;exact⟨hb',fun⟨p,hx⟩=>hbb p hx⟩
  ·refine⟨arr',bl',hw,hs,hr,hcap,hk,⟨fun p x hx=>⟨p,hx⟩,hB.2⟩,fun i2 j2 row2 c2 h1 h2=>?_⟩
   obtain⟨f1,f2⟩:=hf i2 j2 row2 c2 h1 h2
   exact⟨_,f1,.inr (h i2 j2 row2 c2 h1 h2),f2⟩
 | @mp _ b' es ents clock bl' hb' hbb hB hw hl hk h=>
  simp only[ovl,Option.some.injEq,Prod.mk.injEq] at hov
  obtain⟨rfl,rfl⟩:=hov
  refine⟨some (b',⟨0,0⟩),fun x=>∃p,bl' p x,fun β' h=>.map h,fun x ⟨p,hx⟩=>hB.1 p x hx,fun b2 c2 h=>?_,fun β'=>?_⟩
  ·simp only[Option.some.injEq,Prod.mk.injEq] at h;obtain⟨rfl,_⟩:=h;exact⟨hb',fun⟨p,hx⟩=>hbb p hx⟩
  ·exact⟨ents,clock,bl',hw,hl,⟨fun p x hx=>⟨p,hx⟩,hB.2⟩,fun i2 p2 e2 h1 h2=>⟨hk i2 p2 e2 h1 h2,.inr (h i2 p2 e2 h1 h2)⟩⟩
 |pt=>simp[ovl] at hov
 |dx=>simp[ovl] at hov
theorem deep_untake(r:Rel K m β w a S){d o:V}{ob:Ob}{v:Value}{id2:Nat}(hov:ovl d id2=some (o,ob))(ho2:hget S.hp id2=ob)(hkp:OKeep ob)(hv:VRel m β o v):
  DRel m w (fun x=>β.hid id2 x\/∃c,β id2=some (some (x,c))) d v:=by
 have hl2:hget S.hp id2≠.dead:=by rw[ho2];exact(ovl_live hov).1
 have hown2:=r.own id2
 rw[ho2] at hown2
 cases d<;>simp only[ovl,Option.some.injEq,Prod.mk.injEq,reduceCtorEq] at hov
 ·rename_i e' k' rws
  obtain⟨rfl,rfl⟩:=hov
  generalize hnn:rws.length=n at hv
  cases hv with
  |imm h=>cases h
  |ownNil h=>
   have:rws=[]:=List.length_eq_zero_iff.1 hnn
   subst this;exact .nil _ _ _
  | @own _ _ b2 cap2 hb2=>
   rw[hb2] at hown2
   obtain⟨arr2,bl2,p1,p2,p3,p4,p5,p6,p7⟩:=hown2
   rw[<-hnn]
   refine .sl bl2 (fun p=>arr2.getD (cap2.off+p) undef) (.inr ⟨cap2,hb2⟩) (fun p hx=>?_) ⟨fun p x hx=>.inl (p6.1 p x hx),p6.2⟩ p1 p2 p3 p4 p5 (fun i2 j2 row2 c2 h1 h2=>?_) (fun i2 j2 row2 c2 h1 h2=>?_)
   ·exact(r.hid id2 b2 hl2 (p6.1 p b2 hx)).ne id2 b2 cap2 hl2 hb2 rfl
   ·obtain⟨u,u1,_,u3⟩:=p7 i2 j2 row2 c2 h1 h2
    have:arr2.getD (cap2.off+(i2*k'+j2)) undef=u:=by simp[Array.getD_eq_getD_getElem?,u1]
    simp only[this];exact⟨u1,u3⟩
   ·obtain⟨u,u1,u2,_⟩:=p7 i2 j2 row2 c2 h1 h2
    have:arr2.getD (cap2.off+(i2*k'+j2)) undef=u:=by simp[Array.getD_eq_getD_getElem?,u1]
    simp only[this]
    rcases u2 with h|h
    ·exact .imm (hkp row2 (List.mem_of_getElem? h1) c2 (List.mem_of_getElem? h2) _ _ _ h)
    ·exact h
 ·rename_i es
  obtain⟨rfl,rfl⟩:=hov
  cases hv with
  |imm h=>cases h
  | @map _ b2 cap2 hb2=>
   rw[hb2] at hown2
   obtain⟨ents,clock,bl2,p1,p2,p6,p7⟩:=hown2
   refine .mp bl2 (.inr ⟨cap2,hb2⟩) (fun p hx=>?_) ⟨fun p x hx=>.inl (p6.1 p x hx),p6.2⟩ p1 p2 (fun i2 q e2 h1 h2=>(p7 i2 q e2 h1 h2).1) (fun i2 q e2 h1 h2=>?_)
   ·exact(r.hid id2 b2 hl2 (p6.1 p b2 hx)).ne id2 b2 cap2 hl2 hb2 rfl
   ·rcases(p7 i2 q e2 h1 h2).2 with h|h
    ·exact .imm (hkp q (List.mem_of_getElem? h1) _ _ _ h)
    ·exact h
theorem Rel.takeM(r:Rel K m β w a S)(id i id0 nx':Nat)(hfree:β id0=none)(hpid:∀q,q<K.pins->q≠id0)(hidn:id0<nx')(hnn:S.nx<=nx'){es:List (Value×V)}{kv:Value}{d o:V}{ob:Ob}(ho:hget S.hp id=.map es)(hi:es[i]? = some (kv,d))(hov:ovl d id0=some (o,ob)):
  ∃m' β',Rel K m' β' w a ⟨S.env,(id,.map (es.set i (kv,o)))::(id0,ob)::S.hp,nx'⟩:=by
 have hl0:hget S.hp id≠.dead:=by rw[ho];simp
 obtain⟨b,cap,hb⟩:=map_loc r ho
 have hne0:id≠id0:=fun h=>by rw[h,hfree] at hb;simp at hb
 have hown:=r.own id
 rw[ho,hb] at hown
 obtain⟨ents,clock,bl,q1,q2,q6,q7⟩:=hown
 have hlt:i<ents.size:=by rw[<-q2];exact(List.getElem?_eq_some_iff.1 hi).1
 obtain⟨v1,v2⟩:=q7 i _ ents[i] hi (Array.getElem?_eq_getElem hlt)
 generalize hv:ents[i].val=v at v2
 obtain⟨loc,Bn,hvr,hBn,hloc,hobj⟩:=deep_take (deepG_inv (ovl_live hov).2.2 v2) hov
 obtain⟨m',β',rr⟩:=r.takeG id0 nx' hfree hpid hidn hnn hl0 hne0 (bl i) Bn loc (.map (es.set i (kv,o))) ob (fun x hx=>q6.1 _ x hx) hBn hloc hobj (fun β' hle en=>by
  rw[hb]
  refine⟨ents,clock,fun p=>if p=i then (fun _=>False) else bl p,q1,by rw[List.length_set];exact q2,⟨fun p x hx=>?_,fun p p' x hx hx'=>?_⟩,fun i2 p2 en2 h1 h2=>?_⟩
  ·dsimp only at hx
   split at hx
   ·exact hx.elim
   ·rename_i hne;exact⟨q6.1 p x hx,fun h=>hne (q6.2 _ _ x hx h)⟩
  ·dsimp only at hx hx'
   split at hx
   ·exact hx.elim
   ·split at hx'
    ·exact hx'.elim
    ·exact q6.2 _ _ x hx hx'
  ·rw[List.getElem?_set] at h1
   by_cases e2:i=i2
   ·subst e2
    rw[if_pos rfl,if_pos (by rw[q2];exact hlt)] at h1
    simp only[Option.some.injEq] at h1
    subst h1
    rw[Array.getElem?_eq_getElem hlt,Option.some.injEq] at h2
    subst h2
    exact⟨v1,.inl (by rw[hv];exact hvr β' en)⟩
   ·rw[if_neg e2] at h1
    obtain⟨u1,u2⟩:=q7 i2 p2 en2 h1 h2
    refine⟨u1,?_⟩
    show CRel _ _ _ (if _ then _ else _) _ _
    rw[if_neg (Ne.symm e2)]
    exact u2.mono (Mem.le_refl _) hle (fun _ h=>h) (fun _ _=>rfl))
 exact⟨m',β',rr⟩
theorem ghost_untakeMG(id i id2:Nat){es:List (Value×V)}{kv:Value}{d o:V}{ob:Ob}(ho:hget S.hp id=.map es)(hi:es[i]? = some (kv,o))(hov:ovl d id2=some (o,ob))(ho2:hget S.hp id2=ob)(hne:id≠id2)(hkp:OKeep ob):
  Ghost K S ⟨S.env,(id,.map (es.set i (kv,d)))::(id2,.dead)::S.hp,S.nx⟩:=by
 intro m β w a r
 have hl0:hget S.hp id≠.dead:=by rw[ho];simp
 have hl2:hget S.hp id2≠.dead:=by rw[ho2];exact(ovl_live hov).1
 obtain⟨b,cap,hb⟩:=map_loc r ho
 have hown:=r.own id
 rw[ho,hb] at hown
 obtain⟨ents,clock,bl,q1,q2,q6,q7⟩:=hown
 have hlt:i<ents.size:=by rw[<-q2];exact(List.getElem?_eq_some_iff.1 hi).1
 obtain⟨v1,v2⟩:=q7 i _ ents[i] hi (Array.getElem?_eq_getElem hlt)
 have v2:=v2.v (ovl_live hov).2.1
 have hd:=deep_untake r hov ho2 hkp v2
 let Bn:Nat->Prop:=fun x=>β.hid id2 x\/∃c,β id2=some (some (x,c))
 have hBd:∀x,Bn x->¬β.hid id x:=by
  intro x hx hh
  rcases hx with hx|⟨c,hx⟩
  ·exact hne ((r.hid id2 x hl2 hx).un id hl0 hh)
  ·exact(r.hid id x hl0 hh).ne id2 x c hl2 hx rfl
 obtain⟨m',β',rr⟩:=r.untake hl0 hl2 hne (.map (es.set i (kv,d))) (fun β' hle=>by
  rw[hb]
  refine⟨ents,clock,fun p=>if p=i then Bn else bl p,q1,by rw[List.length_set];exact q2,⟨fun p x hx=>?_,fun p p' x hx hx'=>?_⟩,fun i2 p2 en2 h1 h2=>?_⟩
  ·dsimp only at hx
   split at hx
   ·exact .inr hx
   ·exact .inl (q6.1 p x hx)
  ·dsimp only at hx hx'
   split at hx<;>split at hx'
   ·rename_i e1 e2;rw[e1,e2]
   ·exact absurd (q6.1 _ x hx') (hBd x hx)
   ·exact absurd (q6.1 _ x hx) (hBd x hx')
   ·exact q6.2 _ _ x hx hx'
  ·rw[List.getElem?_set] at h1
   by_cases e2:i=i2
   ·subst e2
    rw[if_pos rfl,if_pos (by rw[q2];exact hlt)] at h1
    simp only[Option.some.injEq] at h1
    subst h1
    rw[Array.getElem?_eq_getElem hlt,Option.some.injEq] at h2
    subst h2
    refine⟨v1,?_⟩
    show CRel _ _ _ (if _ then _ else _) _ _
    rw[if_pos rfl];exact .inr hd
   ·rw[if_neg e2] at h1
    obtain⟨u1,u2⟩:=q7 i2 p2 en2 h1 h2
    refine⟨u1,?_⟩
    show CRel _ _ _ (if _ then _ else _) _ _
    rw[if_neg (Ne.symm e2)]
    exact u2.mono (Mem.le_refl _) hle (fun _ h=>h) (fun _ _=>rfl))
 exact⟨m',β',rr⟩
end
end Go.Pv
