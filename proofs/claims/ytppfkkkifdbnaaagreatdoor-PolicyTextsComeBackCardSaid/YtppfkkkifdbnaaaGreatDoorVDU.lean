/- Part of the proof. -/
import Derived.Test.YtppfkkkifdbnaaaGreatDoorVWA
import Derived.Maps.RangeRun
import Derived.Lib.SlicesCompact
set_option linter.unusedSimpArgs false
set_option linter.unusedVariables false
namespace Go.Pv
open Go
section
variable{K:Ctx}{Q:Post}{S S':St}
variable{m:Mem}{β:Locs}{w:World}{a:Act}
variable{ops:Array Oper}{rest:List Oper}{ty:TypeId}{pos:String}{after:Array Edge}{g:Option (Nat×Bool)}
theorem Rel.adopt(r:Rel K m β w a S)(id0 nx':Nat)(hfree:β id0=none)(hpid:∀q,q<K.pins->q≠id0)(hidn:id0<nx')(hnn:S.nx<=nx')(loc:Option (Nat×Cap))(ob:Ob)
  (hblk:∀b c,loc=some (b,c)->m b=none/\(b<K.w0.heap.size->¬K.old b)/\(∀i c',hget S.hp i≠.dead->β i≠some (some (b,c')))/\∀i,hget S.hp i≠.dead->¬β.hid i b)
  (hok:∀β',β.le β'->ObOk m β' w (fun _=>False) (some loc) ob):
  ∃β':Locs,β.le β'/\β' id0=some loc/\Rel K m β' w a ⟨S.env,(id0,ob)::S.hp,nx'⟩:=by
 let β':Locs:=⟨fun i=>if i=id0 then some loc else β i,fun i=>if i=id0 then (fun _=>False) else β.hid i⟩
 have hle:β.le β':=by
  intro i l h
  show(if i=id0 then _ else _)=_
  rw[if_neg]
  ·exact h
  ·grind
 have en:β' id0=some loc:=by show(if _ then _ else _)=_;grind
 have eo:∀i,id0≠i->β' i=β i:=fun i h=>by grind
 have hn:β'.hid id0=fun _=>False:=by show(if _ then _ else _)=_;grind
 have ho:∀i,id0≠i->β'.hid i=β.hid i:=fun i h=>by grind
 refine⟨β',hle,en,?_⟩
 constructor
 ·exact r.imm
 ·exact r.ext
 ·exact r.mold
 ·exact r.frame
 ·exact r.size
 ·exact r.same
 ·exact r.tn
 ·exact r.df
 ·exact fun t=>(r.env t).mono (Mem.le_refl _) hle
 ·intro id
  simp only[hget_put]
  by_cases h:id0=id
  ·grind
  ·rw[if_neg h]
   show ObOk m β' w (β'.hid id) (β' id) _
   rw[eo id h,ho id h]
   exact ObOk.mono (Mem.le_refl _) hle (fun _ _ h=>h) (fun _ _=>rfl) (r.own id)
 ·intro id b c hl hb
  simp only[hget_put] at hl
  by_cases h:id0=id
  ·grind
  ·rw[if_neg h] at hl
   rw[eo id h] at hb
   exact r.priv id b c hl hb
 ·intro id id' b c c' hl hl' hb hb'
  simp only[hget_put] at hl hl'
  by_cases h:id0=id<;>by_cases h':id0=id'
  ·grind
  ·grind
  ·grind
  ·rw[if_neg h] at hl
   rw[if_neg h'] at hl'
   rw[eo id h] at hb
   rw[eo id' h'] at hb'
   exact r.inj id id' b c c' hl hl' hb hb'
 ·intro id x hl hx
  simp only[hget_put] at hl
  by_cases h:id0=id
  ·grind
  ·rw[if_neg h] at hl
   rw[ho id h] at hx
   have q:=r.hid id x hl hx
   refine⟨q.lt,q.m,q.old,fun i b c hi hb=>?_,fun i hi hx'=>?_⟩
   ·simp only[hget_put] at hi
    by_cases h':id0=i
    ·grind
    ·rw[if_neg h'] at hi
     rw[eo i h'] at hb
     exact q.ne i b c hi hb
   ·simp only[hget_put] at hi
    by_cases h':id0=i
    ·grind
    ·rw[if_neg h'] at hi
     rw[ho i h'] at hx'
     exact q.un i hi hx'
 ·intro id hid
  have hid:nx'<=id:=hid
  show β' id=none
  rw[eo id (by omega)]
  exact r.nx id (by omega)
 ·intro q hq
  obtain⟨p1,p2⟩:=r.pin q hq<;>grind
end
end Go.Pv
namespace Go.Pv
open Go
section
variable{K:Ctx}{S:St}
end
end Go.Pv
namespace Go.Pv
open Go
section
variable{K:Ctx}{Q:Post}{S:St}
variable{m:Mem}{β:Locs}{w:World}{a:Act}
variable{ops:Array Oper}{rest:List Oper}{ty:TypeId}{pos:String}{after:Array Edge}{g:Option (Nat×Bool)}
@[reducible] def BndIs(K:Ctx)(S:St)(o:Option Operand)(n v:Nat):Prop:=match o with|none=>v=n|some y=>∃ik,evl K S y=.con (.int ik v)
theorem slice_own_run(r:Rel K m β w a S){d k n a0 b0:Nat}{x:Operand}{lo hi:Option Operand}{T:TypeId}(hT:tySl K.P T k=true)
  (hlo:BndIs K S lo 0 a0) (hhi:BndIs K S hi n b0)
  (h1:a0<=b0) (h2:b0<=n) (ad:Option Addr) (cap:Nat) (hv:a.eval x=.slice ad n cap) (hcap:n<=cap):
  (execOp a.eval ⟨some d,.slice T x lo hi none,ty,pos,after,g⟩).run K.P w=.ok (.value (.slice (if cap=a0 then ad else ad.map (·.add (a0*k))) (b0 - a0) (cap - a0))) w:=by
 obtain⟨e,i,hu,hi',hs⟩:=tySl_inv hT
 have hk:K.P.cellsOf e=k:=by simp[Program.cellsOf,hi',hs]
 have bnd:∀(n y:Nat) (c:BoundsCode) (ik:IntKind),n<=y->(Instr.sliceBound (.int ik n) y c).run K.P w=.ok n w:=by
  intro n y c ik h
  simp only[Instr.sliceBound,asIntOf,Sem.run_bind,pure,Sem.run,Result.andThen_ok]
  rw[if_pos ⟨by omega,by omega⟩]
  simp
 have hb:(Instr.sliceBounds true n cap (lo.map a.eval) (hi.map a.eval) none).run K.P w=.ok (a0,b0,cap) w:=by
  cases lo with
  |none=>
   have hlo:a0=0:=hlo;subst hlo
   cases hi with
   |none=>simp_all[Instr.sliceBounds]
   |some y=>
    obtain⟨ik,hy⟩:=hhi
    simp[Instr.sliceBounds,pure,r.con hy,bnd b0 cap _ ik (by omega)]
  |some z=>
   obtain⟨ik,hz⟩:=hlo
   cases hi with
   |none=>have hhi:b0=n:=hhi;subst hhi;simp[Instr.sliceBounds,pure,r.con hz,bnd a0 _ _ ik h1]
   |some y=>
    obtain⟨ik',hy⟩:=hhi
    simp[Instr.sliceBounds,pure,r.con hz,r.con hy,bnd a0 _ _ ik h1,bnd b0 cap _ ik' (by omega)]
 simp_all[execOp,Instr.sliceAt,run_underlying,Instr.slice,run_sizeOf]
theorem aops_slice_ownhi{d k n id e b0:Nat}{x:Operand}{hi:Option Operand}{T:TypeId}{rows:List (List V)}(hT:tySl K.P T k=true)
  (hw:Wants ops S ⟨some d,.slice T x none hi none,ty,pos,after,g⟩ true) (hx:evl K S x=.own id n) (ho:hget S.hp id=.arr e k rows) (hn:n<=rows.length)
  (hhi:BndIs K S hi n b0) (h2:b0<=n) (hN:Nat.blt d K.N=true) (kk:AOps K ops rest Q (S.put d (.own id b0))):
  AOps K ops (⟨some d,.slice T x none hi none,ty,pos,after,g⟩::rest) Q S:=
 aops_val _ hw hN (fun m β w a r=>by
  have h:=r.reads x
  rw[hx] at h
  generalize hv:a.eval x=v at h
  cases h with
  |imm h=>cases h
  | @ownNil _ ad hb=>
   have:=slice_own_run (a0:=0) (b0:=b0) (lo:=none) (d:=d) (ty:=ty) (pos:=pos) (after:=after) (g:=g) r hT rfl hhi (af8 _) h2 ad 0 hv (ab8 _)
   have hb0:b0=0:=by omega
   subst hb0
   exact⟨_,this,by simpa using .ownNil hb⟩
  | @own _ _ b cap hb=>
   obtain⟨arr,bl,q1,q2,q3,q4,q5,q6,q7⟩:=r.obj hb ho
   have:=slice_own_run (a0:=0) (b0:=b0) (lo:=none) (d:=d) (ty:=ty) (pos:=pos) (after:=after) (g:=g) r hT rfl hhi (af8 _) h2 _ cap.n hv (by omega)
   have had:(some (⟨b,cap.off,none⟩:Addr)).map (·.add (0*k))=some ⟨b,cap.off,none⟩:=by simp only[au9];rw[add_spot];simp
   rw[had] at this
   exact⟨_,this,by simpa using .own hb⟩) kk
theorem aops_slice_own{d k n id e nx:Nat}{x:Operand}{lo hi:Option Operand}{T:TypeId}{rows:List (List V)}(a0 b0:Nat)(rows':List (List V))(hT:tySl K.P T k=true)
  (hw:Wants ops S ⟨some d,.slice T x lo hi none,ty,pos,after,g⟩ true) (hx:evl K S x=.own id n) (ho:hget S.hp id=.arr e k rows) (hn:n=rows.length) (hnx:S.nx=nx)
  (hlo:BndIs K S lo 0 a0) (hhi:BndIs K S hi n b0)
  (h1:a0<=b0) (h2:b0<=n) (hl:rows.drop a0=rows') (hnd:∀row,row∈rows->ndB row=true) (hN:Nat.blt d K.N=true)
  (kk:AOps K ops rest Q ⟨(d,.own nx (b0 - a0))::S.env,(nx,.arr e k rows')::(id,.dead)::S.hp,nx+1⟩):
  AOps K ops (⟨some d,.slice T x lo hi none,ty,pos,after,g⟩::rest) Q S:=by
 subst hnx hn hl
 refine aops_runs hw (fun m β w a r=>?_) kk
 have hl0:hget S.hp id≠.dead:=by rw[ho];simp
 have h:=r.reads x
 rw[hx] at h
 generalize hv:a.eval x=v at h
 generalize hnn:rows.length=n at h hv hhi h2
 have rk:=r.kill id
 cases h with
 |imm h=>cases h
 | @ownNil _ ad hb=>
  have:=slice_own_run (a0:=a0) (b0:=b0) (d:=d) (ty:=ty) (pos:=pos) (after:=after) (g:=g) r hT hlo hhi h1 h2 ad 0 hv (ab8 _)
  have hb0:b0=0:=by omega
  have ha0:a0=0:=by omega
  subst hb0 ha0
  have hr0:rows=[]:=as9.1 hnn
  subst hr0
  obtain⟨β',hle,hβ,r3⟩:=rk.adopt S.nx (S.nx+1) (r.nx _ (ab8 _)) (fun q hq=>ag8 (r.pin q hq).1) (ah9 _) (ah8 _) none (.arr e k []) (fun b c hb=>by simp at hb) (fun _ _=>rfl)
  exact⟨_,w,m,β',.inl this,r3.put hN (by simpa using .ownNil hβ)⟩
 | @own _ _ b cap hb=>
  obtain⟨arr,bl,q1,q2,q3,q4,q5,q6,q7⟩:=r.obj hb ho
  have hcn:n<=cap.n:=by omega
  have:=slice_own_run (a0:=a0) (b0:=b0) (d:=d) (ty:=ty) (pos:=pos) (after:=after) (g:=g) r hT hlo hhi h1 h2 _ cap.n hv hcn
  by_cases hc:cap.n=a0
  ·have hb0:b0 - a0=0:=by omega
   have hd:rows.drop a0=[]:=ai9 (by omega)
   rw[if_pos hc] at this
   obtain⟨β',hle,hβ,r3⟩:=rk.adopt S.nx (S.nx+1) (r.nx _ (ab8 _)) (fun q hq=>ag8 (r.pin q hq).1) (ah9 _) (ah8 _) none (.arr e k (rows.drop a0)) (fun b c hb=>by simp at hb) (fun _ _=>hd)
   refine⟨_,w,m,β',.inl this,r3.put hN ?_⟩
   rw[hb0,show cap.n - a0=0 by omega]
   exact .ownNil hβ
  ·rw[if_neg hc] at this
   have had:(some (⟨b,cap.off,none⟩:Addr)).map (·.add (a0*k))=some ⟨b,cap.off+a0*k,none⟩:=by simp only[au9];rw[add_spot]
   rw[had] at this
   obtain⟨p1,p2⟩:=r.priv id b cap hl0 hb
   obtain⟨β',hle,hβ,r3⟩:=rk.adopt S.nx (S.nx+1) (r.nx _ (ab8 _)) (fun q hq=>ag8 (r.pin q hq).1) (ah9 _) (ah8 _) (some (b,⟨cap.n - a0,cap.off+a0*k⟩)) (.arr e k (rows.drop a0))
    (fun b' c hb'=>by
     simp only[aq8,Prod.mk.injEq] at hb'
     obtain⟨rfl,rfl⟩:=hb'
     refine⟨p1,p2,fun i c' hi hbi=>?_,fun i hi hx=>?_⟩
     ·rw[hget_put] at hi
      split at hi
      ·grind
      ·rename_i hne
       exact hne (r.inj id i _ _ _ hl0 hi hb hbi)
     ·rw[hget_put] at hi
      split at hi
      ·grind
      ·exact(r.hid i _ hi hx).ne id _ cap hl0 hb rfl)
    (fun β' hle=>by
     refine⟨arr,fun _ _=>False,q1,?_,?_,by grind,fun row hr=>q5 row (List.mem_of_mem_drop hr),bls_none,fun i j row c hi hj=>?_⟩
     ·show arr.size=(cap.off+a0*k)+(cap.n - a0)*k
      rw[q2,ac8,<-ai8,show a0+(cap.n - a0)=cap.n by omega]
     ·grind
     ·rw[ap9] at hi
      obtain⟨v,v1,v2,v3⟩:=q7 (a0+i) j row c hi hj
      refine⟨v,?_,.inl ((v2.v (ndB_at (hnd row (ar8 hi)) hj)).mono (Mem.le_refl _) hle),v3⟩
      grind)
   exact⟨_,w,m,β',.inl this,r3.put hN (.own hβ)⟩
end
end Go.Pv
namespace Go.Pv
open Go
section
variable{K:Ctx}{S:St}
end
end Go.Pv
namespace Go.Pv
open Go
section
variable{K:Ctx}{Q:Post}{S':St}{env:Env}{hpS:Heap}
variable{ops:Array Oper}{rest:List Oper}{ty:TypeId}{pos:String}{after:Array Edge}{g:Option (Nat×Bool)}
theorem aops_mcallS{d:Nat}{f:FuncId}{args:Array Operand}{at':Array TypeId}{avs':List V}{k k':Nat}{hp hp':Heap}{dc:V}(dv:V)(avs:List V)(σ τ:Nat->Nat)(nx nx':Nat)(u:Heap)(hf:fnOk K.P f=true)
  (hw:Wants ops ⟨env,hpS,nx⟩ ⟨some d,.call ⟨.value (.func f),args,at'⟩,ty,pos,after,g⟩ true) (hN:Nat.blt d K.N=true) (ha:args.toList.map (evl K ⟨env,hpS,nx⟩)=avs)
  (hsub:Subs (Ren k σ) avs' avs) (hhp:HpSub (Ren k σ) k σ hpS hp) (hc:MutG K.gl K.P f avs' k hp dc k' hp')
  (hto:toB k k' nx nx' σ τ (fun _=>false)=true) (hτ:injB k' τ=true) (hle:Nat.ble nx nx'=true) (hkk:Nat.ble k k'=true)
  (hdv:Sub (To k' τ) dv dc) (hu:HpTo (To k' τ) τ hp' k' 0 u) (up:Heap) (hup:u++hpS=up)
  (kk:AOps K ops rest Q ⟨(d,dv)::env,up,nx'⟩):AOps K ops (⟨some d,.call ⟨.value (.func f),args,at'⟩,ty,pos,after,g⟩::rest) Q ⟨env,hpS,nx⟩:=
 aops_mcall dv avs σ τ nx nx' u hf hw hN ha hsub hhp hc rfl hto hτ hle hkk hdv hu (by grind)
theorem aops_mcallvS{d:Nat}{f:FuncId}{fx:Operand}{first captured:List V}{args:Array Operand}{at':Array TypeId}{avs':List V}{k k':Nat}{hp hp':Heap}{dc:V}(dv:V)(avs:List V)(σ τ:Nat->Nat)(nx nx':Nat)(u:Heap)(hf:fnOk K.P f=true)
  (hw:Wants ops ⟨env,hpS,nx⟩ ⟨some d,.call ⟨.value fx,args,at'⟩,ty,pos,after,g⟩ true) (hN:Nat.blt d K.N=true) (hfx:evl K ⟨env,hpS,nx⟩ fx=.fn (.func f) first captured) (ha:first++args.toList.map (evl K ⟨env,hpS,nx⟩)++captured=avs)
  (hsub:Subs (Ren k σ) avs' avs) (hhp:HpSub (Ren k σ) k σ hpS hp) (hc:MutG K.gl K.P f avs' k hp dc k' hp')
  (hto:toB k k' nx nx' σ τ (fun _=>false)=true) (hτ:injB k' τ=true) (hle:Nat.ble nx nx'=true) (hkk:Nat.ble k k'=true)
  (hdv:Sub (To k' τ) dv dc) (hu:HpTo (To k' τ) τ hp' k' 0 u) (up:Heap) (hup:u++hpS=up)
  (kk:AOps K ops rest Q ⟨(d,dv)::env,up,nx'⟩):AOps K ops (⟨some d,.call ⟨.value fx,args,at'⟩,ty,pos,after,g⟩::rest) Q ⟨env,hpS,nx⟩:=
 aops_mcallv dv avs σ τ nx nx' u hf hw hN hfx ha hsub hhp hc rfl hto hτ hle hkk hdv hu (by grind)
end
end Go.Pv
namespace Go.Pv
open Go
section
variable{K:Ctx}{Q:Post}{env:Env}{hpS:Heap}
variable{ops:Array Oper}{rest:List Oper}{ty:TypeId}{pos:String}{after:Array Edge}{g:Option (Nat×Bool)}
end
end Go.Pv
namespace Go.Pv
open Go
section
variable{K:Ctx}{Q:Post}{S:St}
variable{ops:Array Oper}{rest:List Oper}{ty:TypeId}{pos:String}{after:Array Edge}{g:Option (Nat×Bool)}
theorem aops_buildA{d T n k:Nat}{parts:Array (Nat×Operand)}{zs:List Value}(ps:List (Nat×V))(cs:List V)(hz:zeroCells K.P T=some zs)(hA:tyArr K.P T n k=true)
  (h1:zs.all (·.oneCell')=true) (hw:Wants ops S ⟨some d,.build T parts,ty,pos,after,g⟩ true)
  (hps:parts.toList.map (fun p=>(p.1,evl K S p.2))=ps) (hf:fillV (fun i=>some (i*k,k)) (zs.map .con) ps=some cs) (hN:Nat.blt d K.N=true)
  (kk:AOps K ops rest Q (S.put d (.agg cs))):AOps K ops (⟨some d,.build T parts,ty,pos,after,g⟩::rest) Q S:=
 aops_val _ hw hN (fun m β w a r=>by
  obtain⟨hl,hr⟩:=parts_rel r parts ps hps
  obtain⟨cells',f1,f2⟩:=fill_rel ps _ _ cs zs.toArray hf (zero_cells h1 m β) hl hr
  have hb:K.P.built T (parts.map fun(i,x)=>(i,a.eval x)).toList=some cells':=by
   obtain⟨e,i,hu,hi,hs⟩:=tyArr_inv hA
   unfold zeroCells at hz
   cases hii:K.P.info? T with
   |none=>grind
   |some it=>
    cases hzz:it.zero with
    |none=>grind
    |some z=>
     simp[hii,hzz] at hz
     simp only[Program.built,hii,hu,hzz,hi,hs]
     rw[<-f1,<-hz]
  refine⟨.agg cells',by simp_all[execOp,run_build],.agg f2.1 fun i c v hc hv=>(f2.2 i c v hc hv).1⟩) kk
end
end Go.Pv
namespace Go.Pv
open Go
section
variable{K:Ctx}{Q:Post}{S:St}
variable{ops:Array Oper}{rest:List Oper}{ty:TypeId}{pos:String}{after:Array Edge}{g:Option (Nat×Bool)}
theorem agg_inv{m:Mem}{β:Locs}{cs:List V}{v:Value}(h:VRel m β (.agg cs) v):∃vs,v=.agg vs/\cs.length=vs.size/\∀(i:Nat) (c:V) (u:Value),cs[i]? = some c->vs[i]? = some u->VRel m β c u:=by
 cases h with
 |imm h=>cases h with|agg hl h=>exact⟨_,rfl,hl,fun i c u a b=>.imm (h i c u a b)⟩
 |agg hl h=>grind
theorem aops_indexA{d T n k e:Nat}{x y:Operand}{ik:IntKind}{i:Int}{cs:List V}(row:List V)(hT:tyArrA K.P T n k e=true)
  (hw:Wants ops S ⟨some d,.index T x y,ty,pos,after,g⟩ true) (hx:evl K S x=.agg cs) (hy:evl K S y=.con (.int ik i))
  (hi:0<=i/\i.toNat<n) (hl:cs.length=n*k) (hr:(cs.drop (i.toNat*k)).take k=row) (hN:Nat.blt d K.N=true)
  (kk:AOps K ops rest Q (S.put d (.agg row))):AOps K ops (⟨some d,.index T x y,ty,pos,after,g⟩::rest) Q S:=
 aops_val _ hw hN (fun m β w a r=>by
  obtain⟨hu,hA⟩:=tyArrA_inv hT
  have h:=r.reads x
  rw[hx] at h
  obtain⟨vs,h1,h2,h3⟩:=agg_inv h
  have ha:=tyA_run hA w
  refine⟨.agg (vs.extract (i.toNat*k) (i.toNat*k+k)),?_,?_⟩
  ·simp only[execOp,h1,r.con hy]
   refine run_value ?_
   simp only[Instr.index,asIntOf,Sem.run_bind,pure,Sem.run,Result.andThen_ok,run_underlying hu]
   rw[if_pos ⟨hi.1,by omega⟩]
   simp_all[part]
  ·have hk:i.toNat*k+k<=n*k:=by
    have:(i.toNat+1)*k<=n*k:=ay9 _ hi.2
    grind
   refine .agg ?_ (fun j c u hc hu=>?_)
   ·grind
   grind) kk
theorem aops_indexAC{d T n e:Nat}{x y:Operand}{ik:IntKind}{i:Int}{cs:List V}(c:V)(hT:tyArrC K.P T n e=true)
  (hw:Wants ops S ⟨some d,.index T x y,ty,pos,after,g⟩ true) (hx:evl K S x=.agg cs) (hy:evl K S y=.con (.int ik i))
  (hi:0<=i/\i.toNat<n) (hl:cs[i.toNat]? = some c) (hN:Nat.blt d K.N=true)
  (kk:AOps K ops rest Q (S.put d c)):AOps K ops (⟨some d,.index T x y,ty,pos,after,g⟩::rest) Q S:=
 aops_val _ hw hN (fun m β w a r=>by
  obtain⟨hu,hA⟩:=tyArrC_inv hT
  have h:=r.reads x
  rw[hx] at h
  obtain⟨vs,h1,h2,h3⟩:=agg_inv h
  have ha:=tyC_run hA w
  have hlt:i.toNat<vs.size:=by rw[<-h2];exact(aw8.1 hl).1
  refine⟨vs[i.toNat],?_,h3 _ c _ hl (av9 hlt)⟩
  simp only[execOp,h1,r.con hy]
  refine run_value ?_
  simp only[Instr.index,asIntOf,Sem.run_bind,pure,Sem.run,Result.andThen_ok,run_underlying hu]
  rw[if_pos ⟨hi.1,by omega⟩]
  simp_all[part]) kk
end
end Go.Pv
namespace Go.Pv
theorem arr_row{α:Type}{n k i:Nat}{f:Nat->α}{enc:α->List V}{cs:List V}(hc:cs=(List.range n).flatMap (fun j=>enc (f j)))(hk:∀x,(enc x).length=k)(hi:i<n):(cs.drop (i*k)).take k=enc (f i):=by
 subst hc
 have key:∀(l:List Nat) (i:Nat) (hi:i<l.length),((l.flatMap (fun j=>enc (f j))).drop (i*k)).take k=enc (f l[i]):=by
  intro l
  induction l with
  |nil=>grind
  |cons a l ih=>
   intro i hi
   cases i with
   |zero=>
    grind
   |succ i=>
    simp only[List.flatMap_cons,List.getElem_cons_succ]
    rw[ai8,Nat.one_mul,Nat.add_comm,<-bu8,List.drop_left' (hk _)]
    grind
 grind
end Go.Pv
namespace Go.Pv
open Go
section
variable{K:Ctx}{Q:Post}{S:St}
variable{m:Mem}{β:Locs}{w:World}{a:Act}
variable{ops:Array Oper}{rest:List Oper}{ty:TypeId}{pos:String}{after:Array Edge}{g:Option (Nat×Bool)}
end
variable{κ α β γ:Type}[DecidableEq κ]
section
variable{K:Ctx}{Q:Post}{S:St}
end
section
variable{K:Ctx}{Q:Post}{S:St}{s:List It}
variable{ops:Array Oper}{l:List Oper}
end
section
variable{K:Ctx}{Q:Post}{S:St}
variable{ops:Array Oper}{rest:List Oper}{ty:TypeId}{pos:String}{after:Array Edge}{g:Option (Nat×Bool)}
theorem HpSub.consE{Y:Hy}{n:Nat}{σ:Nat->Nat}{hp e:Heap}{id:Nat}{ob ob':Ob}(hn:Nat.blt id n=true)(hh:hget hp (σ id)=ob')(h:ObSub Y ob ob')(h':HpSub Y n σ hp e):HpSub Y n σ hp ((id,ob)::e):=.cons hn (by rw[hh];exact h) h'
theorem aops_mcall_atH{d nx:Nat}{f:FuncId}{args:Array Operand}{at':Array TypeId}{avs':List V}{k k':Nat}{hp hp':Heap}{dc:V}(res:List Nat)(hnx:S.nx=nx)(hres:∀i,i∈res->hget S.hp i=.res)
  (dv:V) (avs:List V) (σ τ:Nat->Nat) (u:Heap) (hf:fnOk K.P f=true)
  (hw:Wants ops S ⟨some d,.call ⟨.value (.func f),args,at'⟩,ty,pos,after,g⟩ true) (hN:Nat.blt d K.N=true) (ha:args.toList.map (evl K S)=avs)
  (hsub:Subs (Ren k σ) avs' avs) (hhp:HpSub (Ren k σ) k σ S.hp hp) (hc:MutG K.gl K.P f avs' k hp dc k' hp')
  (hto:toB k k' nx nx σ τ (fun i=>res.any fun j=>Nat.beq i j)=true) (hτ:injB k' τ=true) (hkk:Nat.ble k k'=true) (hpins:(res.all fun i=>Nat.ble K.pins i)=true)
  (hdv:Sub (To k' τ) dv dc) (hu:HpTo (To k' τ) τ hp' k' 0 u)
  (kk:AOps K ops rest Q ⟨(d,dv)::S.env,u++S.hp,S.nx⟩):AOps K ops (⟨some d,.call ⟨.value (.func f),args,at'⟩,ty,pos,after,g⟩::rest) Q S:=by
 subst hnx
 have hfree:∀i,(res.any fun j=>Nat.beq i j)=true->i∈res:=by
  intro i hi
  obtain⟨j,hj,e⟩:=bt9.1 hi
  rw[bw8 e];exact hj
 exact aops_mcalls σ τ S.nx u (fun i=>res.any fun j=>Nat.beq i j) hw rfl hN (mcall_run hf ha) hsub (HpSub.get hhp) hc
  (fun i hi=>hres i (hfree i hi)) hto hτ (bx8 (by omega)) hkk
  (fun i hi=>ar9 (al8.1 hpins i (hfree i hi))) hdv hu kk
def sameAll(ts:List Nat)(v:V)(e:Env):Env:=match ts with|[]=>e|t::ts=>(t,v)::sameAll ts v e
theorem sameAll_sub{Y:Hy}{v v0:V}{env:Env}(hk:∀v,Sub Y v v)(h:Sub Y v v0):∀(ts:List Nat),(∀t,t∈ts->get env t=v0)->∀t',Sub Y (get (sameAll ts v env) t') (get env t')
 |[],_,t'=>hk _
 |t::ts,hh,t'=>by
  rw[sameAll,get_put]
  split
  ·rename_i he;subst he;rw[hh t (by simp)];exact h
  ·exact sameAll_sub hk h ts (fun q hq=>hh q (bm8 _ hq)) t'
theorem ghost_frzEs(id:Nat)(ts:List Nat){e k n:Nat}{rows:List (List V)}(ho:hget S.hp id=.arr e k rows)(hi:∀row,row∈rows->Imms row)
  (ht:∀t,t∈ts->get S.env t=.own id n) (hn:n=rows.length):Ghost K S ⟨sameAll ts (.lst k rows) S.env,(id,.dead)::S.hp,S.nx⟩:=
 ghost_freeze id _ _ ho hi (sameAll_sub (fun _=>Sub.keep) (Sub.frzAll hn) ts ht) hpFrz0 (by simp[hget_put])
end
section
variable{K:Ctx}{Q:Post}{S:St}
variable{ops:Array Oper}{rest:List Oper}{ty:TypeId}{pos:String}{after:Array Edge}{g:Option (Nat×Bool)}
theorem hget_self{i:Nat}{b:Ob}{hp:Heap}:hget ((i,b)::hp) i=b:=by simp_all[hget_put]
end
theorem bk{α β:Type}{o:Option α}{k:α->Option β}{r:β}{P:Prop}(h:o.bind k=some r)(c:∀y,o=some y->k y=some r->P):P:=by
 obtain⟨y,a,b⟩:=bind_some h
 exact c y a b
end Go.Pv
