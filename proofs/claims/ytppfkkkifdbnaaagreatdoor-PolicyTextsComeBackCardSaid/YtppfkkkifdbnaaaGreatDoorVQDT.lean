/- Part of the proof. -/
import Derived.Test.YtppfkkkifdbnaaaGreatDoorVDU
import Derived.Shelf.Small.Strs
import Derived.Lib.ConvBytes
import Derived.Shelf.SlIter.Sorted
import Derived.Lib.ItoaLen
import Derived.Test.YtppfkkkifdbnaaaGreatDoorProg
set_option linter.unusedSimpArgs false
set_option linter.unusedVariables false
namespace Go.Pv
open Go
def conL(f:V->Option Value):List V->Option (List Value)
 |[]=>some []
 |x::l=>match f x with|some v=>(match conL f l with|some r=>some (v::r)|none=>none)|none=>none
def conV:Nat->V->Option Value
 |0,_=>none
 |n+1,v=>match v with
  | .con v=>some v
  | .agg cs=>(match conL (conV n) cs with|some l=>some (.agg l.toArray)|none=>none)
  |_=>none
theorem conL_at{f:V->Option Value}:∀{cs:List V} {l:List Value},conL f cs=some l->l.length=cs.length/\∀(i:Nat) c v,cs[i]? = some c->l[i]? = some v->f c=some v
 |[],l,h=>by simp_all[conL]
 |x::cs,l,h=>by
  simp only[conL] at h
  split at h
  ·rename_i y hy
   split at h
   ·rename_i q hq
    simp at h;subst h
    obtain⟨h1,h2⟩:=conL_at hq
    refine⟨by simp[h1],fun i c v a b=>?_⟩
    cases i with
    |zero=>simp at a b;subst a;subst b;exact hy
    |succ i=>exact h2 i c v (by simpa using a) (by simpa using b)
   ·simp at h
  ·simp at h
theorem conV_ok{m:Mem}{β:Locs}:∀{n:Nat} {v:V} {x y:Value},conV n v=some x->VRel m β v y->y=x
 |0,v,x,y,h=>by simp[conV] at h
 |n+1,v,x,y,h=>by
  intro hv
  cases v with
  |con c=>simp[conV] at h;subst h;exact hv.of_con
  |agg cs=>
   simp only[conV] at h
   split at h
   ·rename_i l hl
    simp at h;subst h
    obtain⟨vs,rfl,h2,h3⟩:=agg_inv hv
    obtain⟨a1,a2⟩:=conL_at hl
    congr 1
    apply Array.ext
    ·grind
    ·intro i hi hj
     have hic:i<cs.length:=by rw[h2];exact hi
     have hil:i<l.length:=by rw[a1];exact hic
     have:=conV_ok (a2 i _ _ (as8 hic) (as8 hil)) (h3 i _ _ (as8 hic) (av9 hi))
     grind
   grind
  |_=>simp[conV] at h
theorem irel_agg{m:Mem}(l:List Value):IRel m (.agg (l.map .con)) (.agg l.toArray):=.agg (by simp) fun i c v a b=>by
 simp only[at9,az8] at a b
 rw[b] at a
 simp at a;subst a;exact .con _
def unC:Value->V
 | .agg vs=>.agg (vs.toList.map .con)
 |v=>.con v
theorem unC_ok{m:Mem}{β:Locs}(v:Value):VRel m β (unC v) v:=by
 cases v with
 |agg vs=>
  refine .imm (.agg (by simp) fun i c u a b=>?_)
  simp only[at9,ac9,b,au9,aq8] at a
  subst a;exact .con _
 |_=>exact .imm (.con _)
section
variable{K:Ctx}{Q:Post}{S S':St}{ops:Array Oper}{rest:List Oper}{t:TT}{ty:TypeId}{pos:String}{after:Array Edge}{g:Option (Nat×Bool)}
theorem aops_mkIface{d n:Nat}{T:TypeId}{x:Operand}{v:V}{c:Value}(hT:K.P.concrete T=true)(hw:Wants ops S ⟨some d,.makeInterface T x,ty,pos,after,g⟩ true)(hx:evl K S x=v)(hc:conV n v=some c)(hN:Nat.blt d K.N=true)
  (k:AOps K ops rest Q (S.put d (.con (.iface T c)))):AOps K ops (⟨some d,.makeInterface T x,ty,pos,after,g⟩::rest) Q S:=
 aops_val _ hw hN (fun m β w a r=>by
  have:=r.reads x
  rw[hx] at this
  have:=conV_ok hc this
  exact⟨.iface T c,by simp_all[execOp,Go.run_makeInterface],.imm (.con _)⟩) k
def clI(t:TT)(e:Env):Op->Option (Nat×List V)
 | .call c=>(match c.callee with
  | .invoke x name=>(match evC e x with
   |some (.con (.iface T v))=>(match ask t T (TF.qM name) with
    |some f=>(match evL e c.args.toList with
     |some vs=>(match frc (unC v::vs) with|some r=>some (f,r)|none=>none)
     |none=>none)
    |none=>none)
   |_=>none)
  | .value x=>(match evC e x with
   |some (.con (.func (.method name) first caps))=>(match first.toList,caps.toList with
    |[.iface T v],[]=>(match ask t T (TF.qM name) with
     |some f=>(match evL e c.args.toList with
      |some vs=>(match frc (unC v::vs) with|some r=>some (f,r)|none=>none)
      |none=>none)
     |none=>none)
    |_,_=>none)
   |_=>none)
  |_=>none)
 |_=>none
theorem evL_at{e:Env}(ha:Ag e S):∀{l:List Operand} {vs:List V},evL e l=some vs->vs=l.map (evl K S):=fun h=>(evL_ok ha h).symm
theorem clI_run0(ht:TTok K.P t){e:Env}(ha:Ag e S){o:Oper}{f:Nat}{avs:List V}(h:clI t e o.op=some (f,avs)):
  ∀m β w a,Rel K m β w a S->∃vs:Array Value,(execOp a.eval o).run K.P w=.ok (.enter f vs) w/\VRels m β avs vs:=by
 obtain⟨dst,op,ty',pos,after,g⟩:=o
 cases op<;>simp_all[clI]
 rename_i c
 obtain⟨callee,args,at'⟩:=c
 simp only at h
 split at h
 ·rename_i x name
  split at h
  ·rename_i T v hx
   split at h
   ·rename_i f' hm
    split at h
    ·rename_i vs hv
     split at h
     ·rename_i q hq
      simp only[aq8,Prod.mk.injEq] at h
      obtain⟨rfl,rfl⟩:=h
      have hq:=frc_ok hq
      have hv:=evL_at (K:=K) ha hv
      have hmm:=(askM ht hm).1
      subst hq
      intro m β w a r
      have hr:=r.con (evC_ok (K:=K) ha hx)
      refine⟨#[v]++args.map a.eval,?_,?_⟩
      ·have:(execOp a.eval ⟨dst,.call ⟨.invoke x name,args,at'⟩,ty',pos,after,g⟩)=callMethod (.iface T v) name (args.map a.eval):=by
        simp only[execOp,resolve,hr,pure_bind]
        show invoke (.fn (.method name) #[]) (#[Value.iface T v]++args.map a.eval)=_
        simp only[invoke]
        rw[show(#[Value.iface T v]++args.map a.eval)[0]? = some (Value.iface T v) by grind]
        simp only
        congr 1
        apply an9
        simp
        exact List.take_of_length_le (by simp)
       grind
      ·refine⟨by grind,fun i c u h1 h2=>?_⟩
       cases i with
       |zero=>
        grind [unC_ok]
       |succ i=>
        simp only[bi9,hv,at9,ac9] at h1
        rw[aq9 (by simp)] at h2
        simp only[be8,bl8,bh8,br9,Nat.add_sub_cancel,bp9] at h2
        cases ho:args[i]? with
        |none=>grind
        |some y=>
         rw[ho] at h1 h2
         simp at h1 h2
         subst h1;subst h2
         exact r.reads y
     grind
    grind
   grind
  grind
 ·rename_i x
  split at h
  ·rename_i name first caps hx
   split at h
   ·rename_i T v hf1 hc1
    have hf1:=toList_one hf1
    have hc1:=toList_nil hc1
    subst hf1 hc1
    split at h
    ·rename_i f' hm
     split at h
     ·rename_i vs hv
      split at h
      ·rename_i q hq
       simp only[aq8,Prod.mk.injEq] at h
       obtain⟨rfl,rfl⟩:=h
       have hq:=frc_ok hq
       have hv:=evL_at (K:=K) ha hv
       have hmm:=(askM ht hm).1
       subst hq
       intro m β w a r
       have hr:=r.con (evC_ok (K:=K) ha hx)
       refine⟨#[v]++args.map a.eval,?_,?_⟩
       ·have:(execOp a.eval ⟨dst,.call ⟨.value x,args,at'⟩,ty',pos,after,g⟩)=callMethod (.iface T v) name (args.map a.eval):=by
         simp only[execOp,resolve,hr,Deferred.ofValue,pure_bind]
         show invoke (.fn (.method name) #[]) (#[Value.iface T v]++args.map a.eval)=_
         simp only[invoke]
         rw[show(#[Value.iface T v]++args.map a.eval)[0]? = some (Value.iface T v) by grind]
         simp only
         congr 1
         apply an9
         simp
         exact List.take_of_length_le (by simp)
        grind
       ·refine⟨by grind,fun i c u h1 h2=>?_⟩
        cases i with
        |zero=>
         grind [unC_ok]
        |succ i=>
         simp only[bi9,hv,at9,ac9] at h1
         rw[aq9 (by simp)] at h2
         simp only[be8,bl8,bh8,br9,Nat.add_sub_cancel,bp9] at h2
         cases ho:args[i]? with
         |none=>grind
         |some y=>
          rw[ho] at h1 h2
          simp at h1 h2
          subst h1;subst h2
          exact r.reads y
      grind
     grind
    grind
   grind
  grind
 grind
theorem aops_mkMeth{d:Nat}{name:String}{x:Operand}{iv:Value}(hw:Wants ops S ⟨some d,.makeFunc (.method name) #[x] #[],ty,pos,after,g⟩ true)(hx:evl K S x=.con iv)(hN:Nat.blt d K.N=true)
  (k:AOps K ops rest Q (S.put d (.con (.func (.method name) #[iv] #[])))):AOps K ops (⟨some d,.makeFunc (.method name) #[x] #[],ty,pos,after,g⟩::rest) Q S:=
 aops_val _ hw hN (fun m β w a r=>⟨.func (.method name) #[iv] #[],by simp only[execOp];exact run_value (by simp[Instr.makeFunc,pure,r.con hx]),.imm (.con _)⟩) k
theorem aops_nilMeth{d:Nat}{name:String}{x:Operand}{T:TypeId}{v:Value}(hT:∀(v:Value) (w:World),(nilAhead (K.P.types.size+Made.depth) T v name).run K.P w=.ok (some false) w)(hw:Wants ops S ⟨some d,.nilCheck x,ty,pos,after,g⟩ true)(hx:evl K S x=.con (.func (.method name) #[.iface T v] #[]))(hN:Nat.blt d K.N=true)
  (k:AOps K ops rest Q (S.put d (.con (.func (.method name) #[.iface T v] #[])))):AOps K ops (⟨some d,.nilCheck x,ty,pos,after,g⟩::rest) Q S:=
 aops_val _ hw hN (fun m β w a r=>⟨.func (.method name) #[.iface T v] #[],by
  simp only[execOp,r.con hx]
  simp_all,.imm (.con _)⟩) k
theorem run_eqNilM{P:Program}{w:World}{T:TypeId}{x y:Operand}(neg:Bool)(hT:tyMp P T=true)(b:Option Nat):
      (do eqGuard (if neg then .neq else .eql) T x y (.map b) (.map none);binOp (if neg then .neq else .eql) T (.map b) (.map none):Sem Value).run P w=.ok (.bool (if neg then !b.isNone else b.isNone)) w:=by
  obtain⟨k,e,hu⟩:∃k e,P.underlying T=some (.map k e):=by
    grind [tyMp]
  have hd:(10000:Nat)=9999+1:=rfl
  have hg:∀op:BinOp,(eqGuard op T x y (.map b) (.map none)).run P w=.ok () w:=by
    intro op;unfold eqGuard;simp_all
  have hq:(Op.equal T (.map b) (.map none)).run P w=.ok b.isNone w:=by
    rw[Op.equal,Op.maxDepth,hd,Op.equalIn]
    simp only[Sem.run_bind,run_underlying hu,Result.andThen_ok]
    cases b<;>rfl
  rw[Sem.run_bind,hg,Result.andThen_ok]
  cases neg<;>simp_all[binOp]
def mapNil:V->Option Bool
 | .con (.map none)=>some true
 | .map _=>some false
 |_=>none
theorem aops_eqNilM{d:Nat}{x y:Operand}{T T':TypeId}{v:V}{b:Bool}(neg:Bool)(hT:tyMp K.P T=true)(hw:Wants ops S ⟨some d,.binOp (if neg then .neq else .eql) T x y T',ty,pos,after,g⟩ true)
  (hx:evl K S x=v) (hv:mapNil v=some b) (hy:evl K S y=.con (.map none)) (hN:Nat.blt d K.N=true)
  (k:AOps K ops rest Q (S.put d (.con (.bool (if neg then !b else b))))):AOps K ops (⟨some d,.binOp (if neg then .neq else .eql) T x y T',ty,pos,after,g⟩::rest) Q S:=
 aops_val _ hw hN (fun m β w a r=>by
  have h:=r.reads x
  rw[hx] at h
  have key:∃o,a.eval x=.map o/\o.isNone=b:=by
   generalize a.eval x=u at h
   unfold mapNil at hv
   split at hv
   ·simp at hv;subst hv;exact⟨none,h.of_con,rfl⟩
   ·simp at hv;subst hv
    cases h with
    |imm h=>cases h
    |map hb=>grind
   ·simp at hv
  obtain⟨o,ho,hb⟩:=key
  have hr:=run_eqNilM (P:=K.P) (w:=w) (x:=x) (y:=y) neg hT o
  refine⟨.bool (if neg then !b else b),?_,.imm (.con _)⟩
  simp only[execOp,ho,r.con hy]
  grind [run_value]) k
end
structure KRow where
 row:List V
 imm:Imms row
 one:row.all oneV=true
theorem KRow.ext'{a b:KRow}(h:a.row=b.row):a=b:=by cases a<;>simp_all
section
variable{τ R:Type}
open Classical in
noncomputable def kdec(enc:τ->List V)(x:KRow):Option τ:=if h:∃y,enc y=x.row then some h.choose else none
theorem kdec_some{enc:τ->List V}{x:KRow}{y:τ}(h:kdec enc x=some y):x.row=enc y:=by
 unfold kdec at h
 split at h<;>grind
theorem kdec_eq{enc:τ->List V}(inj:∀a b,enc a=enc b->a=b){x:KRow}{y:τ}(h:x.row=enc y):kdec enc x=some y:=by
 unfold kdec
 have hx:∃y,enc y=x.row:=⟨y,h.symm⟩
 grind
end
section
variable{K:Ctx}{Q:Post}{S:St}{s:List It}
variable{ops:Array Oper}{l rest:List Oper}{ty:TypeId}{pos:String}{after:Array Edge}{g:Option (Nat×Bool)}
theorem ghost_eqv(t:Nat){v v':V}(ht:get S.env t=v)(h:v=v'):Ghost K S ⟨(t,v')::S.env,S.hp,S.nx⟩:=by
 grind [Ghost.env,get,Nat.eq_of_beq_eq_true]
theorem kroO{τ:Type}{enc:τ->List V}{x:KRow}{y:τ}(t:Nat)(h:kdec enc x=some y)(ht:gtC S.env t=some (.iptr x.row 0))(k:WG K Q (.o ops l::s) ⟨(t,.iptr (enc y) 0)::S.env,S.hp,S.nx⟩):WG K Q (.o ops l::s) S:=
 wg_cl (.inr ⟨_,_,rfl⟩) (ghost_eqv t (gtC_ok ht) (by rw[kdec_some h])) k
theorem aops_mkIfc{d:Nat}{T:TypeId}{x:Operand}{v:V}(hT:K.P.concrete T=true)(hw:Wants ops S ⟨some d,.makeInterface T x,ty,pos,after,g⟩ true)(hx:evl K S x=v)(hi:Imm v)(hN:Nat.blt d K.N=true)
  (k:AOps K ops rest Q (S.put d (.ifc T v))):AOps K ops (⟨some d,.makeInterface T x,ty,pos,after,g⟩::rest) Q S:=
 aops_val _ hw hN (fun m β w a r=>by
  have:=r.reads x
  rw[hx] at this
  exact⟨.iface T (a.eval x),by simp_all[execOp,Go.run_makeInterface],.imm (.ifc (hi.2 _ _ _ this))⟩) k
theorem aops_invoke{d f:Nat}{T:TypeId}{x:Operand}{name:String}{args:Array Operand}{at':Array TypeId}{dv dr:V}{avs:List V}(hm:∀(v:Value) (args:Array Value) (w:World),(callMethod (.iface T v) name args).run K.P w=.ok (.enter f (#[v]++args)) w)
  (hw:Wants ops S ⟨some d,.call ⟨.invoke x name,args,at'⟩,ty,pos,after,g⟩ true) (hx:evl K S x=.ifc T dv) (ha:args.toList.map (evl K S)=avs) (hi:Imms avs) (hc:PureG K.gl K.P f (dv::avs) dr) (hN:Nat.blt d K.N=true)
  (kk:AOps K ops rest Q (S.put d dr)):AOps K ops (⟨some d,.call ⟨.invoke x name,args,at'⟩,ty,pos,after,g⟩::rest) Q S:=by
 refine aops_calls hw rfl hN (fun m β w a r=>?_) hc kk
 have hr:=r.reads x
 rw[hx] at hr
 obtain⟨v,hv,hd⟩:∃v,a.eval x=.iface T v/\IRel m dv v:=by
  generalize a.eval x=u at hr
  cases hr with
  |imm h=>cases h with|ifc h=>grind
 refine⟨#[v]++args.map a.eval,?_,?_⟩
 ·have:(execOp a.eval ⟨some d,.call ⟨.invoke x name,args,at'⟩,ty,pos,after,g⟩)=callMethod (.iface T v) name (args.map a.eval):=by
   simp only[execOp,resolve,hv,pure_bind]
   show invoke (.fn (.method name) #[]) (#[Value.iface T v]++args.map a.eval)=_
   simp only[invoke]
   rw[show(#[Value.iface T v]++args.map a.eval)[0]? = some (Value.iface T v) by grind]
   simp only
   congr 1
   apply an9
   simp
   exact List.take_of_length_le (by simp)
  grind
 ·refine⟨by grind,fun i c u h1 h2=>?_⟩
  cases i with
  |zero=>
   grind
  |succ i=>
   rw[bi9] at h1
   have h1':=h1
   rw[<-ha,at9,ac9] at h1
   rw[aq9 (by simp)] at h2
   simp only[be8,bl8,bh8,br9,Nat.add_sub_cancel,bp9] at h2
   cases ho:args[i]? with
   |none=>grind
   |some y=>
    rw[ho] at h1 h2
    simp at h1 h2
    subst h2
    exact(hi.get h1').2 m β _ (h1 ▸ r.reads y)
end
theorem pure_indexByte{gl:Gl}{P:Program}{f:FuncId}{s:List UInt8}{c:Int}(h:∀(c:Int) (w:World),Calls P f #[.string ⟨s.toArray⟩,.int .u8 c] w fun e w'=>e=.returned (.int .i64 (Lib.indexByte (⟨s.toArray⟩:ByteArray).data.toList c.toNat.toUInt8))/\w'=w):
  PureG gl P f [sV s,V.con (.int .u8 c)] (iV (Lib.indexByte s c.toNat.toUInt8)):=
 pure_same (l:=[str s,.int .u8 c]) (v:=.int .i64 (Lib.indexByte s c.toNat.toUInt8)) (fun w=>h c w) (fun m=>.con _)
theorem idx_mapK{τ:Type}{enc:τ->List V}{xs:List KRow}{n:Int}{x:KRow}{y:τ}(h:idx xs n=some x)(hy:kdec enc x=some y):(xs.map KRow.row)[n.toNat]? = some (enc y):=by
 rw[<-kdec_some hy];exact idx_map KRow.row h
instance:EI KRow.row:=⟨KRow.imm,KRow.one⟩
section
variable{K:Ctx}{Q:Post}{S:St}
variable{ops:Array Oper}{l rest:List Oper}{ty:TypeId}{pos:String}{after:Array Edge}{g:Option (Nat×Bool)}
end
section
variable{K:Ctx}{Q:Post}{S:St}{s:List It}
theorem lU{x:Code}(h:WG K Q (.c x::.c (.loop x)::s) S):WG K Q (.c (.loop x)::s) S:=awp_loop h
@[reducible] def Ctx.re(K:Ctx)(n:Nat)(loc:Nat->Option (Option (Nat×Cap))):Ctx:={ K with pins:=n,loc:=loc }
theorem awp_repin{c:Code}(h:∀loc,AWP (K.re S.nx loc) c Q S):AWP K c Q S:=by
 intro m β w a r
 have hp:K.pins<=S.nx:=by
  cases hp:K.pins with
  |zero=>exact af8 _
  |succ q=>have:=(r.pin q (by omega)).1;omega
 have r':Rel (K.re S.nx β.f) m β w a S:={ r with hid:=fun id x h1 h2=>let q:=r.hid id x h1 h2;⟨q.lt,q.m,q.old,q.ne,q.un⟩,pin:=fun q hq=>⟨hq,rfl⟩ }
 refine wpIn_mono (h β.f m β w a r') ?_
 rintro e a' w' ⟨hpl,S',m',β',q,r1⟩
 exact⟨hpl,S',m',β',q,{ r1 with hid:=fun id x h1 h2=>let q:=r1.hid id x h1 h2;⟨q.lt,q.m,q.old,q.ne,q.un⟩,pin:=fun q hq=>⟨(r1.pin q (by show q<S.nx;omega)).1,((r1.pin q (by show q<S.nx;omega)).2).trans (r.pin q hq).2⟩ }⟩
theorem wg_repin{c:Code}(h:∀loc,WG (K.re S.nx loc) (post K Q s) [.c c] S):WG K Q (.c c::s) S:=awp_repin h
theorem wg_unpin{n:Nat}{loc:Nat->Option (Option (Nat×Cap))}(h:WG K Q s S):WG (K.re n loc) (post K Q s) [] S:=h
end
section
variable{K:Ctx}{Q:Post}{S:St}
variable{ops:Array Oper}{rest:List Oper}{ty:TypeId}{pos:String}{after:Array Edge}{g:Option (Nat×Bool)}
theorem aops_makeSliceC{d T e k bytes:Nat}{x y:Operand}{n:Int}{zs:List Value}(hT:tyEl K.P T e k bytes=true)(hz:zeroCells K.P e=some zs)
  (hk:Nat.blt 0 k=true) (h0:0<=n/\(bytes:Int)*n<=140737488355328/\n<=140737488355328) (hw:Wants ops S ⟨some d,.makeSlice T x y,ty,pos,after,g⟩ true)
  (hx:evl K S x=.con (.int .i64 0)) (hy:evl K S y=.con (.int .i64 n)) (hN:Nat.blt d K.N=true)
  (kk:AOps K ops rest Q ⟨(d,.own S.nx 0)::S.env,(S.nx,.arr e k [])::S.hp,S.nx+1⟩):
  AOps K ops (⟨some d,.makeSlice T x y,ty,pos,after,g⟩::rest) Q S:=by
 refine aops_runs hw (fun m β w a r=>?_) kk
 obtain⟨i,z,hu,hi,hs,hby,hzz,hzk⟩:=tyEl_inv hT
 have hrun:=run_make (P:=K.P) w T e i z hu hi hzz .i64 .i64 0 n (Int.le_refl _) h0.1 (by rw[hby];omega) (by omega)
 obtain⟨β',hle,hnx,r2⟩:=r.alloc (.cells (madeCells z.cells (n.toNat*i.size)) e (0,0)) (.arr e k []) ⟨n.toNat,0⟩ _ rfl (fun β' hle=>by
  refine obok_new0 (vs:=madeCells z.cells (n.toNat*i.size)) (by simp) (by rw[size_madeCells,hs]) (by simp) (by unfold maxLen;omega) (fun row hrow=>by simp at hrow) ?_
  intro p j row c hp hj
  simp at hp)
 refine⟨.slice (some ⟨w.heap.size,0,none⟩) 0 n.toNat,_,m,β',.inl ?_,Rel.put r2 hN (.own hnx)⟩
 simp only[execOp]
 rw[Sem.run_bind,r.con hx,r.con hy,hrun]
 rfl
theorem aops_strBytes{d:Nat}{x:Operand}{src dst:TypeId}{l:List UInt8}(rows:List (List V))(hs:tyStr K.P src=true)(hd:tyBytes K.P dst=true)(hl:Nat.ble l.length 140737488355328=true)
  (hw:Wants ops S ⟨some d,.convert src dst x,ty,pos,after,g⟩ true) (hx:evl K S x=.con (str l)) (hr:rows=l.map fun b=>eU8 b.toNat) (hN:Nat.blt d K.N=true)
  (kk:AOps K ops rest Q (S.put d (.lst 1 rows))):AOps K ops (⟨some d,.convert src dst x,ty,pos,after,g⟩::rest) Q S:=by
 subst hr
 refine aops_runs hw (fun m β w a r=>?_) kk
 obtain⟨e,h1,h2⟩:=tyBytes_inv hd
 have hl:=ar9 hl
 have hrun:=Lib.run_convert_string_bytes (P:=K.P) w src dst e ⟨l.toArray⟩ (tyStr_inv hs) h1 h2
 have hcap:l.length<=grownCap w l.length 0 e:=grownCap_ge _ _ _ _
 have hat:=Lib.bytesWorld_at_new w e ⟨l.toArray⟩
 let m':Mem:=fun b=>if b=w.heap.size then some (.cells (Lib.bytesCells w e ⟨l.toArray⟩) e ((Lib.bytesCells w e ⟨l.toArray⟩).size,(Lib.bytesCells w e ⟨l.toArray⟩).size+1)) else m b
 have hnone:m w.heap.size=none:=by
  cases hm:m w.heap.size with
  |none=>rfl
  |some o'=>have:=lt_of_some (r.imm _ _ hm);omega
 have hle:m.le m':=by
  intro b o h
  have:b≠w.heap.size:=by intro e;rw[e,hnone] at h;simp at h
  simp[m',this,h]
 have hg:Grew m m' w (Lib.bytesWorld w e ⟨l.toArray⟩):=by
  refine⟨hle,?_,?_,?_,by rw[Lib.bytesWorld_size];omega,⟨rfl,rfl,rfl,trivial⟩⟩
  ·intro b o h
   by_cases hb:b=w.heap.size
   ·subst hb;simp[m'] at h;rw[hat,h]
   ·simp[m',hb] at h
    rw[Lib.bytesWorld_at_old w e _ b (lt_of_some (r.imm _ _ h))];exact r.imm _ _ h
  ·intro b hb
   have:b≠w.heap.size:=by omega
   simp[m',this]
  ·intro b hb
   exact Lib.bytesWorld_at_old w e _ b hb
 have hget:∀i,i<l.length->(Lib.bytesCells w e ⟨l.toArray⟩)[i]? = some (.int .u8 (l[i]?.getD 0).toNat):=fun i hi=>by
  unfold Lib.bytesCells
  rw[Array.getElem?_append_left (by simpa using hi)]
  simp[hi]
 refine⟨.slice (some ⟨w.heap.size,0,none⟩) l.length (grownCap w l.length 0 e),Lib.bytesWorld w e ⟨l.toArray⟩,m',β,.inl ?_,Rel.put (r.grow hg) hN (.imm (.lst (n:=l.length) (cap:=grownCap w l.length 0 e) (a:=⟨w.heap.size,0,none⟩) (arr:=Lib.bytesCells w e ⟨l.toArray⟩) (T:=e) (fr:=((Lib.bytesCells w e ⟨l.toArray⟩).size,(Lib.bytesCells w e ⟨l.toArray⟩).size+1)) (fun i=>.int .u8 (l[i]?.getD 0).toNat) (by simp[m']) rfl (by simp) hcap (by unfold maxLen;omega) ?_ ?_ ?_))⟩
 ·simp only[execOp,r.con hx]
  rw[Sem.run_bind,show(str l)=Value.string ⟨l.toArray⟩ from rfl,hrun]
  rfl
 ·intro row hrow
  obtain⟨b,_,rfl⟩:=ax9.1 hrow
  rfl
 ·intro i hi
  simp at hi
  simpa using hget i hi
 ·intro i j row c hi hj
  rw[at9] at hi
  cases hli:l[i]? with
  |none=>rw[hli] at hi;simp at hi
  |some b=>
   rw[hli] at hi
   simp at hi
   subst hi
   have:j=0:=by
    have:=(aw8.1 hj).1
    simpa[eU8] using this
   subst this
   simp[eU8] at hj
   subst hj
   simp[hli]
   exact .con _
theorem Sub.fnF{Y:Hy}{f:Fn}{cs cs':List V}(h:Subs Y cs cs'):Sub Y (.fn f cs []) (.fn f cs' []):=fun m β m' β' x hy hx=>by
 have key:∀us:Array Value,cs'.length=us.size->(∀(i:Nat) (c:V) (v:Value),cs'[i]? = some c->us[i]? = some v->VRel m β c v)->
   ∀(i:Nat) (c:V) (v:Value),cs[i]? = some c->us[i]? = some v->VRel m' β' c v:=by
  intro us hl hh i c v h1 h2
  have h3:i<cs'.length:=by rw[<-h.len];exact(aw8.1 h1).1
  exact h.get i c _ h1 (as8 h3) _ _ _ _ _ hy (hh i _ v (as8 h3) h2)
 cases hx with
 |imm hx=>cases hx with
  |fn h1 h2 h3 h4=>exact .fn (by rw[h.len];exact h1) h2 (key _ h1 fun i c v q1 q2=>.imm (h3 i c v q1 q2)) (fun i c v q=>by simp at q)
 |fn h1 h2 h3 h4=>exact .fn (by rw[h.len];exact h1) h2 (key _ h1 h3) (fun i c v q=>by simp at q)
def nvs:Nat->List V->List V
 |0,l=>l
 |n+1,l=>nV::nvs n l
inductive TE(e:Env):Env->Prop
 |nil:TE e []
 |cons {t:Nat} {v:V} {r:Env} (h:get e t=v) (hr:TE e r):TE e ((t,v)::r)
inductive TH(e:Heap):Heap->Prop
 |nil:TH e []
 |cons {t:Nat} {v:Ob} {r:Heap} (h:hget e t=v) (hr:TH e r):TH e ((t,v)::r)
theorem TE.at'{e r:Env}(h:TE e r)(t:Nat):get r t=.any\/get e t=get r t:=by
 induction h with
 |nil=>exact .inl rfl
 |cons h _ ih=>
  rw[get_put]
  split
  ·rename_i q;subst q;exact .inr h
  ·exact ih
theorem TH.at'{e r:Heap}(h:TH e r)(t:Nat):hget r t=.dead\/hget e t=hget r t:=by
 induction h with
 |nil=>exact .inl rfl
 |cons h _ ih=>
  rw[hget_put]
  split
  ·rename_i q;subst q;exact .inr h
  ·exact ih
theorem ghost_tellS{S:St}{e:Env}{hp:Heap}(he:TE S.env e)(hh:TH S.hp hp):Ghost K S ⟨e,hp,S.nx⟩:=fun m β w a r=>by
 have hl:∀i,hget hp i≠.dead->hget S.hp i≠.dead:=fun i h=>by
  rcases hh.at' i with q|q
  ·exact absurd q h
  ·rw[q];exact h
 refine⟨m,β,{ r with env:=fun t=>?_,own:=fun i=>?_,priv:=fun i b c h=>r.priv i b c (hl i h),inj:=fun i i' b c c' h h'=>r.inj i i' b c c' (hl i h) (hl i' h'),hid:=fun i x h hx=>?_ }⟩
 ·rcases he.at' t with q|q
  ·show VRel m β (get e t) _
   rw[q];exact .imm (.any _)
  ·show VRel m β (get e t) _
   rw[<-q];exact r.env t
 ·rcases hh.at' i with q|q
  ·show ObOk m β w (β.hid i) (β i) (hget hp i)
   rw[q];exact ObOk.dead' _
  ·show ObOk m β w (β.hid i) (β i) (hget hp i)
   rw[<-q];exact r.own i
 ·exact(r.hid i x (hl i h) hx).weak hl
theorem wgT{s:List It}{x:Code}(e:Env)(hp:Heap)(nx:Nat)(he:TE S.env e)(hh:TH S.hp hp)(hn:S.nx=nx)(k:WG K Q (.c x::s) ⟨e,hp,nx⟩):WG K Q (.c x::s) S:=by
 subst hn
 exact awp_ghost (ghost_tellS he hh) k
theorem ghostT{S:St}(e:Env)(hp:Heap)(nx:Nat)(he:TE S.env e)(hh:TH S.hp hp)(hn:S.nx=nx):Ghost K S ⟨e,hp,nx⟩:=by
 subst hn
 exact ghost_tellS he hh
def osV{α:Type}(enc:α->List V):Option (List α)->V
 |none=>nV
 |some l=>.lst 1 (l.map enc)
def tabO:List (Nat×List Int)->Nat->Option (List Int)
 |[],_=>none
 |p::l,i=>if p.1=i then some p.2 else tabO l i
theorem osV_some{α:Type}{enc:α->List V}{o:Option (List α)}{l:List α}(h:o=some l):osV enc o=.lst 1 (l.map enc):=by rw[h];rfl
theorem tabO_ne{l:List (Nat×List Int)}(h:(l.all fun p=>!p.2.isEmpty)=true){i:Nat}{x:List Int}(hx:tabO l i=some x):x≠[]:=by
 induction l with
 |nil=>simp[tabO] at hx
 |cons p l ih=>
  simp only[ae9,al9] at h
  simp only[tabO] at hx
  split at hx
  ·simp only[aq8] at hx;subst hx
   intro e;rw[e] at h;simp at h
  ·exact ih h.2 hx
theorem aops_eqNilS{α:Type}{enc:α->List V}{o:Option (List α)}{d:Nat}{x y:Operand}{T T':TypeId}(neg:Bool)(hne:∀l,o=some l->l≠[])(hT:tySlice K.P T=true)(hw:Wants ops S ⟨some d,.binOp (if neg then .neq else .eql) T x y T',ty,pos,after,g⟩ true)
  (hx:evl K S x=osV enc o) (hy:evl K S y=nV) (hN:Nat.blt d K.N=true)
  (k:AOps K ops rest Q (S.put d (bV (if neg then o.isSome else o.isNone)))):AOps K ops (⟨some d,.binOp (if neg then .neq else .eql) T x y T',ty,pos,after,g⟩::rest) Q S:=by
 cases o with
 |none=>exact aops_nilNil neg hT hw hx hy hN (by cases neg<;>exact k)
 |some l=>
  refine aops_isNil (n:=l.length) neg hT hw hx hy (by simp[osV,snil]) hN (fun b hb=>?_)
  rw[hb (fun h=>hne l rfl (as9.1 h))]
  cases neg<;>exact k
def slP(loc:Nat->Option (Option (Nat×Cap)))(id n j:Nat):Value:=match loc id with|some (some (b,cap))=>.slice (some ⟨b,cap.off+j,none⟩) (n - j) (cap.n - j)|_=>undef
theorem aops_slicePin{d e id n j:Nat}{x:Operand}{lo:Option Operand}{T:TypeId}{rows:List (List V)}(hT:tySl K.P T 1=true)(hpin:Nat.blt id K.pins=true)
  (hw:Wants ops S ⟨some d,.slice T x lo none none,ty,pos,after,g⟩ true) (hx:evl K S x=.own id n) (ho:hget S.hp id=.arr e 1 rows) (hn:n=rows.length)
  (hlo:BndIs K S lo 0 j) (hj:j<n) (hN:Nat.blt d K.N=true)
  (kk:AOps K ops rest Q (S.put d (.con (slP K.loc id n j)))):AOps K ops (⟨some d,.slice T x lo none none,ty,pos,after,g⟩::rest) Q S:=
 aops_val _ hw hN (fun m β w a r=>by
  have h:=r.reads x
  rw[hx] at h
  generalize hv:a.eval x=v at h
  have hp:=(r.pin id (ar9 hpin)).2
  cases h with
  |imm h=>cases h
  |ownNil=>omega
  | @own _ _ b cap hb=>
   obtain⟨arr,bl,q1,q2,q3,q4,q5,q6,q7⟩:=r.obj hb ho
   have hcn:n<=cap.n:=by omega
   have:=slice_own_run (a0:=j) (b0:=n) (d:=d) (ty:=ty) (pos:=pos) (after:=after) (g:=g) r hT hlo (show BndIs K S none n n from rfl) (by omega) (ab8 _) _ cap.n hv hcn
   rw[if_neg (by omega)] at this
   refine⟨_,this,?_⟩
   have hsl:slP K.loc id n j=.slice (some ⟨b,cap.off+j,none⟩) (n - j) (cap.n - j):=by
    unfold slP;rw[<-hp,hb]
   rw[hsl]
   simp only[au9,add_spot,Nat.mul_one]
   exact .imm (.con _)) kk
def cpL(l:List Int)(j:Nat)(xs:List Int):List Int:=if j+xs.length<=l.length then l.take j++xs++l.drop (j+xs.length) else l
@[simp] theorem cpL_length(l:List Int)(j:Nat)(xs:List Int):(cpL l j xs).length=l.length:=by
 unfold cpL
 split
 ·simp only[ba8,bc9,aj9];omega
 ·rfl
theorem aops_copyPin{d e id j n:Nat}{x y:Operand}{dT sT:TypeId}(enc:Int->List V)(hen:∀n,enc n=[V.con (.int .u8 n)])(l xs:List Int)(hT:tySl K.P dT 1=true)(hpin:Nat.blt id K.pins=true)
  (hw:Wants ops S ⟨some d,.call ⟨.builtin .copy,#[x,y],#[dT,sT]⟩,ty,pos,after,g⟩ true) (hx:evl K S x=.con (slP K.loc id n j)) (hy:evl K S y=.lst 1 (xs.map enc)) (ho:hget S.hp id=.arr e 1 (l.map enc)) (hn:n=l.length)
  (hx0:xs≠[]) (hj:j+xs.length<=l.length) (hN:Nat.blt d K.N=true)
  (kk:AOps K ops rest Q ⟨(d,.con (.int .i64 xs.length))::S.env,(id,.arr e 1 ((cpL l j xs).map enc))::S.hp,S.nx⟩):
  AOps K ops (⟨some d,.call ⟨.builtin .copy,#[x,y],#[dT,sT]⟩,ty,pos,after,g⟩::rest) Q S:=by
 subst hn
 rw[show cpL l j xs=l.take j++xs++l.drop (j+xs.length) from if_pos hj] at kk
 refine aops_runs hw (fun m β w a r=>?_) kk
 have hx1:1<=xs.length:=by cases xs with|nil=>exact absurd rfl hx0|cons _ _=>simp
 have hp:=(r.pin id (ar9 hpin)).2
 have hob:=r.own id
 rw[ho] at hob
 obtain⟨e',i,hu,hi',hs⟩:=tySl_inv hT
 obtain⟨b,cap,hb⟩:∃b cap,β id=some (some (b,cap)):=by
  generalize β id=q at hob
  match q,hob with
  |none,h=>simp[ObOk] at h
  |some none,h=>
   have:l=[]:=by simpa[ObOk] using h
   rw[this] at hj;simp only[bh8] at hj;omega
  |some (some (b,cap)),_=>exact⟨b,cap,rfl⟩
 obtain⟨arr,bl,q1,q2,q3,q4,q5,qB,q6⟩:=r.obj hb ho
 simp only[bb8,Nat.mul_one] at q2 q3
 have hsl:slP K.loc id l.length j=.slice (some ⟨b,cap.off+j,none⟩) (l.length - j) (cap.n - j):=by
  unfold slP;rw[<-hp,hb]
 have hy':=r.reads y
 rw[hy] at hy'
 obtain⟨ad,sc,hay,hsrc⟩:∃(ad:Addr) (sc:Nat),a.eval y=.slice (some ad) xs.length sc/\∀(q:Nat) v,(xs.map (Value.int .u8))[q]? = some v->w.cell? (ad.add q)=some v:=by
  generalize a.eval y=v at hy'
  generalize hrw:xs.map enc=rows at hy'
  cases hy' with
  |imm h=>
   cases h with
   |nil=>simp at hrw;exact absurd hrw hx0
   | @lst _ _ ad n cap' arr' T' fr f hm hsp hn hcap hbd hk hf hc=>
    have hln:xs.length=n:=by rw[<-hn,<-hrw];simp
    refine⟨ad,cap',by rw[hln],fun q v hq=>?_⟩
    rw[at9] at hq
    cases hxq:xs[q]? with
    |none=>rw[hxq] at hq;simp at hq
    |some z=>
     rw[hxq] at hq;simp at hq;subst hq
     have hql:q<xs.length:=(aw8.1 hxq).1
     have h1:=hf q (by rw[<-hrw];simpa using hql)
     have h2:=hc q 0 (enc z) (V.con (.int .u8 z)) (by rw[<-hrw,at9,hxq];rfl) (by rw[hen];rfl)
     rw[show q*1+0=q by omega] at h2
     have h3:f q=.int .u8 z:=by generalize f q=u at h2;cases h2;rfl
     rw[h3] at h1
     rw[addr_eta hsp,add_spot]
     simp only[World.cell?,r.imm _ _ hm]
     exact h1
 have hrun:=run_copy_row (P:=K.P) w dT sT ty e' b (cap.off+j) (l.length - j) (cap.n - j) ad xs.length sc arr e (xs.map (Value.int .u8)) hu (by simp[hi',hs]) q1 (by simp only[bb8];exact(Nat.min_eq_left (by omega)).symm) hsrc (by simp only[bb8];omega) (fun v hv=>by obtain⟨z,_,rfl⟩:=ax9.1 hv;rfl)
 simp only[bb8] at hrun
 refine⟨.int .i64 xs.length,w.setRow b (arr.toList.take (cap.off+j)++xs.map (Value.int .u8)++arr.toList.drop (cap.off+j+xs.length)).toArray,m,β,.inl ?_,?_⟩
 ·refine run_builtin rfl ?_
  simp only[builtin,bd9,bd8,ak8,r.con hx,hsl,hay]
  rw[Sem.run_bind,hrun]
  rfl
 ·have r2:=r.update (by rw[ho];simp) hb (w.setRow b (arr.toList.take (cap.off+j)++xs.map (Value.int .u8)++arr.toList.drop (cap.off+j+xs.length)).toArray) (.arr e 1 ((l.take j++xs++l.drop (j+xs.length)).map enc)) (fun b' hb'=>heap_setRow hb') (by simp[World.setRow]) ⟨rfl,rfl,rfl,trivial⟩ (fun hkeep=>by
   have hlen:(xs.map (Value.int .u8)).length=xs.length:=by simp
   refine obok_new bl qB (heap_setRow_self q1) ?_ ?_ q4 ?_ ?_
   ·simp only[be8,ba8,bc9,aj9,bc8,bb8];omega
   ·simp only[bb8,ba8,bc9,aj9];omega
   ·intro row hrow
    obtain⟨z,_,rfl⟩:=ax9.1 hrow
    rw[hen];rfl
   ·intro p q row c hpr hqc
    rw[at9] at hpr
    cases hz:(l.take j++xs++l.drop (j+xs.length))[p]? with
    |none=>rw[hz] at hpr;simp at hpr
    |some z=>
     rw[hz] at hpr;simp at hpr;subst hpr
     rw[hen] at hqc
     have hq0:q=0:=by have:=(aw8.1 hqc).1;simpa using this
     subst hq0
     simp at hqc;subst hqc
     refine⟨.int .u8 z,?_,.inl (.imm (.con _)),rfl⟩
     rw[az8,show arr.toList.take (cap.off+j)++xs.map (Value.int .u8)++arr.toList.drop (cap.off+j+xs.length)=arr.toList.take (cap.off+j)++xs.map (Value.int .u8)++arr.toList.drop (cap.off+j+(xs.map (Value.int .u8)).length) by rw[hlen],splice_get _ _ _ (by rw[hlen];simp only[bc8];omega),hlen]
     rw[splice_get _ _ _ hj] at hz
     by_cases hc:j<=p/\p<j+xs.length
     ·rw[if_pos hc] at hz
      rw[if_pos (by omega),show cap.off+(p*1+0) - (cap.off+j)=p - j by omega,at9,hz]
      rfl
     ·rw[if_neg hc] at hz
      rw[if_neg (by omega)]
      obtain⟨v,v1,v2,v3⟩:=q6 p 0 (enc z) (V.con (.int .u8 z)) (by rw[at9,hz];rfl) (by rw[hen];rfl)
      rcases v2 with v2|v2
      ·cases v2 with
       |imm h=>cases h;simpa using v1
      ·cases v2 with
       |imm h=>cases h;simpa using v1)
  exact r2.put hN (.imm (.con _))
end
section
variable{K:Ctx}{Q:Post}{S:St}
variable{ops:Array Oper}{rest:List Oper}{ty:TypeId}{pos:String}{after:Array Edge}{g:Option (Nat×Bool)}
end
section
variable{κ τ:Type}[DecidableEq κ]
def dopt(e:Nat)(enc:τ->List V):Option τ->V
 |none=>.con (.pointer none)
 |some x=>.dpt e (enc x)
variable(E:κ×Option τ->Value×V)(kf:κ->Value)(enc:τ->List V)(e:Nat)(hE:∀p,E p=(kf p.1,dopt e enc p.2))(k0:κ)
end
section
variable{K:Ctx}{S:St}
variable{κ τ:Type}[DecidableEq κ]
end
section
variable{K:Ctx}{Q:Post}{S:St}
variable{m:Mem}{β:Locs}{w:World}{a:Act}
variable{ops:Array Oper}{rest:List Oper}{ty:TypeId}{pos:String}{after:Array Edge}{g:Option (Nat×Bool)}
theorem Rel.nilO(r:Rel K m β w a S)(e:TypeId)(k:Nat):∃β':Locs,Rel K m β' w a ⟨S.env,(S.nx,.arr e k [])::S.hp,S.nx+1⟩/\β' S.nx=some none:=by
 have henv:∀t,Sub (Nil S.nx) (get S.env t) (get S.env t):=fun _=>Sub.keepNil
 have hhp:∀i,ObSub (Nil S.nx) (hget S.hp i) (hget S.hp i):=fun _=>ObSub.keep (fun _=>Sub.keepNil) _
 let β':Locs:=⟨fun i=>if i=S.nx then some none else β i,fun i=>if i=S.nx then fun _=>False else β.hid i⟩
 have en:β' S.nx=some none:=by show(if _ then _ else _)=_;grind
 have eo:∀i,i≠S.nx->β' i=β i:=fun i h=>by grind
 have hn:β'.hid S.nx=fun _=>False:=by show(if _ then _ else _)=_;grind
 have hho:∀i,i≠S.nx->β'.hid i=β.hid i:=fun i h=>by grind
 have hle:β.le β':=by
  intro i l h
  rw[eo i]
  ·exact h
  ·intro e;rw[e,r.nx _ (ab8 _)] at h;simp at h
 have hy:Nil S.nx m β m β':=⟨rfl,hle,en⟩
 have hdead:∀i,hget S.hp i≠.dead->hget S.hp i≠.dead:=fun _ h=>h
 have hlive:∀i b c,hget ((S.nx,.arr e k [])::S.hp) i≠.dead->β' i=some (some (b,c))->hget S.hp i≠.dead/\β i=some (some (b,c)):=by
  intro i b c h hb
  rw[hget_put] at h
  by_cases hi:S.nx=i
  ·grind
  ·grind
 refine⟨β',⟨r.imm,r.ext,r.mold,r.frame,r.size,r.same,r.tn,r.df,fun t=>henv t _ _ _ _ _ hy (r.env t),fun i=>?_,fun i b c h hb=>?_,fun i i' b c c' h h' hb hb'=>?_,fun i x h hx=>?_,fun i hi=>?_,fun q hq=>?_⟩,en⟩
 ·show ObOk m β' w (β'.hid i) (β' i) (hget ((S.nx,.arr e k [])::S.hp) i)
  rw[hget_put]
  by_cases hi:S.nx=i
  ·simp_all[ObOk]
  ·rw[if_neg hi]
   have h2:=hhp i
   rw[eo i (Ne.symm hi),hho i (Ne.symm hi)]
   exact h2.ok hy (r.own i)
 ·obtain⟨h1,h2⟩:=hlive i b c h hb
  exact r.priv i b c h1 h2
 ·obtain⟨h1,h2⟩:=hlive i b c h hb
  obtain⟨h1',h2'⟩:=hlive i' b c' h' hb'
  exact r.inj i i' b c c' h1 h1' h2 h2'
 ·have h0:hget ((S.nx,.arr e k [])::S.hp) i≠.dead:=h
  rw[hget_put] at h0
  by_cases hi:S.nx=i
  ·grind
  ·rw[if_neg hi] at h0;rw[hho i (Ne.symm hi)] at hx
   have q:=r.hid i x (hdead i h0) hx
   refine⟨q.lt,q.m,q.old,fun i' b c h' hb'=>?_,fun i' h' hx'=>?_⟩
   ·obtain⟨h1,h2⟩:=hlive i' b c h' hb'
    exact q.ne i' b c h1 h2
   ·have h0':hget ((S.nx,.arr e k [])::S.hp) i'≠.dead:=h'
    rw[hget_put] at h0'
    by_cases hi':S.nx=i'
    ·grind
    ·rw[if_neg hi'] at h0';rw[hho i' (Ne.symm hi')] at hx'
     exact q.un i' (hdead i' h0') hx'
 ·have hi':S.nx+1<=i:=hi
  rw[eo i (by omega)]
  exact r.nx i (by omega)
 ·obtain⟨h1,h2⟩:=r.pin q hq<;>grind
theorem aops_append0G{S0:St}{d T T' e k bytes n n' id:Nat}{s x:Operand}{sv:V}{rows:List (List V)}(idn nx':Nat)(hfree:∀m β w a,Rel K m β w a S->β idn=none/\∀q,q<K.pins->q≠idn)(hidn:idn<nx')(hnn:S.nx<=nx')(rows2 rows':List (List V))(hT:tyEl K.P T e k bytes=true)(hT':tySS K.P T'=true)
  (hpos:Nat.blt 0 bytes=true) (hkp:Nat.blt 0 k=true)
  (hw:Wants ops S0 ⟨some d,.call ⟨.builtin .append,#[s,x],#[T,T']⟩,ty,pos,after,g⟩ true)
  (hs:∀m β w a,Rel K m β w a S0->∃β1,Rel K m β1 w a S/\VRel m β1 (.own id n) (a.eval s)) (ho:hget S.hp id=.arr e k rows) (hn:rows.length=n) (hx:evl K S x=sv) (hsrc:Src S k sv rows2)
  (hr:rows++rows2=rows') (hn':rows'.length=n') (hb:n'*bytes<=140737488355328\/(rows2.length=1/\n'*bytes<=211106232532992/\bytes<=1000000)) (hN:Nat.blt d K.N=true)
  (kk:AOps K ops rest Q ⟨(d,.own idn n')::S.env,(idn,.arr e k rows')::(id,.dead)::S.hp,nx'⟩):
  AOps K ops (⟨some d,.call ⟨.builtin .append,#[s,x],#[T,T']⟩,ty,pos,after,g⟩::rest) Q S0:=by
 refine aops_runs hw (fun m β00 w a r00=>?_) kk
 obtain⟨β,r,hsv⟩:=hs m β00 w a r00
 have hpos:=ar9 hpos
 have hkp:0<k:=ar9 hkp
 obtain⟨news,n1,n2,n3,n4,n5⟩:=hsrc.read hkp r (by rw[<-hx];exact r.reads x)
 have hlen:n'=n+rows2.length:=by grind
 have hop:∀(v:Value) (w':World),(Builtin.append_ #[T,T'] ty #[a.eval s,a.eval x]).run K.P w=.ok v w'->
   (execOp a.eval ⟨some d,.call ⟨.builtin .append,#[s,x],#[T,T']⟩,ty,pos,after,g⟩).run K.P w=.ok (.value v) w':=by
  intro v w' h
  refine run_builtin rfl ?_
  simp only[builtin,bd9,bd8,ak8,Sem.run_bind,h,Result.andThen_ok]
  rfl
 -- rows of the result
 have hrows':∀row,row∈rows'->(∀row,row∈rows->row.length=k)->row.length=k:=by
  intro row h h5
  rw[<-hr] at h
  rcases bo9.1 h with h|h
  ·grind
  ·grind
 have hcells:∀(β':Locs) (w':World) (bl:Nat->Nat->Prop) (off:Nat) (old:Nat->Option Value) (arr':Array Value),β.le β'->(∀p x,bl p x->w'.heap[x]? = w.heap[x]?)->(∀row,row∈rows->row.length=k)->
   (∀(i j:Nat) (row:List V) (c:V),rows[i]? = some row->row[j]? = some c->∃v,old (i*k+j)=some v/\CRel m β w (bl (i*k+j)) c v/\v.oneCell'=true)->
   (∀p,p<n*k->arr'[off+p]? = old p)->(∀p,p<rows2.length*k->arr'[off+(n*k+p)]? = news[p]?)->
   ∀(i j:Nat) (row:List V) (c:V),rows'[i]? = some row->row[j]? = some c->∃v,arr'[off+(i*k+j)]? = some v/\CRel m β' w' (bl (i*k+j)) c v/\v.oneCell'=true:=by
  intro β' w' bl off old arr' hle hbl h5 h6 ha hb' i j row c hi hj
  have hrk:=hrows' row (ar8 hi) h5
  have hjk:j<k:=by rw[<-hrk];exact(aw8.1 hj).1
  rw[<-hr,bj9] at hi
  have hmul:∀p q:Nat,p<q->p*k+j<q*k:=by
   intro p q hpq
   calc p*k+j<p*k+k:=by omega
    _=(p+1)*k:=by grind
    _<=q*k:=ay9 _ hpq
  split at hi
  ·rename_i hlt
   obtain⟨v,a1,a2,a3⟩:=h6 i j row c hi hj
   exact⟨v,by grind,a2.mono (Mem.le_refl _) hle (fun _ h=>h) (fun x hx=>hbl _ x hx),a3⟩
  ·rename_i hlt
   obtain⟨v,a1,a2,a3⟩:=n5 (i - rows.length) j row c hi hj
   have hi2:=(aw8.1 hi).1
   have e1:i*k+j=n*k+((i - rows.length)*k+j):=by
    rw[<-ac8,<-ai8];congr 2;omega
   refine⟨v,?_,.inl (a2.mono (Mem.le_refl _) hle),a3⟩
   simp_all
 -- a new block
 have hlid:hget S.hp id≠.dead:=by rw[ho];simp
 have grows:∀(bl:Nat->Nat->Prop) (hBl:Bls (β.hid id) bl) (olds:List Value) (base:Option Addr) (cap:Nat),a.eval s=.slice base n cap->(∀w':World,w'.heap=w.heap->(Builtin.firstCells k n (.slice base n cap)).run K.P w'=.ok olds.toArray w')->olds.length=n*k->
   n<=cap->¬n+rows2.length<=cap->(∀row,row∈rows->row.length=k)->
   (∀(i j:Nat) (row:List V) (c:V),rows[i]? = some row->row[j]? = some c->∃v,olds[i*k+j]? = some v/\CRel m β w (bl (i*k+j)) c v/\v.oneCell'=true)->
   ∃v w' m' β',((execOp a.eval ⟨some d,.call ⟨.builtin .append,#[s,x],#[T,T']⟩,ty,pos,after,g⟩).run K.P w=.ok (.value v) w'\/v=undef/\(execOp a.eval ⟨some d,.call ⟨.builtin .append,#[s,x],#[T,T']⟩,ty,pos,after,g⟩).run K.P w=.ok .skip w')/\
    Rel K m' β' w' (a.put (some d) v) ⟨(d,.own idn n')::S.env,(idn,.arr e k rows')::(id,.dead)::S.hp,nx'⟩:=by
  intro bl hBl olds base cap hsx hold hol hcap hfit h5 h6
  obtain⟨q1,_,q3⟩:=room_ok (mm:=rows2.length) hpos hcap hfit (by grind)
  obtain⟨cap',arr',b1,b2,b3,b4,b5⟩:=run_append_grows (ty:=ty) hT hT' rfl (hold { w with drawn:=w.drawn+1 } rfl) (n1 w rfl).1 (n1 { w with drawn:=w.drawn+1 } rfl).2 hol n2 hfit q1 q3
  have r1:=(r.drawn (w.drawn+1) (ah8 _)).kill id
  have hdd:∀i,hget ((id,.dead)::S.hp) i≠.dead->hget S.hp i≠.dead/\i≠id:=by
   intro i hi
   rw[hget_put] at hi
   split at hi
   ·grind
   ·grind
  obtain⟨β',hle,hnx,r2⟩:=r1.allocG idn nx' (hfree m β w a r).1 (hfree m β w a r).2 hidn hnn (.cells arr' e (0,0)) (.arr e k rows') ⟨cap',0⟩ _ rfl (β.hid id)
   (fun x hx=>let q:=r.hid id x hlid hx;⟨q.lt,q.m,q.old,fun i b c hi hb=>q.ne i b c (hdd i hi).1 hb,fun i hi hx'=>(hdd i hi).2 (q.un i (hdd i hi).1 hx')⟩) (fun β' hle=>by
   refine obok_new (vs:=arr') bl hBl (by simp) (by grind) (by grind) b3 (fun row h=>hrows' row h h5) ?_
   refine hcells β' _ bl 0 (fun p=>olds[p]?) arr' hle (fun p x hx=>?_) h5 h6 ?_ ?_
   ·have:=(r.hid id x hlid (hBl.1 p x hx)).lt
    grind
   ·grind
   grind)
  refine⟨.slice (some ⟨w.heap.size,0,none⟩) n' cap',{ w with drawn:=w.drawn+1,heap:=w.heap.push (.cells arr' e (0,0)) },m,β',.inl ?_,?_⟩
  ·grind
  ·exact Rel.put r2 hN (.own hnx)
 generalize hsx:a.eval s=sx at hsv
 cases hsv with
 |imm h=>cases h
 | @ownNil _ ad hbn=>
  have h0:=r.own id
  rw[hbn,ho] at h0
  have h0:rows=[]:=h0
  subst h0
  by_cases hfit:0+rows2.length<=0
  ·have h2:rows2=[]:=as9.1 (by omega)
   subst h2
   have h3:rows'=[]:=by rw[<-hr];rfl
   subst h3
   have hn0:n'=0:=by simpa using hn'.symm
   subst hn0
   obtain⟨β',hle,hnx,r2⟩:=r.moveG id idn nx' (hfree m β w a r).1 (hfree m β w a r).2 hidn hnn ho (by simp) (by simp)
   refine⟨.slice ad 0 0,w,m,β',.inl ?_,Rel.put r2 hN (.ownNil (by grind))⟩
   refine hop _ _ ?_
   rw[hsx]
   obtain⟨i,z,hu,hi,hs',hby,hz,hzk⟩:=tyEl_inv hT
   have hk:K.P.cellsOf e=k:=by simp[Program.cellsOf,hi,hs']
   obtain⟨q1,q2⟩:=n1 w rfl
   have hnews:news=[]:=as9.1 (by grind)
   subst hnews
   simp only[bh8] at q2
   rcases tySS_inv hT' with ⟨e',hu'⟩|hu'
   all_goals
    simp only[Builtin.append_,az8,bf9,bi9,Sem.run_bind,run_underlying hu,Result.andThen_ok,run_sizeOf w hi,hk,run_underlying hu',pure,Sem.run,
     by9,if_false,q1,bh8,az9,ab8,if_true,bl9]
    cases ad<;>simp[q2,storeCells,pure,Sem.run]
  ·exact grows _ bls_none [] ad 0 hsx (fun w' _=>by cases ad<;>simp[Builtin.firstCells,loadCells,loadCellsFrom,pure]) (by simp) (af8 _) hfit (by simp) (by simp)
 | @own _ _ b cap hbb=>
  obtain⟨arr,bl,h1,h2,h3,h4,h5,hBl,h6⟩:=r.obj hbb ho
  have hnk:cap.off+n*k<=arr.size:=by rw[h2,<-hn];have:=ay9 k h3;omega
  by_cases hfit:n+rows2.length<=cap.n
  ·have hrun:=run_append_fits (ty:=ty) hT hT' h1 h2 (n1 w rfl).1 (n1 w rfl).2 n2 n3 hfit
   have hle2:cap.off+n*k+news.length<=arr.size:=by
    have:n*k+rows2.length*k<=cap.n*k:=by rw[<-ai8];exact ay9 _ hfit
    rw[n2,h2];omega
   have hgt:∀p,(arr.toList.take (cap.off+n*k)++news++arr.toList.drop (cap.off+n*k+news.length)).toArray[p]? = if cap.off+n*k<=p/\p<cap.off+n*k+news.length then news[p - (cap.off+n*k)]? else arr[p]?:=by
    intro p
    rw[az8,splice_get _ _ _ (by grind)]
    grind
   have r1:=r.update (id:=id) (ob:=.arr e k rows') (by grind) hbb (w.setRow b (arr.toList.take (cap.off+n*k)++news++arr.toList.drop (cap.off+n*k+news.length)).toArray) (fun b' hb'=>heap_setRow hb') (by simp[World.setRow]) ⟨rfl,rfl,rfl,trivial⟩ (fun hkeep=>by
    refine obok_new bl hBl (heap_setRow_self h1) ?_ (by grind) h4 (fun row h=>hrows' row h h5) ?_
    ·grind
    ·refine hcells β _ bl cap.off (fun p=>arr[cap.off+p]?) _ (Locs.le_refl _) (fun p x hx=>hkeep x (hBl.1 p x hx)) h5 h6 ?_ ?_
     ·grind
     grind)
   obtain⟨β',hle,hnx,r2⟩:=r1.moveG id idn nx' (hfree m β w a r).1 (hfree m β w a r).2 hidn hnn (ob:=.arr e k rows') (by rw[hget_put];simp) (by simp) (by simp)
   have r3:Rel K m β' (w.setRow b (arr.toList.take (cap.off+n*k)++news++arr.toList.drop (cap.off+n*k+news.length)).toArray) a ⟨S.env,(idn,.arr e k rows')::(id,.dead)::S.hp,nx'⟩:=by
    have hsame:∀i,hget ((idn,Ob.arr e k rows')::(id,.dead)::(id,.arr e k rows')::S.hp) i=hget ((idn,Ob.arr e k rows')::(id,.dead)::S.hp) i:=by
     intro i
     simp only[hget_put]
     by_cases q1:idn=i
     ·grind
     ·grind
    exact⟨r2.imm,r2.ext,r2.mold,r2.frame,r2.size,r2.same,r2.tn,r2.df,r2.env,fun i=>by have:=r2.own i;grind,
     fun i b c h=>r2.priv i b c (by grind),fun i i' b c c' h h'=>r2.inj i i' b c c' (by grind) (by grind),
     fun i x h hx=>let q:=r2.hid i x (by grind) hx;⟨q.lt,q.m,q.old,fun i' b c h'=>q.ne i' b c (by grind),fun i' h'=>q.un i' (by grind)⟩,r2.nx,r2.pin⟩
   refine⟨.slice (some ⟨b,cap.off,none⟩) n' cap.n,w.setRow b (arr.toList.take (cap.off+n*k)++news++arr.toList.drop (cap.off+n*k+news.length)).toArray,m,β',.inl ?_,Rel.put r3 hN (.own (by grind))⟩
   grind
  ·refine grows bl hBl ((arr.toList.drop cap.off).take (n*k)) (some ⟨b,cap.off,none⟩) cap.n hsx (fun w' hw'=>?_) (by simp;omega) (by omega) hfit h5 ?_
   ·have:=run_firstCells (P:=K.P) (w:=w') (ad:=⟨b,cap.off,none⟩) (n:=n) (c:=cap.n) (k:=k) (fun j=>arr.getD (cap.off+j) undef) (fun j hj=>by
     rw[add_spot,cell_of_heap (arr:=arr) (T:=e) (fr:=(0,0)) (by grind)]
     have:cap.off+j<arr.size:=by omega
     simp_all)
    rw[this]
    congr 2
    apply an8
    intro j
    rw[at9,ba9]
    by_cases hj:j<n*k
    ·rw[at8 hj,if_pos hj,ap9]
     have:cap.off+j<arr.size:=by omega
     simp_all
    grind
   ·intro i j row c hi hj
    obtain⟨v,a1,a2,a3⟩:=h6 i j row c hi hj
    refine⟨v,?_,a2,a3⟩
    rw[ba9,if_pos]
    ·grind
    ·have hrk:=h5 row (ar8 hi)
     have hjk:j<k:=by rw[<-hrk];exact(aw8.1 hj).1
     calc i*k+j<i*k+k:=by omega
      _=(i+1)*k:=by grind
      _<=n*k:=ay9 _ (by grind)
theorem aops_append0{d T T' e k bytes n':Nat}{x:Operand}{sv:V}(rows':List (List V))(hT:tyEl K.P T e k bytes=true)(hT':tySlice K.P T'=true)
  (hpos:Nat.blt 0 bytes=true) (hkp:Nat.blt 0 k=true)
  (hw:Wants ops S ⟨some d,.call ⟨.builtin .append,#[.const (.slice none 0 0),x],#[T,T']⟩,ty,pos,after,g⟩ true)
  (hx:evl K S x=sv) (hsrc:Src ⟨S.env,(S.nx,.arr e k [])::S.hp,S.nx+1⟩ k sv rows') (hn':rows'.length=n') (hb:n'*bytes<=140737488355328) (hN:Nat.blt d K.N=true)
  (kk:AOps K ops rest Q ⟨(d,.own (S.nx+1) n')::S.env,(S.nx+1,.arr e k rows')::(S.nx,.dead)::(S.nx,.arr e k [])::S.hp,S.nx+2⟩):
  AOps K ops (⟨some d,.call ⟨.builtin .append,#[.const (.slice none 0 0),x],#[T,T']⟩,ty,pos,after,g⟩::rest) Q S:=
 aops_append0G (S:=⟨S.env,(S.nx,.arr e k [])::S.hp,S.nx+1⟩) (id:=S.nx) (n:=0) (rows:=[]) (S.nx+1) (S.nx+2) (fun _ _ _ _ r=>⟨r.nx _ (ab8 _),fun q hq=>ag8 (r.pin q hq).1⟩) (ah9 _) (ah8 _) rows' rows' hT (tySlice_SS hT') hpos hkp hw
  (fun m β w a r=>by
   obtain⟨β',h1,h2⟩:=r.nilO e k
   exact⟨β',h1,.ownNil h2⟩) hget_self rfl (by cases x<;>exact hx) hsrc (by simp) hn' (.inl hb) hN kk
end
section
variable{K:Ctx}{Q:Post}{S S':St}
variable{ops:Array Oper}{rest:List Oper}{ty:TypeId}{pos:String}{after:Array Edge}{g:Option (Nat×Bool)}
end
section
variable{K:Ctx}{Q:Post}{S S':St}{s:List It}
variable{ops:Array Oper}{rest:List Oper}{ty:TypeId}{pos:String}{after:Array Edge}{g:Option (Nat×Bool)}
theorem aops_makeFuncF{d f:Nat}{first:Array Operand}(fs:List V)(hw:Wants ops S ⟨some d,.makeFunc (.func f) first #[],ty,pos,after,g⟩ true)
  (hc:first.toList.map (evl K S)=fs) (hN:Nat.blt d K.N=true) (kk:AOps K ops rest Q (S.put d (.fn (.func f) fs []))):
  AOps K ops (⟨some d,.makeFunc (.func f) first #[],ty,pos,after,g⟩::rest) Q S:=
 aops_val _ hw hN (fun m β w a r=>by
  refine⟨.func (.func f) (first.map a.eval) #[],by simp_all[execOp,Instr.makeFunc],.fn (by grind) rfl (fun i c v h1 h2=>?_) (by simp)⟩
  rw[<-hc,at9] at h1
  rw[bp9] at h2
  cases hx:first[i]? with
  |none=>grind
  |some x=>
   simp[hx] at h1 h2
   subst h1;subst h2
   exact r.reads x) kk
end
def rowK{τ:Type}(enc:τ->List V)[i:EI enc](y:τ):KRow:=⟨enc y,i.h y,i.o y⟩
end Go.Pv
namespace Go.Proofs.YtppfkkkifdbnaaaGreatDoor.Qd
open Go Go.Pv
set_option maxRecDepth 100000
theorem mixed:Tryz.prog.follows .mixedOrders=true:=by kernel_rfl
def gl:Gl:=[]
def encI_u8(x:Int):List V:=[(V.con (.int .u8 x))]
theorem imms_encI_u8(x:Int):Imms (encI_u8 x):=(.cons (Imm.con _) .nil)
theorem one_encI_u8(x:Int):(encI_u8 x).all oneV=true:=rfl
instance:EI encI_u8:=⟨imms_encI_u8,one_encI_u8⟩
def encS(x:(List UInt8)):List V:=[(sV x)]
theorem imms_encS(x:(List UInt8)):Imms (encS x):=(.cons (Imm.con _) .nil)
theorem one_encS(x:(List UInt8)):(encS x).all oneV=true:=rfl
instance:EI encS:=⟨imms_encS,one_encS⟩
theorem tEl39:tyEl Tryz.prog 39 9 1 16=true:=by kernel_rfl
theorem tZ9:zeroCells Tryz.prog 9=some [.string ⟨#[]⟩]:=by kernel_rfl
theorem tIsSl39:tySlice Tryz.prog 39=true:=by kernel_rfl
theorem fOk38:fnOk Tryz.prog 38=true:=by kernel_rfl
theorem tSl39:tySl Tryz.prog 39 1=true:=by kernel_rfl
theorem tC9:tyC Tryz.prog 9=true:=by kernel_rfl
theorem tStr9:tyStr Tryz.prog 9=true:=by kernel_rfl
theorem tS191:tyS Tryz.prog 191 257=true:=by kernel_rfl
theorem tArr189:tyArr Tryz.prog 189 256 1=true:=by kernel_rfl
theorem tC36:tyC Tryz.prog 36=true:=by kernel_rfl
theorem tIsSl36:tySlice Tryz.prog 36=true:=by kernel_rfl
theorem tEl36:tyEl Tryz.prog 36 5 1 1=true:=by kernel_rfl
theorem tZ5:zeroCells Tryz.prog 5=some [.int .u8 0]:=by kernel_rfl
theorem tBy36:tyBytes Tryz.prog 36=true:=by kernel_rfl
theorem tS39:tyS Tryz.prog 39 1=true:=by kernel_rfl
theorem tS36:tyS Tryz.prog 36 1=true:=by kernel_rfl
theorem tCn192:Program.concrete Tryz.prog 192=true:=by kernel_rfl
theorem fOk98:fnOk Tryz.prog 98=true:=by kernel_rfl
theorem tS129:tyS Tryz.prog 129 1=true:=by kernel_rfl
theorem fOk68:fnOk Tryz.prog 68=true:=by kernel_rfl
theorem tSl36:tySl Tryz.prog 36 1=true:=by kernel_rfl
theorem tM192_Replace:∀(v:Value) (args:Array Value) (w:World),(callMethod (.iface 192 v) "Replace" args).run Tryz.prog w=.ok (.enter 196 (#[v]++args)) w:=fun v args w=>by kernel_rfl
theorem fOk39:fnOk Tryz.prog 39=true:=by kernel_rfl
def tt:TT:=[(5,[.S 1]),(9,[.C,.Str]),(36,[.C,.Sn,.S 1,.Sl 1]),(39,[.Sn,.C,.El 9 1 16,.S 1,.Sl 1]),(129,[.C]),(131,[.Z 5 [.int .u32 0,.int .i32 0,.int .u32 0,.nilIface,.slice none 0 0],.Pl [(0,3),(3,1),(4,1)],.S 5,.F 0 0,.F 2 4,.F 1 3]),(189,[.Arr 256 1]),(191,[.Z 257 [.slice none 0 0,.slice none 0 0,.slice none 0 0,.slice none 0 0,.slice none 0 0,.slice none 0 0,.slice none 0 0,.slice none 0 0,.slice none 0 0,.slice none 0 0,.slice none 0 0,.slice none 0 0,.slice none 0 0,.slice none 0 0,.slice none 0 0,.slice none 0 0,.slice none 0 0,.slice none 0 0,.slice none 0 0,.slice none 0 0,.slice none 0 0,.slice none 0 0,.slice none 0 0,.slice none 0 0,.slice none 0 0,.slice none 0 0,.slice none 0 0,.slice none 0 0,.slice none 0 0,.slice none 0 0,.slice none 0 0,.slice none 0 0,.slice none 0 0,.slice none 0 0,.slice none 0 0,.slice none 0 0,.slice none 0 0,.slice none 0 0,.slice none 0 0,.slice none 0 0,.slice none 0 0,.slice none 0 0,.slice none 0 0,.slice none 0 0,.slice none 0 0,.slice none 0 0,.slice none 0 0,.slice none 0 0,.slice none 0 0,.slice none 0 0,.slice none 0 0,.slice none 0 0,.slice none 0 0,.slice none 0 0,.slice none 0 0,.slice none 0 0,.slice none 0 0,.slice none 0 0,.slice none 0 0,.slice none 0 0,.slice none 0 0,.slice none 0 0,.slice none 0 0,.slice none 0 0,.slice none 0 0,.slice none 0 0,.slice none 0 0,.slice none 0 0,.slice none 0 0,.slice none 0 0,.slice none 0 0,.slice none 0 0,.slice none 0 0,.slice none 0 0,.slice none 0 0,.slice none 0 0,.slice none 0 0,.slice none 0 0,.slice none 0 0,.slice none 0 0,.slice none 0 0,.slice none 0 0,.slice none 0 0,.slice none 0 0,.slice none 0 0,.slice none 0 0,.slice none 0 0,.slice none 0 0,.slice none 0 0,.slice none 0 0,.slice none 0 0,.slice none 0 0,.slice none 0 0,.slice none 0 0,.slice none 0 0,.slice none 0 0,.slice none 0 0,.slice none 0 0,.slice none 0 0,.slice none 0 0,.slice none 0 0,.slice none 0 0,.slice none 0 0,.slice none 0 0,.slice none 0 0,.slice none 0 0,.slice none 0 0,.slice none 0 0,.slice none 0 0,.slice none 0 0,.slice none 0 0,.slice none 0 0,.slice none 0 0,.slice none 0 0,.slice none 0 0,.slice none 0 0,.slice none 0 0,.slice none 0 0,.slice none 0 0,.slice none 0 0,.slice none 0 0,.slice none 0 0,.slice none 0 0,.slice none 0 0,.slice none 0 0,.slice none 0 0,.slice none 0 0,.slice none 0 0,.slice none 0 0,.slice none 0 0,.slice none 0 0,.slice none 0 0,.slice none 0 0,.slice none 0 0,.slice none 0 0,.slice none 0 0,.slice none 0 0,.slice none 0 0,.slice none 0 0,.slice none 0 0,.slice none 0 0,.slice none 0 0,.slice none 0 0,.slice none 0 0,.slice none 0 0,.slice none 0 0,.slice none 0 0,.slice none 0 0,.slice none 0 0,.slice none 0 0,.slice none 0 0,.slice none 0 0,.slice none 0 0,.slice none 0 0,.slice none 0 0,.slice none 0 0,.slice none 0 0,.slice none 0 0,.slice none 0 0,.slice none 0 0,.slice none 0 0,.slice none 0 0,.slice none 0 0,.slice none 0 0,.slice none 0 0,.slice none 0 0,.slice none 0 0,.slice none 0 0,.slice none 0 0,.slice none 0 0,.slice none 0 0,.slice none 0 0,.slice none 0 0,.slice none 0 0,.slice none 0 0,.slice none 0 0,.slice none 0 0,.slice none 0 0,.slice none 0 0,.slice none 0 0,.slice none 0 0,.slice none 0 0,.slice none 0 0,.slice none 0 0,.slice none 0 0,.slice none 0 0,.slice none 0 0,.slice none 0 0,.slice none 0 0,.slice none 0 0,.slice none 0 0,.slice none 0 0,.slice none 0 0,.slice none 0 0,.slice none 0 0,.slice none 0 0,.slice none 0 0,.slice none 0 0,.slice none 0 0,.slice none 0 0,.slice none 0 0,.slice none 0 0,.slice none 0 0,.slice none 0 0,.slice none 0 0,.slice none 0 0,.slice none 0 0,.slice none 0 0,.slice none 0 0,.slice none 0 0,.slice none 0 0,.slice none 0 0,.slice none 0 0,.slice none 0 0,.slice none 0 0,.slice none 0 0,.slice none 0 0,.slice none 0 0,.slice none 0 0,.slice none 0 0,.slice none 0 0,.slice none 0 0,.slice none 0 0,.slice none 0 0,.slice none 0 0,.slice none 0 0,.slice none 0 0,.slice none 0 0,.slice none 0 0,.slice none 0 0,.slice none 0 0,.slice none 0 0,.slice none 0 0,.slice none 0 0,.slice none 0 0,.slice none 0 0,.slice none 0 0,.slice none 0 0,.slice none 0 0,.slice none 0 0,.slice none 0 0,.slice none 0 0,.slice none 0 0,.slice none 0 0,.slice none 0 0,.slice none 0 0,.slice none 0 0,.slice none 0 0,.slice none 0 0,.slice none 0 0,.slice none 0 0,.slice none 0 0,.slice none 0 0,.slice none 0 0,.slice none 0 0,.slice none 0 0,.slice none 0 0],.Pl [(0,256),(256,1)],.S 257,.F 0 0,.F 1 256]),(198,[.Fn])]
theorem ok:TTok Tryz.prog tt:=tt_b (by kernel_rfl) (by kernel_rfl) trivial
instance {N:Nat} {w:World} {m:Mem} {o:Nat->Prop} {p:Nat} {l:Nat->Option (Option (Nat×Cap))} {g:Gl} {h:GlOk g m} {q:Option Nat}:TC ⟨Tryz.prog,N,w,m,o,p,l,g,h,q⟩ tt:=⟨ok⟩
end Go.Proofs.YtppfkkkifdbnaaaGreatDoor.Qd
