/- Part of the proof. -/
import Derived.Test.YtelmfadihfcgnaaGreatDoorHDU
import Derived.Shelf.Small.Strs
set_option linter.unusedSimpArgs false
set_option linter.unusedVariables false
namespace Go.Pv
open Go
def GC(f:V->Option Value):List V->Option (List Value)
 |[]=>some []
 |x::l=>match f x with|some v=>(match GC f l with|some r=>some (v::r)|none=>none)|none=>none
def yR:Nat->V->Option Value
 |0,_=>none
 |n+1,v=>match v with
  | .con v=>some v
  | .agg cs=>(match GC (yR n) cs with|some l=>some (.agg l.toArray)|none=>none)
  |_=>none
theorem B4{f:V->Option Value}:∀{cs:List V} {l:List Value},GC f cs=some l->l.length=cs.length/\∀(i:Nat) c v,cs[i]? = some c->l[i]? = some v->f c=some v
 |[],l,h=>by simp_all[GC]
 |x::cs,l,h=>by
  simp only[GC] at h;split at h
  ·rename_i y hy;split at h
   ·rename_i q hq;simp at h;subst h;obtain⟨h1,h2⟩:=B4 hq;refine⟨by simp[h1],fun i c v a b=>?_⟩;cases i with
    |zero=>simp at a b;subst a;subst b;exact hy
    |succ i=>exact h2 i c v (by simpa using a) (by simpa using b)
   ·simp at h
  ·simp at h
theorem B3{m:bB}{β:ba}:∀{n:Nat} {v:V} {x y:Value},yR n v=some x->br m β v y->y=x
 |0,v,x,y,h=>by simp[yR] at h
 |n+1,v,x,y,h=>by
  intro hv;cases v with
  |con c=>simp[yR] at h;subst h;exact hv.of_con
  |agg cs=>
   simp only[yR] at h;split at h
   ·rename_i l hl;simp at h;subst h;obtain⟨vs,rfl,h2,h3⟩:=rD hv;obtain⟨a1,a2⟩:=B4 hl
    congr 1
    apply Array.ext
    ·grind
    ·intro i hi hj;have hic:i<cs.length:=by rw[h2];exact hi
     have hil:i<l.length:=by rw[a1];exact hic
     have:=B3 (a2 i _ _ (az9 hic) (az9 hil)) (h3 i _ _ (az9 hic) (bb8 hi))
     grind
   grind
  |_=>simp[yR] at h
theorem F1{m:bB}(l:List Value):bN m (.agg (l.map .con)) (.agg l.toArray):=.agg (by simp) fun i c v a b=>by
 simp only[az8,bh8] at a b;rw[b] at a;simp at a;subst a;exact .con _
def OW:Value->V
 | .agg vs=>.agg (vs.toList.map .con)
 |v=>.con v
theorem D7{m:bB}{β:ba}(v:Value):br m β (OW v) v:=by
 cases v with
 |agg vs=>
  refine .imm (.agg (by simp) fun i c u a b=>?_);simp only[az8,ae8,b,ba8,ax9] at a;subst a;exact .con _
 |_=>exact .imm (.con _)
section
variable{K:cR}{Q:ca}{S S':St}{ops:Array Oper}{rest:List Oper}{t:TT}{ty:TypeId}{pos:String}{after:Array Edge}{g:Option (Nat×Bool)}
theorem wY{d n:Nat}{T:TypeId}{x:Operand}{v:V}{c:Value}(hT:K.P.concrete T=true)(hw:aN ops S ⟨some d,.makeInterface T x,ty,pos,after,g⟩ true)(hx:evl K S x=v)(hc:yR n v=some c)(hN:Nat.blt d K.N=true)
  (k:ay K ops rest Q (S.put d (.con (.iface T c)))):ay K ops (⟨some d,.makeInterface T x,ty,pos,after,g⟩::rest) Q S:=
 aX _ hw hN (fun m β w a r=>by
  have:=r.reads x;rw[hx] at this;have:=B3 hc this;exact⟨.iface T c,by simp_all[execOp,Go.run_makeInterface],.imm (.con _)⟩) k
def Po(t:TT)(e:cc):Op->Option (Nat×List V)
 | .call c=>(match c.callee with
  | .invoke x name=>(match eA e x with
   |some (.con (.iface T v))=>(match du t T (TF.qM name) with
    |some f=>(match IC e c.args.toList with
     |some vs=>(match C3 (OW v::vs) with|some r=>some (f,r)|none=>none)
     |none=>none)
    |none=>none)
   |_=>none)
  | .value x=>(match eA e x with
   |some (.con (.func (.method name) first caps))=>(match first.toList,caps.toList with
    |[.iface T v],[]=>(match du t T (TF.qM name) with
     |some f=>(match IC e c.args.toList with
      |some vs=>(match C3 (OW v::vs) with|some r=>some (f,r)|none=>none)
      |none=>none)
     |none=>none)
    |_,_=>none)
   |_=>none)
  |_=>none)
 |_=>none
theorem Gp{e:cc}(ha:Ag e S):∀{l:List Operand} {vs:List V},IC e l=some vs->vs=l.map (evl K S):=fun h=>(sW ha h).symm
theorem GD(ht:cK K.P t){e:cc}(ha:Ag e S){o:Oper}{f:Nat}{avs:List V}(h:Po t e o.op=some (f,avs)):
  ∀m β w a,bX K m β w a S->∃vs:Array Value,(execOp a.eval o).run K.P w=.ok (.enter f vs) w/\iY m β avs vs:=by
 obtain⟨dst,op,ty',pos,after,g⟩:=o;cases op<;>simp_all[Po];rename_i c;obtain⟨callee,args,at'⟩:=c;simp only at h;split at h
 ·rename_i x name;split at h
  ·rename_i T v hx;split at h
   ·rename_i f' hm;split at h
    ·rename_i vs hv;split at h
     ·rename_i q hq;simp only[ax9,Prod.mk.injEq] at h;obtain⟨rfl,rfl⟩:=h;have hq:=jx hq;have hv:=Gp (K:=K) ha hv;have hmm:=(LK ht hm).1;subst hq;intro m β w a r;have hr:=r.con (aW (K:=K) ha hx);refine⟨#[v]++args.map a.eval,?_,?_⟩
      ·have:(execOp a.eval ⟨dst,.call ⟨.invoke x name,args,at'⟩,ty',pos,after,g⟩)=callMethod (.iface T v) name (args.map a.eval):=by
        simp only[execOp,resolve,hr,pure_bind]
        show invoke (.fn (.method name) #[]) (#[Value.iface T v]++args.map a.eval)=_
        simp only[invoke];rw[show(#[Value.iface T v]++args.map a.eval)[0]? = some (Value.iface T v) by grind];simp only
        congr 1
        apply as8;simp;exact List.take_of_length_le (by simp)
       grind
      ·refine⟨by grind,fun i c u h1 h2=>?_⟩;cases i with
       |zero=>
        grind [D7]
       |succ i=>
        simp only[bt9,hv,az8,ae8] at h1;rw[aw8 (by simp)] at h2;simp only[bn8,bx9,bs9,ce9,bv8,cb8] at h2;cases ho:args[i]? with
        |none=>grind
        |some y=>
         rw[ho] at h1 h2;simp at h1 h2;subst h1;subst h2;exact r.reads y
     grind
    grind
   grind
  grind
 ·rename_i x;split at h
  ·rename_i name first caps hx
   split at h
   ·rename_i T v hf1 hc1;have hf1:=fi hf1;have hc1:=iE hc1;subst hf1 hc1;split at h
    ·rename_i f' hm;split at h
     ·rename_i vs hv;split at h
      ·rename_i q hq;simp only[ax9,Prod.mk.injEq] at h;obtain⟨rfl,rfl⟩:=h;have hq:=jx hq;have hv:=Gp (K:=K) ha hv;have hmm:=(LK ht hm).1;subst hq;intro m β w a r;have hr:=r.con (aW (K:=K) ha hx);refine⟨#[v]++args.map a.eval,?_,?_⟩
       ·have:(execOp a.eval ⟨dst,.call ⟨.value x,args,at'⟩,ty',pos,after,g⟩)=callMethod (.iface T v) name (args.map a.eval):=by
         simp only[execOp,resolve,hr,Deferred.ofValue,pure_bind]
         show invoke (.fn (.method name) #[]) (#[Value.iface T v]++args.map a.eval)=_
         simp only[invoke];rw[show(#[Value.iface T v]++args.map a.eval)[0]? = some (Value.iface T v) by grind];simp only
         congr 1
         apply as8;simp;exact List.take_of_length_le (by simp)
        grind
       ·refine⟨by grind,fun i c u h1 h2=>?_⟩;cases i with
        |zero=>
         grind [D7]
        |succ i=>
         simp only[bt9,hv,az8,ae8] at h1;rw[aw8 (by simp)] at h2;simp only[bn8,bx9,bs9,ce9,bv8,cb8] at h2;cases ho:args[i]? with
         |none=>grind
         |some y=>
          rw[ho] at h1 h2;simp at h1 h2;subst h1;subst h2;exact r.reads y
      grind
     grind
    grind
   grind
  grind
 grind
theorem yY{d:Nat}{name:String}{x:Operand}{iv:Value}(hw:aN ops S ⟨some d,.makeFunc (.method name) #[x] #[],ty,pos,after,g⟩ true)(hx:evl K S x=.con iv)(hN:Nat.blt d K.N=true)
  (k:ay K ops rest Q (S.put d (.con (.func (.method name) #[iv] #[])))):ay K ops (⟨some d,.makeFunc (.method name) #[x] #[],ty,pos,after,g⟩::rest) Q S:=
 aX _ hw hN (fun m β w a r=>⟨.func (.method name) #[iv] #[],by simp only[execOp];exact bk (by simp[Instr.makeFunc,pure,r.con hx]),.imm (.con _)⟩) k
theorem wW{d:Nat}{name:String}{x:Operand}{T:TypeId}{v:Value}(hT:∀(v:Value) (w:World),(nilAhead (K.P.types.size+Made.depth) T v name).run K.P w=.ok (some false) w)(hw:aN ops S ⟨some d,.nilCheck x,ty,pos,after,g⟩ true)(hx:evl K S x=.con (.func (.method name) #[.iface T v] #[]))(hN:Nat.blt d K.N=true)
  (k:ay K ops rest Q (S.put d (.con (.func (.method name) #[.iface T v] #[])))):ay K ops (⟨some d,.nilCheck x,ty,pos,after,g⟩::rest) Q S:=
 aX _ hw hN (fun m β w a r=>⟨.func (.method name) #[.iface T v] #[],by
  simp only[execOp,r.con hx]
  simp_all,.imm (.con _)⟩) k
theorem rY{P:Program}{w:World}{T:TypeId}{x y:Operand}(neg:Bool)(hT:xO P T=true)(b:Option Nat):
      (do eqGuard (if neg then .neq else .eql) T x y (.map b) (.map none);binOp (if neg then .neq else .eql) T (.map b) (.map none):Sem Value).run P w=.ok (.bool (if neg then !b.isNone else b.isNone)) w:=by
  obtain⟨k,e,hu⟩:∃k e,P.underlying T=some (.map k e):=by
    grind [xO]
  have hd:(10000:Nat)=9999+1:=rfl
  have hg:∀op:BinOp,(eqGuard op T x y (.map b) (.map none)).run P w=.ok () w:=by
    intro op;unfold eqGuard;simp_all
  have hq:(Op.equal T (.map b) (.map none)).run P w=.ok b.isNone w:=by
    rw[Op.equal,Op.maxDepth,hd,Op.equalIn];simp only[Sem.run_bind,run_underlying hu,Result.andThen_ok];cases b<;>rfl
  rw[Sem.run_bind,hg,Result.andThen_ok];cases neg<;>simp_all[binOp]
def Ai:V->Option Bool
 | .con (.map none)=>some true
 | .map _=>some false
 |_=>none
theorem qp{d:Nat}{x y:Operand}{T T':TypeId}{v:V}{b:Bool}(neg:Bool)(hT:xO K.P T=true)(hw:aN ops S ⟨some d,.binOp (if neg then .neq else .eql) T x y T',ty,pos,after,g⟩ true)
  (hx:evl K S x=v) (hv:Ai v=some b) (hy:evl K S y=.con (.map none)) (hN:Nat.blt d K.N=true)
  (k:ay K ops rest Q (S.put d (.con (.bool (if neg then !b else b))))):ay K ops (⟨some d,.binOp (if neg then .neq else .eql) T x y T',ty,pos,after,g⟩::rest) Q S:=
 aX _ hw hN (fun m β w a r=>by
  have h:=r.reads x;rw[hx] at h
  have key:∃o,a.eval x=.map o/\o.isNone=b:=by
   generalize a.eval x=u at h;unfold Ai at hv;split at hv
   ·simp at hv;subst hv;exact⟨none,h.of_con,Y⟩
   ·simp at hv;subst hv;cases h with
    |imm h=>cases h
    |map hb=>grind
   ·simp at hv
  obtain⟨o,ho,hb⟩:=key;have hr:=rY (P:=K.P) (w:=w) (x:=x) (y:=y) neg hT o;refine⟨.bool (if neg then !b else b),?_,.imm (.con _)⟩;simp only[execOp,ho,r.con hy]
  grind [bk]) k
end
structure aU where
 row:List V
 imm:cv row
 one:row.all dF=true
structure KV where
 t:Nat
 d:V
def KV.enc(x:KV):List V:=[.ifc x.t x.d]
theorem aU.ext'{a b:aU}(h:a.row=b.row):a=b:=by cases a<;>simp_all
theorem KV.enc_imm(x:KV):cv x.enc:=fun c hc=>by
 simp_all[KV.enc,aw.ifc]
theorem KV.enc_one(x:KV):x.enc.all dF=true:=rfl
section
variable{τ R:Type}
open Classical in
noncomputable def er(enc:τ->List V)(x:aU):Option τ:=if h:∃y,enc y=x.row then some h.choose else none
theorem u4{enc:τ->List V}{x:aU}{y:τ}(h:er enc x=some y):x.row=enc y:=by
 unfold er at h;split at h<;>grind
theorem BM{enc:τ->List V}(inj:∀a b,enc a=enc b->a=b){x:aU}{y:τ}(h:x.row=enc y):er enc x=some y:=by
 unfold er;have hx:∃y,enc y=x.row:=⟨y,h.symm⟩
 grind
open Classical in
noncomputable def gJ(enc:τ->List V)(T:Nat)(x:KV):Option τ:=if h:∃y,x.t=T/\x.d=.agg (enc y) then some h.choose else none
theorem ut{enc:τ->List V}{T:Nat}{x:KV}{y:τ}(h:gJ enc T x=some y):x.t=T/\x.d=.agg (enc y):=by
 unfold gJ at h;split at h<;>grind
theorem HI{enc:τ->List V}(inj:∀a b,enc a=enc b->a=b){T:Nat}{x:KV}{y:τ}(h:x.t=T)(h':x.d=.agg (enc y)):gJ enc T x=some y:=by
 unfold gJ;have hx:∃y,x.t=T/\x.d=.agg (enc y):=⟨y,h,h'⟩;rw[dif_pos hx]
 grind
theorem HH{enc:τ->List V}{T:Nat}{x:KV}(h:x.t≠T):gJ enc T x=none:=by
 simp_all[gJ]
def tP(T:Nat)(enc:τ->List V)(y:τ):KV:=⟨T,.agg (enc y)⟩
def H7(o:Option τ)(f:τ->Option R)(g:Option R):Option R:=match o with|some y=>f y|none=>g
theorem JR{o:Option τ}{f:τ->Option R}{g:Option R}{r:R}{P:Prop}(h:H7 o f g=some r)(k1:∀y,o=some y->f y=some r->P)(k2:g=some r->P):P:=by
 cases o with
 |none=>exact k2 h
 |some y=>exact k1 y rfl h
end
section
variable{K:cR}{Q:ca}{S:St}{s:List It}
variable{ops:Array Oper}{l rest:List Oper}{ty:TypeId}{pos:String}{after:Array Edge}{g:Option (Nat×Bool)}
theorem C0(t:Nat){v v':V}(ht:get S.env t=v)(h:v=v'):aY K S ⟨(t,v')::S.env,S.hp,S.nx⟩:=by
 grind [aY.env,get,Nat.eq_of_beq_eq_true]
theorem gM{τ:Type}{enc:τ->List V}{x:aU}{y:τ}(t:Nat)(h:er enc x=some y)(ht:pf S.env t=some (.iptr x.row 0))(k:WG K Q (.o ops l::s) ⟨(t,.iptr (enc y) 0)::S.env,S.hp,S.nx⟩):WG K Q (.o ops l::s) S:=
 rL (.inr ⟨_,_,rfl⟩) (C0 t (dN ht) (by rw[u4 h])) k
theorem eC{d:Nat}{T:TypeId}{x:Operand}{v:V}(hT:K.P.concrete T=true)(hw:aN ops S ⟨some d,.makeInterface T x,ty,pos,after,g⟩ true)(hx:evl K S x=v)(hi:aw v)(hN:Nat.blt d K.N=true)
  (k:ay K ops rest Q (S.put d (.ifc T v))):ay K ops (⟨some d,.makeInterface T x,ty,pos,after,g⟩::rest) Q S:=
 aX _ hw hN (fun m β w a r=>by
  have:=r.reads x;rw[hx] at this;exact⟨.iface T (a.eval x),by simp_all[execOp,Go.run_makeInterface],.imm (.ifc (hi.2 _ _ _ this))⟩) k
theorem za{d f:Nat}{T:TypeId}{x:Operand}{name:String}{args:Array Operand}{at':Array TypeId}{dv dr:V}{avs:List V}(hm:∀(v:Value) (args:Array Value) (w:World),(callMethod (.iface T v) name args).run K.P w=.ok (.enter f (#[v]++args)) w)
  (hw:aN ops S ⟨some d,.call ⟨.invoke x name,args,at'⟩,ty,pos,after,g⟩ true) (hx:evl K S x=.ifc T dv) (ha:args.toList.map (evl K S)=avs) (hi:cv avs) (hc:dY K.gl K.P f (dv::avs) dr) (hN:Nat.blt d K.N=true)
  (kk:ay K ops rest Q (S.put d dr)):ay K ops (⟨some d,.call ⟨.invoke x name,args,at'⟩,ty,pos,after,g⟩::rest) Q S:=by
 refine iW hw Y hN (fun m β w a r=>?_) hc kk;have hr:=r.reads x;rw[hx] at hr
 obtain⟨v,hv,hd⟩:∃v,a.eval x=.iface T v/\bN m dv v:=by
  generalize a.eval x=u at hr;cases hr with
  |imm h=>cases h with|ifc h=>grind
 refine⟨#[v]++args.map a.eval,?_,?_⟩
 ·have:(execOp a.eval ⟨some d,.call ⟨.invoke x name,args,at'⟩,ty,pos,after,g⟩)=callMethod (.iface T v) name (args.map a.eval):=by
   simp only[execOp,resolve,hv,pure_bind]
   show invoke (.fn (.method name) #[]) (#[Value.iface T v]++args.map a.eval)=_
   simp only[invoke];rw[show(#[Value.iface T v]++args.map a.eval)[0]? = some (Value.iface T v) by grind];simp only
   congr 1
   apply as8;simp;exact List.take_of_length_le (by simp)
  grind
 ·refine⟨by grind,fun i c u h1 h2=>?_⟩;cases i with
  |zero=>
   grind
  |succ i=>
   rw[bt9] at h1;have h1':=h1;rw[<-ha,az8,ae8] at h1;rw[aw8 (by simp)] at h2;simp only[bn8,bx9,bs9,ce9,bv8,cb8] at h2;cases ho:args[i]? with
   |none=>grind
   |some y=>
    rw[ho] at h1 h2;simp at h1 h2;subst h2;exact(hi.get h1').2 m β _ (h1 ▸ r.reads y)
end
theorem yx{τ:Type}{enc:τ->List V}{xs:List aU}{n:Int}{x:aU}{y:τ}(h:ct xs n=some x)(hy:er enc x=some y):(xs.map aU.row)[n.toNat]? = some (enc y):=by
 rw[<-u4 hy];exact g7 aU.row h
instance:EI aU.row:=⟨aU.imm,aU.one⟩
instance:EI KV.enc:=⟨KV.enc_imm,KV.enc_one⟩
def qv(gl:Gl)(P:Program)(name:String)(k:KV)(avs:List V)(dr:V):Prop:=
 ∃f:FuncId,(∀(v:Value) (args:Array Value) (w:World),(callMethod (.iface k.t v) name args).run P w=.ok (.enter f (#[v]++args)) w)/\dY gl P f (k.d::avs) dr
theorem jj{gl:Gl}{P:Program}{name:String}{k:KV}{avs:List V}{dr:V}{τ:Type}{enc:τ->List V}{T f:Nat}{y:τ}(hm:∀(v:Value) (args:Array Value) (w:World),(callMethod (.iface T v) name args).run P w=.ok (.enter f (#[v]++args)) w)
  (hy:gJ enc T k=some y) (hc:dY gl P f (V.agg (enc y)::avs) dr):qv gl P name k avs dr:=by
 obtain⟨h1,h2⟩:=ut hy;exact⟨f,by grind,by grind⟩
section
variable{K:cR}{Q:ca}{S:St}
variable{ops:Array Oper}{l rest:List Oper}{ty:TypeId}{pos:String}{after:Array Edge}{g:Option (Nat×Bool)}
theorem wX{d:Nat}{T:TypeId}{name:String}{x:Operand}{dv:V}(hw:aN ops S ⟨some d,.makeFunc (.method name) #[x] #[],ty,pos,after,g⟩ true)(hx:evl K S x=.ifc T dv)(hN:Nat.blt d K.N=true)
  (k:ay K ops rest Q (S.put d (.fn (.method name) [.ifc T dv] []))):ay K ops (⟨some d,.makeFunc (.method name) #[x] #[],ty,pos,after,g⟩::rest) Q S:=
 aX _ hw hN (fun m β w a r=>by
  have hr:=r.reads x;rw[hx] at hr;refine⟨.func (.method name) #[a.eval x] #[],by simp_all[execOp,Instr.makeFunc],.imm (.fn Y Y (fun i c v h1 h2=>?_) (fun i c v h1 h2=>by simp at h1))⟩;cases i with
  |zero=>
   simp at h1 h2;subst h1;subst h2;generalize a.eval x=u at hr;cases hr<;>simp_all
  |succ i=>simp at h1) k
theorem uf{d:Nat}{name:String}{x:Operand}{T:TypeId}{dv:V}(hT:∀(v:Value) (w:World),(nilAhead (K.P.types.size+Made.depth) T v name).run K.P w=.ok (some false) w)(hw:aN ops S ⟨some d,.nilCheck x,ty,pos,after,g⟩ true)
  (hx:evl K S x=.fn (.method name) [.ifc T dv] []) (hN:Nat.blt d K.N=true)
  (k:ay K ops rest Q (S.put d (.fn (.method name) [.ifc T dv] []))):ay K ops (⟨some d,.nilCheck x,ty,pos,after,g⟩::rest) Q S:=
 aX _ hw hN (fun m β w a r=>by
  have hr:=r.reads x;rw[hx] at hr;have hr2:=hr
  obtain⟨v,hv⟩:∃v,a.eval x=.func (.method name) #[.iface T v] #[]:=by
   generalize a.eval x=u at hr
   have key:∀(fs cs:Array Value),1=fs.size->0=cs.size->(∀(i:Nat) (c:V) (v:Value),[V.ifc T dv][i]? = some c->fs[i]? = some v->br m β c v)->∃v,(Value.func (.method name) fs cs)=.func (.method name) #[.iface T v] #[]:=by
    intro fs cs h1 h2 h3;obtain⟨l⟩:=fs;obtain⟨l2⟩:=cs
    match l,l2,h1,h2 with
    |[y],[],_,_=>
     have:=h3 0 _ y rfl rfl;cases this with
     |imm h=>cases h with|ifc h=>grind
   cases hr with
   |imm h=>cases h with|fn h1 h2 h3 h4=>exact key _ _ h1 h2 (fun i c v a b=>.imm (h3 i c v a b))
   |fn h1 h2 h3 h4=>grind
  simp_all[execOp]) k
theorem dP{d:Nat}{k:KV}{x:Operand}{name:String}{args:Array Operand}{at':Array TypeId}(dr:V)(avs:List V)
  (hw:aN ops S ⟨some d,.call ⟨.invoke x name,args,at'⟩,ty,pos,after,g⟩ true) (hx:evl K S x=.ifc k.t k.d) (ha:args.toList.map (evl K S)=avs) (hi:cv avs) (hc:qv K.gl K.P name k avs dr) (hN:Nat.blt d K.N=true)
  (kk:ay K ops rest Q (S.put d dr)):ay K ops (⟨some d,.call ⟨.invoke x name,args,at'⟩,ty,pos,after,g⟩::rest) Q S:=by
 obtain⟨f,hm,hc⟩:=hc<;>grind [za]
end
inductive rc(x:Value):List (Value×V)->List (Value×V)->Prop
 |nil:rc x [] []
 |here {v:V} {es:List (Value×V)}:rc x ((x,v)::es) es
 |there {k:Value} {v:V} {es es':List (Value×V)} (h:k≠x) (h':rc x es es'):rc x ((k,v)::es) ((k,v)::es')
theorem rc.none_of{x:Value}{es es':List (Value×V)}(h:rc x es es')(hn:∀p,p∈es->p.1≠x):es'=es:=by
 induction h<;>simp_all
theorem rc.some_of{x:Value}{es es':List (Value×V)}(h:rc x es es'):∀(j:Nat) (v':V),es[j]? = some (x,v')->(∀i p,i<j->es[i]? = some p->p.1≠x)->es'=es.eraseIdx j:=by
 induction h with
 |nil=>grind
 |here=>
  intro j v' hj hi;cases j with
  |zero=>rfl
  |succ j=>exact absurd rfl (hi 0 _ (by omega) rfl)
 |there h _ ih=>
  intro j v' hj hi;cases j<;>grind
def di{α β:Type}[DecidableEq α]:List (α×β)->α->List (α×β)
 |[],_=>[]
 |p::r,k=>if p.1=k then r else p::di r k
theorem yP{α β:Type}[DecidableEq α]{kv:α->Value}{ev:β->V}(hinj:∀a b,kv a=kv b->a=b)(xs:List (α×β))(k:α):rc (kv k) (xs.map fun p=>(kv p.1,ev p.2)) ((di xs k).map fun p=>(kv p.1,ev p.2)):=by
 induction xs with
 |nil=>exact .nil
 |cons p xs ih=>
  rw[di];by_cases h:p.1=k
  ·rw[if_pos h,bm9,h];exact .here
  ·rw[if_neg h,bm9,bm9];exact .there (fun e=>h (hinj _ _ e)) ih
theorem AH{α:Type}{e:α}{l L:List α}{j k:Nat}(h:l.Perm L)(h1:l[j]? = some e)(h2:L[k]? = some e):(l.eraseIdx j).Perm (L.eraseIdx k):=
 ((fw e l j h1).symm.trans (h.trans (fw e L k h2))).cons_inv
theorem AW.erase{E:Array MapEntry}{clock j:Nat}(q:AW E clock):AW (E.eraseIdxIfInBounds j) clock:=by
 have e:(E.eraseIdxIfInBounds j).toList=E.toList.eraseIdx j:=by simp
 refine⟨?_,fun x hx=>?_,?_⟩
 ·rw[e];exact((List.eraseIdx_sublist ..).map _).nodup q.born
 ·rw[e] at hx;exact q.lt x ((List.eraseIdx_sublist ..).mem hx)
 ·rw[e];exact((List.eraseIdx_sublist ..).map _).nodup q.key
section
variable{K:cR}{Q:ca}{S:St}
variable{ops:Array Oper}{rest:List Oper}{ty:TypeId}{pos:String}{after:Array Edge}{g:Option (Nat×Bool)}
theorem iS{T k e Tk:TypeId}{x y:Operand}{good:Value->Prop}{kv:Value}{id:Nat}{es:List (Value×V)}(es':List (Value×V))(hT:eh K.P T k e=true)(hK:ja K.P k good)
  (hw:aN ops S ⟨none,.call ⟨.builtin .delete,#[x,y],#[T,Tk]⟩,ty,pos,after,g⟩ true) (hx:evl K S x=.map id) (ho:ak S.hp id=.map es) (hy:fg K S y kv) (hg:good kv) (hges:∀p,p∈es->good p.1)
  (hp:rc kv es es') (kk:ay K ops rest Q ⟨S.env,(id,.map es')::S.hp,S.nx⟩):ay K ops (⟨none,.call ⟨.builtin .delete,#[x,y],#[T,Tk]⟩,ty,pos,after,g⟩::rest) Q S:=by
 refine cm hw (fun m β w a r=>?_) kk;have h:=r.reads x;rw[hx] at h;generalize hv:a.eval x=v at h;cases h with
 |imm h=>cases h
 | @map _ b cap hb=>
 have h0:=r.own id;rw[hb,ho] at h0;obtain⟨ents,clock,bl,⟨E,e2,eP,eW⟩,e3,eB,e4⟩:=h0;have hobj:(getObj b).run K.P w=.ok (.map E clock) w:=by simp[getObj,Sem.run,e2]
 have hset:∀o,(setObj b o).run K.P w=.ok () { w with heap:=w.heap.setIfInBounds b o }:=by intro o;simp[setObj,Sem.run,e2]
 have hbl:=bD e2
 have heap':∀o b',b'≠b->({ w with heap:=w.heap.setIfInBounds b o }:World).heap[b']? = w.heap[b']?:=by
  intro o b' hne;simp only[bq8];grind
 have self':∀o,({ w with heap:=w.heap.setIfInBounds b o }:World).heap[b]? = some o:=by
  intro o;simp[hbl]
 rcases sO hK hg e3 (fun i p e a b=>(e4 i p e a b).1) hges eP eW (w:=w) with ⟨a1,a2,aK⟩|⟨j,p,en,jE,a1,a2,a3,a4,a5,aE⟩
 ·have hes:=hp.none_of a2
  refine⟨.tuple #[],{ w with heap:=w.heap.setIfInBounds b (.map E clock) },m,β,.inl ?_,
   r.update (by grind) hb _ (.map es') (heap' _) (by simp) ⟨rfl,rfl,rfl,trivial⟩ (fun hkeep=>⟨ents,_,bl,⟨_,self' _,eP,eW⟩,by grind,eB,fun i p e hi he=>?_⟩)⟩
  ·refine dK Y ?_
   have hd:(Builtin.delete_ #[T,Tk] ty #[a.eval x,a.eval y]).run K.P w=.ok (.tuple #[]) { w with heap:=w.heap.setIfInBounds b (.map E clock) }:=by
    rw[hv,hy.read r];simp only[Builtin.delete_,bh8,bo9,bt9,Sem.run_bind,run_underlying (cU hT),Result.andThen_ok,hobj,hK.check _ w kv hg,a1,hset];rfl
   simp_all[builtin]
  ·rw[hes] at hi;exact⟨(e4 i p e hi he).1,(e4 i p e hi he).2.mono (bB.le_refl _) (ba.le_refl _) (fun _ h=>h) (fun x hx=>hkeep x (eB.1 _ x hx))⟩
 ·have hpp:p=(kv,p.2):=by rw[<-a4]
  rw[hpp] at a3;have hes:=hp.some_of j p.2 a3 a5;have ej:(ents.eraseIdxIfInBounds j).toList=ents.toList.eraseIdx j:=by simp
  have eE:(E.eraseIdxIfInBounds jE).toList=E.toList.eraseIdx jE:=by simp
  refine⟨.tuple #[],{ w with heap:=w.heap.setIfInBounds b (.map (E.eraseIdxIfInBounds jE) clock) },m,β,.inl ?_,
   r.update (by grind) hb _ (.map es') (heap' _) (by simp) ⟨rfl,rfl,rfl,trivial⟩ (fun hkeep=>⟨ents.eraseIdxIfInBounds j,_,fun q=>bl (if q<j then q else q+1),⟨_,self' _,by grind [AH],eW.erase⟩,?_,⟨fun q y hy=>eB.1 _ y hy,fun q q' y h1 h2=>?_⟩,fun i p e hi he=>?_⟩)⟩
  ·refine dK Y ?_
   have hd:(Builtin.delete_ #[T,Tk] ty #[a.eval x,a.eval y]).run K.P w=.ok (.tuple #[]) { w with heap:=w.heap.setIfInBounds b (.map (E.eraseIdxIfInBounds jE) clock) }:=by
    rw[hv,hy.read r];simp only[Builtin.delete_,bh8,bo9,bt9,Sem.run_bind,run_underlying (cU hT),Result.andThen_ok,hobj,hK.check _ w kv hg,a1,hset];rfl
   simp only[builtin,bl8,bm9,ap8,Sem.run_bind];rw[hd];rfl
  ·grind
  ·have:=eB.2 _ _ y h1 h2
   grind
  ·rw[hes,List.getElem?_eraseIdx] at hi;have h2:(ents.eraseIdxIfInBounds j).toList[i]? = some e:=by rw[ae8];exact he
   rw[ej,List.getElem?_eraseIdx] at h2
   have he':ents[if i<j then i else i+1]? = some e:=by
    by_cases hij:i<j
    ·grind
    ·grind
   have hi':es[if i<j then i else i+1]? = some p:=by
    by_cases hij:i<j
    ·grind
    ·grind
   exact⟨(e4 _ p e hi' he').1,(e4 _ p e hi' he').2.mono (bB.le_refl _) (ba.le_refl _) (fun _ h=>h) (fun x hx=>hkeep x (eB.1 _ x hx))⟩
end
end Go.Pv
namespace Go.Pv
open Go
section
variable{K:cR}{Q:ca}{S:St}
variable{ops:Array Oper}{rest:List Oper}
theorem GS{E:Array MapEntry}{j:Nat}(f g h:MapEntry->MapEntry)(hh:∀e,g (f e)=h e):(E.modify j f).modify j g=E.modify j h:=by
 apply Array.ext_getElem?;intro i;simp only[bp9];split
 ·rw[Option.map_map];congr 1;funext e;exact hh e
 ·rfl
theorem wV{E:Array MapEntry}{x:MapEntry}(f:MapEntry->MapEntry):(E.push x).modify E.size f=E.push (f x):=by
 apply Array.ext_getElem?;intro i;simp only[bp9,bp8];by_cases h:E.size=i
 ·subst h;simp
 ·rw[if_neg h,if_neg (Ne.symm h),if_neg (Ne.symm h)]
theorem Ac{E:Array MapEntry}{clock i j:Nat}{e e':MapEntry}(q:AW E clock)(hi:E[i]? = some e)(hj:E[j]? = some e')(h:e.born=e'.born):i=j:=by
 have e1:(E.toList.map (·.born))[i]? = some e.born:=by simp[hi]
 have e2:(E.toList.map (·.born))[j]? = some e.born:=by simp[hj,h]
 exact(bq9 (bd9.1 e1).1 q.born).1 (e1.trans e2.symm)
end
section
variable{κ γ α:Type}[DecidableEq κ]
section
variable{K:cR}{Q:ca}{S:St}
end
end
end Go.Pv
namespace Go.Pv
open Go
theorem bv{α:Type}{enc:α->Value×V}[i:MR enc]{l:List α}:∀p,p∈l.map enc->dC p.2:=by
 intro p hp;obtain⟨x,_,rfl⟩:=bf9.1 hp;exact i.h x
end Go.Pv
namespace Go.Pv
open Go
theorem Cr{FF:Fence}{P:Program}{l:List Oper}{Q:Exit->Act->World->Prop}(I:(Nat->Bool)->Act->World->Prop)(hpre:∀(i:Nat) (o:Oper),l[i]? = some o->∀j,j∈eZ o->j<i)
  (hstep:∀(s:Nat->Bool) (i:Nat) (o:Oper) (a:Act) (w:World) (K':Act->World->Prop),l[i]? = some o->s i=false->(∀j,j∈eZ o->s j=true)->I s a w->(∀a w,I (fun j=>if j=i then true else s j) a w->K' a w)->wpOpIn FF 0 P l.toArray Q i K' a w)
  (hend:∀(s:Nat->Bool) (a:Act) (w:World),(∀i,i<l.length->s i=true)->I s a w->Q .normal a w):
  ∀(fuel:Nat) (listed:Array Bool) (a:Act) (w:World),listed.size=l.length->fuel+(listed.toList.filter id).length=l.length->I (fun i=>listed.getD i false) a w->wpAnyIn FF 0 P .any l.toArray Q fuel listed a w:=by
 have hready:∀(listed:Array Bool) i,i∈Region.ready .any l.toArray listed<->i<l.length/\listed.getD i true=false/\∃o,l[i]? = some o/\∀j,j∈eZ o->listed.getD j false=true:=by
  intro listed i;simp only[Region.ready,bz9,cl8,bn8,bh8,aq9,ar9];constructor
  ·rintro⟨h1,h2,h3⟩
   refine⟨h1,h2,l[i],az9 h1,fun j hj=>?_⟩;rw[az9 h1] at h3;simp only[ba8,bx8,bh9] at h3;simp only[eZ,bf9,bz9] at hj;obtain⟨e,⟨he,hb⟩,rfl⟩:=hj;obtain⟨k,hk,rfl⟩:=bj8 he;have:=h3 k (by simpa using hk);simp only[Array.getElem_toList] at hb ⊢
   simpa[hb] using this
  ·rintro⟨h1,h2,o,ho,h3⟩
   refine⟨h1,h2,?_⟩;rw[ho];simp only[ba8,bx8,bh9];intro k hk;by_cases hb:Region.binds .any o.after[k]=true
   ·have:=h3 o.after[k].on (by
     simp only[eZ,bf9,bz9];exact⟨o.after[k],⟨by simp,hb⟩,Y⟩)
    simp[hb,this]
   ·simp[Bool.eq_false_iff.2 hb]
 have none_ready:∀(listed:Array Bool),listed.size=l.length->Region.ready .any l.toArray listed=[]->∀i,i<l.length->listed.getD i false=true:=by
  intro listed hsz hr i
  induction i using Nat.strongRecOn with
  |_ i ih=>
   intro hi;cases hli:listed.getD i false with
   |true=>rfl
   |false=>
    exfalso
    have:i∈Region.ready .any l.toArray listed:=by
     rw[hready];refine⟨hi,?_,l[i],az9 hi,fun j hj=>?_⟩
     ·have hi':i<listed.size:=by omega
      simp only[bm8,bb8 hi',bx8] at hli ⊢;exact hli
     ·have:=hpre i _ (az9 hi) j hj;exact ih j this (by omega)
    rw[hr] at this;simp at this
 intro fuel
 induction fuel with
 |zero=>
  intro listed a w hsz hcount hI
  have hfull:∀i,i<l.length->listed.getD i false=true:=by
   intro i hi;have h1:(listed.toList.filter id).length=listed.toList.length:=by simp only[bk8];omega
   have h2:=List.length_filter_eq_length_iff.1 h1;have hi':i<listed.size:=by omega
   have:=h2 listed[i] (by simp);simp only[bm8,bb8 hi',bx8];exact this
  refine⟨?_,hend _ a w hfull hI⟩;cases hrd:Region.ready .any l.toArray listed with
  |nil=>rfl
  |cons i is=>
   have:i∈Region.ready .any l.toArray listed:=by rw[hrd];simp
   rw[hready] at this;have h1:=hfull i this.1;have hi':i<listed.size:=by omega
   have h2:=this.2.1;simp only[bm8,bb8 hi',bx8] at h1 h2;rw[h1] at h2;simp at h2
 |succ fuel ih=>
  intro listed a w hsz hcount hI;refine⟨fun h0=>hend _ a w (none_ready listed hsz h0) hI,fun i hi=>?_⟩;obtain⟨h1,h2,o,ho,hpr⟩:=(hready listed i).1 hi;have hi':i<listed.size:=by omega
  have hfalse:listed[i]=false:=by
   simp only[bm8,bb8 hi',bx8] at h2;exact h2
  refine hstep (fun i=>listed.getD i false) i o a w _ ho (by simp[bm8,bb8 hi',hfalse]) hpr hI (fun a w hI'=>?_);refine ih _ a w (by simp[hsz]) ?_ ?_
  ·have:((listed.setIfInBounds i true).toList.filter id).length=(listed.toList.filter id).length+1:=by
    rw[Array.toList_setIfInBounds]
    have gen:∀(L:List Bool) (i:Nat) (h:i<L.length),L[i]=false->((L.set i true).filter id).length=(L.filter id).length+1:=by
     intro L
     induction L with
     |nil=>intro i h;simp at h
     |cons b L ihL=>
      intro i h hb;cases i with
      |zero=>simp at hb;subst hb;simp
      |succ i=>
       simp only[List.set_cons_succ,aa8];have:=ihL i (by simpa using h) (by simpa using hb);split<;>simp[this]
    exact gen listed.toList i (by simpa using hi') (by simpa using hfalse)
   omega
  ·have:(fun j=>(listed.setIfInBounds i true).getD j false)=fun j=>if j=i then true else listed.getD j false:=by
    funext j
    simp only[bm8,bq8];by_cases hji:i=j
    ·subst hji;simp[hi']
    ·simp[hji,Ne.symm hji]
   rw[this];exact hI'
section
variable{K:cR}{Q:ca}{s:List It}
end
end Go.Pv
