/- Part of the proof: P, R, S, U. -/
import Derived.Test.YtcihpgamojpcnaaGreatCutPvO
import Derived.Laws.StructEq
import Derived.Laws.Strings
import Derived.Lib.Strings
set_option linter.unusedSimpArgs false
namespace Go.Pv
open Go
section
variable{K:Ctx}{Q:q5q}{S S':St}{ops:Array Oper}{rest:List Oper}{op:Op}{ty:TypeId}{pos:String}{after:Array Edge}{g:Option (Nat×Bool)}
variable{m:Mem}{β:q4m}{w:World}{a:Act}
abbrev str(l:B8):Value:=.string ⟨l.toArray⟩
def y8s(op:BinOp)(a b:B8):Option Value:=
 match op with
 | .add=>if a.length+b.length<=9223372036854775807 then some (str (a++b)) else none
 | .eql=>some (.bool (a==b))
 | .neq=>some (.bool (!(a==b)))
 | .lss=>some (.bool (Op.bytesLess a b))
 | .leq=>some (.bool (Op.bytesLess a b||a==b))
 | .gtr=>some (.bool (!(Op.bytesLess a b||a==b)))
 | .geq=>some (.bool (!Op.bytesLess a b))
 |_=>none
theorem w8j{P:Program}{w:World}{op:BinOp}{T:TypeId}{x y:Operand}{a b:B8}{v:Value}(h:y8s op a b=some v):
  (do eqGuard op T x y (str a) (str b);binOp op T (str a) (str b):Sem Value).run P w=.ok v w:=by
 have hg:(eqGuard op T x y (str a) (str b)).run P w=.ok () w:=by
  unfold eqGuard;cases op<;>simp[pure]
 rw[Sem.run_bind,hg,Result.andThen_ok];cases op<;>simp only[y8s,reduceCtorEq,bc8] at h
 all_goals simp only[binOp,Op.stringOp,ByteArray.toList_mk]
 case add=>
  split at h
  ·rename_i hl;simp only[bc8] at h;subst h;rw[if_neg]
   ·have:(⟨a.toArray⟩:ByteArray)++⟨b.toArray⟩=⟨(a++b).toArray⟩:=by
     apply ByteArray.ext;simp
    rw[this];rfl
   ·have e1:(⟨a.toArray⟩:ByteArray).size=a.length:=by simp[ByteArray.size]
    have e2:(⟨b.toArray⟩:ByteArray).size=b.length:=by simp[ByteArray.size]
    rw[e1,e2];simp only[IntKind.max,IntKind.signed,IntKind.bits];simp;omega
  ·simp at h
 all_goals (subst h;rfl)
theorem w5g{d:Nat}{bop:BinOp}{x y:Operand}{T T':TypeId}{la lb:B8}(v:Value)(hw:q1h ops S ⟨some d,.binOp bop T x y T',ty,pos,after,g⟩ true)
  (hx:evl K S x=.con (str la)) (hy:evl K S y=.con (str lb)) (hv:y8s bop la lb=some v) (hN:Nat.blt d K.N=true)
  (k:q7g K ops rest Q (S.put d (.con v))):q7g K ops (⟨some d,.binOp bop T x y T',ty,pos,after,g⟩::rest) Q S:=
 q9g (.con v) hw hN (fun m β w a r=>⟨v,by
  simp only[execOp,r.con hx,r.con hy];exact q1f (w8j hv),.imm (.con v)⟩) k
theorem w4g{d:Nat}{x:Operand}{T:TypeId}{l:B8}(hT:j1w K.P T=true)
  (hw:q1h ops S ⟨some d,.call ⟨.builtin .len,#[x],#[T]⟩,ty,pos,after,g⟩ true) (hx:evl K S x=.con (str l)) (hN:Nat.blt d K.N=true)
  (kk:q7g K ops rest Q (S.put d (.con (.int .i64 l.length)))):
  q7g K ops (⟨some d,.call ⟨.builtin .len,#[x],#[T]⟩,ty,pos,after,g⟩::rest) Q S:=
 v7b hT hw hx hN (by have:(⟨l.toArray⟩:ByteArray).size=l.length:=(by simp[ByteArray.size]);rw[this];exact kk)
theorem v9l{d:Nat}{x y:Operand}{T:TypeId}{l:B8}{ik:IntKind}{n:Int}(b:UInt8)(hT:j1w K.P T=true)
  (hw:q1h ops S ⟨some d,.index T x y,ty,pos,after,g⟩ true) (hx:evl K S x=.con (str l)) (hy:evl K S y=.con (.int ik n)) (h0:0<=n) (hb:l[n.toNat]? = some b)
  (hN:Nat.blt d K.N=true) (kk:q7g K ops rest Q (S.put d (.con (.int .u8 b.toNat)))):
  q7g K ops (⟨some d,.index T x y,ty,pos,after,g⟩::rest) Q S:=
 q9g _ hw hN (fun m β w a r=>⟨.int .u8 b.toNat,by
  simp only[execOp,r.con hx,r.con hy];refine q1f ?_;simp only[Instr.index,asIntOf,Sem.run_bind,pure,Sem.run,Result.andThen_ok,run_underlying (j0w hT)];rw[if_pos h0]
  have:(⟨l.toArray⟩:ByteArray)[n.toNat]? = some b:=by
   have hl:n.toNat<(⟨l.toArray⟩:ByteArray).size:=by
    have:=(bi8.1 hb).1;simpa[ByteArray.size] using this
   rw[getElem?_pos (⟨l.toArray⟩:ByteArray) n.toNat hl];obtain⟨h1,h2⟩:=bi8.1 hb;rw[<-h2];rfl
  rw[this];rfl,.imm (.con _)⟩) kk
theorem q7o{d k:Nat}{x:Operand}{lo hi:Option Operand}{T:TypeId}{rows:List (List V)}(a0 b0:Nat)(rows':List (List V))(hT:z1s K.P T k=true)
  (hw:q1h ops S ⟨some d,.slice T x lo hi none,ty,pos,after,g⟩ true) (hx:evl K S x=.lst k rows)
  (hlo:match lo with|none=>a0=0|some y=>∃ik,evl K S y=.con (.int ik a0)) (hhi:match hi with|none=>b0=rows.length|some y=>∃ik,evl K S y=.con (.int ik b0))
  (h1:a0<=b0) (h2:b0<=rows.length) (hl:(rows.drop a0).take (b0 - a0)=rows') (hN:Nat.blt d K.N=true) (kk:q7g K ops rest Q (S.put d (.lst k rows'))):
  q7g K ops (⟨some d,.slice T x lo hi none,ty,pos,after,g⟩::rest) Q S:=
 q9g _ hw hN (fun m β w a r=>by
  obtain⟨e,i,hu,hi',hs⟩:=j0r hT;have hk:K.P.cellsOf e=k:=by simp[Program.cellsOf,hi',hs]
  have h:=r.reads x;rw[hx] at h
  have bnd:∀(n y:Nat) (c:BoundsCode) (ik:IntKind),n<=y->(Instr.sliceBound (.int ik n) y c).run K.P w=.ok n w:=by
   intro n y c ik h;simp only[Instr.sliceBound,asIntOf,Sem.run_bind,pure,Sem.run,Result.andThen_ok];rw[if_pos ⟨by omega,by omega⟩];simp
  have hb:∀cap,rows.length<=cap->(Instr.sliceBounds true rows.length cap (lo.map a.eval) (hi.map a.eval) none).run K.P w=.ok (a0,b0,cap) w:=by
   intro cap hcap;cases lo with
   |none=>
    simp only at hlo;subst hlo;cases hi with
    |none=>simp only at hhi;subst hhi;simp[Instr.sliceBounds,pure]
    |some y=>
     obtain⟨ik,hy⟩:=hhi;simp[Instr.sliceBounds,pure,r.con hy,bnd b0 cap _ ik (by omega)]
   |some z=>
    obtain⟨ik,hz⟩:=hlo;cases hi with
    |none=>simp only at hhi;subst hhi;simp[Instr.sliceBounds,pure,r.con hz,bnd a0 _ _ ik h1]
    |some y=>
     obtain⟨ik',hy⟩:=hhi;simp[Instr.sliceBounds,pure,r.con hz,r.con hy,bnd a0 _ _ ik h1,bnd b0 cap _ ik' (by omega)]
  have hrun:∀ad n cap,a.eval x=.slice ad n cap->n=rows.length->rows.length<=cap->
    (execOp a.eval ⟨some d,.slice T x lo hi none,ty,pos,after,g⟩).run K.P w=.ok (.value (.slice (if cap=a0 then ad else ad.map (·.add (a0*k))) (b0 - a0) (cap - a0))) w:=by
   intro ad n cap hv hn hcap;subst hn;simp only[execOp,hv];refine q1f ?_;simp only[Instr.sliceAt,Sem.run_bind,run_underlying hu,Result.andThen_ok,an9,Instr.slice,hb cap hcap,run_sizeOf w hi',hk];rfl
  generalize hv:a.eval x=v at h;cases h with
  |imm h=>
   cases h with
   |nil _ ad cap=>
    have:rows'=[]:=by rw[<-hl];simp
    subst this;simp only[cb9] at h2;have:b0 - a0=0:=by omega
    exact⟨_,hrun ad 0 cap hv rfl (by simp),by rw[this];exact .imm (.nil k _ _)⟩
   | @lst _ _ ad n cap arr T' fr f hm hsp hn hcap hbd hkk hf h=>
    subst hn;refine⟨_,hrun (some ad) _ cap hv rfl hcap,?_⟩;by_cases hc:cap=a0
    ·have h3:b0 - a0=0:=by omega
     have:rows'=[]:=by rw[<-hl,h3];simp
     subst this;rw[h3];exact .imm (.nil k _ _)
    ·rw[if_neg hc]
     have had:(some ad).map (·.add (a0*k))=some ⟨ad.block,ad.off+a0*k,none⟩:=by
      simp only[bg9];rw[z5j hsp,q4u]
     rw[had];have hlen:rows'.length=b0 - a0:=by rw[<-hl];simp;omega
     refine .imm (.lst (fun p=>f (a0*k+p)) hm rfl hlen (by omega) (by omega) (fun row hr=>hkk row (by rw[<-hl] at hr;exact ah9 (List.mem_of_mem_take hr))) ?_ ?_)
     ·intro p hp;simp only;rw[ah8];refine hf _ ?_
      calc a0*k+p<a0*k+rows'.length*k:=by omega
       _=(a0+rows'.length)*k:=by rw[ap8]
       _<=rows.length*k:=bk8 _ (by omega)
     ·intro i' j row c hi2 hj;rw[<-hl,bp9] at hi2;split at hi2
      ·rw[ba8] at hi2;have:=h (a0+i') j row c hi2 hj;rw[ap8,ah8] at this;exact this
      ·simp at hi2) kk
theorem v9b{d:Nat}{x:Operand}{src dst:TypeId}{k k':IntKind}{n:Int}(hd:K.P.underlying dst=some (.int k))(hs:∃t,K.P.underlying src=some t)
  (hw:q1h ops S ⟨some d,.convert src dst x,ty,pos,after,g⟩ true) (hx:evl K S x=.con (.int k' n)) (hN:Nat.blt d K.N=true)
  (kk:q7g K ops rest Q (S.put d (.con (.int k (k.wrap n))))):q7g K ops (⟨some d,.convert src dst x,ty,pos,after,g⟩::rest) Q S:=
 q9g _ hw hN (fun m β w a r=>⟨.int k (k.wrap n),by
  obtain⟨t,ht⟩:=hs;simp only[execOp,r.con hx];refine q1f ?_;simp only[convert,Sem.run_bind,run_underlying ht,run_underlying hd,Result.andThen_ok,Conv.intToInt];rfl,.imm (.con _)⟩) kk
theorem w1p{d:Nat}{x y:Operand}{T T':TypeId}{k:IntKind}{n n':Int}(hw:q1h ops S ⟨some d,.call ⟨.builtin .min,#[x,y],#[T,T']⟩,ty,pos,after,g⟩ true)
  (hx:evl K S x=.con (.int k n)) (hy:evl K S y=.con (.int k n')) (hN:Nat.blt d K.N=true) (kk:q7g K ops rest Q (S.put d (.con (.int k (if n'<n then n' else n))))):
  q7g K ops (⟨some d,.call ⟨.builtin .min,#[x,y],#[T,T']⟩,ty,pos,after,g⟩::rest) Q S:=
 q9g _ hw hN (fun m β w a r=>⟨_,q7u rfl (by
  simp only[builtin,bv8,bw9,av9,r.con hx,r.con hy];refine q1f (v:=.int k (if n'<n then n' else n)) ?_;simp[Builtin.min_,Builtin.min2,pure]),.imm (.con _)⟩) kk
theorem w2p{d:Nat}{x y:Operand}{T T':TypeId}{k:IntKind}{n n':Int}(hw:q1h ops S ⟨some d,.call ⟨.builtin .max,#[x,y],#[T,T']⟩,ty,pos,after,g⟩ true)
  (hx:evl K S x=.con (.int k n)) (hy:evl K S y=.con (.int k n')) (hN:Nat.blt d K.N=true) (kk:q7g K ops rest Q (S.put d (.con (.int k (if n'>n then n' else n))))):
  q7g K ops (⟨some d,.call ⟨.builtin .max,#[x,y],#[T,T']⟩,ty,pos,after,g⟩::rest) Q S:=
 q9g _ hw hN (fun m β w a r=>⟨_,q7u rfl (by
  simp only[builtin,bv8,bw9,av9,r.con hx,r.con hy];refine q1f (v:=.int k (if n'>n then n' else n)) ?_;simp[Builtin.max_,Builtin.max2,pure]),.imm (.con _)⟩) kk
theorem w3p{d:Nat}{x y:Operand}{T T':TypeId}{xs ys:List Value}{cx cy:List V}{b:Bool}(neg:Bool)(hm:K.P.eqGuardType K.P.depth T=false)
  (heq:∀w,(Op.equalIn 10000 T (.agg xs.toArray) (.agg ys.toArray)).run K.P w=.ok b w)
  (hw:q1h ops S ⟨some d,.binOp (if neg then .neq else .eql) T x y T',ty,pos,after,g⟩ true)
  (hx:evl K S x=.agg cx) (hy:evl K S y=.agg cy) (hcx:xs.map .con=cx) (hcy:ys.map .con=cy) (hN:Nat.blt d K.N=true)
  (k:q7g K ops rest Q (S.put d (.con (.bool (if neg then !b else b))))):q7g K ops (⟨some d,.binOp (if neg then .neq else .eql) T x y T',ty,pos,after,g⟩::rest) Q S:=
 q9g _ hw hN (fun m β w a' r=>⟨.bool (if neg then !b else b),by
  have h1:=r.reads x;rw[hx,<-hcx] at h1;have h2:=r.reads y;rw[hy,<-hcy] at h2;simp only[execOp,h1.conAgg,h2.conAgg];refine q1f ?_;rw[Sem.run_bind,run_eqGuard_agg _ _ _ _ _ _ _ hm,Result.andThen_ok];cases neg
  ·simp only[cy8,if_false,run_eql_struct,heq,Result.andThen_ok]
  ·simp only[if_true,run_neq_struct,heq,Result.andThen_ok],.imm (.con _)⟩) k
theorem v0m{d f off:Nat}{x:Operand}{T:TypeId}{cs:List V}(c:V)(hF:tyF K.P T f off=true)(hC:∃fs fl,K.P.underlying T=some (.struct fs)/\fs[f]? = some fl/\tyC K.P fl.type=true)
  (hw:q1h ops S ⟨some d,.field T x f,ty,pos,after,g⟩ true) (hx:evl K S x=.agg cs) (hc:cs[off]? = some c) (hN:Nat.blt d K.N=true)
  (kk:q7g K ops rest Q (S.put d c)):q7g K ops (⟨some d,.field T x f,ty,pos,after,g⟩::rest) Q S:=
 q9g _ hw hN (fun m β w a r=>by
  have h:=r.reads x;rw[hx] at h;obtain⟨fs,fl,hu,hf,hcell⟩:=hC
  have hoff:fl.offset=off:=by
   unfold tyF at hF;rw[hu] at hF;simp only[hf,av8,beq_iff_eq] at hF;exact hF.1
  have key:∃vs:Array Value,a.eval x=.agg vs/\∃v,vs[off]? = some v/\q8n m β c v:=by
   generalize a.eval x=u at h
   have get:∀vs:Array Value,cs.length=vs.size->∃v,vs[off]? = some v:=by
    intro vs hl;have:off<vs.size:=by rw[<-hl];exact(bi8.1 hc).1
    exact⟨vs[off],by simp[this]⟩
   cases h with
   |imm h=>cases h with
    |agg hl hh=>obtain⟨v,hv⟩:=get _ hl;exact⟨_,rfl,v,hv,.imm (hh _ _ _ hc hv)⟩
   |agg hl hh=>obtain⟨v,hv⟩:=get _ hl;exact⟨_,rfl,v,hv,hh _ _ _ hc hv⟩
  obtain⟨vs,e1,v,e2,e3⟩:=key;refine⟨v,?_,e3⟩;simp only[execOp,e1];refine q1f ?_;simp only[Instr.field,Sem.run_bind,run_underlying hu,Result.andThen_ok,hf,asAgg,pure,Sem.run,part,(j1c hcell w).1,cy8,if_false,hoff,e2]) kk
end
section
variable{K:Ctx}{Q:q5q}{S S':St}{ops:Array Oper}{rest:List Oper}{op:Op}{ty:TypeId}{pos:String}{after:Array Edge}{g:Option (Nat×Bool)}
variable{m:Mem}{β:q4m}{w:World}{a:Act}
abbrev iV(n:Int):V:=.con (.int .i64 n)
abbrev bV(b:Bool):V:=.con (.bool b)
abbrev sV(l:B8):V:=.con (str l)
abbrev nV:V:=.con (.slice none 0 0)
abbrev w64(n:Int):Int:=IntKind.wrap .i64 n
theorem v0v{c:Operand}{x y:Code}{b:Bool}(hc:evl K S c=.con (.bool b))(hb:b=true)(h:AWP K x Q S):AWP K (.cond c x y) Q S:=
 j3b b hc (fun _=>h) (fun hf=>by rw[hb] at hf;simp at hf)
theorem v1v{c:Operand}{x y:Code}{b:Bool}(hc:evl K S c=.con (.bool b))(hb:b=false)(h:AWP K y Q S):AWP K (.cond c x y) Q S:=
 j3b b hc (fun hf=>by rw[hb] at hf;simp at hf) (fun _=>h)
def jn{α β:Type}(k:α)(b:α->β):β:=b k
theorem w2o{α:Type}{p:Prop}[Decidable p]{x:Option α}{r:α}(h:(if p then x else none)=some r):p/\x=some r:=by
 split at h
 ·exact⟨‹_›,h⟩
 ·simp at h
theorem bind_some{α β:Type}{o:Option α}{f:α->Option β}{r:β}(h:o.bind f=some r):∃x,o=some x/\f x=some r:=Option.bind_eq_some_iff.1 h
def idx{α:Type}(xs:List α)(n:Int):Option α:=if 0<=n then xs[n.toNat]? else none
theorem q5c{α:Type}{xs:List α}{n:Int}{x:α}(h:idx xs n=some x):0<=n/\xs[n.toNat]? = some x:=by
 unfold idx at h;split at h
 ·exact⟨‹_›,h⟩
 ·simp at h
theorem j2t{α β:Type}{xs:List α}{n:Int}{x:α}(f:α->β)(h:idx xs n=some x):(xs.map f)[n.toNat]? = some (f x):=by
 rw[bf9,(q5c h).2];rfl
theorem z8o{α:Type}{xs:List α}{n:Int}{x:α}(h:idx xs n=some x):n.toNat<xs.length:=(bi8.1 (q5c h).2).1
theorem q0b{α:Type}{enc:α->List V}(h:∀x,q1t (enc x)){xs:List α}:∀row,row∈xs.map enc->q1t row:=by
 intro row hr;obtain⟨x,_,rfl⟩:=bk9.1 hr;exact h x
theorem q6v{α:Type}{enc:α->List V}(h:∀x,(enc x).all z3c=true){xs:List α}:∀row,row∈xs.map enc->row.all z3c=true:=by
 intro row hr;obtain⟨x,_,rfl⟩:=bk9.1 hr;exact h x
theorem q7v{α β:Type}(f:α->β)(xs ys:List α):xs.map f++ys.map f=(xs++ys).map f:=dc9.symm
theorem map_set{α β:Type}(f:α->β)(xs:List α)(i:Nat)(x:α):(xs.map f).set i (f x)=(xs.set i x).map f:=List.map_set.symm
theorem q4b.boxC{Y:Hy}{e k:Nat}{r r':List V}(hl:r.length=r'.length)(h:∀(j:Nat) c c',r[j]? = some c->r'[j]? = some c'->j7v Y c c'):q4b Y (.arr e k [r]) (.arr e k [r']):=by
 refine⟨rfl,rfl,rfl,fun i a b h1 h2=>?_⟩;cases i with
 |succ i=>simp at h1
 |zero=>
  simp at h1 h2;subst h1;subst h2;exact⟨hl,h⟩
theorem q4b.box{Y:Hy}{e k:Nat}{r r':List V}(h:j2q Y r r')(hd:ndB r'=true:=by rfl):q4b Y (.arr e k [r]) (.arr e k [r']):=
 .boxC h.len (fun j c c' h1 h2=>.sub (h.get j c c' h1 h2) (z6u hd h2))
theorem q4b.rowsK{n:Nat}{σ:Nat->Nat}{e k:Nat}{rows:List (List V)}(h:∀row,row∈rows->z2u row):q4b (Ren n σ) (.arr e k rows) (.arr e k rows):=by
 refine⟨rfl,rfl,rfl,fun i a b h1 h2=>?_⟩;rw[h1] at h2;simp only[bc8] at h2;subst h2;refine⟨rfl,fun j c c' h3 h4=>?_⟩;rw[h3] at h4;simp only[bc8] at h4;subst h4;exact .same j3v.h (Sub.kp (h a (bd8 h1) c (bd8 h3)))
theorem q4b.rows{n:Nat}{σ:Nat->Nat}{e k:Nat}{rows:List (List V)}(h:∀row,row∈rows->q1t row):q4b (Ren n σ) (.arr e k rows) (.arr e k rows):=.rowsK fun row hr=>(h row hr).keep
theorem q4b.mapsK{n:Nat}{σ:Nat->Nat}{es:List (Value×V)}(h:∀p,p∈es->q9y p.2):q4b (Ren n σ) (.map es) (.map es):=by
 refine⟨rfl,fun i a b h1 h2=>?_⟩;rw[h1] at h2;simp only[bc8] at h2;subst h2;exact⟨rfl,.same j3v.h (Sub.kp (h a (bd8 h1)))⟩
theorem q4b.maps{n:Nat}{σ:Nat->Nat}{es:List (Value×V)}(h:∀p,p∈es->Imm p.2):q4b (Ren n σ) (.map es) (.map es):=.mapsK fun p hp=>(h p hp).2
theorem q4b.keep{Y:Hy}[j3v Y](hk:∀v,Sub Y v v)(ob:Ob):q4b Y ob ob:=.keep' j3v.h (fun c=>.same j3v.h (hk c)) ob
theorem y3z{id k:Nat}{rows:List (List V)}{hp:q0m}(ob:Ob)(id2:Nat)(ho:q4b (Frz id k rows) ob (q1e hp id2)):
  ∀i,q4b (Frz id k rows) (q1e ((id,.dead)::(id2,ob)::hp) i) (q1e hp i):=by
 intro i;rw[q5d];split
 ·simp[q4b]
 ·rw[q5d];split
  ·rename_i h;subst h;exact ho
  ·exact q4b.keep (fun _=>Sub.keep) _
theorem v7p{id k:Nat}{rows:List (List V)}{hp:q0m}:∀i,q4b (Frz id k rows) (q1e ((id,.dead)::hp) i) (q1e hp i):=by
 intro i;rw[q5d];split
 ·simp[q4b]
 ·exact q4b.keep (fun _=>Sub.keep) _
theorem Sub.frzAll{id k n:Nat}{rows:List (List V)}(hn:n=rows.length):Sub (Frz id k rows) (.lst k rows) (.own id n):=Sub.frz (am9 hn) (by rw[hn];simp)
theorem z7s(id t:Nat){e k n:Nat}{rows:List (List V)}(ho:q1e S.hp id=.arr e k rows)(hi:∀row,row∈rows->q1t row)
  (ht:get S.env t=.own id n) (hn:n=rows.length):q6h K S ⟨(t,.lst k rows)::S.env,(id,.dead)::S.hp,S.nx⟩:=
 q7w id _ _ ho hi (v6a (fun _=>Sub.keep) (by rw[ht];exact Sub.frzAll hn)) v7p (by simp[q5d])
theorem q7y(id id2:Nat){e k:Nat}{rows:List (List V)}(ob:Ob)(ho:q1e S.hp id=.arr e k rows)(hi:∀row,row∈rows->q1t row)
  (hob:q4b (Frz id k rows) ob (q1e S.hp id2)):q6h K S ⟨S.env,(id,.dead)::(id2,ob)::S.hp,S.nx⟩:=
 q7w id _ _ ho hi (fun _=>Sub.keep) (y3z ob id2 hob) (by simp[q5d])
theorem z0j(id t:Nat){e k i o:Nat}{rows:List (List V)}{row:List V}(ho:q1e S.hp id=.arr e k rows)(hi:∀row,row∈rows->q1t row)
  (ht:get S.env t=.ptr id k i o) (hr:rows[i]? = some row):q6h K S ⟨(t,.iptr row o)::S.env,(id,.dead)::S.hp,S.nx⟩:=
 q7w id _ _ ho hi (v6a (fun _=>Sub.keep) (by rw[ht];exact Sub.frzptr hr)) v7p (by simp[q5d])
theorem q0l(t e k:Nat)(ht:get S.env t=nV):q6h K S ⟨(t,.own S.nx 0)::S.env,(S.nx,.arr e k [])::S.hp,S.nx+1⟩:=
 v0a e k _ _ (v6a (fun _=>Sub.keepNil) (by rw[ht];exact Sub.mkNil)) (fun _=>q4b.keep (fun _=>Sub.keepNil) _)
theorem q5y(id2 e k:Nat)(ob:Ob)(hob:q4b (Nil S.nx) ob (q1e S.hp id2)):q6h K S ⟨S.env,(S.nx,.arr e k [])::(id2,ob)::S.hp,S.nx+1⟩:=
 v0a e k _ _ (fun _=>Sub.keepNil) (fun i=>by
  rw[q5d];split
  ·rename_i h;subst h;exact hob
  ·exact q4b.keep (fun _=>Sub.keepNil) _)
end
section
variable{K:Ctx}{Q:q5q}{S S':St}{ops:Array Oper}{rest:List Oper}{op:Op}{ty:TypeId}{pos:String}{after:Array Edge}{g:Option (Nat×Bool)}
variable{m:Mem}{β:q4m}{w:World}{a:Act}
theorem q7k:([]:List Operand).map (evl K S)=[]:=rfl
theorem q5e{x:Operand}{v:V}{xs:List Operand}{vs:List V}(h:evl K S x=v)(t:xs.map (evl K S)=vs):(x::xs).map (evl K S)=v::vs:=by rw[bw9,h,t]
theorem q4i:([]:List (Nat×Operand)).map (fun p=>(p.1,evl K S p.2))=[]:=rfl
theorem q5g{i:Nat}{x:Operand}{v:V}{xs:List (Nat×Operand)}{vs:List (Nat×V)}(h:evl K S x=v)(t:xs.map (fun p=>(p.1,evl K S p.2))=vs):
  ((i,x)::xs).map (fun p=>(p.1,evl K S p.2))=(i,v)::vs:=by rw[bw9,h,t]
inductive j2v:List (List V)->Prop
 |nil:j2v []
 |cons {r:List V} {rs:List (List V)} (h:q1t r) (t:j2v rs):j2v (r::rs)
theorem q5j{rows:List (List V)}(h:j2v rows):∀row,row∈rows->q1t row:=by
 induction h with
 |nil=>intro row h;simp at h
 |cons h _ ih=>
  intro row hr;rcases ax8.1 hr with rfl|hr
  ·exact h
  ·exact ih row hr
def q0d{α β:Type}[DecidableEq α]:List (α×β)->α->β->List (α×β)
 |[],k,v=>[(k,v)]
 |p::r,k,v=>if p.1=k then (k,v)::r else p::q0d r k v
def q3b{α β:Type}[DecidableEq α]:List (α×β)->α->Option β
 |[],_=>none
 |p::r,k=>if p.1=k then some p.2 else q3b r k
theorem q6x{α β:Type}[DecidableEq α]{kv:α->Value}{ev:β->V}(hinj:∀a b,kv a=kv b->a=b)(xs:List (α×β))(k:α)(v:β):
  z5q (kv k) (ev v) (xs.map fun p=>(kv p.1,ev p.2)) ((q0d xs k v).map fun p=>(kv p.1,ev p.2)):=by
 induction xs with
 |nil=>exact .nil
 |cons p r ih=>
  simp only[bw9,q0d];split
  ·rename_i h;subst h;exact .here
  ·rename_i h;exact .there (fun e=>h (hinj _ _ e)) ih
theorem q7q{α β:Type}[DecidableEq α]{kv:α->Value}{ev:β->V}(hinj:∀a b,kv a=kv b->a=b)(xs:List (α×β))(k:α):
  z8m (kv k) (xs.map fun p=>(kv p.1,ev p.2)) ((q3b xs k).map ev):=by
 induction xs with
 |nil=>exact .nil
 |cons p r ih=>
  simp only[bw9,q3b];split
  ·rename_i h;subst h;exact .here
  ·rename_i h;exact .there (fun e=>h (hinj _ _ e)) ih
theorem q9f{β:Type}(ev:β->V)(o:Option β)(z:β):(o.map ev).getD (ev z)=ev (o.getD z):=by cases o<;>rfl
theorem q3t{β:Type}(ev:β->V)(o:Option β):(o.map ev).isSome=o.isSome:=by cases o<;>rfl
theorem v6k{k:IntKind}:∀a b:Int,(Value.int k a)=.int k b->a=b:=by intro a b h;cases h;rfl
theorem q5m:∀a b:B8,str a=str b->a=b:=by
 intro a b h;simp only[str,Value.string.injEq,ByteArray.mk.injEq] at h
 simpa using congrArg Array.toList h
theorem w9j(r:Rel K m β w a S)(id:Nat){es:List (Value×V)}(ho:q1e S.hp id=.map es)(hi:∀p,p∈es->Imm p.2):
  ∃m',(∀(b:Nat) o,m' b=some o->w.heap[b]? = some o)/\m.le m'/\(∀x,q8n m β (.map id) x->q2p m' (.imap es) x)/\(∀b,b<K.w0.heap.size->K.old b->m' b=K.m0 b)/\
   ∀b,m' b=m b\/∃cap,β id=some (some (b,cap)):=by
 have hown:=r.own id;rw[ho] at hown;cases hb:β id with
 |none=>rw[hb] at hown;simp[q4l] at hown
 |some l=>
 cases l with
 |none=>rw[hb] at hown;simp[q4l] at hown
 |some p=>
 obtain⟨b,cap⟩:=p;rw[hb] at hown;obtain⟨ents,clock,bl,h1,h2,hBl,h3⟩:=hown;have hp':=r.priv id b cap (by rw[ho];simp) hb;obtain⟨E,hE,hvE,hwf⟩:=h1
 let m':Mem:=fun b'=>if b'=b then some (.map E clock) else m b'
 have hle:m.le m':=by
  intro b' o h;have:b'≠b:=by intro e';subst e';rw[hp'.1] at h;simp at h
  simp[m',this,h]
 refine⟨m',?_,hle,?_,?_,?_⟩
 ·intro b' o h;by_cases hbb:b'=b
  ·subst hbb;simp[m'] at h;rw[hE,h]
  ·simp[m',hbb] at h;exact r.imm _ _ h
 ·intro x hx;cases hx with
  |imm h=>cases h
  | @map _ b2 cap2 h=>
   rw[hb] at h;simp only[bc8,Prod.mk.injEq] at h;obtain⟨rfl,rfl⟩:=h;refine .imap (ents:=ents) (clock:=clock) ⟨E,by simp[m'],hvE,hwf⟩ h2 (fun i p e a1 a2=>(h3 i p e a1 a2).1) fun i p e a1 a2=>?_;have hii:=hi p (bd8 a1);exact(hii.2 m β e.val ((h3 i p e a1 a2).2.v hii.1)).mono hle
 ·intro b' hb' hold;by_cases hbb:b'=b
  ·subst hbb;exact absurd hold (hp'.2 hb')
  ·simp[m',hbb];exact r.mold b' hb' hold
 ·intro b';by_cases hbb:b'=b
  ·exact .inr ⟨cap,by rw[hbb]⟩
  ·exact .inl (by simp[m',hbb])
def v1w(id:Nat)(es:List (Value×V)):Hy:=fun m β m' β'=>m.le m'/\β'=β/\∀x,q8n m β (.map id) x->q2p m' (.imap es) x
instance {id:Nat} {es:List (Value×V)}:j3v (v1w id es):=⟨fun _ _ _ _ hy=>hy.1⟩
theorem Sub.keepM{id:Nat}{es:List (Value×V)}{v:V}:Sub (v1w id es) v v:=fun _ _ _ _ _ hy hx=>by
 obtain⟨h1,rfl,_⟩:=hy;exact hx.mono h1 (q4m.le_refl _)
theorem Sub.frzM{id:Nat}{es:List (Value×V)}:Sub (v1w id es) (.imap es) (.map id):=fun _ _ _ _ _ hy hx=>.imm (hy.2.2 _ hx)
theorem z0p(id:Nat){es:List (Value×V)}(env:Env)(hp:q0m)(ho:q1e S.hp id=.map es)(hi:∀p,p∈es->Imm p.2)
  (henv:∀t,Sub (v1w id es) (get env t) (get S.env t)) (hhp:∀i,q4b (v1w id es) (q1e hp i) (q1e S.hp i)) (hd:q1e hp id=.dead):q6h K S ⟨env,hp,S.nx⟩:=by
 intro m β w a r;obtain⟨m',k1,hle,hfr,hmold,k2⟩:=w9j r id ho hi;have hy:v1w id es m β m' β:=⟨hle,rfl,hfr⟩
 have hlive:∀i,q1e hp i≠.dead->q1e S.hp i≠.dead/\i≠id:=by
  intro i h;have h2:=hhp i;refine⟨fun hdd=>?_,fun he=>h (by rw[he];exact hd)⟩;rw[hdd] at h2;cases ho':q1e hp i with
  |dead=>exact h ho'
  |arr=>rw[ho'] at h2;simp[q4b] at h2
  |res=>rw[ho'] at h2;simp[q4b] at h2
  |map=>rw[ho'] at h2;simp[q4b] at h2
  |iter=>rw[ho'] at h2;simp[q4b] at h2
  |bld=>rw[ho'] at h2;simp[q4b] at h2
 refine⟨m',β,k1,Mem.le_trans r.ext hle,hmold,r.frame,r.size,r.same,r.tn,r.df,fun t=>henv t _ _ _ _ _ hy (r.env t),fun i=>(hhp i).ok hy (r.own i),fun i b cap hl hb'=>?_,
  fun i i' b cap cap' hl hl'=>r.inj i i' b cap cap' (hlive i hl).1 (hlive i' hl').1,fun i x hl hx=>?_,r.nx,r.pin⟩
 rotate_left
 ·have q:=(r.hid i x (hlive i hl).1 hx).weak (fun i h=>(hlive i h).1);refine⟨q.lt,?_,q.old,q.ne,q.un⟩;rcases k2 x with h|⟨cap',h⟩
  ·rw[h];exact q.m
  ·exact absurd rfl ((r.hid i x (hlive i hl).1 hx).ne id x cap' (by rw[ho];simp) h)
 obtain⟨h1,h2⟩:=hlive i hl;have hp':=r.priv i b cap h1 hb';refine⟨?_,hp'.2⟩;rcases k2 b with h|⟨cap',h⟩
 ·rw[h];exact hp'.1
 ·exact absurd (r.inj i id b cap cap' h1 (by rw[ho];simp) hb' h) h2
theorem q1n(id id2:Nat){es:List (Value×V)}(ob:Ob)(ho:q1e S.hp id=.map es)(hi:∀p,p∈es->Imm p.2)(hob:q4b (v1w id es) ob (q1e S.hp id2)):
  q6h K S ⟨S.env,(id,.dead)::(id2,ob)::S.hp,S.nx⟩:=
 z0p id _ _ ho hi (fun _=>Sub.keepM) (fun i=>by
  rw[q5d];split
  ·trivial
  ·rw[q5d];split
   ·rename_i h;subst h;exact hob
   ·exact q4b.keep (fun _=>Sub.keepM) _) (by simp[q5d])
theorem q6y(id t:Nat){e k:Nat}{rows:List (List V)}(v:V)(ho:q1e S.hp id=.arr e k rows)(hi:∀row,row∈rows->q1t row)
  {v0:V} (ht:get S.env t=v0) (hv:Sub (Frz id k rows) v v0):q6h K S ⟨(t,v)::S.env,(id,.dead)::S.hp,S.nx⟩:=
 q7w id _ _ ho hi (v6a (fun _=>Sub.keep) (by rw[ht];exact hv)) v7p (by simp[q5d])
theorem Sub.fnc{Y:Hy}{f:Fn}{cs cs':List V}(h:j2q Y cs cs'):Sub Y (.fn f [] cs) (.fn f [] cs'):=fun m β m' β' x hy hx=>by
 have key:∀us:Array Value,cs'.length=us.size->(∀(i:Nat) (c:V) (v:Value),cs'[i]? = some c->us[i]? = some v->q8n m β c v)->
   ∀(i:Nat) (c:V) (v:Value),cs[i]? = some c->us[i]? = some v->q8n m' β' c v:=by
  intro us hl hh i c v h1 h2;have h3:i<cs'.length:=by rw[<-h.len];exact(bi8.1 h1).1
  exact h.get i c _ h1 (be8 h3) _ _ _ _ _ hy (hh i _ v (be8 h3) h2)
 cases hx with
 |imm hx=>cases hx with
  |fn h1 h2 h3 h4=>exact .fn h1 (by rw[h.len];exact h2) (fun i c v q=>by simp at q) (key _ h2 fun i c v q1 q2=>.imm (h4 i c v q1 q2))
 |fn h1 h2 h3 h4=>exact .fn h1 (by rw[h.len];exact h2) (fun i c v q=>by simp at q) (key _ h2 h4)
def Idn:Hy:=fun m β m' β'=>m'=m/\β'=β
instance:j3v Idn:=⟨fun m β m' β' hy=>by rw[hy.1];exact Mem.le_refl _⟩
theorem Sub.keepI{v:V}:Sub Idn v v:=fun _ _ _ _ _ hy hx=>by obtain⟨rfl,rfl⟩:=hy;exact hx
theorem v1a(env:Env)(hp:q0m)(henv:∀t,Sub Idn (get env t) (get S.env t))(hhp:∀i,q4b Idn (q1e hp i) (q1e S.hp i)):q6h K S ⟨env,hp,S.nx⟩:=by
 intro m β w a r;have hy:Idn m β m β:=⟨rfl,rfl⟩
 have hlive:∀i,q1e hp i≠.dead->q1e S.hp i≠.dead:=by
  intro i h hdd;have h2:=hhp i;rw[hdd] at h2;cases ho':q1e hp i with
  |dead=>exact h ho'
  |arr=>rw[ho'] at h2;simp[q4b] at h2
  |res=>rw[ho'] at h2;simp[q4b] at h2
  |map=>rw[ho'] at h2;simp[q4b] at h2
  |iter=>rw[ho'] at h2;simp[q4b] at h2
  |bld=>rw[ho'] at h2;simp[q4b] at h2
 exact⟨m,β,r.imm,r.ext,r.mold,r.frame,r.size,r.same,r.tn,r.df,fun t=>henv t _ _ _ _ _ hy (r.env t),fun i=>(hhp i).ok hy (r.own i),fun i b c h=>r.priv i b c (hlive i h),
  fun i i' b c c' h h'=>r.inj i i' b c c' (hlive i h) (hlive i' h'),fun i x h hx=>(r.hid i x (hlive i h) hx).weak hlive,r.nx,r.pin⟩
theorem q5p(t:Nat)(v:V){v0:V}(ht:get S.env t=v0)(hv:Sub Idn v v0):q6h K S ⟨(t,v)::S.env,S.hp,S.nx⟩:=
 v1a _ _ (v6a (fun _=>Sub.keepI) (by rw[ht];exact hv)) fun _=>q4b.keep (fun _=>Sub.keepI) _
theorem z2m(id:Nat)(ob:Ob){ob0:Ob}(ho:q1e S.hp id=ob0)(hv:q4b Idn ob ob0):q6h K S ⟨S.env,(id,ob)::S.hp,S.nx⟩:=
 v1a _ _ (fun _=>Sub.keepI) fun i=>by
  rw[q5d];split
  ·rename_i h;subst h;rw[ho];exact hv
  ·exact q4b.keep (fun _=>Sub.keepI) _
def upd{α:Type}(f:Nat->α)(j:Nat)(x:α):Nat->α:=fun i=>if i=j then x else f i
theorem z5t{d id k i o:Nat}{x:Operand}(hw:q1h ops S ⟨some d,.nilCheck x,ty,pos,after,g⟩ true)(hx:evl K S x=.ptr id k i o)(hN:Nat.blt d K.N=true)
  (kk:q7g K ops rest Q (S.put d (.ptr id k i o))):q7g K ops (⟨some d,.nilCheck x,ty,pos,after,g⟩::rest) Q S:=
 q9g _ hw hN (fun m β w a r=>by
  have h:=r.reads x;rw[hx] at h;obtain⟨b,cap,hb,hv⟩:=h.ptr_inv;exact⟨a.eval x,by simp only[execOp,hv];rfl,h⟩) kk
theorem z1q{d o:Nat}{row:List V}{x:Operand}(hw:q1h ops S ⟨some d,.nilCheck x,ty,pos,after,g⟩ true)(hx:evl K S x=.iptr row o)(hN:Nat.blt d K.N=true)
  (kk:q7g K ops rest Q (S.put d (.iptr row o))):q7g K ops (⟨some d,.nilCheck x,ty,pos,after,g⟩::rest) Q S:=
 q9g _ hw hN (fun m β w a r=>by
  have h:=r.reads x;rw[hx] at h;obtain⟨ad,arr,T',fr,f,base,hv,_⟩:=h.iptr_inv;exact⟨a.eval x,by simp only[execOp,hv];rfl,h⟩) kk
end
noncomputable def y5a{R:Type}(n:Nat)(k:Bool->Option R):Option R:=
 open Classical in if n≠0 then k false else if k true=k false then k true else none
theorem j9d{R:Type}{n:Nat}{k:Bool->Option R}{r:R}(h:y5a n k=some r){b:Bool}(hb:n≠0->b=false):k b=some r:=by
 unfold y5a at h;split at h
 ·rename_i hn;rw[hb hn];exact h
 ·split at h
  ·rename_i e;cases b
   ·rw[<-e];exact h
   ·exact h
  ·simp at h
theorem j8d{R:Type}{n:Nat}{k:Bool->Option R}{r:Option R}(h:k false=r)(h':n=0->k true=r):y5a n k=r:=by
 unfold y5a;split
 ·exact h
 ·rename_i hn;rw[if_pos (by rw[h,h' (by omega)]),h' (by omega)]
section
variable{K:Ctx}{Q:q5q}{S S':St}{ops:Array Oper}{rest:List Oper}{op:Op}{ty:TypeId}{pos:String}{after:Array Edge}{g:Option (Nat×Bool)}
variable{m:Mem}{β:q4m}{w:World}{a:Act}
theorem j2x{P:Program}{T:TypeId}{x y:Operand}(neg:Bool)(hT:q3l P T=true)(ad:Option Addr)(n c:Nat):
  ∃b:Bool,(n≠0->ad.isSome=true->b=false)/\(ad=none->b=true)/\
   (do eqGuard (if neg then .neq else .eql) T x y (.slice ad n c) (.slice none 0 0);binOp (if neg then .neq else .eql) T (.slice ad n c) (.slice none 0 0):Sem Value).run P w=.ok (.bool (if neg then !b else b)) w:=by
 obtain⟨e,hu⟩:∃e,P.underlying T=some (.slice e):=by
  unfold q3l at hT;split at hT
  ·exact⟨_,‹_›⟩
  ·simp at hT
 have hd:(10000:Nat)=9999+1:=rfl
 have hg:∀op:BinOp,(eqGuard op T x y (.slice ad n c) (.slice none 0 0)).run P w=.ok () w:=by
  intro op;unfold eqGuard;cases op<;>simp[pure]
 have hq:(Op.equal T (.slice ad n c) (.slice none 0 0)).run P w=.ok ad.isNone w:=by
  rw[Op.equal,Op.maxDepth,hd,Op.equalIn];simp only[Sem.run_bind,run_underlying hu,Result.andThen_ok];cases ad<;>rfl
 refine⟨ad.isNone,fun _ h=>by cases ad<;>simp_all,fun h=>by simp[h],?_⟩;rw[Sem.run_bind,hg,Result.andThen_ok];cases neg
 ·simp only[cy8,if_false,binOp,Sem.run_bind,hq,Result.andThen_ok];rfl
 ·simp only[if_true,binOp,Sem.run_bind,hq,Result.andThen_ok];rfl
theorem j1g{d:Nat}{x y:Operand}{T T':TypeId}(neg:Bool)(hT:q3l K.P T=true)(hw:q1h ops S ⟨some d,.binOp (if neg then .neq else .eql) T x y T',ty,pos,after,g⟩ true)
  (hx:evl K S x=nV) (hy:evl K S y=nV) (hN:Nat.blt d K.N=true)
  (k:q7g K ops rest Q (S.put d (bV (if neg then false else true)))):q7g K ops (⟨some d,.binOp (if neg then .neq else .eql) T x y T',ty,pos,after,g⟩::rest) Q S:=
 q9g _ hw hN (fun m β w a r=>by
  obtain⟨b,_,hb,hr⟩:=j2x (P:=K.P) (w:=w) (x:=x) (y:=y) neg hT none 0 0;rw[hb rfl] at hr;refine⟨.bool (if neg then !true else true),?_,?_⟩
  ·simp only[execOp,r.con hx,r.con hy];exact q1f hr
  ·cases neg<;>exact .imm (.con _)) k
def y6s:V->Option Nat
 | .lst _ rows=>some rows.length
 | .own _ n=>some n
 |_=>none
theorem z8t{d n:Nat}{x y:Operand}{T T':TypeId}{v:V}(neg:Bool)(hT:q3l K.P T=true)(hw:q1h ops S ⟨some d,.binOp (if neg then .neq else .eql) T x y T',ty,pos,after,g⟩ true)
  (hx:evl K S x=v) (hy:evl K S y=nV) (hn:y6s v=some n) (hN:Nat.blt d K.N=true)
  (k:∀b:Bool,(n≠0->b=false)->q7g K ops rest Q (S.put d (bV (if neg then !b else b)))):q7g K ops (⟨some d,.binOp (if neg then .neq else .eql) T x y T',ty,pos,after,g⟩::rest) Q S:=by
 intro m β w a r;have h:=r.reads x;rw[hx] at h
 have key:∃ad c,a.eval x=.slice ad n c/\(n≠0->ad.isSome=true):=by
  generalize hv:a.eval x=u at h;cases v with
  |lst k rows=>
   simp only[y6s,bc8] at hn;cases h with
   |imm h=>
    cases h with
    |nil _ ad cap=>subst hn;exact⟨ad,cap,rfl,by simp⟩
    |lst f hm hs hl=>exact⟨_,_,by rw[<-hn,hl],fun _=>rfl⟩
  |own id n'=>
   simp only[y6s,bc8] at hn;subst hn;cases h with
   |imm h=>cases h
   |ownNil=>exact⟨_,_,rfl,by simp⟩
   |own=>exact⟨_,_,rfl,fun _=>rfl⟩
  |_=>simp[y6s] at hn
 obtain⟨ad,c,hv,hs⟩:=key;obtain⟨b,hb,_,hr⟩:=j2x (P:=K.P) (w:=w) (x:=x) (y:=y) neg hT ad n c;have kk:=k b fun hn=>hb hn (hs hn);unfold wpList;rw[if_pos (hw.at r)]
 left
 unfold Oper.wp
 have hrun:(execOp a.eval ⟨some d,.binOp (if neg then .neq else .eql) T x y T',ty,pos,after,g⟩).run K.P w=.ok (.value (.bool (if neg then !b else b))) w:=by
  simp only[execOp,hv,r.con hy];exact q1f hr
 rw[hrun];exact kk m β w _ (r.put hN (.imm (.con _)))
theorem z3a{d T e k bytes:Nat}(hT:z6j K.P T e k bytes=true)(hw:q1h ops S ⟨some d,.buildSlice T 0 #[],ty,pos,after,g⟩ true)(hN:Nat.blt d K.N=true)
  (kk:q7g K ops rest Q ⟨(d,.own S.nx 0)::S.env,(S.nx,.arr e k [])::S.hp,S.nx+1⟩):q7g K ops (⟨some d,.buildSlice T 0 #[],ty,pos,after,g⟩::rest) Q S:=by
 refine q3k hw (fun m β w a r=>?_) kk;obtain⟨i,z,hu,hi,hs,hby,hzz,hzk⟩:=z6a hT
 obtain⟨β',hle,hnx,r2⟩:=r.alloc (.cells #[] e (0,0)) (.arr e k []) ⟨0,0⟩ _ rfl (fun β' hle=>by
  exact q8t (vs:=#[]) (by simp) (by simp) (by simp) (by unfold maxLen;omega) (by simp) (by simp))
 refine⟨.slice (some ⟨w.heap.size,0,none⟩) 0 0,{ w with heap:=w.heap.push (.cells #[] e (0,0)) },m,β',.inl ?_,Rel.put r2 hN (.own hnx)⟩;simp only[execOp];rw[Sem.run_bind]
 have:(Instr.buildSlice T 0 ((#[]:Array (Nat×Operand)).map fun(i,x)=>(i,a.eval x))).run K.P w=.ok (.slice (some ⟨w.heap.size,0,none⟩) 0 0) { w with heap:=w.heap.push (.cells #[] e (0,0)) }:=by
  simp only[Instr.buildSlice,Sem.run_bind,run_underlying hu,Result.andThen_ok,run_sizeOf w hi];simp[pure,Sem.run,Instr.fill,newRow,newObj,Sem.run_bind,Result.andThen];have e0:(Array.map (fun _=>(default:Value)) (Array.range 0))=#[]:=by apply ay9;simp
  rw[e0]
 rw[this];rfl
def q2v(agg:Bool)(l:List Value):Value:=if agg then .agg l.toArray else l.headD undef
structure j6k(P:Program)(d:Nat)(t:TypeId)(k:Nat)(agg:Bool)(good:List Value->Prop):Prop where
 len:∀l,good l->l.length=k
 kind:∀w,(isAgg t).run P w=.ok agg w/\(sizeOf t).run P w=.ok k w
 eq:∀w xs ys,good xs->good ys->∃b,(Op.equalIn d t (q2v agg xs) (q2v agg ys)).run P w=.ok b w/\(b=true<->xs=ys)
 key:∀b w xs,good xs->(Instr.checkKey b d t (q2v agg xs)).run P w=.ok () w
 bits:∀xs,good xs->xs.all (fun v=>Instr.sameBits 0 v v)=true
 guard:P.eqGuardType d t=false
theorem j6k.weaken{P:Program}{d k:Nat}{t:TypeId}{agg:Bool}{good good':List Value->Prop}(h:j6k P d t k agg good)(hg:∀l,good' l->good l):j6k P d t k agg good':=
 ⟨fun l hl=>h.len l (hg l hl),h.kind,fun w xs ys hx hy=>h.eq w xs ys (hg _ hx) (hg _ hy),fun b w xs hx=>h.key b w xs (hg _ hx),fun xs hx=>h.bits xs (hg _ hx),h.guard⟩
theorem w4n{P:Program}{d:Nat}{t:TypeId}{k:IntKind}(hu:P.underlying t=some (.int k))(hc:tyC P t=true):j6k P (d+1) t 1 false (fun l=>∃n,l=[.int k n]) where
 len:=by rintro l ⟨n,rfl⟩;rfl
 kind:=fun w=>j1c hc w
 eq:=by
  rintro w xs ys ⟨n,rfl⟩ ⟨n',rfl⟩
  exact⟨_,run_equalIn_int w d t k k n n' hu,by simp⟩
 key:=by
  rintro b w xs ⟨n,rfl⟩
  simp only[q2v,cy8,if_false,List.headD_cons];rw[Instr.checkKey];simp only[Sem.run_bind,run_underlying hu,Result.andThen_ok];rfl
 bits:=by rintro xs ⟨n,rfl⟩;simp[Instr.sameBits]
 guard:=by simp[Program.eqGuardType,hu]
theorem w3e{P:Program}{d:Nat}{t:TypeId}(hu:P.underlying t=some .bool)(hc:tyC P t=true):j6k P (d+1) t 1 false (fun l=>∃n,l=[.bool n]) where
 len:=by rintro l ⟨n,rfl⟩;rfl
 kind:=fun w=>j1c hc w
 eq:=by
  rintro w xs ys ⟨n,rfl⟩ ⟨n',rfl⟩
  exact⟨_,run_equalIn_bool' w d t n n' hu,by simp⟩
 key:=by
  rintro b w xs ⟨n,rfl⟩
  simp only[q2v,cy8,if_false,List.headD_cons];rw[Instr.checkKey];simp only[Sem.run_bind,run_underlying hu,Result.andThen_ok];rfl
 bits:=by rintro xs ⟨n,rfl⟩;simp[Instr.sameBits]
 guard:=by simp[Program.eqGuardType,hu]
theorem w3n{P:Program}{d:Nat}{t:TypeId}(hu:P.underlying t=some .string)(hc:tyC P t=true):j6k P (d+1) t 1 false (fun l=>∃s,l=[.string s]) where
 len:=by rintro l ⟨n,rfl⟩;rfl
 kind:=fun w=>j1c hc w
 eq:=by
  rintro w xs ys ⟨n,rfl⟩ ⟨n',rfl⟩
  refine⟨_,run_equalIn_string w d t n n' hu,?_⟩;rw[<-beq_toListBytes,z8g];simp
 key:=by
  rintro b w xs ⟨n,rfl⟩
  simp only[q2v,cy8,if_false,List.headD_cons];rw[Instr.checkKey];simp only[Sem.run_bind,run_underlying hu,Result.andThen_ok];rfl
 bits:=by rintro xs ⟨n,rfl⟩;simp[Instr.sameBits,z8g]
 guard:=by simp[Program.eqGuardType,hu]
def GoodF(g1 g2:List Value->Prop)(l:List Value):Prop:=∃a b,l=a++b/\g1 a/\g2 b
structure EqF(P:Program)(d N:Nat)(fs:List Field)(off:Nat)(good:List Value->Prop):Prop where
 len:∀l,good l->off+l.length=N
 eq:∀w (xs ys:List Value),good (xs.drop off)->good (ys.drop off)->∃b,(Op.eqFields d xs.toArray ys.toArray fs).run P w=.ok b w/\(b=true<->xs.drop off=ys.drop off)
 key:∀b w (xs:List Value),good (xs.drop off)->∀f,f∈fs->f.name ≠ "_" → ∃v,(part f.type xs.toArray f.offset).run P w=.ok v w/\(Instr.checkKey b d f.type v).run P w=.ok () w
 bits:∀l,good l->l.all (fun v=>Instr.sameBits 0 v v)=true
 guard:fs.any (fun f=>f.name != "_" && P.eqGuardType d f.type)=false
theorem j4s{P:Program}{d:Nat}{t:TypeId}{k:Nat}{agg:Bool}{good:List Value->Prop}(h:j6k P d t k agg good)(w:World)(xs:List Value)(off:Nat){a b:List Value}(hd:xs.drop off=a++b)(hg:good a)
  (h1:agg=false->k=1):(part t xs.toArray off).run P w=.ok (q2v agg a) w:=by
 have hl:=h.len _ hg;unfold part;simp only[Sem.run_bind,(h.kind w).1,Result.andThen_ok];cases agg with
 |true=>
  simp only[if_true,Sem.run_bind,(h.kind w).2,Result.andThen_ok,q2v]
  have:(xs.toArray.extract off (off+k))=a.toArray:=by
   apply ay9;simp only[List.extract_toArray,List.extract_eq_take_drop];rw[hd,bm8,<-hl];simp
  rw[this];rfl
 |false=>
  have hk:=h1 rfl;rw[hk] at hl
  match a,hl with
  |[v],_=>
   have:xs[off]? = some v:=by
    have:=congrArg (fun l=>l[0]?) hd
    simpa using this
   simp[this,q2v,pure]
theorem j5t{P:Program}{d N:Nat}:EqF P d N [] N (fun l=>l=[]) where
 len:=by rintro l rfl;rfl
 eq:=by
  rintro w xs ys hx hy
  exact⟨true,rfl,by simp[hx,hy]⟩
 key:=by intro b w xs _ f hf;simp at hf
 bits:=by rintro l rfl;rfl
 guard:=rfl
theorem q0u {P:Program} {d N off k:Nat} {f:Field} {fs:List Field} {agg:Bool} {g1 g2:List Value->Prop} (h:j6k P d f.type k agg g1) (h1:agg=false->k=1) (hf:f.offset=off) (hn:f.name ≠ "_")
  (hr:EqF P d N fs (off+k) g2):EqF P d N (f::fs) off (GoodF g1 g2) where
 len:=by
  rintro l ⟨a,b,rfl,ha,hb⟩
  have e1:=h.len a ha;have e2:=hr.len b hb;simp only[bp8];omega
 eq:=by
  rintro w xs ys ⟨a,b,ha,ga,gb⟩ ⟨a',b',ha',ga',gb'⟩
  have e1:=h.len a ga;have e2:=h.len a' ga';have db:xs.drop (off+k)=b:=by rw[<-List.drop_drop,ha,<-e1];simp
  have db':ys.drop (off+k)=b':=by rw[<-List.drop_drop,ha',<-e2];simp
  obtain⟨r1,hr1,ir1⟩:=h.eq w a a' ga ga';obtain⟨r2,hr2,ir2⟩:=hr.eq w xs ys (by rw[db];exact gb) (by rw[db'];exact gb');rw[db,db'] at ir2;rw[ha,ha'];refine⟨r1&&r2,?_,?_⟩
  ·simp only[Op.eqFields];rw[if_pos hn];simp only[Sem.run_bind,hf,j4s h w xs off ha ga h1,j4s h w ys off ha' ga' h1,Result.andThen_ok,hr1];cases r1
   ·rfl
   ·simpa using hr2
  ·rw[av8,ir1,ir2];constructor
   ·rintro⟨rfl,rfl⟩;rfl
   ·intro e;exact ai9 e (by rw[e1,e2])
 key:=by
  rintro b w xs ⟨a,c,ha,ga,gc⟩ f' hf' hn'
  have e1:=h.len a ga;have dc:xs.drop (off+k)=c:=by rw[<-List.drop_drop,ha,<-e1];simp
  rcases ax8.1 hf' with rfl|hm
  ·exact⟨_,by rw[hf];exact j4s h w xs off ha ga h1,h.key b w a ga⟩
  ·exact hr.key b w xs (by rw[dc];exact gc) f' hm hn'
 bits:=by
  rintro l ⟨a,b,rfl,ga,gb⟩
  rw[ct8,h.bits a ga,hr.bits b gb];rfl
 guard:=by
  rw[List.any_cons,hr.guard,h.guard];simp
theorem v1q{P:Program}{w:World}{β:Type}(f:Field->β->Sem (ForInStep β)):∀(fs:List Field) (x:β),(∀g,g∈fs->(f g x).run P w=.ok (.yield x) w)->(forIn fs x f).run P w=.ok x w
 |[],x,_=>rfl
 |g::fs,x,h=>by
  rw[List.forIn_cons,Sem.run_bind,h g (by simp)];exact v1q f fs x fun g' hg'=>h g' (by simp[hg'])
theorem z8d{P:Program}{d t N:Nat}{good:List Value->Prop}{fs:List Field}(hf:(P.fieldsOf t).toList=fs)(hu:P.underlying t=some (.struct (P.fieldsOf t)))(hc:tyA P t N=true)(hp:P.stoodInHeld t=false)
  (h:EqF P d N fs 0 good):j6k P (d+1) t N true good where
 len:=fun l hl=>by have:=h.len l hl;omega
 kind:=fun w=>v8x hc w
 eq:=by
  intro w xs ys hx hy;simp only[q2v,if_true];rw[run_equalIn_agg w d t _ _ hu hp,hf];exact h.eq w xs ys hx hy
 key:=by
  intro b w xs hx;simp only[q2v,if_true];rw[Instr.checkKey];simp only[Sem.run_bind,run_underlying hu,Result.andThen_ok];rw[<-Array.forIn_toList,hf];rw[v1q]
  ·rfl
  ·intro f hf';by_cases hn:f.name = "_"
   ·simp[hn]
   ·obtain⟨v,h1,h2⟩:=h.key b w xs hx f hf' hn;simp[hn,Sem.run_bind,h1,h2]
 bits:=h.bits
 guard:=by
  simp only[Program.eqGuardType,hu];rw[<-Array.any_toList,hf];exact h.guard
end
theorem j8r:∀(v:Value),Instr.sameBits 0 v v=true->Instr.sameBits 9999 v v=true:=by
 intro v h;cases v<;>simp[Instr.sameBits] at h ⊢<;>exact h
theorem w7d{P:Program}{t:TypeId}{k:Nat}{good:List Value->Prop}(h:j6k P 10000 t k true good)(w:World)(xs:List Value)(hx:good xs):∀(es:List MapEntry) (n:Nat),(∀e,e∈es->∃ys,good ys/\e.key=.agg ys.toArray)->
  ((Instr.findAsking t (.agg xs.toArray) es n).run P w=.ok none w/\∀e,e∈es->e.key≠.agg xs.toArray) ∨
  ∃j e,(Instr.findAsking t (.agg xs.toArray) es n).run P w=.ok (some (n+j,e.val)) w/\es[j]? = some e/\e.key=.agg xs.toArray/\∀i e',i<j->es[i]? = some e'->e'.key≠.agg xs.toArray
 |[],n,_=>.inl ⟨rfl,by simp⟩
 |e::es,n,hg=>by
  obtain⟨ys,hy,he⟩:=hg e (by simp);obtain⟨b,hb,ib⟩:=h.eq w xs ys hx hy;simp only[q2v,if_true] at hb
  have hstep:(Instr.findAsking t (.agg xs.toArray) (e::es) n).run P w=if b=true then .ok (some (n,e.val)) w else (Instr.findAsking t (.agg xs.toArray) es (n+1)).run P w:=by
   rw[Instr.findAsking,he,Op.equal,Op.maxDepth];simp only[Sem.run_bind,hb,Result.andThen_ok];cases b<;>rfl
  by_cases hbt:b=true
  ·refine .inr ⟨0,e,by rw[hstep,if_pos hbt];rfl,rfl,by rw[he,ib.1 hbt],by simp⟩
  ·have hne:e.key≠.agg xs.toArray:=by
    rw[he];intro e';simp only[Value.agg.injEq] at e';have:xs=ys:=by have:=congrArg Array.toList e';simpa using this.symm
    exact hbt (ib.2 this)
   rcases w7d h w xs hx es (n+1) (fun e' he'=>hg e' (by simp[he'])) with ⟨a1,a2⟩|⟨j,e',a1,a2,a3,a4⟩
   ·refine .inl ⟨by rw[hstep,if_neg hbt,a1],fun e' he'=>?_⟩;rcases ax8.1 he' with rfl|he'
    ·exact hne
    ·exact a2 e' he'
   ·refine .inr ⟨j+1,e',by rw[hstep,if_neg hbt,a1,show n+1+j=n+(j+1) by omega],by simpa using a2,a3,fun i e'' hi he''=>?_⟩;cases i with
    |zero=>simp at he'';subst he'';exact hne
    |succ i=>exact a4 i e'' (by omega) (by simpa using he'')
theorem j5a{P:Program}{t:TypeId}{k:Nat}{good:List Value->Prop}{gv:Value->Prop}(h:j6k P 10000 t k true good)(hu:P.underlying t=some (.struct (P.fieldsOf t)))(hg:∀v,gv v->∃xs,good xs/\v=.agg xs.toArray):j6b P t gv where
 check:=by
  intro b w v hv;obtain⟨xs,hx,rfl⟩:=hg v hv;exact h.key b w xs hx
 find:=by
  intro w x hx es hes;obtain⟨xs,hxs,rfl⟩:=hg x hx
  have hnow:∀es:List MapEntry,Instr.findNow (.struct (P.fieldsOf t)) (.agg xs.toArray) es 0=none\/es=[]:=by
   intro es;cases es with
   |nil=>exact .inr rfl
   |cons e es=>
    left
    simp[Instr.findNow,Instr.sameNow]
  have hfk:(Instr.findKey t (.agg xs.toArray) es).run P w=(Instr.findAsking t (.agg xs.toArray) es 0).run P w:=by
   simp only[Instr.findKey,Sem.run_bind,run_underlying hu,Result.andThen_ok];rcases hnow es with hn|rfl
   ·rw[hn]
   ·rfl
  rw[hfk];rcases w7d h w xs hxs es 0 (fun e he=>by obtain⟨ys,h1,h2⟩:=hg e.key (hes e he);exact⟨ys,h1,h2⟩) with h1|⟨j,e,h1,h2⟩
  ·exact .inl h1
  ·exact .inr ⟨j,e,by rw[h1];simp,h2⟩
 stays:=by
  intro w v hv;obtain⟨xs,hx,rfl⟩:=hg v hv;have hb:=h.bits xs hx
  have:Instr.sameBits 10000 (.agg xs.toArray) (.agg xs.toArray)=true:=by
   rw[show(10000:Nat)=9999+1 from rfl,Instr.sameBits];simp only[beq_self_eq_true,aj8,aw9]
   rintro⟨x,y⟩ hxy
   have hxy':x=y/\x∈xs:=by
    obtain⟨i,hi⟩:=au8.1 hxy;rw[List.getElem?_zip_eq_some] at hi;simp only at hi;obtain⟨h1,h2⟩:=hi;rw[h1] at h2;exact⟨ak9 h2,bd8 (by simpa using h1)⟩
   obtain⟨rfl,hm⟩:=hxy';exact j8r x (aw9.1 hb x hm)
  simp only[Instr.keyThatStays,this,if_true];rfl
theorem w7m:∀a b:Bool,(Value.bool a)=.bool b->a=b:=by intro a b h;cases h;rfl
theorem eq_b{α β:Type}[DecidableEq α](cv:α->β)(u v:α)(inj:cv u=cv v->u=v):cv u=cv v<->decide (u=v)=true:=by
 rw[decide_eq_true_eq];exact⟨inj,fun h=>by rw[h]⟩
theorem v3r{K:Ctx}{Q:q5q}{S:St}{ops:Array Oper}{rest:List Oper}{ty:TypeId}{pos:String}{after:Array Edge}{g:Option (Nat×Bool)}
  {d k:Nat} {x y:Operand} {T T':TypeId} {xs ys:List Value} (neg:Bool) {b:Bool} {good:List Value->Prop} (h:j6k K.P 10000 T k true good)
  (gx:good xs) (gy:good ys) (hb:xs=ys<->b=true) (hg:K.P.eqGuardType K.P.depth T=false) (hw:q1h ops S ⟨some d,.binOp (if neg then .neq else .eql) T x y T',ty,pos,after,g⟩ true)
  (hx:evl K S x=.agg (xs.map .con)) (hy:evl K S y=.agg (ys.map .con)) (hN:Nat.blt d K.N=true)
  (kk:q7g K ops rest Q (S.put d (.con (.bool (if neg then !b else b))))):q7g K ops (⟨some d,.binOp (if neg then .neq else .eql) T x y T',ty,pos,after,g⟩::rest) Q S:=
 w3p neg hg (fun w=>by
  obtain⟨r,h1,h2⟩:=h.eq w xs ys gx gy;simp only[q2v,if_true] at h1
  have:r=b:=by
   cases r<;>cases b<;>simp_all
  rw[h1,this]) hw hx hy rfl rfl hN kk
section
variable{K:Ctx}{Q:q5q}{S S':St}{ops:Array Oper}{rest:List Oper}{op:Op}{ty:TypeId}{pos:String}{after:Array Edge}{g:Option (Nat×Bool)}
variable{m:Mem}{β:q4m}{w:World}{a:Act}
theorem q7h:q6h K S ⟨S.env,(S.nx,.res)::S.hp,S.nx+1⟩:=by
 intro m β w a r
 let β':q4m:=⟨β.f,fun i=>if i=S.nx then fun _=>False else β.hid i⟩
 have hle:β.le β':=fun _ _ h=>h;have hn:β'.hid S.nx=fun _=>False:=by show(if _ then _ else _)=_;rw[if_pos rfl]
 have hho:∀i,i≠S.nx->β'.hid i=β.hid i:=fun i h=>by show(if _ then _ else _)=_;rw[if_neg h]
 have hlive:∀i,i≠S.nx->q1e ((S.nx,Ob.res)::S.hp) i≠.dead->q1e S.hp i≠.dead:=by
  intro i h hi;rw[q5d,if_neg (Ne.symm h)] at hi;exact hi
 refine⟨m,β',r.imm,r.ext,r.mold,r.frame,r.size,r.same,r.tn,r.df,fun t=>(r.env t).mono (Mem.le_refl _) hle,?_,?_,?_,?_,fun id h=>r.nx id (Nat.le_of_succ_le h),fun q hq=>⟨Nat.lt_succ_of_lt (r.pin q hq).1,(r.pin q hq).2⟩⟩
 ·intro id
  show q4l m β' w (β'.hid id) (β id) (q1e ((S.nx,Ob.res)::S.hp) id)
  rw[q5d];split
  ·rename_i h;subst h;rw[r.nx _ (ae8 _)];trivial
  ·rename_i h;rw[hho id (Ne.symm h)];exact q4l.mono (Mem.le_refl _) hle (fun _ _ h=>h) (fun _ _=>rfl) (r.own id)
 ·intro id b cap hl hb;rw[q5d] at hl;split at hl
  ·rename_i h;subst h;have hb:β S.nx=some (some (b,cap)):=hb;rw[r.nx _ (ae8 _)] at hb;simp at hb
  ·exact r.priv id b cap hl hb
 ·intro id id' b c c' hl hl' hb hb';rw[q5d] at hl hl';split at hl
  ·rename_i h;subst h;have hb:β S.nx=some (some (b,c)):=hb;rw[r.nx _ (ae8 _)] at hb;simp at hb
  ·split at hl'
   ·rename_i h;subst h;have hb':β S.nx=some (some (b,c')):=hb';rw[r.nx _ (ae8 _)] at hb';simp at hb'
   ·exact r.inj id id' b c c' hl hl' hb hb'
 ·intro id x hl hx;by_cases h:id=S.nx
  ·subst h;rw[hn] at hx;exact hx.elim
  ·rw[hho id h] at hx;have q:=r.hid id x (hlive id h hl) hx;refine⟨q.lt,q.m,q.old,fun i b c hi hb=>?_,fun i hi hx'=>?_⟩
   ·by_cases h':i=S.nx
    ·subst h';have hb:β S.nx=some (some (b,c)):=hb;rw[r.nx _ (ae8 _)] at hb;simp at hb
    ·exact q.ne i b c (hlive i h' hi) hb
   ·by_cases h':i=S.nx
    ·subst h';rw[hn] at hx';exact hx'.elim
    ·rw[hho i h'] at hx';exact q.un i (hlive i h' hi) hx'
theorem Rel.free(r:Rel K m β w a S){id:Nat}(h:q1e S.hp id=.res):β id=none:=by
 have:=r.own id;rw[h] at this;cases hb:β id with
 |none=>rfl
 |some l=>rw[hb] at this;cases l with
  |none=>simp[q4l] at this
  |some p=>simp[q4l] at this
theorem Rel.allocAt(r:Rel K m β w a S)(id:Nat)(hid:id<S.nx)(hpid:K.pins<=id)(hres:q1e S.hp id=.res)(o:Obj)(ob:Ob)(cap:Cap)(w':World)(hw':w'={ w with heap:=w.heap.push o })
  (hok:∀β',β.le β'->q4l m β' w' (fun _=>False) (some (some (w.heap.size,cap))) ob):
  ∃β':q4m,β.le β'/\β' id=some (some (w.heap.size,cap))/\Rel K m β' w' a ⟨S.env,(id,ob)::S.hp,S.nx⟩:=
 r.allocG id S.nx (r.free hres) (fun q hq=>by omega) hid (ae8 _) o ob cap w' hw' (fun _=>False) (fun _ h=>h.elim) hok
theorem z3q{d n nx:Nat}{T:TypeId}{zs:List Value}(id:Nat)(hid:(Nat.blt id nx&&Nat.ble K.pins id)=true)(hnx:S.nx=nx)(hres:q1e S.hp id=.res)(hz:zeroCells K.P T=some zs)(hn:zs.length=n)(h1:zs.all (·.oneCell')=true)(hw:q1h ops S ⟨some d,.alloc T,ty,pos,after,g⟩ true)
  (hN:Nat.blt d K.N=true)
  (kk:q7g K ops rest Q ⟨(d,.ptr id n 0 0)::S.env,(id,.arr T n [zs.map .con])::S.hp,S.nx⟩):
  q7g K ops (⟨some d,.alloc T,ty,pos,after,g⟩::rest) Q S:=by
 refine q3k hw (fun m β w a r=>?_) kk;subst hn;obtain⟨z,hz1,hz2⟩:=z7z hz w
 obtain⟨β',hle,hn,r'⟩:=r.allocAt id (by rw[hnx];exact bd9 (cx8.1 hid).1) (bd9 (cx8.1 hid).2) hres (.cells z.cells T) (.arr T zs.length [zs.map .con]) ⟨1,0⟩ _ rfl (fun β' hle=>by
  refine q8t (vs:=z.cells) (by simp) (by simp[hz2]) (by simp) (by unfold maxLen;omega) (by simp) ?_
  ·intro i j row c hi hj;cases i with
   |succ i=>simp at hi
   |zero=>
    simp at hi;subst hi;rw[bf9] at hj;cases hzj:zs[j]? with
    |none=>simp[hzj] at hj
    |some v=>
     simp[hzj] at hj;subst hj;refine⟨v,by simp[hz2,hzj],.imm (.con v),aw9.1 h1 v (bd8 hzj)⟩)
 refine⟨.pointer (some ⟨w.heap.size,0,none⟩),{ w with heap:=w.heap.push (.cells z.cells T) },m,β',.inl ?_,?_⟩;rotate_left
 ·exact Rel.put r' hN (by have:=q8n.ptr (m:=m) (k:=zs.length) (i:=0) (off:=0) hn;simpa using this)
 ·simp only[execOp,Instr.alloc];simp only[Sem.run_bind,hz1,Result.andThen_ok];rfl
theorem v1m{d nx:Nat}{x:Operand}{T:TypeId}{dv:V}(id:Nat)(hid:(Nat.blt id nx&&Nat.ble K.pins id)=true)(hnx:S.nx=nx)(hres:q1e S.hp id=.res)(cs:List V)(hw:q1h ops S ⟨some d,.box T x,ty,pos,after,g⟩ true)
  (hx:evl K S x=dv) (hcs:q9p dv=cs) (h1:cs.all z3c=true) (hN:Nat.blt d K.N=true)
  (kk:q7g K ops rest Q ⟨(d,.ptr id cs.length 0 0)::S.env,(id,.arr T cs.length [cs])::S.hp,S.nx⟩):
  q7g K ops (⟨some d,.box T x,ty,pos,after,g⟩::rest) Q S:=by
 refine q3k hw (fun m β w a r=>?_) kk;have h:=r.reads x;rw[hx] at h;obtain⟨c1,c2,c3⟩:=h.cells (by rw[hcs];exact h1);rw[hcs] at c1 c2
 obtain⟨β',hle,hn,r'⟩:=r.allocAt id (by rw[hnx];exact bd9 (cx8.1 hid).1) (bd9 (cx8.1 hid).2) hres (.cells (a.eval x).cells T) (.arr T cs.length [cs]) ⟨1,0⟩ _ rfl (fun β' hle=>by
  refine q8t (vs:=(a.eval x).cells) (by simp) (by simp[<-c1]) (by simp) (by unfold maxLen;omega) (by simp) ?_
  ·intro i j row c hi hj;cases i with
   |succ i=>simp at hi
   |zero=>
    simp at hi;subst hi;have hj':j<(a.eval x).cells.size:=by rw[<-c1];exact(bi8.1 hj).1
    refine⟨(a.eval x).cells[j],by simp[hj'],(c2 j c _ hj (by simp[hj'])).mono (Mem.le_refl _) hle,c3 _ (by simp)⟩)
 refine⟨.pointer (some ⟨w.heap.size,0,none⟩),{ w with heap:=w.heap.push (.cells (a.eval x).cells T) },m,β',.inl ?_,?_⟩;rotate_left
 ·exact Rel.put r' hN (by have:=q8n.ptr (m:=m) (k:=cs.length) (i:=0) (off:=0) hn;simpa using this)
 ·simp only[execOp];rfl
theorem z2a{d nx:Nat}{T:TypeId}(id:Nat)(hid:(Nat.blt id nx&&Nat.ble K.pins id)=true)(hnx:S.nx=nx)(hres:q1e S.hp id=.res)(hw:q1h ops S ⟨some d,.makeMap T none,ty,pos,after,g⟩ true)(hN:Nat.blt d K.N=true)
  (kk:q7g K ops rest Q ⟨(d,.map id)::S.env,(id,.map [])::S.hp,S.nx⟩):q7g K ops (⟨some d,.makeMap T none,ty,pos,after,g⟩::rest) Q S:=by
 refine q3k hw (fun m β w a r=>?_) kk;obtain⟨β',hle,hn,r2⟩:=r.allocAt id (by rw[hnx];exact bd9 (cx8.1 hid).1) (bd9 (cx8.1 hid).2) hres (.map #[] 0) (.map []) ⟨0,0⟩ _ rfl (fun β' hle=>⟨#[],0,fun _ _=>False,j6y (by simp),rfl,z2j,by simp⟩);refine⟨.map (some w.heap.size),{ w with heap:=w.heap.push (.map #[] 0) },m,β',.inl ?_,Rel.put r2 hN (.map hn)⟩;simp only[execOp,an9];rw[Sem.run_bind];rfl
theorem z1k{d T e k bytes n:Nat}{parts:Array (Nat×Operand)}{zs:List Value}(ps:List (Nat×V))(rows:List (List V))(hT:z6j K.P T e k bytes=true)(hz:zeroCells K.P e=some zs)
  (h1:zs.all (·.oneCell')=true) (hk:0<k) (hnn:0<n) (hbig:n*k<=16777216)
  (hps:parts.toList.map (fun p=>(p.1,evl K S p.2))=ps) (hf:j9l (fun i=>some (i*k,k)) (((List.range (n*k)).map fun i=>zs.getD (i % k) undef).map .con) ps=some (v6w rows))
  (hrl:rows.length=n) (hrk:∀row,row∈rows->row.length=k) (r:Rel K m β w a S):
  ∃cells':Array Value,cells'.size=n*k/\(∀(i j:Nat) (row:List V) (c:V),rows[i]? = some row->row[j]? = some c->∃v,cells'[i*k+j]? = some v/\q8n m β c v/\v.oneCell'=true)/\
   (execOp a.eval ⟨some d,.buildSlice T n parts,ty,pos,after,g⟩).run K.P w=.ok (.value (.slice (some ⟨w.heap.size,0,none⟩) n n)) { w with heap:=w.heap.push (.cells cells' e (0,0)) }:=by
 obtain⟨hl,hr⟩:=j3d r parts ps hps;obtain⟨i,z,hu,hi,hs,hby,hzz,hzk⟩:=z6a hT;obtain⟨z',hz1,hz2⟩:=z7z hz w
 have hzl:zs.length=k:=by
  have:zeroCells K.P e=some z.cells.toList:=by simp[zeroCells,hi,hzz]
  rw[hz] at this;simp only[bc8] at this;rw[this];simp[hzk]
 have hkk:K.P.cellsOf e=k:=by simp[Program.cellsOf,hi,hs]
 have hrows:0<n*k:=Nat.mul_pos hnn hk;have hall:∀v,v∈zs->v.oneCell'=true:=fun v hv=>aw9.1 h1 v hv
 have hzc:(Array.range (n*k)).map (fun x=>(z'.cells)[x % z'.cells.size]!)=(((List.range (n*k)).map fun i=>zs.getD (i % k) undef)).toArray:=by
  apply ay9;simp only[bn9,Array.toList_range,hz2,bx8,hzl];apply List.map_congr_left;intro x _;have:x % k<zs.length:=by rw[hzl];exact at9 _ hk
  simp[this]
 obtain⟨cells',f1,f2⟩:=j8a ps _ _ (v6w rows) (((List.range (n*k)).map fun i=>zs.getD (i % k) undef)).toArray hf (z9r (by
  rw[aw9];intro v hv;simp only[bk9,da8] at hv;obtain⟨p,_,rfl⟩:=hv;have:p % k<zs.length:=by rw[hzl];exact at9 _ hk
  simp only[db8,be8 this,ck9];exact hall _ (bh8 _)) m β) hl hr
 have hsize:cells'.size=n*k:=by rw[<-f2.1,z3m rows hrk,hrl]
 refine⟨cells',hsize,?_,?_⟩
 ·intro i j row c hi hj;have hg:=j3t rows hrk i j row c hi hj;have hlt:i*k+j<cells'.size:=by rw[<-f2.1];exact(bi8.1 hg).1
  obtain⟨a1,a2⟩:=f2.2 _ c cells'[i*k+j] hg (by simp[hlt]);exact⟨cells'[i*k+j],by simp[hlt],a1,a2⟩
 ·simp only[execOp];rw[Sem.run_bind]
  have:(Instr.buildSlice T n (parts.map fun(i,x)=>(i,a.eval x))).run K.P w=.ok (.slice (some ⟨w.heap.size,0,none⟩) n n) { w with heap:=w.heap.push (.cells cells' e (0,0)) }:=by
   simp only[Instr.buildSlice,Sem.run_bind,run_underlying hu,Result.andThen_ok,run_sizeOf w hi,hkk];rw[if_neg (by omega),if_neg (by omega)];simp only[Sem.run_bind,hz1,Result.andThen_ok,pure,Sem.run,hzc,f1,newRow,newObj]
  rw[this];rfl
theorem z9a{d T e k bytes n nx:Nat}{parts:Array (Nat×Operand)}{zs:List Value}(id:Nat)(hid:(Nat.blt id nx&&Nat.ble K.pins id)=true)(hnx:S.nx=nx)(hres:q1e S.hp id=.res)(ps:List (Nat×V))(rows:List (List V))(hT:z6j K.P T e k bytes=true)(hz:zeroCells K.P e=some zs)
  (hw:q1h ops S ⟨some d,.buildSlice T n parts,ty,pos,after,g⟩ true)
  (h1:zs.all (·.oneCell')=true) (hk:Nat.blt 0 k=true) (hnn:Nat.blt 0 n=true) (hbig:Nat.ble (n*k) 16777216=true)
  (hps:parts.toList.map (fun p=>(p.1,evl K S p.2))=ps) (hf:j9l (fun i=>some (i*k,k)) (((List.range (n*k)).map fun i=>zs.getD (i % k) undef).map .con) ps=some (v6w rows))
  (hrl:rows.length=n) (hrk:∀row,row∈rows->row.length=k) (hN:Nat.blt d K.N=true)
  (kk:q7g K ops rest Q ⟨(d,.own id n)::S.env,(id,.arr e k rows)::S.hp,S.nx⟩):
  q7g K ops (⟨some d,.buildSlice T n parts,ty,pos,after,g⟩::rest) Q S:=by
 refine q3k hw (fun m β w a r=>?_) kk;have hk:=bd9 hk;have hnn:=bd9 hnn;have hbig:=bd9 hbig;obtain⟨cells',hsize,hcl,hrun⟩:=z1k (d:=d) (ty:=ty) (pos:=pos) (after:=after) (g:=g) ps rows hT hz h1 hk hnn hbig hps hf hrl hrk r
 obtain⟨β',hle,hn,r2⟩:=r.allocAt id (by rw[hnx];exact bd9 (cx8.1 hid).1) (bd9 (cx8.1 hid).2) hres (.cells cells' e (0,0)) (.arr e k rows) ⟨n,0⟩ _ rfl (fun β' hle=>by
  refine q8t (vs:=cells') (by simp) hsize (by omega) (by unfold maxLen;have:=cq8 n hk;omega) hrk ?_;intro i j row c hi hj;obtain⟨v,h1,h2,h3⟩:=hcl i j row c hi hj;exact⟨v,h1,h2.mono (Mem.le_refl _) hle,h3⟩)
 exact⟨_,_,m,β',.inl hrun,Rel.put r2 hN (.own hn)⟩
theorem q8h{d T e k bytes n:Nat}{parts:Array (Nat×Operand)}{zs:List Value}(ps:List (Nat×V))(rows:List (List V))(hT:z6j K.P T e k bytes=true)(hz:zeroCells K.P e=some zs)
  (hw:q1h ops S ⟨some d,.buildSlice T n parts,ty,pos,after,g⟩ true)
  (h1:zs.all (·.oneCell')=true) (hk:Nat.blt 0 k=true) (hnn:Nat.blt 0 n=true) (hbig:Nat.ble (n*k) 16777216=true)
  (hps:parts.toList.map (fun p=>(p.1,evl K S p.2))=ps) (hf:j9l (fun i=>some (i*k,k)) (((List.range (n*k)).map fun i=>zs.getD (i % k) undef).map .con) ps=some (v6w rows))
  (hrl:rows.length=n) (hrk:∀row,row∈rows->row.length=k) (him:∀row,row∈rows->q1t row) (hN:Nat.blt d K.N=true)
  (kk:q7g K ops rest Q (S.put d (.lst k rows))):
  q7g K ops (⟨some d,.buildSlice T n parts,ty,pos,after,g⟩::rest) Q S:=by
 refine q3k hw (fun m β w a r=>?_) kk;have hk:=bd9 hk;have hnn:=bd9 hnn;have hbig:=bd9 hbig;obtain⟨cells',hsize,hcl,hrun⟩:=z1k (d:=d) (ty:=ty) (pos:=pos) (after:=after) (g:=g) ps rows hT hz h1 hk hnn hbig hps hf hrl hrk r
 let m':Mem:=fun b=>if b=w.heap.size then some (.cells cells' e (0,0)) else m b
 have hnone:m w.heap.size=none:=by
  cases hm:m w.heap.size with
  |none=>rfl
  |some o'=>have:=q9h (r.imm _ _ hm);omega
 have hle:m.le m':=by
  intro b o h;have:b≠w.heap.size:=by intro e;rw[e,hnone] at h;simp at h
  simp[m',this,h]
 have hg:w5u m m' w { w with heap:=w.heap.push (.cells cells' e (0,0)) }:=by
  refine⟨hle,?_,?_,?_,by simp,⟨rfl,rfl,rfl,ae8 _⟩⟩
  ·intro b o h;by_cases hb:b=w.heap.size
   ·subst hb;simp[m'] at h;simp[h]
   ·simp[m',hb] at h;have:=q9h (r.imm _ _ h);simp only[bz9];rw[if_neg hb];exact r.imm _ _ h
  ·intro b hb;have:b≠w.heap.size:=by omega
   simp[m',this]
  ·intro b hb;simp only[bz9];rw[if_neg (by omega)]
 refine⟨_,_,m',β,.inl hrun,Rel.put (r.grow hg) hN (.imm (.lst (arr:=cells') (T:=e) (fr:=(0,0)) (fun i=>(cells'[i]?).getD undef) (by simp[m']) rfl hrl (ae8 _) (cj9 (cj9 (cq8 n hk) hbig) (by unfold maxLen;omega)) hrk ?_ ?_))⟩
 ·intro i hi;rw[hrl] at hi;simp[show i<cells'.size by omega]
 ·intro i j row c hi hj;obtain⟨v,h1,h2,h3⟩:=hcl i j row c hi hj;simp only[h1,ck9];exact((him row (bd8 hi) c (bd8 hj)).2 m β v h2).mono hle
end
end Go.Pv
