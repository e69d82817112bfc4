/- Part of the proof: E, F, G, H. -/
import Derived.Test.YtcihpgamojpcnaaGreatCutPvD
set_option linter.unusedSimpArgs false
set_option linter.unusedVariables false
namespace Go.Pv
open Go
section
variable{K:Ctx}{Q:q5q}{S:St}{ops:Array Oper}{rest:List Oper}{op:Op}{ty:TypeId}{pos:String}{after:Array Edge}{g:Option (Nat×Bool)}
variable{m:Mem}{β:q4m}{w:World}{a:Act}
theorem j4a{m:Mem}{β:q4m}{w':World}{B:Nat->Prop}{T:TypeId}{vs:Array Value}{b k:Nat}{cap:Cap}{rows:List (List V)}(bl:Nat->Nat->Prop)(hBl:Bls B bl)(hw:w'.heap[b]? = some (.cells vs T (0,0)))
  (hsz:vs.size=cap.off+cap.n*k) (hr:rows.length<=cap.n) (hcap:cap.n<=maxLen) (hk:∀row,row∈rows->row.length=k)
  (hc:∀(i j:Nat) (row:List V) (c:V),rows[i]? = some row->row[j]? = some c->∃v,vs[cap.off+(i*k+j)]? = some v/\z1z m β w' (bl (i*k+j)) c v/\v.oneCell'=true):
  q4l m β w' B (some (some (b,cap))) (.arr T k rows):=⟨vs,bl,hw,hsz,hr,hcap,hk,hBl,hc⟩
theorem z2j{B:Nat->Prop}:Bls B (fun _ _=>False):=⟨fun _ _ h=>h.elim,fun _ _ _ h=>h.elim⟩
theorem q8t{m:Mem}{β:q4m}{w':World}{B:Nat->Prop}{T:TypeId}{vs:Array Value}{b k n:Nat}{rows:List (List V)}(hw:w'.heap[b]? = some (.cells vs T (0,0)))
  (hsz:vs.size=n*k) (hr:rows.length<=n) (hcap:n<=maxLen) (hk:∀row,row∈rows->row.length=k)
  (hc:∀(i j:Nat) (row:List V) (c:V),rows[i]? = some row->row[j]? = some c->∃v,vs[i*k+j]? = some v/\q8n m β c v/\v.oneCell'=true):
  q4l m β w' B (some (some (b,⟨n,0⟩))) (.arr T k rows):=
 j4a _ z2j hw (by simpa using hsz) hr hcap hk (fun i j row c hi hj=>let ⟨v,a1,a2,a3⟩:=hc i j row c hi hj;⟨v,by simpa using a1,.inl a2,a3⟩)
theorem w4p{d:Nat}{x:Operand}{T:TypeId}{dv:V}(cs:List V)(hw:q1h ops S ⟨some d,.box T x,ty,pos,after,g⟩ true)
  (hx:evl K S x=dv) (hcs:q9p dv=cs) (h1:cs.all z3c=true) (hN:Nat.blt d K.N=true)
  (kk:q7g K ops rest Q ⟨(d,.ptr S.nx cs.length 0 0)::S.env,(S.nx,.arr T cs.length [cs])::S.hp,S.nx+1⟩):
  q7g K ops (⟨some d,.box T x,ty,pos,after,g⟩::rest) Q S:=by
 refine q3k hw (fun m β w a r=>?_) kk;have h:=r.reads x;rw[hx] at h;obtain⟨c1,c2,c3⟩:=h.cells (by rw[hcs];exact h1);rw[hcs] at c1 c2
 obtain⟨β',hle,hn,r'⟩:=r.alloc (.cells (a.eval x).cells T) (.arr T cs.length [cs]) ⟨1,0⟩ _ rfl (fun β' hle=>by
  refine q8t (vs:=(a.eval x).cells) (by simp) (by simp[<-c1]) (by simp) (by unfold maxLen;omega) (by simp) ?_
  ·intro i j row c hi hj;cases i with
   |succ i=>simp at hi
   |zero=>
    simp at hi;subst hi;have hj':j<(a.eval x).cells.size:=by rw[<-c1];exact(bi8.1 hj).1
    refine⟨(a.eval x).cells[j],by simp[hj'],(c2 j c _ hj (by simp[hj'])).mono (Mem.le_refl _) hle,c3 _ (by simp)⟩)
 refine⟨.pointer (some ⟨w.heap.size,0,none⟩),{ w with heap:=w.heap.push (.cells (a.eval x).cells T) },m,β',.inl ?_,?_⟩;rotate_left
 ·exact Rel.put r' hN (by have:=q8n.ptr (m:=m) (k:=cs.length) (i:=0) (off:=0) hn;simpa using this)
 ·simp only[execOp];rfl
def zeroCells(P:Program)(T:TypeId):Option (List Value):=((P.info? T).bind (·.zero)).map (·.cells.toList)
theorem z7z{P:Program}{T:TypeId}{zs:List Value}(h:zeroCells P T=some zs)(w:World):∃z,(zeroValue T).run P w=.ok z w/\z.cells=zs.toArray:=by
 unfold zeroCells at h;cases hi:P.info? T with
 |none=>simp[hi] at h
 |some i=>
  cases hz:i.zero with
  |none=>simp[hi,hz] at h
  |some z=>
   simp[hi,hz] at h;refine⟨z,?_,by rw[<-h]⟩;simp only[zeroValue,Sem.run_bind,run_typeInfo w hi,Result.andThen_ok,hz];rfl
theorem v8v{d n:Nat}{T:TypeId}{zs:List Value}(hz:zeroCells K.P T=some zs)(hn:zs.length=n)(h1:zs.all (·.oneCell')=true)(hw:q1h ops S ⟨some d,.alloc T,ty,pos,after,g⟩ true)
  (hN:Nat.blt d K.N=true)
  (kk:q7g K ops rest Q ⟨(d,.ptr S.nx n 0 0)::S.env,(S.nx,.arr T n [zs.map .con])::S.hp,S.nx+1⟩):
  q7g K ops (⟨some d,.alloc T,ty,pos,after,g⟩::rest) Q S:=by
 refine q3k hw (fun m β w a r=>?_) kk;subst hn;obtain⟨z,hz1,hz2⟩:=z7z hz w
 obtain⟨β',hle,hn,r'⟩:=r.alloc (.cells z.cells T) (.arr T zs.length [zs.map .con]) ⟨1,0⟩ _ rfl (fun β' hle=>by
  refine q8t (vs:=z.cells) (by simp) (by simp[hz2]) (by simp) (by unfold maxLen;omega) (by simp) ?_
  ·intro i j row c hi hj;cases i with
   |succ i=>simp at hi
   |zero=>
    simp at hi;subst hi;rw[bf9] at hj;cases hzj:zs[j]? with
    |none=>simp[hzj] at hj
    |some v=>
     simp[hzj] at hj;subst hj;refine⟨v,by simp[hz2,hzj],.imm (.con v),aw9.1 h1 v (bd8 hzj)⟩)
 refine⟨.pointer (some ⟨w.heap.size,0,none⟩),{ w with heap:=w.heap.push (.cells z.cells T) },m,β',.inl ?_,?_⟩;rotate_left
 ·exact Rel.put r' hN (by have:=q8n.ptr (m:=m) (k:=zs.length) (i:=0) (off:=0) hn;simpa using this)
 ·simp only[execOp,Instr.alloc];simp only[Sem.run_bind,hz1,Result.andThen_ok];rfl
def tyS(P:Program)(T:TypeId)(n:Nat):Bool:=match P.info? T with|some i=>i.size==n|none=>false
theorem v6x{P:Program}{T:TypeId}{n:Nat}(h:tyS P T n=true)(w:World):(sizeOf T).run P w=.ok n w:=by
 unfold tyS at h;cases hi:P.info? T with
 |none=>simp[hi] at h
 |some i=>
  rw[hi] at h;simp at h;rw[run_sizeOf w hi];simp[Program.cellsOf,hi,h]
theorem z8b{α:Type}(row cs:List α)(o:Nat)(h:o+cs.length<=row.length)(j:Nat):
  (row.take o++cs++row.drop (o+cs.length))[j]? = if o<=j/\j<o+cs.length then cs[j - o]? else row[j]?:=by
 rw[List.append_assoc,ce9,bs9,Nat.min_eq_left (by omega)];by_cases h1:j<o
 ·rw[if_pos h1,if_neg (by omega),bp9,if_pos h1]
 ·rw[if_neg h1,ce9];by_cases h2:j - o<cs.length
  ·rw[if_pos h2,if_pos (by omega)]
  ·rw[if_neg h2,if_neg (by omega),ba8]
   congr 1;omega
theorem z9l{w:World}{b b':Nat}{cs:Array Value}(h:b'≠b):(w.setRow b cs).heap[b']? = w.heap[b']?:=by
 simp only[World.setRow,by8];rw[if_neg (Ne.symm h)]
theorem q4x{w:World}{b:Nat}{cs arr:Array Value}{T:TypeId}{fr:Nat×Nat}(h:w.heap[b]? = some (.cells arr T fr)):(w.setRow b cs).heap[b]? = some (.cells cs T fr):=by
 simp only[World.setRow,by8,if_true,h,bg9]
theorem z3j{id k i o:Nat}{x y:Operand}{T e:TypeId}{rows:List (List V)}{row:List V}{dv:V}(cs:List V)(rows':List (List V))(hT:tyS K.P T cs.length=true)
  (hw:q1h ops S ⟨none,.store T x y,ty,pos,after,g⟩ true) (hx:evl K S x=.ptr id k i o) (hy:evl K S y=dv) (hcs:q9p dv=cs) (h1:cs.all z3c=true)
  (ho:q1e S.hp id=.arr e k rows) (hr:rows[i]? = some row) (hl:Nat.ble (o+cs.length) row.length=true)
  (hrows:rows.set i (row.take o++cs++row.drop (o+cs.length))=rows')
  (kk:q7g K ops rest Q ⟨S.env,(id,.arr e k rows')::S.hp,S.nx⟩):
  q7g K ops (⟨none,.store T x y,ty,pos,after,g⟩::rest) Q S:=by
 refine q3k hw (fun m β w a r=>?_) kk;have hl:=bd9 hl;have hxv:=r.reads x;rw[hx] at hxv;obtain⟨b,cap,hb,hv⟩:=hxv.ptr_inv;have hyv:=r.reads y;rw[hy] at hyv;obtain⟨c1,c2,c3⟩:=hyv.cells (by rw[hcs];exact h1);rw[hcs] at c1 c2;obtain⟨arr,bl,a1,a2,a3,a4,a5,aB,a6⟩:=r.obj hb ho;have hrk:row.length=k:=a5 row (bd8 hr);have hi:i<rows.length:=(bi8.1 hr).1
 have hik:cap.off+(i*k+k)<=arr.size:=by
  have:i*k+k<=cap.n*k:=by
   calc i*k+k=(i+1)*k:=by rw[ap8,as9]
    _<=cap.n*k:=bk8 _ (by omega)
  rw[a2];omega
 have hlen:(a.eval y).cells.toList.length=cs.length:=by simp[c1]
 have hrun:=run_storeCells_at (P:=K.P) b (cap.off+(i*k+o)) e (a.eval y).cells.toList 0 arr w a1 (by rw[hlen];omega) c3;simp only[bl8] at hrun;refine⟨undef,w.setRow b (arr.toList.take (cap.off+(i*k+o))++(a.eval y).cells.toList++arr.toList.drop (cap.off+(i*k+o)+(a.eval y).cells.toList.length)).toArray,m,β,.inr ⟨rfl,?_⟩,?_⟩;rotate_left
 ·refine r.update (by rw[ho];simp) hb _ (.arr e k rows') (fun b' hb'=>z9l hb') (by simp[World.setRow]) ⟨rfl,rfl,rfl,ae8 _⟩ (fun hkeep=>?_);refine j4a bl aB (q4x a1) ?_ (by rw[<-hrows];simpa using a3) a4 ?_ ?_
  ·have:(arr.toList.take (cap.off+(i*k+o))++(a.eval y).cells.toList++arr.toList.drop (cap.off+(i*k+o)+(a.eval y).cells.toList.length)).length=arr.size:=by
    simp only[bp8,bs9,aq9,bs8,hlen];omega
   rw[bx8,this,a2]
  ·intro row' hrow';rw[<-hrows] at hrow';rcases aq8 hrow' with h|h
   ·exact a5 _ h
   ·rw[h];simp only[bp8,bs9,aq9];omega
  ·intro i' j row' c hi' hj
   have keep:∀(i2 j:Nat) (row:List V) (c:V),rows[i2]? = some row->row[j]? = some c->∃v,arr[cap.off+(i2*k+j)]? = some v/\z1z m β (w.setRow b (arr.toList.take (cap.off+(i*k+o))++(a.eval y).cells.toList++arr.toList.drop (cap.off+(i*k+o)+(a.eval y).cells.toList.length)).toArray) (bl (i2*k+j)) c v/\v.oneCell'=true:=by
    intro i2 j row c hi hj;obtain⟨v,q1,q2,q3⟩:=a6 i2 j row c hi hj;exact⟨v,q1,q2.mono (Mem.le_refl _) (q4m.le_refl _) (fun _ h=>h) (fun x hx=>hkeep x (aB.1 _ x hx)),q3⟩
   have q1e:∀p,(arr.toList.take (cap.off+(i*k+o))++(a.eval y).cells.toList++arr.toList.drop (cap.off+(i*k+o)+(a.eval y).cells.toList.length)).toArray[p]? =
     if cap.off+(i*k+o)<=p/\p<cap.off+(i*k+o)+cs.length then (a.eval y).cells[p - (cap.off+(i*k+o))]? else arr[p]?:=by
    intro p;rw[bo8,z8b _ _ _ (by rw[hlen];simp;omega),hlen];split<;>simp
   rw[q1e];rw[<-hrows,bt8] at hi';by_cases hii:i=i'
   ·subst hii;rw[if_pos rfl,if_pos hi] at hi';simp only[bc8] at hi';subst hi';rw[z8b _ _ _ hl] at hj;by_cases hjo:o<=j/\j<o+cs.length
    ·rw[if_pos hjo] at hj;rw[if_pos (by omega)];have e1:cap.off+(i*k+j) - (cap.off+(i*k+o))=j - o:=by omega
     rw[e1];have hlt:j - o<(a.eval y).cells.size:=by rw[<-c1];omega
     exact⟨(a.eval y).cells[j - o],⟨by simp[hlt],.inl (c2 _ _ _ hj (by simp[hlt])),c3 _ (by simp)⟩⟩
    ·rw[if_neg hjo] at hj;rw[if_neg (by omega)];exact keep i j row c hr hj
   ·rw[if_neg hii] at hi';have hrk':row'.length=k:=a5 row' (bd8 hi');have hjk:j<k:=by rw[<-hrk'];exact(bi8.1 hj).1
    rw[if_neg]
    ·exact keep i' j row' c hi' hj
    ·intro hc;rcases Nat.lt_or_gt_of_ne hii with h|h
     ·have:(i+1)*k<=i'*k:=bk8 _ h;rw[ap8,as9] at this;omega
     ·have:(i'+1)*k<=i*k:=bk8 _ h;rw[ap8,as9] at this;omega
 ·simp only[execOp,hv,Instr.storeAt,Instr.sureAddr,storeVar];simp only[Sem.run_bind,pure,Sem.run,Result.andThen_ok,v6x hT w];rw[if_neg (by simp[c1]),hrun];rfl
end
section
variable{K:Ctx}{Q:q5q}{S:St}{ops:Array Oper}{rest:List Oper}{op:Op}{ty:TypeId}{pos:String}{after:Array Edge}{g:Option (Nat×Bool)}
variable{m:Mem}{β:q4m}{w:World}{a:Act}
def z1s(P:Program)(T:TypeId)(k:Nat):Bool:=
 match P.underlying T with|some (.slice e)=>(match P.info? e with|some i=>i.size==k|none=>false)|_=>false
def v1t(P:Program)(T:TypeId)(n k:Nat):Bool:=
 match P.underlying T with|some (.array l e)=>l==n&&(match P.info? e with|some i=>i.size==k|none=>false)|_=>false
theorem j0r{P:Program}{T:TypeId}{k:Nat}(h:z1s P T k=true):∃e i,P.underlying T=some (.slice e)/\P.info? e=some i/\i.size=k:=by
 unfold z1s at h;cases hu:P.underlying T with
 |none=>simp[hu] at h
 |some d=>
  rw[hu] at h;cases d<;>simp only[cy8] at h;rename_i e;cases hi:P.info? e with
  |none=>simp[hi] at h
  |some i=>rw[hi] at h;exact⟨e,i,rfl,hi,by simpa using h⟩
theorem v7x{P:Program}{T:TypeId}{n k:Nat}(h:v1t P T n k=true):∃e i,P.underlying T=some (.array n e)/\P.info? e=some i/\i.size=k:=by
 unfold v1t at h;cases hu:P.underlying T with
 |none=>simp[hu] at h
 |some d=>
  rw[hu] at h;cases d<;>simp only[cy8] at h;rename_i l e;cases hi:P.info? e with
  |none=>simp[hi] at h
  |some i=>
   rw[hi] at h;simp only[av8,beq_iff_eq] at h;obtain⟨rfl,h2⟩:=h;exact⟨e,i,rfl,hi,h2⟩
theorem q3z{P:Program}{w:World}{T:TypeId}{k len cap:Nat}{ad:Addr}{ik:IntKind}{n:Int}(hT:z1s P T k=true)(h0:0<=n)(h1:n.toNat<len):
  (Instr.indexAt T (.slice (some ad) len cap) (.int ik n)).run P w=.ok (.pointer (some (ad.add (n.toNat*k)))) w:=by
 obtain⟨e,i,hu,hi,hk⟩:=j0r hT;simp only[Instr.indexAt,asIntOf,Sem.run_bind,pure,Sem.run,Result.andThen_ok,run_underlying hu];rw[if_pos ⟨h0,by omega⟩];simp only[Sem.run_bind,run_sizeOf w hi,Result.andThen_ok,Program.cellsOf,hi,bg9,ck9,hk,Sem.run]
theorem j8m{d k:Nat}{x y:Operand}{T:TypeId}{rows:List (List V)}{ik:IntKind}{n:Int}(row:List V)(hT:z1s K.P T k=true)
  (hw:q1h ops S ⟨some d,.indexAddr T x y,ty,pos,after,g⟩ true) (hx:evl K S x=.lst k rows) (hy:evl K S y=.con (.int ik n)) (h0:0<=n) (hr:rows[n.toNat]? = some row)
  (hN:Nat.blt d K.N=true) (kk:q7g K ops rest Q (S.put d (.iptr row 0))):
  q7g K ops (⟨some d,.indexAddr T x y,ty,pos,after,g⟩::rest) Q S:=
 q9g _ hw hN (fun m β w a r=>by
  have h:=r.reads x;rw[hx] at h;have hlt:n.toNat<rows.length:=(bi8.1 hr).1;generalize hev:a.eval x=v at h;cases h with
  |imm h=>
   cases h with
   |nil=>simp at hr
   | @lst _ _ ad n' cap arr T' fr f hm hs hn hcap hbd hk hf h=>
    have hrk:row.length=k:=hk row (bd8 hr);refine⟨.pointer (some ⟨ad.block,ad.off+n.toNat*k,none⟩),?_,.imm (.iptr (fun j=>f (n.toNat*k+j)) (ad.off+n.toNat*k) hm rfl rfl ?_ ?_)⟩
    ·simp only[execOp,hev,r.con hy];refine q1f ?_;rw[q3z hT h0 (by omega),z5j hs,q4u]
    ·intro j hj;rw[ah8];refine hf _ ?_
     calc n.toNat*k+j<n.toNat*k+k:=by omega
      _=(n.toNat+1)*k:=by rw[ap8,as9]
      _<=rows.length*k:=bk8 _ (by omega)
    ·exact fun j c hj=>h _ _ row c hr hj) kk
theorem q6p{d k id len:Nat}{x y:Operand}{T:TypeId}{ik:IntKind}{n:Int}(hT:z1s K.P T k=true)
  (hw:q1h ops S ⟨some d,.indexAddr T x y,ty,pos,after,g⟩ true) (hx:evl K S x=.own id len) (hy:evl K S y=.con (.int ik n))
  (h0:0<=n) (hr:n.toNat<len) (hN:Nat.blt d K.N=true)
  (kk:q7g K ops rest Q (S.put d (.ptr id k n.toNat 0))):
  q7g K ops (⟨some d,.indexAddr T x y,ty,pos,after,g⟩::rest) Q S:=
 q9g _ hw hN (fun m β w a r=>by
  have h:=r.reads x;rw[hx] at h;generalize hev:a.eval x=v at h;cases h with
  |imm h=>cases h
  |ownNil h=>omega
  |own h=>
   refine⟨_,by simp only[execOp,hev,r.con hy];exact q1f (q3z hT h0 hr),?_⟩;rw[q4u];have:=q8n.ptr (m:=m) (k:=k) (i:=n.toNat) (off:=0) h
   simpa using this) kk
theorem j1s{P:Program}{w:World}{T:TypeId}{k len b o:Nat}{ik:IntKind}{n:Int}(hT:v1t P T len k=true)(h0:0<=n)(h1:n.toNat<len):
  (Instr.indexAt T (.pointer (some ⟨b,o,none⟩)) (.int ik n)).run P w=.ok (.pointer (some ⟨b,o+n.toNat*k,none⟩)) w:=by
 obtain⟨e,i,hu,hi,hk⟩:=v7x hT;simp only[Instr.indexAt,asIntOf,Sem.run_bind,pure,Sem.run,Result.andThen_ok,run_underlying hu,Instr.sureAddr];rw[if_pos ⟨h0,by omega⟩];simp only[Sem.run_bind,run_sizeOf w hi,Result.andThen_ok,Program.cellsOf,hi,bg9,ck9,hk,Sem.run,q4u]
theorem j9m{d k id i o len s:Nat}{x y:Operand}{T:TypeId}{ik:IntKind}{n:Int}(hT:v1t K.P T len s=true)
  (hw:q1h ops S ⟨some d,.indexAddr T x y,ty,pos,after,g⟩ true) (hx:evl K S x=.ptr id k i o) (hy:evl K S y=.con (.int ik n))
  (h0:0<=n) (hr:n.toNat<len) (hN:Nat.blt d K.N=true)
  (kk:q7g K ops rest Q (S.put d (.ptr id k i (o+n.toNat*s)))):
  q7g K ops (⟨some d,.indexAddr T x y,ty,pos,after,g⟩::rest) Q S:=
 q9g _ hw hN (fun m β w a r=>by
  have h:=r.reads x;rw[hx] at h;obtain⟨b,cap,hb,hv⟩:=h.ptr_inv;exact⟨_,by simp only[execOp,hv,r.con hy];exact q1f (j1s hT h0 hr),by have:=q8n.ptr (m:=m) (k:=k) (i:=i) (off:=o+n.toNat*s) hb;simpa[ah8] using this⟩) kk
theorem q7u{P:Program}{w w':World}{o:Oper}{b:Builtin}{args:Array Operand}{at':Array TypeId}{n:Next}
  (ho:o.op=.call ⟨.builtin b,args,at'⟩) (h:(builtin b at' o.type (args.map fun | .const _=>true|_=>false) (args.map a.eval)).run P w=.ok n w'):
  (execOp a.eval o).run P w=.ok n w':=by
 simp only[execOp,ho,resolve,invoke,Sem.run_bind,pure,Sem.run,Result.andThen_ok];exact h
def j1w(P:Program)(T:TypeId):Bool:=match P.underlying T with|some .string=>true|_=>false
def q3l(P:Program)(T:TypeId):Bool:=match P.underlying T with|some (.slice _)=>true|_=>false
def w1v(P:Program)(T:TypeId):Bool:=match P.underlying T with|some (.slice _)=>true|some .string=>true|_=>false
theorem j1r{P:Program}{T:TypeId}(h:w1v P T=true):(∃e,P.underlying T=some (.slice e))\/P.underlying T=some .string:=by
 unfold w1v at h;split at h<;>simp_all
theorem j6n{P:Program}{T:TypeId}(h:q3l P T=true):w1v P T=true:=by
 unfold q3l at h;unfold w1v;split at h<;>simp_all
theorem j0c{P:Program}{T:TypeId}(h:q3l P T=true):∃e,P.underlying T=some (.slice e):=by
 unfold q3l at h;cases hu:P.underlying T with
 |none=>simp[hu] at h
 |some d=>rw[hu] at h;cases d<;>simp only[cy8] at h;exact⟨_,rfl⟩
theorem j0w{P:Program}{T:TypeId}(h:j1w P T=true):P.underlying T=some .string:=by
 unfold j1w at h;cases hu:P.underlying T with
 |none=>simp[hu] at h
 |some d=>rw[hu] at h;cases d<;>simp only[cy8] at h;rfl
def w5r:V->Option Nat
 | .lst _ rows=>some rows.length
 | .own _ n=>some n
 | .con (.slice _ n _)=>some n
 |_=>none
theorem j8u{d n:Nat}{x:Operand}{T:TypeId}{sv:V}(hT:q3l K.P T=true)
  (hw:q1h ops S ⟨some d,.call ⟨.builtin .len,#[x],#[T]⟩,ty,pos,after,g⟩ true) (hx:evl K S x=sv) (hn:w5r sv=some n) (hN:Nat.blt d K.N=true)
  (kk:q7g K ops rest Q (S.put d (.con (.int .i64 n)))):
  q7g K ops (⟨some d,.call ⟨.builtin .len,#[x],#[T]⟩,ty,pos,after,g⟩::rest) Q S:=
 q9g _ hw hN (fun m β w a r=>by
  have h:=r.reads x;rw[hx] at h;obtain⟨e,hu⟩:=j0c hT
  have key:∃ad cap,a.eval x=.slice ad n cap:=by
   generalize a.eval x=v at h;cases h with
   |imm h=>
    cases h with
    |nil=>simp[w5r] at hn;subst hn;exact⟨_,_,rfl⟩
    |lst _ _ _ hl=>simp[w5r] at hn;subst hl;subst hn;exact⟨_,_,rfl⟩
    |con=>unfold w5r at hn;split at hn<;>simp_all
    |_=>simp[w5r] at hn
   |ownNil=>simp[w5r] at hn;subst hn;exact⟨_,_,rfl⟩
   |own=>simp[w5r] at hn;subst hn;exact⟨_,_,rfl⟩
   |_=>simp[w5r] at hn
  obtain⟨ad,cap,he⟩:=key;refine⟨.int .i64 n,q7u rfl ?_,.imm (.con _)⟩;simp only[builtin];refine q1f ?_;simp only[Builtin.len_,bv8,bw9,av9,he];simp[run_underlying hu,goInt,pure,Sem.run]) kk
theorem v7b{d:Nat}{x:Operand}{T:TypeId}{s:ByteArray}(hT:j1w K.P T=true)
  (hw:q1h ops S ⟨some d,.call ⟨.builtin .len,#[x],#[T]⟩,ty,pos,after,g⟩ true) (hx:evl K S x=.con (.string s)) (hN:Nat.blt d K.N=true)
  (kk:q7g K ops rest Q (S.put d (.con (.int .i64 s.size)))):
  q7g K ops (⟨some d,.call ⟨.builtin .len,#[x],#[T]⟩,ty,pos,after,g⟩::rest) Q S:=
 q9g _ hw hN (fun m β w a r=>by
  refine⟨.int .i64 s.size,q7u rfl ?_,.imm (.con _)⟩;simp only[builtin];refine q1f ?_;simp only[Builtin.len_,bv8,bw9,av9,r.con hx];simp[run_underlying (j0w hT),goInt,pure,Sem.run]) kk
structure v9m(m:Mem)(ds:List V)(vs:Array Value):Prop where
 len:ds.length=vs.size
 at':∀(i:Nat) (c:V) (v:Value),ds[i]? = some c->vs[i]? = some v->q2p m c v
def z6q(gl:Gl)(P:Program)(f:FuncId)(args:List V)(d:V):Prop:=
 ∀(m:Mem) (w:World) (vs:Array Value),(∀(b:Nat) o,m b=some o->w.heap[b]? = some o)->v5i gl m->v9m m args vs->
  Calls P f vs w fun e w'=>∃v m',e=.returned v/\q2p m' d v/\w5u m m' w w'
abbrev q7p:=z6q []
def q9y(d:V):Prop:=∀m β v,q8n m β d v->q2p m d v
def Imm(d:V):Prop:=d.deep=false/\q9y d
theorem Imm.con(v:Value):Imm (.con v):=⟨rfl,fun _ _ _ h=>by cases h with|imm h=>exact h⟩
theorem Imm.any:Imm .any:=⟨rfl,fun _ _ _ h=>by cases h with|imm h=>exact h⟩
theorem Imm.lst(k:Nat)(rows:List (List V)):Imm (.lst k rows):=⟨rfl,fun _ _ _ h=>by cases h with|imm h=>exact h⟩
theorem Imm.iptr(row:List V)(o:Nat):Imm (.iptr row o):=⟨rfl,fun _ _ _ h=>by cases h with|imm h=>exact h⟩
theorem Imm.ifc(T:Nat)(d:V):Imm (.ifc T d):=⟨rfl,fun _ _ _ h=>by cases h with|imm h=>exact h⟩
theorem Imm.imap(es:List (Value×V)):Imm (.imap es):=⟨rfl,fun _ _ _ h=>by cases h with|imm h=>exact h⟩
theorem q9y.dsl(e k:Nat)(rows:List (List V)):q9y (.dsl e k rows):=fun _ _ _ h=>by cases h with|imm h=>cases h
theorem q9y.dmp(es:List (Value×V)):q9y (.dmp es):=fun _ _ _ h=>by cases h with|imm h=>cases h
theorem q9y.plc(v0:Value)(d:V):q9y (.plc v0 d):=fun _ _ _ h=>by cases h with|imm h=>cases h
theorem q9y.dpt(e:Nat)(row:List V):q9y (.dpt e row):=fun _ _ _ h=>by cases h with|imm h=>cases h
def q1t(ds:List V):Prop:=∀c,c∈ds->Imm c
def z2u(ds:List V):Prop:=∀c,c∈ds->q9y c
theorem z2u.nil:z2u []:=fun _ h=>by simp at h
theorem z2u.cons{c:V}{ds:List V}(h:q9y c)(h':z2u ds):z2u (c::ds):=fun x hx=>by
 rcases ax8.1 hx with rfl|hx
 ·exact h
 ·exact h' x hx
theorem q1t.keep{ds:List V}(h:q1t ds):z2u ds:=fun c hc=>(h c hc).2
theorem q1t.nil:q1t []:=fun _ h=>by simp at h
theorem q1t.cons{c:V}{ds:List V}(h:Imm c)(h':q1t ds):q1t (c::ds):=fun x hx=>by
 rcases ax8.1 hx with rfl|hx
 ·exact h
 ·exact h' x hx
theorem q1t.get{ds:List V}(h:q1t ds){i:Nat}{c:V}(hi:ds[i]? = some c):Imm c:=h c (bd8 hi)
theorem Imm.agg{cs:List V}(h:q1t cs):Imm (.agg cs):=⟨rfl,fun m β v hv=>by
 cases hv with
 |imm h=>exact h
 |agg hl hh=>exact .agg hl fun i c v hi hv=>(h.get hi).2 m β v (hh i c v hi hv)⟩
theorem Imm.tup{cs:List V}(h:q1t cs):Imm (.tup cs):=⟨rfl,fun m β v hv=>by
 cases hv with
 |imm h=>exact h
 |tup hl hh=>exact .tup hl fun i c v hi hv=>(h.get hi).2 m β v (hh i c v hi hv)⟩
theorem Imm.fn{f:Fn}{cs ds:List V}(h:q1t cs)(h':q1t ds):Imm (.fn f cs ds):=⟨rfl,fun m β v hv=>by
 cases hv with
 |imm h=>exact h
 |fn hl hl' hh hh'=>exact .fn hl hl' (fun i c v hi hv=>(h.get hi).2 m β v (hh i c v hi hv)) fun i c v hi hv=>(h'.get hi).2 m β v (hh' i c v hi hv)⟩
def q9m (P:Program) (f:FuncId):Bool:=match P.funcs[f]? with|some fn=>fn.name != "runtime.NumGoroutine" && fn.body.isSome|none=>false
theorem j0d{P:Program}{w:World}{f:FuncId}(h:q9m P f=true)(args:Array Value):(callFunc f args).run P w=.ok (.enter f args) w:=by
 unfold q9m at h;cases hf:P.funcs[f]? with
 |none=>simp[hf] at h
 |some fn=>
  rw[hf] at h;simp only[av8,bne_iff_ne,ne_eq] at h;obtain⟨h1,h2⟩:=h;have h3:fn.body.isNone=false:=by cases hb:fn.body<;>simp_all
  simp only[callFunc,program,Sem.run_bind,Sem.run,Result.andThen_ok,hf];rw[if_neg (by simpa using h1),if_neg (by simp[h3])];rfl
theorem j0q{o:Oper}{d:Nat}{f:FuncId}{dv:V}{avs:List V}(hw:q1h ops S o true)(hd:o.dst=some d)(hN:Nat.blt d K.N=true)
  (hrun:∀m β w a,Rel K m β w a S->∃vs:Array Value,(execOp a.eval o).run K.P w=.ok (.enter f vs) w/\v9m m avs vs)
  (hc:z6q K.gl K.P f avs dv) (kk:q7g K ops rest Q (S.put d dv)):q7g K ops (o::rest) Q S:=by
 intro m β w a r;unfold wpList;rw[if_pos (hw.at r)]
 left
 obtain⟨vs,h1,h2⟩:=hrun m β w a r;unfold Oper.wp;rw[h1];refine(hc m w vs r.imm (K.glok.mono r.ext) h2).mono ?_
 rintro e w' ⟨v,m',rfl,h3,h4⟩
 simp only[hd];exact kk m' β w' _ ((r.grow h4).put hN (.imm h3))
theorem j2u{d:Option Nat}{f:FuncId}{args:Array Operand}{at':Array TypeId}{avs:List V}(hf:q9m K.P f=true)(ha:args.toList.map (evl K S)=avs)(hi:q1t avs):
  ∀m β w a,Rel K m β w a S->∃vs:Array Value,(execOp a.eval ⟨d,.call ⟨.value (.func f),args,at'⟩,ty,pos,after,g⟩).run K.P w=.ok (.enter f vs) w/\v9m m avs vs:=by
 intro m β w a r;refine⟨args.map a.eval,?_,?_⟩
 ·simp only[execOp,resolve,Act.eval,Deferred.ofValue,invoke,Sem.run_bind,pure,Sem.run,Result.andThen_ok];simp[j0d hf]
 ·refine⟨by simp[<-ha],fun i c v h1 h2=>?_⟩;rw[<-ha,bf9] at h1;rw[co8] at h2;cases hx:args[i]? with
  |none=>simp[hx] at h2
  |some x=>
   simp[hx] at h1 h2;subst h1;subst h2;refine(hi.get (i:=i) ?_).2 m β _ (r.reads x);rw[<-ha];simp[hx]
theorem z3h{d:Nat}{f:FuncId}{args:Array Operand}{at':Array TypeId}(dv:V)(avs:List V)(hf:q9m K.P f=true)
  (hw:q1h ops S ⟨some d,.call ⟨.value (.func f),args,at'⟩,ty,pos,after,g⟩ true)
  (ha:args.toList.map (evl K S)=avs) (hi:q1t avs) (hc:z6q K.gl K.P f avs dv) (hN:Nat.blt d K.N=true) (kk:q7g K ops rest Q (S.put d dv)):
  q7g K ops (⟨some d,.call ⟨.value (.func f),args,at'⟩,ty,pos,after,g⟩::rest) Q S:=
 j0q hw rfl hN (j2u hf ha hi) hc kk
end
section
variable{K:Ctx}{Q:q5q}{S:St}
variable{m:Mem}{β:q4m}{w:World}{a:Act}
@[reducible] def ctx(gl:Gl)(P:Program)(N:Nat)(w0:World)(m0:Mem)(hg:v5i gl m0):Ctx:=⟨P,N,w0,m0,fun _=>True,0,fun _=>none,gl,hg⟩
def y6e(d v:V):Prop:=∀m β x,q8n m β v x->q2p m d x
inductive q0x(P:Program)(S:St):ResultVar->V->Prop
 |tmp {t:Tmp} {d v:V} (h:get S.env t=v) (hi:y6e d v):q0x P S (.tmp t) d
 |agg {x:Tmp} {T n id k i o:Nat} {e:TypeId} {rows:List (List V)} {row cs:List V} {d:V} (hT:tyA P T n=true) (hx:get S.env x=.ptr id k i o) (ho:q1e S.hp id=.arr e k rows)
   (hr:rows[i]? = some row) (hc:(row.drop o).take n=cs) (hn:cs.length=n) (hnd:ndB cs=true) (hi:y6e d (.agg cs)):q0x P S (.cell x T) d
 |cell {x:Tmp} {T id k i o:Nat} {e:TypeId} {rows:List (List V)} {row:List V} {c d:V} (hT:tyC P T=true) (hx:get S.env x=.ptr id k i o) (ho:q1e S.hp id=.arr e k rows)
   (hr:rows[i]? = some row) (hc:row[o]? = some c) (hd:c.deep=false) (hi:y6e d c):q0x P S (.cell x T) d
def j3x(tmps:Array Value):ResultVar->Sem Value
 | .tmp t=>pure (tmps.getD t undef)
 | .cell a t=>do loadVar t (<-asAddr (tmps.getD a undef))
theorem q4y(fn:Func)(tmps:Array Value):results fn tmps=(do
  let vs <-fn.results.mapM (j3x tmps)
  pure (if h:vs.size=1 then vs[0] else .tuple vs)):=rfl
theorem z3e{P:Program}{w:World}{T:TypeId}{ad:Addr}{v x:Value}(hx:x=.pointer (some ad))(h:(Instr.loadAt T (.pointer (some ad))).run P w=.ok v w):
  (do loadVar T (<-asAddr x):Sem Value).run P w=.ok v w:=by
 subst hx;simp only[Instr.loadAt,Instr.sureAddr,asAddr] at h ⊢;exact h
theorem q0x.run{rv:ResultVar}{d:V}(h:q0x K.P S rv d)(r:Rel K m β w a S):∃v,(j3x a.tmps rv).run K.P w=.ok v w/\q2p m d v:=by
 cases h with
 | @tmp t _ _ h hi=>exact⟨_,rfl,hi m β _ (by rw[<-h];exact r.env t)⟩
 | @agg x T n id k i o e rows row cs d hT hx ho hr hc hn hnd hi=>
  have h:=r.env x;rw[hx] at h;obtain⟨b,cap,hb,hv⟩:=h.ptr_inv;obtain⟨arr,bl,h1,h2,h3,h4,h5,_,h6⟩:=r.obj hb ho
  have hcell:∀j c,cs[j]? = some c->∃v,arr[cap.off+(i*k+o)+j]? = some v/\q8n m β c v:=by
   intro j c hj;have hd:=z6u hnd hj;rw[<-hc,bp9] at hj;split at hj
   ·rw[ba8] at hj;obtain⟨v,a1,a2,_⟩:=h6 i (o+j) row c hr hj;exact⟨v,by rw[ah8,ah8];exact a1,a2.v hd⟩
   ·simp at hj
  have hrun:=q2w (P:=K.P) (w:=w) (b:=b) (o:=cap.off+(i*k+o)) (fun j=>arr.getD (cap.off+(i*k+o)+j) undef) hT (fun j hj=>by
   rw[q7i h1];obtain⟨v,a1,_⟩:=hcell j cs[j] (by simp[hn,hj]);rw[a1];simp[bw8,a1])
  refine⟨_,z3e hv hrun,hi m β _ ?_⟩;refine .agg (by simp[hn]) (fun j c v hj hv=>?_);obtain⟨v',a1,a2⟩:=hcell j c hj;simp only[bo8,bf9] at hv;have hj':j<n:=by rw[<-hn];exact(bi8.1 hj).1
  rw[bf8 hj'] at hv;simp only[bg9,bc8] at hv;rw[<-hv];simp[bw8,a1];exact a2
 | @cell x T id k i o e rows row c d hT hx ho hr hc hd hi=>
  have h:=r.env x;rw[hx] at h;obtain⟨b,cap,hb,hv⟩:=h.ptr_inv;obtain⟨arr,bl,h1,h2,h3,h4,h5,_,h6⟩:=r.obj hb ho;obtain⟨v,a1,a2,_⟩:=h6 i o row _ hr hc;exact⟨v,z3e hv (q6q hT (by rw[q7i h1];exact a1)),hi m β v (a2.v hd)⟩
inductive w9p(P:Program)(S:St):List ResultVar->V->Prop
 |none:w9p P S [] (.tup [])
 |one {r:ResultVar} {d:V} (h:q0x P S r d):w9p P S [r] d
 |two {r1 r2:ResultVar} {d1 d2:V} (h1:q0x P S r1 d1) (h2:q0x P S r2 d2):w9p P S [r1,r2] (.tup [d1,d2])
 |three {r1 r2 r3:ResultVar} {d1 d2 d3:V} (h1:q0x P S r1 d1) (h2:q0x P S r2 d2) (h3:q0x P S r3 d3):w9p P S [r1,r2,r3] (.tup [d1,d2,d3])
 |four {r1 r2 r3 r4:ResultVar} {d1 d2 d3 d4:V} (h1:q0x P S r1 d1) (h2:q0x P S r2 d2) (h3:q0x P S r3 d3) (h4:q0x P S r4 d4):
   w9p P S [r1,r2,r3,r4] (.tup [d1,d2,d3,d4])
theorem w6c{d1 d2:V}{v1 v2:Value}(h1:q2p m d1 v1)(h2:q2p m d2 v2):q2p m (.tup [d1,d2]) (.tuple #[v1,v2]):=by
 refine .tup rfl fun i c v hi hv=>?_
 match i with
 |0=>simp at hi hv;subst hi;subst hv;exact h1
 |1=>simp at hi hv;subst hi;subst hv;exact h2
 |i+2=>simp at hi
theorem w5c{d1 d2 d3:V}{v1 v2 v3:Value}(h1:q2p m d1 v1)(h2:q2p m d2 v2)(h3:q2p m d3 v3):q2p m (.tup [d1,d2,d3]) (.tuple #[v1,v2,v3]):=by
 refine .tup rfl fun i c v hi hv=>?_
 match i with
 |0=>simp at hi hv;subst hi;subst hv;exact h1
 |1=>simp at hi hv;subst hi;subst hv;exact h2
 |2=>simp at hi hv;subst hi;subst hv;exact h3
 |i+3=>simp at hi
theorem w4c{d1 d2 d3 d4:V}{v1 v2 v3 v4:Value}(h1:q2p m d1 v1)(h2:q2p m d2 v2)(h3:q2p m d3 v3)(h4:q2p m d4 v4):q2p m (.tup [d1,d2,d3,d4]) (.tuple #[v1,v2,v3,v4]):=by
 refine .tup rfl fun i c v hi hv=>?_
 match i with
 |0=>simp at hi hv;subst hi;subst hv;exact h1
 |1=>simp at hi hv;subst hi;subst hv;exact h2
 |2=>simp at hi hv;subst hi;subst hv;exact h3
 |3=>simp at hi hv;subst hi;subst hv;exact h4
 |i+4=>simp at hi
theorem w9p.run{fn:Func}{l:List ResultVar}{d:V}(hl:fn.results=l.toArray)(h:w9p K.P S l d)(r:Rel K m β w a S):∃v,(results fn a.tmps).run K.P w=.ok v w/\q2p m d v:=by
 cases h with
 |none=>exact⟨.tuple #[],by rw[q4y,hl];simp,.tup rfl (by simp)⟩
 |one h=>
  obtain⟨v,h1,h2⟩:=h.run r;exact⟨v,by rw[q4y,hl];simp[h1],h2⟩
 |two h g=>
  obtain⟨v1,h1,h2⟩:=h.run r;obtain⟨v2,g1,g2⟩:=g.run r;exact⟨_,by rw[q4y,hl];simp[h1,g1],w6c h2 g2⟩
 |three h g i=>
  obtain⟨v1,h1,h2⟩:=h.run r;obtain⟨v2,g1,g2⟩:=g.run r;obtain⟨v3,i1,i2⟩:=i.run r;exact⟨_,by rw[q4y,hl];simp[h1,g1,i1],w5c h2 g2 i2⟩
 |four h g i j=>
  obtain⟨v1,h1,h2⟩:=h.run r;obtain⟨v2,g1,g2⟩:=g.run r;obtain⟨v3,i1,i2⟩:=i.run r;obtain⟨v4,j1,j2⟩:=j.run r;exact⟨_,by rw[q4y,hl];simp[h1,g1,i1,j1],w4c h2 g2 i2 j2⟩
def retQ(P:Program)(l:List ResultVar)(d:V):q5q:=fun e S=>(e=.ret\/e=.normal)/\w9p P S l d
def j0g:Nat->List V->Env
 |_,[]=>[]
 |i,v::vs=>(i,v)::j0g (i+1) vs
theorem z8s:∀(vs:List V) (i t:Nat),get (j0g i vs) t=if i<=t then vs.getD (t - i) .any else .any
 |[],i,t=>by simp[j0g,get]
 |v::vs,i,t=>by
  rw[j0g,q9u,z8s vs (i+1) t];by_cases h:i=t
  ·subst h;simp
  ·rw[if_neg h];by_cases h2:i<=t
   ·rw[if_pos h2,if_pos (by omega)];have:t - i=(t - (i+1))+1:=by omega
    rw[this];simp
   ·rw[if_neg h2,if_neg (by omega)]
theorem v9t{gl:Gl}{P:Program}{f:FuncId}{fn:Func}{c:Code}{N:Nat}{args:List V}{l:List ResultVar}{d:V}(hf:P.funcs[f]? = some fn)(hb:fn.body=some c)(hN:fn.ntmps=N)
  (hl:fn.results=l.toArray) (ha:Nat.ble args.length N=true) (env:Env) (henv:j0g 0 args=env)
  (h:∀(w0:World) (m0:Mem) (hg:v5i gl m0),AWP (ctx gl P N w0 m0 hg) c (retQ P l d) ⟨env,[],0⟩):z6q gl P f args d:=by
 intro m w vs himm hgl hargs;have ha:=bd9 ha;refine calls_of_wp hf hb ?_
 have hsz:(vs++Array.replicate (fn.ntmps - vs.size) undef).size=N:=by
  have:=hargs.len;simp only[cp9,Array.size_replicate,hN];omega
 have r:Rel (ctx gl P N w m hgl) m ⟨fun _=>none,fun _ _=>False⟩ w ⟨vs++Array.replicate (fn.ntmps - vs.size) undef,[]⟩ ⟨env,[],0⟩:=by
  constructor
  ·exact himm
  ·exact Mem.le_refl _
  ·exact fun _ _ _=>rfl
  ·exact fun _ _ _=>rfl
  ·exact ae8 _
  ·exact⟨rfl,rfl,rfl,ae8 _⟩
  ·exact hsz
  ·rfl
  ·intro t
   show q8n _ _ (get env t) _
   rw[<-henv,z8s];simp only[al8,if_true,Nat.sub_zero];by_cases ht:t<args.length
   ·have ht':t<vs.size:=by rw[<-hargs.len];exact ht
    simp only[db8,be8 ht,ck9,bw8,cp8,if_pos ht',bh9 ht'];exact .imm (hargs.at' t _ _ (be8 ht) (bh9 ht'))
   ·simp only[db8,bb9 (ba9 ht),cq9];exact .imm (.any _)
  ·exact fun _=>q4l.dead' _
  ·intro id b cap _ h;simp at h
  ·intro id id' b cap cap' _ _ h;simp at h
  ·exact fun id x _ h=>h.elim
  ·exact fun _ _=>rfl
  ·exact fun q hq=>absurd hq (Nat.not_lt_zero q)
 refine wp_mono (h w m hgl m _ w _ r) ?_
 rintro e a' w' ⟨_,S',m',β',⟨he,hres⟩,r'⟩
 obtain⟨v,h1,h2⟩:=hres.run hl r';have hg:w5u m m' w w':=⟨r'.ext,r'.imm,fun b hb=>r'.mold b hb trivial,fun b hb=>r'.frame b hb trivial,r'.size,r'.same⟩;rcases he with rfl|rfl
 ·exact⟨r'.df,v,h1,v,m',rfl,h2,hg⟩
 ·exact⟨r'.df,v,h1,v,m',rfl,h2,hg⟩
end
section
variable{K:Ctx}{Q:q5q}{S S':St}{ops:Array Oper}{rest:List Oper}{op:Op}{ty:TypeId}{pos:String}{after:Array Edge}{g:Option (Nat×Bool)}
variable{m:Mem}{β:q4m}{w:World}{a:Act}
def q6h(K:Ctx)(S S':St):Prop:=∀m β w a,Rel K m β w a S->∃m' β',Rel K m' β' w a S'
theorem q6h.trans{S'':St}(h:q6h K S S')(h':q6h K S' S''):q6h K S S'':=fun m β w a r=>
 let ⟨m',β',r'⟩:=h m β w a r;h' m' β' w a r'
theorem q2d{c:Code}(h:q6h K S S')(k:AWP K c Q S'):AWP K c Q S:=fun m β w a r=>let ⟨m',β',r'⟩:=h m β w a r;k m' β' w a r'
theorem q2h{l:List Oper}(h:q6h K S S')(k:q7g K ops l Q S'):q7g K ops l Q S:=fun m β w a r=>let ⟨m',β',r'⟩:=h m β w a r;k m' β' w a r'
abbrev Hy:=Mem->q4m->Mem->q4m->Prop
def Sub(Y:Hy)(v' v:V):Prop:=∀m β m' β' x,Y m β m' β'->q8n m β v x->q8n m' β' v' x
theorem Sub.any{Y:Hy}{v:V}:Sub Y .any v:=fun _ _ _ _ _ _ _=>.imm (.any _)
inductive q0n(Y:Hy)(env:Env):Env->Prop
 |nil:q0n Y env []
 |cons {t:Nat} {v:V} {e:Env} (h:Sub Y v (get env t)) (h':q0n Y env e):q0n Y env ((t,v)::e)
theorem q0n.get{Y:Hy}{env env':Env}(h:q0n Y env env')(t:Nat):Sub Y (get env' t) (get env t):=by
 induction h with
 |nil=>exact Sub.any
 | @cons t' v e h h' ih=>
  rw[q9u];split
  ·rename_i he;subst he;exact h
  ·exact ih
def j7v(Y:Hy)(c c':V):Prop:=∀m β m' β' w B x,Y m β m' β'->z1z m β w B c' x->z1z m' β' w B c x
def HyM(Y:Hy):Prop:=∀m β m' β',Y m β m' β'->m.le m'
class j3v (Y:Hy):Prop where
 h:HyM Y
theorem j7v.sub{Y:Hy}{c c':V}(h:Sub Y c c')(hd:c'.deep=false):j7v Y c c':=fun _ _ _ _ _ _ _ hy hx=>.inl (h _ _ _ _ _ hy (hx.v hd))
theorem j7v.same{Y:Hy}(hm:HyM Y){c:V}(h:Sub Y c c):j7v Y c c:=fun _ _ _ _ _ _ _ hy hx=>hx.elim (fun hx=>.inl (h _ _ _ _ _ hy hx)) (fun hx=>.inr (hx.mono (hm _ _ _ _ hy) (fun _ h=>h) (fun _ _=>rfl)))
def q4b(Y:Hy):Ob->Ob->Prop
 | .dead,_=>True
 | .res,.res=>True
 | .arr e k rows,.arr e' k' rows'=>e=e'/\k=k'/\rows.length=rows'.length/\(∀(i:Nat) r r',rows[i]? = some r->rows'[i]? = some r'->r.length=r'.length/\
   ∀(j:Nat) c c',r[j]? = some c->r'[j]? = some c'->j7v Y c c')
 | .map es,.map es'=>es.length=es'.length/\∀(i:Nat) p p',es[i]? = some p->es'[i]? = some p'->p.1=p'.1/\j7v Y p.2 p'.2
 | .iter c l,.iter c' l'=>(∀p,p∈c->p∈c')/\l=l'/\HyM Y
 | .bld T e l fr,.bld T' e' l' fr'=>T=T'/\e=e'/\l=l'/\fr=fr'
 |_,_=>False
theorem q4b.ok{Y:Hy}{m m':Mem}{β β':q4m}{B:Nat->Prop}(hy:Y m β m' β'){l:Option (Option (Nat×Cap))}{ob ob':Ob}(h:q4b Y ob ob')(ho:q4l m β w B l ob'):q4l m' β' w B l ob:=by
 cases ob with
 |dead=>exact q4l.dead' _
 |res=>
  cases ob' with
  |res=>
   match l,ho with
   |none,_=>trivial
   |some none,ho|some (some (b,c)),ho=>exact absurd ho (by simp[q4l])
  |_=>simp[q4b] at h
 |arr e k rows=>
  cases ob' with
  |dead=>simp[q4b] at h
  |res=>simp[q4b] at h
  |map es=>simp[q4b] at h
  |iter c l=>simp[q4b] at h
  |bld T e l fr=>simp[q4b] at h
  |arr e' k' rows'=>
   obtain⟨rfl,rfl,hl,hr⟩:=h
   match l,ho with
   |some none,ho=>
    have:rows'=[]:=ho;subst this;have:rows=[]:=be9.1 (by simpa using hl);subst this;simp[q4l]
   |some (some (b,cap)),ho=>
    obtain⟨arr,bl,h1,h2,h3,h4,h5,hBl,h6⟩:=ho;refine⟨arr,bl,h1,h2,by rw[hl];exact h3,h4,?_,hBl,?_⟩
    ·intro row hrow;obtain⟨i,hi,rfl⟩:=br8 hrow;have hi':i<rows'.length:=by rw[<-hl];exact hi
     rw[(hr i _ _ (be8 hi) (be8 hi')).1];exact h5 _ (bh8 _)
    ·intro i j row c hi hj;have hlt:=(bi8.1 hi).1;have hlt':i<rows'.length:=by rw[<-hl];exact hlt
     obtain⟨a1,a2⟩:=hr i row _ hi (be8 hlt');have hj1:=(bi8.1 hj).1;have hj2:j<rows'[i].length:=by rw[<-a1];exact hj1
     obtain⟨v,b1,b2,b3⟩:=h6 i j _ _ (be8 hlt') (be8 hj2);exact⟨v,b1,a2 j c _ hj (be8 hj2) _ _ _ _ _ _ _ hy b2,b3⟩
   |none,ho=>exact absurd ho (by simp[q4l])
 |map es=>
  cases ob' with
  |dead=>simp[q4b] at h
  |res=>simp[q4b] at h
  |arr e k rows=>simp[q4b] at h
  |iter c l=>simp[q4b] at h
  |bld T e l fr=>simp[q4b] at h
  |map es'=>
   obtain⟨hl,hr⟩:=h
   match l,ho with
   |some (some (b,cap)),ho=>
    obtain⟨ents,clock,bl,h1,h2,hBl,h3⟩:=ho;refine⟨ents,clock,bl,h1,by rw[hl];exact h2,hBl,?_⟩;intro i p e hi he;have hlt:=(bi8.1 hi).1;have hlt':i<es'.length:=by rw[<-hl];exact hlt
    obtain⟨a1,a2⟩:=hr i p _ hi (be8 hlt');obtain⟨b1,b2⟩:=h3 i _ e (be8 hlt') he;exact⟨by rw[a1];exact b1,a2 _ _ _ _ _ _ _ hy b2⟩
   |none,ho=>exact absurd ho (by simp[q4l])
   |some none,ho=>exact absurd ho (by simp[q4l])
 |iter cu lf=>
  cases ob' with
  |dead=>simp[q4b] at h
  |res=>simp[q4b] at h
  |arr e k rows=>simp[q4b] at h
  |map es=>simp[q4b] at h
  |bld T e l fr=>simp[q4b] at h
  |iter cu' lf'=>
   obtain⟨hcc,rfl,hm⟩:=h;have hm:=hm _ _ _ _ hy
   match l,ho with
   |some (some (b,cap)),ho=>
    obtain⟨bm,seen,E,clock,v,h0,h1,h2,h3,h4,h5,h6,h7⟩:=ho;exact⟨bm,seen,E,clock,v,h0,h1,hm _ _ h2,h3,h4,h5,fun i p e hi he=>⟨(h6 i p e hi he).1,(h6 i p e hi he).2.mono hm⟩,fun p hp=>let ⟨e,a1,a2,a3,a4⟩:=h7 p (hcc p hp);⟨e,a1,a2,a3,a4.mono hm⟩⟩
   |none,ho=>exact absurd ho (by simp[q4l])
   |some none,ho=>exact absurd ho (by simp[q4l])
 |bld T e bs fr=>
  cases ob' with
  |bld T' e' bs' fr'=>
   obtain⟨rfl,rfl,rfl,rfl⟩:=h
   match l,ho with
   |some (some (b,cap)),ho=>exact ho
   |none,ho=>exact absurd ho (by simp[q4l])
   |some none,ho=>exact absurd ho (by simp[q4l])
  |_=>simp[q4b] at h
theorem q4b.keep'{Y:Hy}(hm:HyM Y)(hk:∀c,j7v Y c c)(ob:Ob):q4b Y ob ob:=by
 cases ob with
 |dead=>trivial
 |res=>trivial
 |iter c l=>exact⟨fun _ h=>h,rfl,hm⟩
 |bld T e l fr=>exact⟨rfl,rfl,rfl,rfl⟩
 |arr e k rows=>
  refine⟨rfl,rfl,rfl,fun i r r' h1 h2=>?_⟩;rw[h1,bc8] at h2;subst h2;refine⟨rfl,fun j c c' h3 h4=>?_⟩;rw[h3,bc8] at h4;subst h4;exact hk c
 |map es=>
  refine⟨rfl,fun i p p' h1 h2=>?_⟩;rw[h1,bc8] at h2;subst h2;exact⟨rfl,hk _⟩
def Ren(n:Nat)(σ:Nat->Nat):Hy:=fun m β m' β'=>m'=m/\∀id,id<n->β' id=β (σ id)
instance {n:Nat} {σ:Nat->Nat}:j3v (Ren n σ):=⟨fun m β m' β' hy=>by rw[hy.1];exact Mem.le_refl _⟩
theorem Sub.kp{n:Nat}{σ:Nat->Nat}{v:V}(h:q9y v):Sub (Ren n σ) v v:=fun m β m' β' x hy hx=>by
 obtain⟨rfl,_⟩:=hy;exact .imm (h _ β x hx)
theorem Sub.imm{n:Nat}{σ:Nat->Nat}{v:V}(h:Imm v):Sub (Ren n σ) v v:=fun m β m' β' x hy hx=>by
 obtain⟨rfl,_⟩:=hy;exact .imm (h.2 _ β x hx)
theorem Sub.nil{Y:Hy}(k:Nat):Sub Y (.lst k []) (.con (.slice none 0 0)):=fun m β m' β' x _ hx=>by
 rw[hx.of_con];exact .imm (.nil k none 0)
theorem Sub.own{n id j l:Nat}{σ:Nat->Nat}(hn:Nat.blt id n=true)(hj:σ id=j):Sub (Ren n σ) (.own id l) (.own j l):=fun m β m' β' x hy hx=>by
 have h:=hy.2 id (bd9 hn);rw[hj] at h;cases hx with
 |imm h=>cases h
 |ownNil hb=>exact .ownNil (by rw[h];exact hb)
 |own hb=>exact .own (by rw[h];exact hb)
theorem Sub.ptr{n id j k i o:Nat}{σ:Nat->Nat}(hn:Nat.blt id n=true)(hj:σ id=j):Sub (Ren n σ) (.ptr id k i o) (.ptr j k i o):=fun m β m' β' x hy hx=>by
 have h:=hy.2 id (bd9 hn);rw[hj] at h;cases hx with
 |imm h=>cases h
 |ptr hb=>exact .ptr (by rw[h];exact hb)
theorem Sub.map{n id j:Nat}{σ:Nat->Nat}(hn:Nat.blt id n=true)(hj:σ id=j):Sub (Ren n σ) (.map id) (.map j):=fun m β m' β' x hy hx=>by
 have h:=hy.2 id (bd9 hn);rw[hj] at h;cases hx with
 |imm h=>cases h
 |map hb=>exact .map (by rw[h];exact hb)
inductive j2q(Y:Hy):List V->List V->Prop
 |nil:j2q Y [] []
 |cons {v v':V} {l l':List V} (h:Sub Y v v') (h':j2q Y l l'):j2q Y (v::l) (v'::l')
theorem j2q.len{Y:Hy}{l l':List V}(h:j2q Y l l'):l.length=l'.length:=by
 induction h with
 |nil=>rfl
 |cons _ _ ih=>simp[ih]
theorem j2q.get{Y:Hy}{l l':List V}(h:j2q Y l l'):∀(i:Nat) c c',l[i]? = some c->l'[i]? = some c'->Sub Y c c':=by
 induction h with
 |nil=>intro i c c' h;simp at h
 |cons h _ ih=>
  intro i c c' h1 h2;cases i with
  |zero=>simp at h1 h2;subst h1;subst h2;exact h
  |succ i=>simp at h1 h2;exact ih i c c' h1 h2
theorem Sub.agg{Y:Hy}{l l':List V}(h:j2q Y l l'):Sub Y (.agg l) (.agg l'):=fun m β m' β' x hh hx=>by
 cases hx with
 |imm hx=>cases hx with
  |agg hl hx=>
   refine .agg (by rw[h.len];exact hl) fun i c v h1 h2=>?_;have h3:i<l'.length:=by rw[<-h.len];exact(bi8.1 h1).1
   exact h.get i c _ h1 (be8 h3) _ _ _ _ _ hh (.imm (hx i _ v (be8 h3) h2))
 |agg hl hx=>
  refine .agg (by rw[h.len];exact hl) fun i c v h1 h2=>?_;have h3:i<l'.length:=by rw[<-h.len];exact(bi8.1 h1).1
  exact h.get i c _ h1 (be8 h3) _ _ _ _ _ hh (hx i _ v (be8 h3) h2)
inductive q9i(Y:Hy)(n:Nat)(σ:Nat->Nat)(hp:q0m):q0m->Prop
 |nil:q9i Y n σ hp []
 |cons {id:Nat} {ob:Ob} {e:q0m} (hn:Nat.blt id n=true) (h:q4b Y ob (q1e hp (σ id))) (h':q9i Y n σ hp e):q9i Y n σ hp ((id,ob)::e)
theorem q9i.get{Y:Hy}{n:Nat}{σ:Nat->Nat}{hp hp':q0m}(h:q9i Y n σ hp hp')(id:Nat):(q1e hp' id=.dead\/id<n)/\q4b Y (q1e hp' id) (q1e hp (σ id)):=by
 induction h with
 |nil=>exact⟨.inl rfl,trivial⟩
 | @cons id' ob e hn h h' ih=>
  rw[q5d];split
  ·rename_i he;subst he;exact⟨.inr (bd9 hn),h⟩
  ·exact ih
def HpOk(Y:Hy)(n:Nat)(σ:Nat->Nat)(hp hp':q0m):Prop:=∀id,(q1e hp' id=.dead\/id<n)/\q4b Y (q1e hp' id) (q1e hp (σ id))
theorem v6a{Y:Hy}{env:Env}{t:Nat}{v:V}(hk:∀v,Sub Y v v)(h:Sub Y v (get env t)):∀t',Sub Y (get ((t,v)::env) t') (get env t'):=by
 intro t';rw[q9u];split
 ·rename_i he;subst he;exact h
 ·exact hk _
def j8o(n:Nat)(σ:Nat->Nat):Nat->Bool
 |0=>true
 |q+1=>Nat.blt q n&&Nat.beq (σ q) q&&j8o n σ q
theorem j7x{n:Nat}{σ:Nat->Nat}:∀{p q:Nat},j8o n σ p=true->q<p->q<n/\σ q=q
 |p+1,q,h,hq=>by
  simp only[j8o,av8] at h;by_cases e:q=p
  ·subst e;exact⟨bd9 h.1.1,cx9 h.1.2⟩
  ·exact j7x h.2 (by omega)
theorem q3i(n:Nat)(σ:Nat->Nat)(env:Env)(hp:q0m)(hσ:∀i,i<n->∀j,j<n->σ i=σ j->i=j)(henv:∀t,Sub (Ren n σ) (get env t) (get S.env t))(hhp:HpOk (Ren n σ) n σ S.hp hp)
  (hpin:j8o n σ K.pins=true):q6h K S ⟨env,hp,n⟩:=by
 intro m β w a r
 let β':q4m:=⟨fun id=>if id<n then β (σ id) else none,fun id=>β.hid (σ id)⟩
 have eβ:∀id,id<n->β' id=β (σ id):=fun id h=>by show(if _ then _ else _)=_;rw[if_pos h]
 have hy:Ren n σ m β m β':=⟨rfl,eβ⟩
 have hlive:∀id,q1e hp id≠.dead->id<n/\q1e S.hp (σ id)≠.dead:=by
  intro id h;obtain⟨h1,h2⟩:=hhp id;refine⟨h1.resolve_left h,fun hd=>?_⟩;rw[hd] at h2;cases ho:q1e hp id with
  |dead=>exact h ho
  |arr=>rw[ho] at h2;simp[q4b] at h2
  |res=>rw[ho] at h2;simp[q4b] at h2
  |map=>rw[ho] at h2;simp[q4b] at h2
  |iter=>rw[ho] at h2;simp[q4b] at h2
  |bld=>rw[ho] at h2;simp[q4b] at h2
 refine⟨m,β',?_⟩;constructor
 ·exact r.imm
 ·exact r.ext
 ·exact r.mold
 ·exact r.frame
 ·exact r.size
 ·exact r.same
 ·exact r.tn
 ·exact r.df
 ·exact fun t=>henv t _ _ _ _ _ hy (r.env t)
 ·intro id;obtain⟨h1,h2⟩:=hhp id;rcases h1 with h1|h1
  ·show q4l m β' w _ _ (q1e hp id);rw[h1];exact q4l.dead' _
  ·show q4l m β' w (β.hid (σ id)) (β' id) (q1e hp id)
   rw[eβ id h1];exact h2.ok hy (r.own (σ id))
 ·intro id b cap hl hb;obtain⟨h1,h2⟩:=hlive id hl;have:=eβ id h1;rw[this] at hb;exact r.priv _ _ _ h2 hb
 ·intro id id' b cap cap' hl hl' hb hb';obtain⟨h1,h2⟩:=hlive id hl;obtain⟨h1',h2'⟩:=hlive id' hl';have e1:=eβ id h1;have e2:=eβ id' h1';rw[e1] at hb;rw[e2] at hb';exact hσ id h1 id' h1' (r.inj _ _ _ _ _ h2 h2' hb hb')
 ·intro id x hl hx;obtain⟨h1,h2⟩:=hlive id hl;have h:=r.hid (σ id) x h2 hx;refine⟨h.lt,h.m,h.old,fun i b c hi hb=>?_,fun i hi hx'=>?_⟩
  ·obtain⟨h1',h2'⟩:=hlive i hi;rw[eβ i h1'] at hb;exact h.ne _ b c h2' hb
  ·obtain⟨h1',h2'⟩:=hlive i hi;exact hσ i h1' id h1 (h.un _ h2' hx')
 ·intro id hid;have:¬id<n:=Nat.not_lt.2 hid
  show(if _ then _ else _)=_
  rw[if_neg this]
 ·intro q hq;obtain⟨h1,h2⟩:=j7x hpin hq;refine⟨h1,?_⟩;rw[eβ q h1,h2];exact(r.pin q hq).2
def Frz(id k:Nat)(rows:List (List V)):Hy:=fun m β m' β'=>m.le m'/\β'=β/\(∀n x,q8n m β (.own id n) x->n<=rows.length->q2p m' (.lst k (rows.take n)) x)/\
 ∀i o row x,rows[i]? = some row->q8n m β (.ptr id k i o) x->q2p m' (.iptr row o) x
instance {id k:Nat} {rows:List (List V)}:j3v (Frz id k rows):=⟨fun m β m' β' hy=>hy.1⟩
theorem Sub.keep{id k:Nat}{rows:List (List V)}{v:V}:Sub (Frz id k rows) v v:=fun _ _ _ _ _ hy hx=>by
 obtain⟨h1,rfl,_⟩:=hy;exact hx.mono h1 (q4m.le_refl _)
theorem Sub.frz{id k n:Nat}{rows rows':List (List V)}(hn:n<=rows.length)(hr:rows.take n=rows'):Sub (Frz id k rows) (.lst k rows') (.own id n):=fun _ _ _ _ _ hy hx=>by
 subst hr;exact .imm (hy.2.2.1 n _ hx hn)
theorem Sub.frzptr{id k i o:Nat}{rows:List (List V)}{row:List V}(hr:rows[i]? = some row):Sub (Frz id k rows) (.iptr row o) (.ptr id k i o):=fun _ _ _ _ _ hy hx=>.imm (hy.2.2.2 i o row _ hr hx)
theorem q7w(id:Nat){e:TypeId}{k:Nat}{rows:List (List V)}(env:Env)(hp:q0m)(ho:q1e S.hp id=.arr e k rows)(hi:∀row,row∈rows->q1t row)
  (henv:∀t,Sub (Frz id k rows) (get env t) (get S.env t)) (hhp:∀i,q4b (Frz id k rows) (q1e hp i) (q1e S.hp i)) (hd:q1e hp id=.dead):q6h K S ⟨env,hp,S.nx⟩:=by
 intro m β w a r;have hown:=r.own id;rw[ho] at hown;cases hb:β id with
 |none=>rw[hb] at hown;simp[q4l] at hown
 |some l=>
 have key:∃m',(∀b o,m' b=some o->w.heap[b]? = some o)/\Frz id k rows m β m' β/\(∀b,m' b=m b\/∃cap,l=some (b,cap)):=by
  cases l with
  |none=>
   rw[hb] at hown;have:rows=[]:=hown;subst this;refine⟨m,r.imm,⟨Mem.le_refl _,rfl,fun n x hx hn=>?_,fun i o row x hr=>by simp at hr⟩,fun b=>.inl rfl⟩;simp at hn;subst hn;cases hx with
   |imm h=>cases h
   |ownNil h=>exact .nil k _ 0
   |own h=>rw[hb] at h;simp at h
  |some p=>
   obtain⟨b,cap⟩:=p;rw[hb] at hown;obtain⟨arr,bl,h1,h2,h3,h4,h5,hBl,h6⟩:=hown;have hp':=r.priv id b cap (by rw[ho];simp) hb
   let m':Mem:=fun b'=>if b'=b then some (.cells arr e (0,0)) else m b'
   have hle:m.le m':=by
    intro b' o h;have:b'≠b:=by intro e';subst e';rw[hp'.1] at h;simp at h
    simp[m',this,h]
   have hcells:∀i,i<rows.length*k->arr[cap.off+i]? = some (arr.getD (cap.off+i) undef):=by
    intro i hi';have:cap.off+i<arr.size:=by rw[h2];have:=cz8 hi' (bk8 k h3);omega
    simp[bw8,this]
   have hrel:∀(i j:Nat) (row:List V) (c:V),rows[i]? = some row->row[j]? = some c->q2p m' c (arr.getD (cap.off+(i*k+j)) undef):=by
    intro i j row c hr hj;obtain⟨v,a1,a2,_⟩:=h6 i j row c hr hj;have hcc:=hi row (bd8 hr) c (bd8 hj);have:=hcc.2 m β v (a2.v hcc.1);simp only[bw8,a1,ck9];exact this.mono hle
   refine⟨m',?_,⟨hle,rfl,?_,?_⟩,?_⟩
   ·intro b' o h;by_cases hbb:b'=b
    ·subst hbb;simp[m'] at h;rw[h1,h]
    ·simp[m',hbb] at h;exact r.imm _ _ h
   ·intro n x hx hn;cases hx with
    |imm h=>cases h
    |ownNil h=>exact .nil k _ 0
    | @own _ _ b2 cap2 h=>
     rw[hb] at h;simp only[bc8,Prod.mk.injEq] at h;obtain⟨rfl,rfl⟩:=h;refine .lst (T:=e) (arr:=arr) (fr:=(0,0)) (fun i=>arr.getD (cap.off+i) undef) (by simp[m']) rfl (by simp;omega) (by omega) (by omega) (fun row hr=>h5 row (List.mem_of_mem_take hr)) ?_ ?_
     ·intro i hi';refine hcells i (cz8 hi' (bk8 _ ?_));simp;exact Nat.min_le_right _ _
     ·intro i j row c hr hj;rw[bp9] at hr;split at hr
      ·exact hrel i j row c hr hj
      ·simp at hr
   ·intro i o row x hr hx;cases hx with
    |imm h=>cases h
    | @ptr _ _ _ _ b2 cap2 h=>
     rw[hb] at h;simp only[bc8,Prod.mk.injEq] at h;obtain⟨rfl,rfl⟩:=h;have hrk:=h5 row (bd8 hr);refine .iptr (T:=e) (arr:=arr) (fr:=(0,0)) (fun j=>arr.getD (cap.off+(i*k+j)) undef) (cap.off+i*k) (by simp[m']) rfl (by simp;omega) ?_ ?_
     ·intro j hj;rw[ah8];refine hcells _ ?_
      calc i*k+j<i*k+k:=by omega
       _=(i+1)*k:=by rw[ap8,as9]
       _<=rows.length*k:=bk8 _ (bi8.1 hr).1
     ·exact fun j c hj=>hrel i j row c hr hj
   ·intro b';by_cases hbb:b'=b
    ·exact .inr ⟨cap,by rw[hbb]⟩
    ·exact .inl (by simp[m',hbb])
 obtain⟨m',k1,hy,k2⟩:=key;have hlid:q1e S.hp id≠.dead:=by rw[ho];simp
 have hlive:∀i,q1e hp i≠.dead->q1e S.hp i≠.dead/\i≠id:=by
  intro i h;have h2:=hhp i;refine⟨fun hdd=>?_,fun he=>h (by rw[he];exact hd)⟩;rw[hdd] at h2;cases ho':q1e hp i with
  |dead=>exact h ho'
  |arr=>rw[ho'] at h2;simp[q4b] at h2
  |res=>rw[ho'] at h2;simp[q4b] at h2
  |map=>rw[ho'] at h2;simp[q4b] at h2
  |iter=>rw[ho'] at h2;simp[q4b] at h2
  |bld=>rw[ho'] at h2;simp[q4b] at h2
 refine⟨m',β,?_⟩;constructor
 ·exact k1
 ·exact Mem.le_trans r.ext hy.1
 ·intro b hb' hold;rcases k2 b with h|⟨cap,h⟩
  ·rw[h];exact r.mold b hb' hold
  ·subst h;have hp':=r.priv id b cap (by rw[ho];simp) hb;exact absurd hold (hp'.2 hb')
 ·exact r.frame
 ·exact r.size
 ·exact r.same
 ·exact r.tn
 ·exact r.df
 ·exact fun t=>henv t _ _ _ _ _ hy (r.env t)
 ·intro i;exact(hhp i).ok hy (r.own i)
 ·intro i b cap hl hb';obtain⟨h1,h2⟩:=hlive i hl;have hp':=r.priv i b cap h1 hb';refine⟨?_,hp'.2⟩;rcases k2 b with h|⟨cap',h⟩
  ·rw[h];exact hp'.1
  ·subst h;exact absurd (r.inj i id b cap cap' h1 (by rw[ho];simp) hb' hb) h2
 ·intro i i' b cap cap' hl hl';exact r.inj i i' b cap cap' (hlive i hl).1 (hlive i' hl').1
 ·intro i x hl hx;have h:=r.hid i x (hlive i hl).1 hx;refine⟨h.lt,?_,h.old,fun i' b c hi'=>h.ne i' b c (hlive i' hi').1,fun i' hi'=>h.un i' (hlive i' hi').1⟩;rcases k2 x with h'|⟨cap',h'⟩
  ·rw[h'];exact h.m
  ·subst h';exact absurd rfl (h.ne id x cap' hlid hb)
 ·exact r.nx
 ·exact r.pin
end
end Go.Pv
