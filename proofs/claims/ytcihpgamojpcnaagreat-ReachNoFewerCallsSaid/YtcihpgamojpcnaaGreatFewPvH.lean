/- Part of the proof: E, F, G, H. -/
import Derived.Test.YtcihpgamojpcnaaGreatFewPvD
namespace Go.Pv
open Go
section
variable{K:Ctx}{Q:Post}{S:St}{ops:Array Oper}{rest:List Oper}{op:Op}{ty:TypeId}{pos:String}{after:Array Edge}{g:Option (Nat×Bool)}
variable{m:Mem}{β:Locs}{w:World}{a:Act}
theorem obok_new{m:Mem}{β:Locs}{w':World}{B:Nat->Prop}{T:TypeId}{vs:Array Value}{b k:Nat}{cap:Cap}{rows:List (List V)}(bl:Nat->Nat->Prop)(hBl:Bls B bl)(hw:w'.heap[b]? = some (.cells vs T (0,0)))
  (hsz:vs.size=cap.off+cap.n*k) (hr:rows.length<=cap.n) (hcap:cap.n<=maxLen) (hk:∀row,row∈rows->row.length=k)
  (hc:∀(i j:Nat) (row:List V) (c:V),rows[i]? = some row->row[j]? = some c->∃v,vs[cap.off+(i*k+j)]? = some v/\CRel m β w' (bl (i*k+j)) c v/\v.oneCell'=true):
  ObOk m β w' B (some (some (b,cap))) (.arr T k rows):=⟨vs,bl,hw,hsz,hr,hcap,hk,hBl,hc⟩
theorem bls_none{B:Nat->Prop}:Bls B (fun _ _=>False):=⟨fun _ _ h=>h.elim,fun _ _ _ h=>h.elim⟩
theorem obok_new0{m:Mem}{β:Locs}{w':World}{B:Nat->Prop}{T:TypeId}{vs:Array Value}{b k n:Nat}{rows:List (List V)}(hw:w'.heap[b]? = some (.cells vs T (0,0)))
  (hsz:vs.size=n*k) (hr:rows.length<=n) (hcap:n<=maxLen) (hk:∀row,row∈rows->row.length=k)
  (hc:∀(i j:Nat) (row:List V) (c:V),rows[i]? = some row->row[j]? = some c->∃v,vs[i*k+j]? = some v/\VRel m β c v/\v.oneCell'=true):
  ObOk m β w' B (some (some (b,⟨n,0⟩))) (.arr T k rows):=
 obok_new _ bls_none hw (by simpa using hsz) hr hcap hk (fun i j row c hi hj=>let ⟨v,a1,a2,a3⟩:=hc i j row c hi hj;⟨v,by simpa using a1,.inl a2,a3⟩)
theorem aops_box{d:Nat}{x:Operand}{T:TypeId}{dv:V}(cs:List V)(hw:Wants ops S ⟨some d,.box T x,ty,pos,after,g⟩ true)
  (hx:evl K S x=dv) (hcs:vcells dv=cs) (h1:cs.all oneV=true) (hN:Nat.blt d K.N=true)
  (kk:AOps K ops rest Q ⟨(d,.ptr S.nx cs.length 0 0)::S.env,(S.nx,.arr T cs.length [cs])::S.hp,S.nx+1⟩):
  AOps K ops (⟨some d,.box T x,ty,pos,after,g⟩::rest) Q S:=by
 refine aops_runs hw (fun m β w a r=>?_) kk
 have h:=r.reads x
 rw[hx] at h
 obtain⟨c1,c2,c3⟩:=h.cells (by rw[hcs];exact h1)
 rw[hcs] at c1 c2
 obtain⟨β',hle,hn,r'⟩:=r.alloc (.cells (a.eval x).cells T) (.arr T cs.length [cs]) ⟨1,0⟩ _ rfl (fun β' hle=>by
  refine obok_new0 (vs:=(a.eval x).cells) (by simp) (by simp[<-c1]) (by simp) (by unfold maxLen;omega) (by simp) ?_
  ·intro i j row c hi hj
   cases i with
   |succ i=>simp at hi
   |zero=>
    simp at hi;subst hi
    have hj':j<(a.eval x).cells.size:=by rw[<-c1];exact(List.getElem?_eq_some_iff.1 hj).1
    refine⟨(a.eval x).cells[j],by simp[hj'],(c2 j c _ hj (by simp[hj'])).mono (Mem.le_refl _) hle,c3 _ (by simp)⟩)
 refine⟨.pointer (some ⟨w.heap.size,0,none⟩),{ w with heap:=w.heap.push (.cells (a.eval x).cells T) },m,β',.inl ?_,?_⟩
 rotate_left
 ·exact Rel.put r' hN (by have:=VRel.ptr (m:=m) (k:=cs.length) (i:=0) (off:=0) hn;simpa using this)
 ·simp only[execOp]
  rfl
def zeroCells(P:Program)(T:TypeId):Option (List Value):=((P.info? T).bind (·.zero)).map (·.cells.toList)
theorem zero_run{P:Program}{T:TypeId}{zs:List Value}(h:zeroCells P T=some zs)(w:World):∃z,(zeroValue T).run P w=.ok z w/\z.cells=zs.toArray:=by
 unfold zeroCells at h
 cases hi:P.info? T with
 |none=>simp[hi] at h
 |some i=>
  cases hz:i.zero with
  |none=>simp[hi,hz] at h
  |some z=>
   simp[hi,hz] at h
   refine⟨z,?_,by rw[<-h]⟩
   simp only[zeroValue,Sem.run_bind,run_typeInfo w hi,Result.andThen_ok,hz]
   rfl
theorem aops_alloc{d n:Nat}{T:TypeId}{zs:List Value}(hz:zeroCells K.P T=some zs)(hn:zs.length=n)(h1:zs.all (·.oneCell')=true)(hw:Wants ops S ⟨some d,.alloc T,ty,pos,after,g⟩ true)
  (hN:Nat.blt d K.N=true)
  (kk:AOps K ops rest Q ⟨(d,.ptr S.nx n 0 0)::S.env,(S.nx,.arr T n [zs.map .con])::S.hp,S.nx+1⟩):
  AOps K ops (⟨some d,.alloc T,ty,pos,after,g⟩::rest) Q S:=by
 refine aops_runs hw (fun m β w a r=>?_) kk
 subst hn
 obtain⟨z,hz1,hz2⟩:=zero_run hz w
 obtain⟨β',hle,hn,r'⟩:=r.alloc (.cells z.cells T) (.arr T zs.length [zs.map .con]) ⟨1,0⟩ _ rfl (fun β' hle=>by
  refine obok_new0 (vs:=z.cells) (by simp) (by simp[hz2]) (by simp) (by unfold maxLen;omega) (by simp) ?_
  ·intro i j row c hi hj
   cases i with
   |succ i=>simp at hi
   |zero=>
    simp at hi;subst hi
    rw[List.getElem?_map] at hj
    cases hzj:zs[j]? with
    |none=>simp[hzj] at hj
    |some v=>
     simp[hzj] at hj;subst hj
     refine⟨v,by simp[hz2,hzj],.imm (.con v),List.all_eq_true.1 h1 v (List.mem_of_getElem? hzj)⟩)
 refine⟨.pointer (some ⟨w.heap.size,0,none⟩),{ w with heap:=w.heap.push (.cells z.cells T) },m,β',.inl ?_,?_⟩
 rotate_left
 ·exact Rel.put r' hN (by have:=VRel.ptr (m:=m) (k:=zs.length) (i:=0) (off:=0) hn;simpa using this)
 ·simp only[execOp,Instr.alloc]
  simp only[Sem.run_bind,hz1,Result.andThen_ok]
  rfl
def tyS(P:Program)(T:TypeId)(n:Nat):Bool:=match P.info? T with|some i=>i.size==n|none=>false
theorem tyS_run{P:Program}{T:TypeId}{n:Nat}(h:tyS P T n=true)(w:World):(sizeOf T).run P w=.ok n w:=by
 unfold tyS at h
 cases hi:P.info? T with
 |none=>simp[hi] at h
 |some i=>
  rw[hi] at h
  simp at h
  rw[run_sizeOf w hi]
  simp[Program.cellsOf,hi,h]
theorem splice_get{α:Type}(row cs:List α)(o:Nat)(h:o+cs.length<=row.length)(j:Nat):
  (row.take o++cs++row.drop (o+cs.length))[j]? = if o<=j/\j<o+cs.length then cs[j - o]? else row[j]?:=by
 rw[List.append_assoc,List.getElem?_append,List.length_take,Nat.min_eq_left (by omega)]
 by_cases h1:j<o
 ·rw[if_pos h1,if_neg (by omega),List.getElem?_take,if_pos h1]
 ·rw[if_neg h1,List.getElem?_append]
  by_cases h2:j - o<cs.length
  ·rw[if_pos h2,if_pos (by omega)]
  ·rw[if_neg h2,if_neg (by omega),List.getElem?_drop]
   congr 1;omega
theorem heap_setRow{w:World}{b b':Nat}{cs:Array Value}(h:b'≠b):(w.setRow b cs).heap[b']? = w.heap[b']?:=by
 simp only[World.setRow,Array.getElem?_modify];rw[if_neg (Ne.symm h)]
theorem heap_setRow_self{w:World}{b:Nat}{cs arr:Array Value}{T:TypeId}{fr:Nat×Nat}(h:w.heap[b]? = some (.cells arr T fr)):(w.setRow b cs).heap[b]? = some (.cells cs T fr):=by
 simp only[World.setRow,Array.getElem?_modify,if_true,h,Option.map_some]
theorem aops_store{id k i o:Nat}{x y:Operand}{T e:TypeId}{rows:List (List V)}{row:List V}{dv:V}(cs:List V)(rows':List (List V))(hT:tyS K.P T cs.length=true)
  (hw:Wants ops S ⟨none,.store T x y,ty,pos,after,g⟩ true) (hx:evl K S x=.ptr id k i o) (hy:evl K S y=dv) (hcs:vcells dv=cs) (h1:cs.all oneV=true)
  (ho:hget S.hp id=.arr e k rows) (hr:rows[i]? = some row) (hl:Nat.ble (o+cs.length) row.length=true)
  (hrows:rows.set i (row.take o++cs++row.drop (o+cs.length))=rows')
  (kk:AOps K ops rest Q ⟨S.env,(id,.arr e k rows')::S.hp,S.nx⟩):
  AOps K ops (⟨none,.store T x y,ty,pos,after,g⟩::rest) Q S:=by
 refine aops_runs hw (fun m β w a r=>?_) kk
 have hl:=Nat.le_of_ble_eq_true hl
 have hxv:=r.reads x
 rw[hx] at hxv
 obtain⟨b,cap,hb,hv⟩:=hxv.ptr_inv
 have hyv:=r.reads y
 rw[hy] at hyv
 obtain⟨c1,c2,c3⟩:=hyv.cells (by rw[hcs];exact h1)
 rw[hcs] at c1 c2
 obtain⟨arr,bl,a1,a2,a3,a4,a5,aB,a6⟩:=r.obj hb ho
 have hrk:row.length=k:=a5 row (List.mem_of_getElem? hr)
 have hi:i<rows.length:=(List.getElem?_eq_some_iff.1 hr).1
 have hik:cap.off+(i*k+k)<=arr.size:=by
  have:i*k+k<=cap.n*k:=by
   calc i*k+k=(i+1)*k:=by rw[Nat.add_mul,Nat.one_mul]
    _<=cap.n*k:=Nat.mul_le_mul_right _ (by omega)
  rw[a2];omega
 have hlen:(a.eval y).cells.toList.length=cs.length:=by simp[c1]
 have hrun:=run_storeCells_at (P:=K.P) b (cap.off+(i*k+o)) e (a.eval y).cells.toList 0 arr w a1 (by rw[hlen];omega) c3
 simp only[Nat.add_zero] at hrun
 refine⟨undef,w.setRow b (arr.toList.take (cap.off+(i*k+o))++(a.eval y).cells.toList++arr.toList.drop (cap.off+(i*k+o)+(a.eval y).cells.toList.length)).toArray,m,β,.inr ⟨rfl,?_⟩,?_⟩
 rotate_left
 ·refine r.update (by rw[ho];simp) hb _ (.arr e k rows') (fun b' hb'=>heap_setRow hb') (by simp[World.setRow]) ⟨rfl,rfl,rfl,Nat.le_refl _⟩ (fun hkeep=>?_)
  refine obok_new bl aB (heap_setRow_self a1) ?_ (by rw[<-hrows];simpa using a3) a4 ?_ ?_
  ·have:(arr.toList.take (cap.off+(i*k+o))++(a.eval y).cells.toList++arr.toList.drop (cap.off+(i*k+o)+(a.eval y).cells.toList.length)).length=arr.size:=by
    simp only[List.length_append,List.length_take,List.length_drop,Array.length_toList,hlen];omega
   rw[List.size_toArray,this,a2]
  ·intro row' hrow'
   rw[<-hrows] at hrow'
   rcases List.mem_or_eq_of_mem_set hrow' with h|h
   ·exact a5 _ h
   ·rw[h];simp only[List.length_append,List.length_take,List.length_drop];omega
  ·intro i' j row' c hi' hj
   have keep:∀(i2 j:Nat) (row:List V) (c:V),rows[i2]? = some row->row[j]? = some c->∃v,arr[cap.off+(i2*k+j)]? = some v/\CRel m β (w.setRow b (arr.toList.take (cap.off+(i*k+o))++(a.eval y).cells.toList++arr.toList.drop (cap.off+(i*k+o)+(a.eval y).cells.toList.length)).toArray) (bl (i2*k+j)) c v/\v.oneCell'=true:=by
    intro i2 j row c hi hj
    obtain⟨v,q1,q2,q3⟩:=a6 i2 j row c hi hj
    exact⟨v,q1,q2.mono (Mem.le_refl _) (Locs.le_refl _) (fun _ h=>h) (fun x hx=>hkeep x (aB.1 _ x hx)),q3⟩
   have hget:∀p,(arr.toList.take (cap.off+(i*k+o))++(a.eval y).cells.toList++arr.toList.drop (cap.off+(i*k+o)+(a.eval y).cells.toList.length)).toArray[p]? =
     if cap.off+(i*k+o)<=p/\p<cap.off+(i*k+o)+cs.length then (a.eval y).cells[p - (cap.off+(i*k+o))]? else arr[p]?:=by
    intro p
    rw[List.getElem?_toArray,splice_get _ _ _ (by rw[hlen];simp;omega),hlen]
    split<;>simp
   rw[hget]
   rw[<-hrows,List.getElem?_set] at hi'
   by_cases hii:i=i'
   ·subst hii
    rw[if_pos rfl,if_pos hi] at hi'
    simp only[Option.some.injEq] at hi'
    subst hi'
    rw[splice_get _ _ _ hl] at hj
    by_cases hjo:o<=j/\j<o+cs.length
    ·rw[if_pos hjo] at hj
     rw[if_pos (by omega)]
     have e1:cap.off+(i*k+j) - (cap.off+(i*k+o))=j - o:=by omega
     rw[e1]
     have hlt:j - o<(a.eval y).cells.size:=by rw[<-c1];omega
     exact⟨(a.eval y).cells[j - o],⟨by simp[hlt],.inl (c2 _ _ _ hj (by simp[hlt])),c3 _ (by simp)⟩⟩
    ·rw[if_neg hjo] at hj
     rw[if_neg (by omega)]
     exact keep i j row c hr hj
   ·rw[if_neg hii] at hi'
    have hrk':row'.length=k:=a5 row' (List.mem_of_getElem? hi')
    have hjk:j<k:=by rw[<-hrk'];exact(List.getElem?_eq_some_iff.1 hj).1
    rw[if_neg]
    ·exact keep i' j row' c hi' hj
    ·intro hc
     rcases Nat.lt_or_gt_of_ne hii with h|h
     ·have:(i+1)*k<=i'*k:=Nat.mul_le_mul_right _ h
      rw[Nat.add_mul,Nat.one_mul] at this;omega
     ·have:(i'+1)*k<=i*k:=Nat.mul_le_mul_right _ h
      rw[Nat.add_mul,Nat.one_mul] at this;omega
 ·simp only[execOp,hv,Instr.storeAt,Instr.sureAddr,storeVar]
  simp only[Sem.run_bind,pure,Sem.run,Result.andThen_ok,tyS_run hT w]
  rw[if_neg (by simp[c1]),hrun]
  rfl
end
section
variable{K:Ctx}{Q:Post}{S:St}{ops:Array Oper}{rest:List Oper}{op:Op}{ty:TypeId}{pos:String}{after:Array Edge}{g:Option (Nat×Bool)}
variable{m:Mem}{β:Locs}{w:World}{a:Act}
def tySl(P:Program)(T:TypeId)(k:Nat):Bool:=
 match P.underlying T with|some (.slice e)=>(match P.info? e with|some i=>i.size==k|none=>false)|_=>false
def tyArr(P:Program)(T:TypeId)(n k:Nat):Bool:=
 match P.underlying T with|some (.array l e)=>l==n&&(match P.info? e with|some i=>i.size==k|none=>false)|_=>false
theorem tySl_inv{P:Program}{T:TypeId}{k:Nat}(h:tySl P T k=true):∃e i,P.underlying T=some (.slice e)/\P.info? e=some i/\i.size=k:=by
 unfold tySl at h
 cases hu:P.underlying T with
 |none=>simp[hu] at h
 |some d=>
  rw[hu] at h
  cases d<;>simp only[Bool.false_eq_true] at h
  rename_i e
  cases hi:P.info? e with
  |none=>simp[hi] at h
  |some i=>rw[hi] at h;exact⟨e,i,rfl,hi,by simpa using h⟩
theorem tyArr_inv{P:Program}{T:TypeId}{n k:Nat}(h:tyArr P T n k=true):∃e i,P.underlying T=some (.array n e)/\P.info? e=some i/\i.size=k:=by
 unfold tyArr at h
 cases hu:P.underlying T with
 |none=>simp[hu] at h
 |some d=>
  rw[hu] at h
  cases d<;>simp only[Bool.false_eq_true] at h
  rename_i l e
  cases hi:P.info? e with
  |none=>simp[hi] at h
  |some i=>
   rw[hi] at h
   simp only[Bool.and_eq_true,beq_iff_eq] at h
   obtain⟨rfl,h2⟩:=h
   exact⟨e,i,rfl,hi,h2⟩
theorem run_index_slice{P:Program}{w:World}{T:TypeId}{k len cap:Nat}{ad:Addr}{ik:IntKind}{n:Int}(hT:tySl P T k=true)(h0:0<=n)(h1:n.toNat<len):
  (Instr.indexAt T (.slice (some ad) len cap) (.int ik n)).run P w=.ok (.pointer (some (ad.add (n.toNat*k)))) w:=by
 obtain⟨e,i,hu,hi,hk⟩:=tySl_inv hT
 simp only[Instr.indexAt,asIntOf,Sem.run_bind,pure,Sem.run,Result.andThen_ok,run_underlying hu]
 rw[if_pos ⟨h0,by omega⟩]
 simp only[Sem.run_bind,run_sizeOf w hi,Result.andThen_ok,Program.cellsOf,hi,Option.map_some,Option.getD_some,hk,Sem.run]
theorem aops_index_lst{d k:Nat}{x y:Operand}{T:TypeId}{rows:List (List V)}{ik:IntKind}{n:Int}(row:List V)(hT:tySl K.P T k=true)
  (hw:Wants ops S ⟨some d,.indexAddr T x y,ty,pos,after,g⟩ true) (hx:evl K S x=.lst k rows) (hy:evl K S y=.con (.int ik n)) (h0:0<=n) (hr:rows[n.toNat]? = some row)
  (hN:Nat.blt d K.N=true) (kk:AOps K ops rest Q (S.put d (.iptr row 0))):
  AOps K ops (⟨some d,.indexAddr T x y,ty,pos,after,g⟩::rest) Q S:=
 aops_val _ hw hN (fun m β w a r=>by
  have h:=r.reads x
  rw[hx] at h
  have hlt:n.toNat<rows.length:=(List.getElem?_eq_some_iff.1 hr).1
  generalize hev:a.eval x=v at h
  cases h with
  |imm h=>
   cases h with
   |nil=>simp at hr
   | @lst _ _ ad n' cap arr T' fr f hm hs hn hcap hbd hk hf h=>
    have hrk:row.length=k:=hk row (List.mem_of_getElem? hr)
    refine⟨.pointer (some ⟨ad.block,ad.off+n.toNat*k,none⟩),?_,.imm (.iptr (fun j=>f (n.toNat*k+j)) (ad.off+n.toNat*k) hm rfl rfl ?_ ?_)⟩
    ·simp only[execOp,hev,r.con hy]
     refine run_value ?_
     rw[run_index_slice hT h0 (by omega),addr_eta hs,add_spot]
    ·intro j hj
     rw[Nat.add_assoc]
     refine hf _ ?_
     calc n.toNat*k+j<n.toNat*k+k:=by omega
      _=(n.toNat+1)*k:=by rw[Nat.add_mul,Nat.one_mul]
      _<=rows.length*k:=Nat.mul_le_mul_right _ (by omega)
    ·exact fun j c hj=>h _ _ row c hr hj) kk
theorem aops_index_own{d k id len:Nat}{x y:Operand}{T:TypeId}{ik:IntKind}{n:Int}(hT:tySl K.P T k=true)
  (hw:Wants ops S ⟨some d,.indexAddr T x y,ty,pos,after,g⟩ true) (hx:evl K S x=.own id len) (hy:evl K S y=.con (.int ik n))
  (h0:0<=n) (hr:n.toNat<len) (hN:Nat.blt d K.N=true)
  (kk:AOps K ops rest Q (S.put d (.ptr id k n.toNat 0))):
  AOps K ops (⟨some d,.indexAddr T x y,ty,pos,after,g⟩::rest) Q S:=
 aops_val _ hw hN (fun m β w a r=>by
  have h:=r.reads x
  rw[hx] at h
  generalize hev:a.eval x=v at h
  cases h with
  |imm h=>cases h
  |ownNil h=>omega
  |own h=>
   refine⟨_,by simp only[execOp,hev,r.con hy];exact run_value (run_index_slice hT h0 hr),?_⟩
   rw[add_spot]
   have:=VRel.ptr (m:=m) (k:=k) (i:=n.toNat) (off:=0) h
   simpa using this) kk
theorem run_index_arr{P:Program}{w:World}{T:TypeId}{k len b o:Nat}{ik:IntKind}{n:Int}(hT:tyArr P T len k=true)(h0:0<=n)(h1:n.toNat<len):
  (Instr.indexAt T (.pointer (some ⟨b,o,none⟩)) (.int ik n)).run P w=.ok (.pointer (some ⟨b,o+n.toNat*k,none⟩)) w:=by
 obtain⟨e,i,hu,hi,hk⟩:=tyArr_inv hT
 simp only[Instr.indexAt,asIntOf,Sem.run_bind,pure,Sem.run,Result.andThen_ok,run_underlying hu,Instr.sureAddr]
 rw[if_pos ⟨h0,by omega⟩]
 simp only[Sem.run_bind,run_sizeOf w hi,Result.andThen_ok,Program.cellsOf,hi,Option.map_some,Option.getD_some,hk,Sem.run,add_spot]
theorem aops_index_arr{d k id i o len s:Nat}{x y:Operand}{T:TypeId}{ik:IntKind}{n:Int}(hT:tyArr K.P T len s=true)
  (hw:Wants ops S ⟨some d,.indexAddr T x y,ty,pos,after,g⟩ true) (hx:evl K S x=.ptr id k i o) (hy:evl K S y=.con (.int ik n))
  (h0:0<=n) (hr:n.toNat<len) (hN:Nat.blt d K.N=true)
  (kk:AOps K ops rest Q (S.put d (.ptr id k i (o+n.toNat*s)))):
  AOps K ops (⟨some d,.indexAddr T x y,ty,pos,after,g⟩::rest) Q S:=
 aops_val _ hw hN (fun m β w a r=>by
  have h:=r.reads x
  rw[hx] at h
  obtain⟨b,cap,hb,hv⟩:=h.ptr_inv
  exact⟨_,by simp only[execOp,hv,r.con hy];exact run_value (run_index_arr hT h0 hr),by have:=VRel.ptr (m:=m) (k:=k) (i:=i) (off:=o+n.toNat*s) hb;simpa[Nat.add_assoc] using this⟩) kk
theorem run_builtin{P:Program}{w w':World}{o:Oper}{b:Builtin}{args:Array Operand}{at':Array TypeId}{n:Next}
  (ho:o.op=.call ⟨.builtin b,args,at'⟩) (h:(builtin b at' o.type (args.map fun | .const _=>true|_=>false) (args.map a.eval)).run P w=.ok n w'):
  (execOp a.eval o).run P w=.ok n w':=by
 simp only[execOp,ho,resolve,invoke,Sem.run_bind,pure,Sem.run,Result.andThen_ok]
 exact h
def tyStr(P:Program)(T:TypeId):Bool:=match P.underlying T with|some .string=>true|_=>false
def tySlice(P:Program)(T:TypeId):Bool:=match P.underlying T with|some (.slice _)=>true|_=>false
def tySS(P:Program)(T:TypeId):Bool:=match P.underlying T with|some (.slice _)=>true|some .string=>true|_=>false
theorem tySS_inv{P:Program}{T:TypeId}(h:tySS P T=true):(∃e,P.underlying T=some (.slice e))\/P.underlying T=some .string:=by
 unfold tySS at h;split at h<;>simp_all
theorem tySlice_SS{P:Program}{T:TypeId}(h:tySlice P T=true):tySS P T=true:=by
 unfold tySlice at h;unfold tySS;split at h<;>simp_all
theorem tySlice_inv{P:Program}{T:TypeId}(h:tySlice P T=true):∃e,P.underlying T=some (.slice e):=by
 unfold tySlice at h
 cases hu:P.underlying T with
 |none=>simp[hu] at h
 |some d=>rw[hu] at h;cases d<;>simp only[Bool.false_eq_true] at h;exact⟨_,rfl⟩
theorem tyStr_inv{P:Program}{T:TypeId}(h:tyStr P T=true):P.underlying T=some .string:=by
 unfold tyStr at h
 cases hu:P.underlying T with
 |none=>simp[hu] at h
 |some d=>rw[hu] at h;cases d<;>simp only[Bool.false_eq_true] at h;rfl
def slen:V->Option Nat
 | .lst _ rows=>some rows.length
 | .own _ n=>some n
 | .con (.slice _ n _)=>some n
 |_=>none
theorem aops_len{d n:Nat}{x:Operand}{T:TypeId}{sv:V}(hT:tySlice K.P T=true)
  (hw:Wants ops S ⟨some d,.call ⟨.builtin .len,#[x],#[T]⟩,ty,pos,after,g⟩ true) (hx:evl K S x=sv) (hn:slen sv=some n) (hN:Nat.blt d K.N=true)
  (kk:AOps K ops rest Q (S.put d (.con (.int .i64 n)))):
  AOps K ops (⟨some d,.call ⟨.builtin .len,#[x],#[T]⟩,ty,pos,after,g⟩::rest) Q S:=
 aops_val _ hw hN (fun m β w a r=>by
  have h:=r.reads x
  rw[hx] at h
  obtain⟨e,hu⟩:=tySlice_inv hT
  have key:∃ad cap,a.eval x=.slice ad n cap:=by
   generalize a.eval x=v at h
   cases h with
   |imm h=>
    cases h with
    |nil=>simp[slen] at hn;subst hn;exact⟨_,_,rfl⟩
    |lst _ _ _ hl=>simp[slen] at hn;subst hl;subst hn;exact⟨_,_,rfl⟩
    |con=>unfold slen at hn;split at hn<;>simp_all
    |_=>simp[slen] at hn
   |ownNil=>simp[slen] at hn;subst hn;exact⟨_,_,rfl⟩
   |own=>simp[slen] at hn;subst hn;exact⟨_,_,rfl⟩
   |_=>simp[slen] at hn
  obtain⟨ad,cap,he⟩:=key
  refine⟨.int .i64 n,run_builtin rfl ?_,.imm (.con _)⟩
  simp only[builtin]
  refine run_value ?_
  simp only[Builtin.len_,List.map_toArray,List.map_cons,List.map_nil,he]
  simp[run_underlying hu,goInt,pure,Sem.run]) kk
theorem aops_len_str{d:Nat}{x:Operand}{T:TypeId}{s:ByteArray}(hT:tyStr K.P T=true)
  (hw:Wants ops S ⟨some d,.call ⟨.builtin .len,#[x],#[T]⟩,ty,pos,after,g⟩ true) (hx:evl K S x=.con (.string s)) (hN:Nat.blt d K.N=true)
  (kk:AOps K ops rest Q (S.put d (.con (.int .i64 s.size)))):
  AOps K ops (⟨some d,.call ⟨.builtin .len,#[x],#[T]⟩,ty,pos,after,g⟩::rest) Q S:=
 aops_val _ hw hN (fun m β w a r=>by
  refine⟨.int .i64 s.size,run_builtin rfl ?_,.imm (.con _)⟩
  simp only[builtin]
  refine run_value ?_
  simp only[Builtin.len_,List.map_toArray,List.map_cons,List.map_nil,r.con hx]
  simp[run_underlying (tyStr_inv hT),goInt,pure,Sem.run]) kk
structure IRels(m:Mem)(ds:List V)(vs:Array Value):Prop where
 len:ds.length=vs.size
 at':∀(i:Nat) (c:V) (v:Value),ds[i]? = some c->vs[i]? = some v->IRel m c v
def PureG(gl:Gl)(P:Program)(f:FuncId)(args:List V)(d:V):Prop:=
 ∀(m:Mem) (w:World) (vs:Array Value),(∀(b:Nat) o,m b=some o->w.heap[b]? = some o)->GlOk gl m->IRels m args vs->
  Calls P f vs w fun e w'=>∃v m',e=.returned v/\IRel m' d v/\Grew m m' w w'
abbrev Pure:=PureG []
def Keep(d:V):Prop:=∀m β v,VRel m β d v->IRel m d v
def Imm(d:V):Prop:=d.deep=false/\Keep d
theorem Imm.con(v:Value):Imm (.con v):=⟨rfl,fun _ _ _ h=>by cases h with|imm h=>exact h⟩
theorem Imm.any:Imm .any:=⟨rfl,fun _ _ _ h=>by cases h with|imm h=>exact h⟩
theorem Imm.lst(k:Nat)(rows:List (List V)):Imm (.lst k rows):=⟨rfl,fun _ _ _ h=>by cases h with|imm h=>exact h⟩
theorem Imm.iptr(row:List V)(o:Nat):Imm (.iptr row o):=⟨rfl,fun _ _ _ h=>by cases h with|imm h=>exact h⟩
theorem Imm.ifc(T:Nat)(d:V):Imm (.ifc T d):=⟨rfl,fun _ _ _ h=>by cases h with|imm h=>exact h⟩
theorem Imm.imap(es:List (Value×V)):Imm (.imap es):=⟨rfl,fun _ _ _ h=>by cases h with|imm h=>exact h⟩
theorem Keep.dsl(e k:Nat)(rows:List (List V)):Keep (.dsl e k rows):=fun _ _ _ h=>by cases h with|imm h=>cases h
theorem Keep.dmp(es:List (Value×V)):Keep (.dmp es):=fun _ _ _ h=>by cases h with|imm h=>cases h
theorem Keep.plc(v0:Value)(d:V):Keep (.plc v0 d):=fun _ _ _ h=>by cases h with|imm h=>cases h
theorem Keep.dpt(e:Nat)(row:List V):Keep (.dpt e row):=fun _ _ _ h=>by cases h with|imm h=>cases h
def Imms(ds:List V):Prop:=∀c,c∈ds->Imm c
def Keeps(ds:List V):Prop:=∀c,c∈ds->Keep c
theorem Keeps.nil:Keeps []:=fun _ h=>by simp at h
theorem Keeps.cons{c:V}{ds:List V}(h:Keep c)(h':Keeps ds):Keeps (c::ds):=fun x hx=>by
 rcases List.mem_cons.1 hx with rfl|hx
 ·exact h
 ·exact h' x hx
theorem Imms.keep{ds:List V}(h:Imms ds):Keeps ds:=fun c hc=>(h c hc).2
theorem Imms.nil:Imms []:=fun _ h=>by simp at h
theorem Imms.cons{c:V}{ds:List V}(h:Imm c)(h':Imms ds):Imms (c::ds):=fun x hx=>by
 rcases List.mem_cons.1 hx with rfl|hx
 ·exact h
 ·exact h' x hx
theorem Imms.get{ds:List V}(h:Imms ds){i:Nat}{c:V}(hi:ds[i]? = some c):Imm c:=h c (List.mem_of_getElem? hi)
theorem Imm.agg{cs:List V}(h:Imms cs):Imm (.agg cs):=⟨rfl,fun m β v hv=>by
 cases hv with
 |imm h=>exact h
 |agg hl hh=>exact .agg hl fun i c v hi hv=>(h.get hi).2 m β v (hh i c v hi hv)⟩
theorem Imm.tup{cs:List V}(h:Imms cs):Imm (.tup cs):=⟨rfl,fun m β v hv=>by
 cases hv with
 |imm h=>exact h
 |tup hl hh=>exact .tup hl fun i c v hi hv=>(h.get hi).2 m β v (hh i c v hi hv)⟩
theorem Imm.fn{f:Fn}{cs ds:List V}(h:Imms cs)(h':Imms ds):Imm (.fn f cs ds):=⟨rfl,fun m β v hv=>by
 cases hv with
 |imm h=>exact h
 |fn hl hl' hh hh'=>exact .fn hl hl' (fun i c v hi hv=>(h.get hi).2 m β v (hh i c v hi hv)) fun i c v hi hv=>(h'.get hi).2 m β v (hh' i c v hi hv)⟩
def fnOk (P:Program) (f:FuncId):Bool:=match P.funcs[f]? with|some fn=>fn.name != "runtime.NumGoroutine" && fn.body.isSome|none=>false
theorem run_enter{P:Program}{w:World}{f:FuncId}(h:fnOk P f=true)(args:Array Value):(callFunc f args).run P w=.ok (.enter f args) w:=by
 unfold fnOk at h
 cases hf:P.funcs[f]? with
 |none=>simp[hf] at h
 |some fn=>
  rw[hf] at h
  simp only[Bool.and_eq_true,bne_iff_ne,ne_eq] at h
  obtain⟨h1,h2⟩:=h
  have h3:fn.body.isNone=false:=by cases hb:fn.body<;>simp_all
  simp only[callFunc,program,Sem.run_bind,Sem.run,Result.andThen_ok,hf]
  rw[if_neg (by simpa using h1),if_neg (by simp[h3])]
  rfl
theorem aops_calls{o:Oper}{d:Nat}{f:FuncId}{dv:V}{avs:List V}(hw:Wants ops S o true)(hd:o.dst=some d)(hN:Nat.blt d K.N=true)
  (hrun:∀m β w a,Rel K m β w a S->∃vs:Array Value,(execOp a.eval o).run K.P w=.ok (.enter f vs) w/\IRels m avs vs)
  (hc:PureG K.gl K.P f avs dv) (kk:AOps K ops rest Q (S.put d dv)):AOps K ops (o::rest) Q S:=by
 intro m β w a r
 unfold wpList
 rw[if_pos (hw.at r)]
 left
 obtain⟨vs,h1,h2⟩:=hrun m β w a r
 unfold Oper.wp
 rw[h1]
 refine(hc m w vs r.imm (K.glok.mono r.ext) h2).mono ?_
 rintro e w' ⟨v,m',rfl,h3,h4⟩
 simp only[hd]
 exact kk m' β w' _ ((r.grow h4).put hN (.imm h3))
theorem call_run{d:Option Nat}{f:FuncId}{args:Array Operand}{at':Array TypeId}{avs:List V}(hf:fnOk K.P f=true)(ha:args.toList.map (evl K S)=avs)(hi:Imms avs):
  ∀m β w a,Rel K m β w a S->∃vs:Array Value,(execOp a.eval ⟨d,.call ⟨.value (.func f),args,at'⟩,ty,pos,after,g⟩).run K.P w=.ok (.enter f vs) w/\IRels m avs vs:=by
 intro m β w a r
 refine⟨args.map a.eval,?_,?_⟩
 ·simp only[execOp,resolve,Act.eval,Deferred.ofValue,invoke,Sem.run_bind,pure,Sem.run,Result.andThen_ok]
  simp[run_enter hf]
 ·refine⟨by simp[<-ha],fun i c v h1 h2=>?_⟩
  rw[<-ha,List.getElem?_map] at h1
  rw[Array.getElem?_map] at h2
  cases hx:args[i]? with
  |none=>simp[hx] at h2
  |some x=>
   simp[hx] at h1 h2
   subst h1;subst h2
   refine(hi.get (i:=i) ?_).2 m β _ (r.reads x)
   rw[<-ha];simp[hx]
theorem aops_call{d:Nat}{f:FuncId}{args:Array Operand}{at':Array TypeId}(dv:V)(avs:List V)(hf:fnOk K.P f=true)
  (hw:Wants ops S ⟨some d,.call ⟨.value (.func f),args,at'⟩,ty,pos,after,g⟩ true)
  (ha:args.toList.map (evl K S)=avs) (hi:Imms avs) (hc:PureG K.gl K.P f avs dv) (hN:Nat.blt d K.N=true) (kk:AOps K ops rest Q (S.put d dv)):
  AOps K ops (⟨some d,.call ⟨.value (.func f),args,at'⟩,ty,pos,after,g⟩::rest) Q S:=
 aops_calls hw rfl hN (call_run hf ha hi) hc kk
end
section
variable{K:Ctx}{Q:Post}{S:St}
variable{m:Mem}{β:Locs}{w:World}{a:Act}
@[reducible] def ctx(gl:Gl)(P:Program)(N:Nat)(w0:World)(m0:Mem)(hg:GlOk gl m0):Ctx:=⟨P,N,w0,m0,fun _=>True,0,fun _=>none,gl,hg⟩
def NSub(d v:V):Prop:=∀m β x,VRel m β v x->IRel m d x
inductive ResOne(P:Program)(S:St):ResultVar->V->Prop
 |tmp {t:Tmp} {d v:V} (h:get S.env t=v) (hi:NSub d v):ResOne P S (.tmp t) d
 |agg {x:Tmp} {T n id k i o:Nat} {e:TypeId} {rows:List (List V)} {row cs:List V} {d:V} (hT:tyA P T n=true) (hx:get S.env x=.ptr id k i o) (ho:hget S.hp id=.arr e k rows)
   (hr:rows[i]? = some row) (hc:(row.drop o).take n=cs) (hn:cs.length=n) (hnd:ndB cs=true) (hi:NSub d (.agg cs)):ResOne P S (.cell x T) d
 |cell {x:Tmp} {T id k i o:Nat} {e:TypeId} {rows:List (List V)} {row:List V} {c d:V} (hT:tyC P T=true) (hx:get S.env x=.ptr id k i o) (ho:hget S.hp id=.arr e k rows)
   (hr:rows[i]? = some row) (hc:row[o]? = some c) (hd:c.deep=false) (hi:NSub d c):ResOne P S (.cell x T) d
def resSem(tmps:Array Value):ResultVar->Sem Value
 | .tmp t=>pure (tmps.getD t undef)
 | .cell a t=>do loadVar t (<-asAddr (tmps.getD a undef))
theorem results_eq(fn:Func)(tmps:Array Value):results fn tmps=(do
  let vs <-fn.results.mapM (resSem tmps)
  pure (if h:vs.size=1 then vs[0] else .tuple vs)):=rfl
theorem asAddr_load{P:Program}{w:World}{T:TypeId}{ad:Addr}{v x:Value}(hx:x=.pointer (some ad))(h:(Instr.loadAt T (.pointer (some ad))).run P w=.ok v w):
  (do loadVar T (<-asAddr x):Sem Value).run P w=.ok v w:=by
 subst hx
 simp only[Instr.loadAt,Instr.sureAddr,asAddr] at h ⊢
 exact h
theorem ResOne.run{rv:ResultVar}{d:V}(h:ResOne K.P S rv d)(r:Rel K m β w a S):∃v,(resSem a.tmps rv).run K.P w=.ok v w/\IRel m d v:=by
 cases h with
 | @tmp t _ _ h hi=>exact⟨_,rfl,hi m β _ (by rw[<-h];exact r.env t)⟩
 | @agg x T n id k i o e rows row cs d hT hx ho hr hc hn hnd hi=>
  have h:=r.env x
  rw[hx] at h
  obtain⟨b,cap,hb,hv⟩:=h.ptr_inv
  obtain⟨arr,bl,h1,h2,h3,h4,h5,_,h6⟩:=r.obj hb ho
  have hcell:∀j c,cs[j]? = some c->∃v,arr[cap.off+(i*k+o)+j]? = some v/\VRel m β c v:=by
   intro j c hj
   have hd:=ndB_at hnd hj
   rw[<-hc,List.getElem?_take] at hj
   split at hj
   ·rw[List.getElem?_drop] at hj
    obtain⟨v,a1,a2,_⟩:=h6 i (o+j) row c hr hj
    exact⟨v,by rw[Nat.add_assoc,Nat.add_assoc];exact a1,a2.v hd⟩
   ·simp at hj
  have hrun:=run_load_agg (P:=K.P) (w:=w) (b:=b) (o:=cap.off+(i*k+o)) (fun j=>arr.getD (cap.off+(i*k+o)+j) undef) hT (fun j hj=>by
   rw[cell_of_heap h1]
   obtain⟨v,a1,_⟩:=hcell j cs[j] (by simp[hn,hj])
   rw[a1];simp[Array.getD_eq_getD_getElem?,a1])
  refine⟨_,asAddr_load hv hrun,hi m β _ ?_⟩
  refine .agg (by simp[hn]) (fun j c v hj hv=>?_)
  obtain⟨v',a1,a2⟩:=hcell j c hj
  simp only[List.getElem?_toArray,List.getElem?_map] at hv
  have hj':j<n:=by rw[<-hn];exact(List.getElem?_eq_some_iff.1 hj).1
  rw[List.getElem?_range hj'] at hv
  simp only[Option.map_some,Option.some.injEq] at hv
  rw[<-hv]
  simp[Array.getD_eq_getD_getElem?,a1];exact a2
 | @cell x T id k i o e rows row c d hT hx ho hr hc hd hi=>
  have h:=r.env x
  rw[hx] at h
  obtain⟨b,cap,hb,hv⟩:=h.ptr_inv
  obtain⟨arr,bl,h1,h2,h3,h4,h5,_,h6⟩:=r.obj hb ho
  obtain⟨v,a1,a2,_⟩:=h6 i o row _ hr hc
  exact⟨v,asAddr_load hv (run_load_cell hT (by rw[cell_of_heap h1];exact a1)),hi m β v (a2.v hd)⟩
inductive ResV(P:Program)(S:St):List ResultVar->V->Prop
 |none:ResV P S [] (.tup [])
 |one {r:ResultVar} {d:V} (h:ResOne P S r d):ResV P S [r] d
 |two {r1 r2:ResultVar} {d1 d2:V} (h1:ResOne P S r1 d1) (h2:ResOne P S r2 d2):ResV P S [r1,r2] (.tup [d1,d2])
 |three {r1 r2 r3:ResultVar} {d1 d2 d3:V} (h1:ResOne P S r1 d1) (h2:ResOne P S r2 d2) (h3:ResOne P S r3 d3):ResV P S [r1,r2,r3] (.tup [d1,d2,d3])
 |four {r1 r2 r3 r4:ResultVar} {d1 d2 d3 d4:V} (h1:ResOne P S r1 d1) (h2:ResOne P S r2 d2) (h3:ResOne P S r3 d3) (h4:ResOne P S r4 d4):
   ResV P S [r1,r2,r3,r4] (.tup [d1,d2,d3,d4])
theorem irel_tup2{d1 d2:V}{v1 v2:Value}(h1:IRel m d1 v1)(h2:IRel m d2 v2):IRel m (.tup [d1,d2]) (.tuple #[v1,v2]):=by
 refine .tup rfl fun i c v hi hv=>?_
 match i with
 |0=>simp at hi hv;subst hi;subst hv;exact h1
 |1=>simp at hi hv;subst hi;subst hv;exact h2
 |i+2=>simp at hi
theorem irel_tup3{d1 d2 d3:V}{v1 v2 v3:Value}(h1:IRel m d1 v1)(h2:IRel m d2 v2)(h3:IRel m d3 v3):IRel m (.tup [d1,d2,d3]) (.tuple #[v1,v2,v3]):=by
 refine .tup rfl fun i c v hi hv=>?_
 match i with
 |0=>simp at hi hv;subst hi;subst hv;exact h1
 |1=>simp at hi hv;subst hi;subst hv;exact h2
 |2=>simp at hi hv;subst hi;subst hv;exact h3
 |i+3=>simp at hi
theorem irel_tup4{d1 d2 d3 d4:V}{v1 v2 v3 v4:Value}(h1:IRel m d1 v1)(h2:IRel m d2 v2)(h3:IRel m d3 v3)(h4:IRel m d4 v4):IRel m (.tup [d1,d2,d3,d4]) (.tuple #[v1,v2,v3,v4]):=by
 refine .tup rfl fun i c v hi hv=>?_
 match i with
 |0=>simp at hi hv;subst hi;subst hv;exact h1
 |1=>simp at hi hv;subst hi;subst hv;exact h2
 |2=>simp at hi hv;subst hi;subst hv;exact h3
 |3=>simp at hi hv;subst hi;subst hv;exact h4
 |i+4=>simp at hi
theorem ResV.run{fn:Func}{l:List ResultVar}{d:V}(hl:fn.results=l.toArray)(h:ResV K.P S l d)(r:Rel K m β w a S):∃v,(results fn a.tmps).run K.P w=.ok v w/\IRel m d v:=by
 cases h with
 |none=>exact⟨.tuple #[],by rw[results_eq,hl];simp,.tup rfl (by simp)⟩
 |one h=>
  obtain⟨v,h1,h2⟩:=h.run r
  exact⟨v,by rw[results_eq,hl];simp[h1],h2⟩
 |two h g=>
  obtain⟨v1,h1,h2⟩:=h.run r
  obtain⟨v2,g1,g2⟩:=g.run r
  exact⟨_,by rw[results_eq,hl];simp[h1,g1],irel_tup2 h2 g2⟩
 |three h g i=>
  obtain⟨v1,h1,h2⟩:=h.run r
  obtain⟨v2,g1,g2⟩:=g.run r
  obtain⟨v3,i1,i2⟩:=i.run r
  exact⟨_,by rw[results_eq,hl];simp[h1,g1,i1],irel_tup3 h2 g2 i2⟩
 |four h g i j=>
  obtain⟨v1,h1,h2⟩:=h.run r
  obtain⟨v2,g1,g2⟩:=g.run r
  obtain⟨v3,i1,i2⟩:=i.run r
  obtain⟨v4,j1,j2⟩:=j.run r
  exact⟨_,by rw[results_eq,hl];simp[h1,g1,i1,j1],irel_tup4 h2 g2 i2 j2⟩
def retQ(P:Program)(l:List ResultVar)(d:V):Post:=fun e S=>(e=.ret\/e=.normal)/\ResV P S l d
def argEnv:Nat->List V->Env
 |_,[]=>[]
 |i,v::vs=>(i,v)::argEnv (i+1) vs
theorem get_argEnv:∀(vs:List V) (i t:Nat),get (argEnv i vs) t=if i<=t then vs.getD (t - i) .any else .any
 |[],i,t=>by simp[argEnv,get]
 |v::vs,i,t=>by
  rw[argEnv,get_put,get_argEnv vs (i+1) t]
  by_cases h:i=t
  ·subst h;simp
  ·rw[if_neg h]
   by_cases h2:i<=t
   ·rw[if_pos h2,if_pos (by omega)]
    have:t - i=(t - (i+1))+1:=by omega
    rw[this];simp
   ·rw[if_neg h2,if_neg (by omega)]
theorem pure_enter{gl:Gl}{P:Program}{f:FuncId}{fn:Func}{c:Code}{N:Nat}{args:List V}{l:List ResultVar}{d:V}(hf:P.funcs[f]? = some fn)(hb:fn.body=some c)(hN:fn.ntmps=N)
  (hl:fn.results=l.toArray) (ha:Nat.ble args.length N=true) (env:Env) (henv:argEnv 0 args=env)
  (h:∀(w0:World) (m0:Mem) (hg:GlOk gl m0),AWP (ctx gl P N w0 m0 hg) c (retQ P l d) ⟨env,[],0⟩):PureG gl P f args d:=by
 intro m w vs himm hgl hargs
 have ha:=Nat.le_of_ble_eq_true ha
 refine calls_of_wp hf hb ?_
 have hsz:(vs++Array.replicate (fn.ntmps - vs.size) undef).size=N:=by
  have:=hargs.len
  simp only[Array.size_append,Array.size_replicate,hN];omega
 have r:Rel (ctx gl P N w m hgl) m ⟨fun _=>none,fun _ _=>False⟩ w ⟨vs++Array.replicate (fn.ntmps - vs.size) undef,[]⟩ ⟨env,[],0⟩:=by
  constructor
  ·exact himm
  ·exact Mem.le_refl _
  ·exact fun _ _ _=>rfl
  ·exact fun _ _ _=>rfl
  ·exact Nat.le_refl _
  ·exact⟨rfl,rfl,rfl,Nat.le_refl _⟩
  ·exact hsz
  ·rfl
  ·intro t
   show VRel _ _ (get env t) _
   rw[<-henv,get_argEnv]
   simp only[Nat.zero_le,if_true,Nat.sub_zero]
   by_cases ht:t<args.length
   ·have ht':t<vs.size:=by rw[<-hargs.len];exact ht
    simp only[List.getD_eq_getElem?_getD,List.getElem?_eq_getElem ht,Option.getD_some,Array.getD_eq_getD_getElem?,Array.getElem?_append,if_pos ht',Array.getElem?_eq_getElem ht']
    exact .imm (hargs.at' t _ _ (List.getElem?_eq_getElem ht) (Array.getElem?_eq_getElem ht'))
   ·simp only[List.getD_eq_getElem?_getD,List.getElem?_eq_none (Nat.le_of_not_lt ht),Option.getD_none]
    exact .imm (.any _)
  ·exact fun _=>ObOk.dead' _
  ·intro id b cap _ h;simp at h
  ·intro id id' b cap cap' _ _ h;simp at h
  ·exact fun id x _ h=>h.elim
  ·exact fun _ _=>rfl
  ·exact fun q hq=>absurd hq (Nat.not_lt_zero q)
 refine wp_mono (h w m hgl m _ w _ r) ?_
 rintro e a' w' ⟨_,S',m',β',⟨he,hres⟩,r'⟩
 obtain⟨v,h1,h2⟩:=hres.run hl r'
 have hg:Grew m m' w w':=⟨r'.ext,r'.imm,fun b hb=>r'.mold b hb trivial,fun b hb=>r'.frame b hb trivial,r'.size,r'.same⟩
 rcases he with rfl|rfl
 ·exact⟨r'.df,v,h1,v,m',rfl,h2,hg⟩
 ·exact⟨r'.df,v,h1,v,m',rfl,h2,hg⟩
end
set_option linter.unusedVariables false
section
variable{K:Ctx}{Q:Post}{S S':St}{ops:Array Oper}{rest:List Oper}{op:Op}{ty:TypeId}{pos:String}{after:Array Edge}{g:Option (Nat×Bool)}
variable{m:Mem}{β:Locs}{w:World}{a:Act}
def Ghost(K:Ctx)(S S':St):Prop:=∀m β w a,Rel K m β w a S->∃m' β',Rel K m' β' w a S'
theorem Ghost.trans{S'':St}(h:Ghost K S S')(h':Ghost K S' S''):Ghost K S S'':=fun m β w a r=>
 let ⟨m',β',r'⟩:=h m β w a r;h' m' β' w a r'
theorem Ghost.refl:Ghost K S S:=fun m β _ _ r=>⟨m,β,r⟩
theorem awp_ghost{c:Code}(h:Ghost K S S')(k:AWP K c Q S'):AWP K c Q S:=fun m β w a r=>let ⟨m',β',r'⟩:=h m β w a r;k m' β' w a r'
theorem aops_ghost{l:List Oper}(h:Ghost K S S')(k:AOps K ops l Q S'):AOps K ops l Q S:=fun m β w a r=>let ⟨m',β',r'⟩:=h m β w a r;k m' β' w a r'
abbrev Hy:=Mem->Locs->Mem->Locs->Prop
def Sub(Y:Hy)(v' v:V):Prop:=∀m β m' β' x,Y m β m' β'->VRel m β v x->VRel m' β' v' x
theorem Sub.any{Y:Hy}{v:V}:Sub Y .any v:=fun _ _ _ _ _ _ _=>.imm (.any _)
inductive EnvSub(Y:Hy)(env:Env):Env->Prop
 |nil:EnvSub Y env []
 |cons {t:Nat} {v:V} {e:Env} (h:Sub Y v (get env t)) (h':EnvSub Y env e):EnvSub Y env ((t,v)::e)
theorem EnvSub.get{Y:Hy}{env env':Env}(h:EnvSub Y env env')(t:Nat):Sub Y (get env' t) (get env t):=by
 induction h with
 |nil=>exact Sub.any
 | @cons t' v e h h' ih=>
  rw[get_put]
  split
  ·rename_i he;subst he;exact h
  ·exact ih
def CSub(Y:Hy)(c c':V):Prop:=∀m β m' β' w B x,Y m β m' β'->CRel m β w B c' x->CRel m' β' w B c x
def HyM(Y:Hy):Prop:=∀m β m' β',Y m β m' β'->m.le m'
class HyMC (Y:Hy):Prop where
 h:HyM Y
theorem CSub.sub{Y:Hy}{c c':V}(h:Sub Y c c')(hd:c'.deep=false):CSub Y c c':=fun _ _ _ _ _ _ _ hy hx=>.inl (h _ _ _ _ _ hy (hx.v hd))
theorem CSub.same{Y:Hy}(hm:HyM Y){c:V}(h:Sub Y c c):CSub Y c c:=fun _ _ _ _ _ _ _ hy hx=>hx.elim (fun hx=>.inl (h _ _ _ _ _ hy hx)) (fun hx=>.inr (hx.mono (hm _ _ _ _ hy) (fun _ h=>h) (fun _ _=>rfl)))
def ObSub(Y:Hy):Ob->Ob->Prop
 | .dead,_=>True
 | .res,.res=>True
 | .arr e k rows,.arr e' k' rows'=>e=e'/\k=k'/\rows.length=rows'.length/\(∀(i:Nat) r r',rows[i]? = some r->rows'[i]? = some r'->r.length=r'.length/\
   ∀(j:Nat) c c',r[j]? = some c->r'[j]? = some c'->CSub Y c c')
 | .map es,.map es'=>es.length=es'.length/\∀(i:Nat) p p',es[i]? = some p->es'[i]? = some p'->p.1=p'.1/\CSub Y p.2 p'.2
 | .iter c l,.iter c' l'=>(∀p,p∈c->p∈c')/\l=l'/\HyM Y
 | .bld T e l fr,.bld T' e' l' fr'=>T=T'/\e=e'/\l=l'/\fr=fr'
 |_,_=>False
theorem ObSub.ok{Y:Hy}{m m':Mem}{β β':Locs}{B:Nat->Prop}(hy:Y m β m' β'){l:Option (Option (Nat×Cap))}{ob ob':Ob}(h:ObSub Y ob ob')(ho:ObOk m β w B l ob'):ObOk m' β' w B l ob:=by
 cases ob with
 |dead=>exact ObOk.dead' _
 |res=>
  cases ob' with
  |res=>
   match l,ho with
   |none,_=>trivial
   |some none,ho|some (some (b,c)),ho=>exact absurd ho (by simp[ObOk])
  |_=>simp[ObSub] at h
 |arr e k rows=>
  cases ob' with
  |dead=>simp[ObSub] at h
  |res=>simp[ObSub] at h
  |map es=>simp[ObSub] at h
  |iter c l=>simp[ObSub] at h
  |bld T e l fr=>simp[ObSub] at h
  |arr e' k' rows'=>
   obtain⟨rfl,rfl,hl,hr⟩:=h
   match l,ho with
   |some none,ho=>
    have:rows'=[]:=ho
    subst this
    have:rows=[]:=List.length_eq_zero_iff.1 (by simpa using hl)
    subst this
    simp[ObOk]
   |some (some (b,cap)),ho=>
    obtain⟨arr,bl,h1,h2,h3,h4,h5,hBl,h6⟩:=ho
    refine⟨arr,bl,h1,h2,by rw[hl];exact h3,h4,?_,hBl,?_⟩
    ·intro row hrow
     obtain⟨i,hi,rfl⟩:=List.getElem_of_mem hrow
     have hi':i<rows'.length:=by rw[<-hl];exact hi
     rw[(hr i _ _ (List.getElem?_eq_getElem hi) (List.getElem?_eq_getElem hi')).1]
     exact h5 _ (List.getElem_mem _)
    ·intro i j row c hi hj
     have hlt:=(List.getElem?_eq_some_iff.1 hi).1
     have hlt':i<rows'.length:=by rw[<-hl];exact hlt
     obtain⟨a1,a2⟩:=hr i row _ hi (List.getElem?_eq_getElem hlt')
     have hj1:=(List.getElem?_eq_some_iff.1 hj).1
     have hj2:j<rows'[i].length:=by rw[<-a1];exact hj1
     obtain⟨v,b1,b2,b3⟩:=h6 i j _ _ (List.getElem?_eq_getElem hlt') (List.getElem?_eq_getElem hj2)
     exact⟨v,b1,a2 j c _ hj (List.getElem?_eq_getElem hj2) _ _ _ _ _ _ _ hy b2,b3⟩
   |none,ho=>exact absurd ho (by simp[ObOk])
 |map es=>
  cases ob' with
  |dead=>simp[ObSub] at h
  |res=>simp[ObSub] at h
  |arr e k rows=>simp[ObSub] at h
  |iter c l=>simp[ObSub] at h
  |bld T e l fr=>simp[ObSub] at h
  |map es'=>
   obtain⟨hl,hr⟩:=h
   match l,ho with
   |some (some (b,cap)),ho=>
    obtain⟨ents,clock,bl,h1,h2,hBl,h3⟩:=ho
    refine⟨ents,clock,bl,h1,by rw[hl];exact h2,hBl,?_⟩
    intro i p e hi he
    have hlt:=(List.getElem?_eq_some_iff.1 hi).1
    have hlt':i<es'.length:=by rw[<-hl];exact hlt
    obtain⟨a1,a2⟩:=hr i p _ hi (List.getElem?_eq_getElem hlt')
    obtain⟨b1,b2⟩:=h3 i _ e (List.getElem?_eq_getElem hlt') he
    exact⟨by rw[a1];exact b1,a2 _ _ _ _ _ _ _ hy b2⟩
   |none,ho=>exact absurd ho (by simp[ObOk])
   |some none,ho=>exact absurd ho (by simp[ObOk])
 |iter cu lf=>
  cases ob' with
  |dead=>simp[ObSub] at h
  |res=>simp[ObSub] at h
  |arr e k rows=>simp[ObSub] at h
  |map es=>simp[ObSub] at h
  |bld T e l fr=>simp[ObSub] at h
  |iter cu' lf'=>
   obtain⟨hcc,rfl,hm⟩:=h
   have hm:=hm _ _ _ _ hy
   match l,ho with
   |some (some (b,cap)),ho=>
    obtain⟨bm,seen,E,clock,v,h0,h1,h2,h3,h4,h5,h6,h7⟩:=ho
    exact⟨bm,seen,E,clock,v,h0,h1,hm _ _ h2,h3,h4,h5,fun i p e hi he=>⟨(h6 i p e hi he).1,(h6 i p e hi he).2.mono hm⟩,fun p hp=>let ⟨e,a1,a2,a3,a4⟩:=h7 p (hcc p hp);⟨e,a1,a2,a3,a4.mono hm⟩⟩
   |none,ho=>exact absurd ho (by simp[ObOk])
   |some none,ho=>exact absurd ho (by simp[ObOk])
 |bld T e bs fr=>
  cases ob' with
  |bld T' e' bs' fr'=>
   obtain⟨rfl,rfl,rfl,rfl⟩:=h
   match l,ho with
   |some (some (b,cap)),ho=>exact ho
   |none,ho=>exact absurd ho (by simp[ObOk])
   |some none,ho=>exact absurd ho (by simp[ObOk])
  |_=>simp[ObSub] at h
theorem ObSub.keep'{Y:Hy}(hm:HyM Y)(hk:∀c,CSub Y c c)(ob:Ob):ObSub Y ob ob:=by
 cases ob with
 |dead=>trivial
 |res=>trivial
 |iter c l=>exact⟨fun _ h=>h,rfl,hm⟩
 |bld T e l fr=>exact⟨rfl,rfl,rfl,rfl⟩
 |arr e k rows=>
  refine⟨rfl,rfl,rfl,fun i r r' h1 h2=>?_⟩
  rw[h1,Option.some.injEq] at h2;subst h2
  refine⟨rfl,fun j c c' h3 h4=>?_⟩
  rw[h3,Option.some.injEq] at h4;subst h4;exact hk c
 |map es=>
  refine⟨rfl,fun i p p' h1 h2=>?_⟩
  rw[h1,Option.some.injEq] at h2;subst h2;exact⟨rfl,hk _⟩
def Ren(n:Nat)(σ:Nat->Nat):Hy:=fun m β m' β'=>m'=m/\∀id,id<n->β' id=β (σ id)
instance {n:Nat} {σ:Nat->Nat}:HyMC (Ren n σ):=⟨fun m β m' β' hy=>by rw[hy.1];exact Mem.le_refl _⟩
theorem Sub.kp{n:Nat}{σ:Nat->Nat}{v:V}(h:Keep v):Sub (Ren n σ) v v:=fun m β m' β' x hy hx=>by
 obtain⟨rfl,_⟩:=hy
 exact .imm (h _ β x hx)
theorem Sub.imm{n:Nat}{σ:Nat->Nat}{v:V}(h:Imm v):Sub (Ren n σ) v v:=fun m β m' β' x hy hx=>by
 obtain⟨rfl,_⟩:=hy
 exact .imm (h.2 _ β x hx)
theorem Sub.nil{Y:Hy}(k:Nat):Sub Y (.lst k []) (.con (.slice none 0 0)):=fun m β m' β' x _ hx=>by
 rw[hx.of_con];exact .imm (.nil k none 0)
theorem Sub.own{n id j l:Nat}{σ:Nat->Nat}(hn:Nat.blt id n=true)(hj:σ id=j):Sub (Ren n σ) (.own id l) (.own j l):=fun m β m' β' x hy hx=>by
 have h:=hy.2 id (Nat.le_of_ble_eq_true hn)
 rw[hj] at h
 cases hx with
 |imm h=>cases h
 |ownNil hb=>exact .ownNil (by rw[h];exact hb)
 |own hb=>exact .own (by rw[h];exact hb)
theorem Sub.ptr{n id j k i o:Nat}{σ:Nat->Nat}(hn:Nat.blt id n=true)(hj:σ id=j):Sub (Ren n σ) (.ptr id k i o) (.ptr j k i o):=fun m β m' β' x hy hx=>by
 have h:=hy.2 id (Nat.le_of_ble_eq_true hn)
 rw[hj] at h
 cases hx with
 |imm h=>cases h
 |ptr hb=>exact .ptr (by rw[h];exact hb)
theorem Sub.map{n id j:Nat}{σ:Nat->Nat}(hn:Nat.blt id n=true)(hj:σ id=j):Sub (Ren n σ) (.map id) (.map j):=fun m β m' β' x hy hx=>by
 have h:=hy.2 id (Nat.le_of_ble_eq_true hn)
 rw[hj] at h
 cases hx with
 |imm h=>cases h
 |map hb=>exact .map (by rw[h];exact hb)
inductive Subs(Y:Hy):List V->List V->Prop
 |nil:Subs Y [] []
 |cons {v v':V} {l l':List V} (h:Sub Y v v') (h':Subs Y l l'):Subs Y (v::l) (v'::l')
theorem Subs.len{Y:Hy}{l l':List V}(h:Subs Y l l'):l.length=l'.length:=by
 induction h with
 |nil=>rfl
 |cons _ _ ih=>simp[ih]
theorem Subs.get{Y:Hy}{l l':List V}(h:Subs Y l l'):∀(i:Nat) c c',l[i]? = some c->l'[i]? = some c'->Sub Y c c':=by
 induction h with
 |nil=>intro i c c' h;simp at h
 |cons h _ ih=>
  intro i c c' h1 h2
  cases i with
  |zero=>simp at h1 h2;subst h1;subst h2;exact h
  |succ i=>simp at h1 h2;exact ih i c c' h1 h2
theorem Sub.agg{Y:Hy}{l l':List V}(h:Subs Y l l'):Sub Y (.agg l) (.agg l'):=fun m β m' β' x hh hx=>by
 cases hx with
 |imm hx=>cases hx with
  |agg hl hx=>
   refine .agg (by rw[h.len];exact hl) fun i c v h1 h2=>?_
   have h3:i<l'.length:=by rw[<-h.len];exact(List.getElem?_eq_some_iff.1 h1).1
   exact h.get i c _ h1 (List.getElem?_eq_getElem h3) _ _ _ _ _ hh (.imm (hx i _ v (List.getElem?_eq_getElem h3) h2))
 |agg hl hx=>
  refine .agg (by rw[h.len];exact hl) fun i c v h1 h2=>?_
  have h3:i<l'.length:=by rw[<-h.len];exact(List.getElem?_eq_some_iff.1 h1).1
  exact h.get i c _ h1 (List.getElem?_eq_getElem h3) _ _ _ _ _ hh (hx i _ v (List.getElem?_eq_getElem h3) h2)
inductive HpSub(Y:Hy)(n:Nat)(σ:Nat->Nat)(hp:Heap):Heap->Prop
 |nil:HpSub Y n σ hp []
 |cons {id:Nat} {ob:Ob} {e:Heap} (hn:Nat.blt id n=true) (h:ObSub Y ob (hget hp (σ id))) (h':HpSub Y n σ hp e):HpSub Y n σ hp ((id,ob)::e)
theorem HpSub.get{Y:Hy}{n:Nat}{σ:Nat->Nat}{hp hp':Heap}(h:HpSub Y n σ hp hp')(id:Nat):(hget hp' id=.dead\/id<n)/\ObSub Y (hget hp' id) (hget hp (σ id)):=by
 induction h with
 |nil=>exact⟨.inl rfl,trivial⟩
 | @cons id' ob e hn h h' ih=>
  rw[hget_put]
  split
  ·rename_i he;subst he;exact⟨.inr (Nat.le_of_ble_eq_true hn),h⟩
  ·exact ih
def HpOk(Y:Hy)(n:Nat)(σ:Nat->Nat)(hp hp':Heap):Prop:=∀id,(hget hp' id=.dead\/id<n)/\ObSub Y (hget hp' id) (hget hp (σ id))
theorem envPut{Y:Hy}{env:Env}{t:Nat}{v:V}(hk:∀v,Sub Y v v)(h:Sub Y v (get env t)):∀t',Sub Y (get ((t,v)::env) t') (get env t'):=by
 intro t'
 rw[get_put]
 split
 ·rename_i he;subst he;exact h
 ·exact hk _
def pinsOk(n:Nat)(σ:Nat->Nat):Nat->Bool
 |0=>true
 |q+1=>Nat.blt q n&&Nat.beq (σ q) q&&pinsOk n σ q
theorem pinsOk_at{n:Nat}{σ:Nat->Nat}:∀{p q:Nat},pinsOk n σ p=true->q<p->q<n/\σ q=q
 |p+1,q,h,hq=>by
  simp only[pinsOk,Bool.and_eq_true] at h
  by_cases e:q=p
  ·subst e;exact⟨Nat.le_of_ble_eq_true h.1.1,Nat.eq_of_beq_eq_true h.1.2⟩
  ·exact pinsOk_at h.2 (by omega)
theorem ghost_ren(n:Nat)(σ:Nat->Nat)(env:Env)(hp:Heap)(hσ:∀i,i<n->∀j,j<n->σ i=σ j->i=j)(henv:∀t,Sub (Ren n σ) (get env t) (get S.env t))(hhp:HpOk (Ren n σ) n σ S.hp hp)
  (hpin:pinsOk n σ K.pins=true):Ghost K S ⟨env,hp,n⟩:=by
 intro m β w a r
 let β':Locs:=⟨fun id=>if id<n then β (σ id) else none,fun id=>β.hid (σ id)⟩
 have eβ:∀id,id<n->β' id=β (σ id):=fun id h=>by show(if _ then _ else _)=_;rw[if_pos h]
 have hy:Ren n σ m β m β':=⟨rfl,eβ⟩
 have hlive:∀id,hget hp id≠.dead->id<n/\hget S.hp (σ id)≠.dead:=by
  intro id h
  obtain⟨h1,h2⟩:=hhp id
  refine⟨h1.resolve_left h,fun hd=>?_⟩
  rw[hd] at h2
  cases ho:hget hp id with
  |dead=>exact h ho
  |arr=>rw[ho] at h2;simp[ObSub] at h2
  |res=>rw[ho] at h2;simp[ObSub] at h2
  |map=>rw[ho] at h2;simp[ObSub] at h2
  |iter=>rw[ho] at h2;simp[ObSub] at h2
  |bld=>rw[ho] at h2;simp[ObSub] at h2
 refine⟨m,β',?_⟩
 constructor
 ·exact r.imm
 ·exact r.ext
 ·exact r.mold
 ·exact r.frame
 ·exact r.size
 ·exact r.same
 ·exact r.tn
 ·exact r.df
 ·exact fun t=>henv t _ _ _ _ _ hy (r.env t)
 ·intro id
  obtain⟨h1,h2⟩:=hhp id
  rcases h1 with h1|h1
  ·show ObOk m β' w _ _ (hget hp id);rw[h1];exact ObOk.dead' _
  ·show ObOk m β' w (β.hid (σ id)) (β' id) (hget hp id)
   rw[eβ id h1]
   exact h2.ok hy (r.own (σ id))
 ·intro id b cap hl hb
  obtain⟨h1,h2⟩:=hlive id hl
  have:=eβ id h1
  rw[this] at hb
  exact r.priv _ _ _ h2 hb
 ·intro id id' b cap cap' hl hl' hb hb'
  obtain⟨h1,h2⟩:=hlive id hl
  obtain⟨h1',h2'⟩:=hlive id' hl'
  have e1:=eβ id h1
  have e2:=eβ id' h1'
  rw[e1] at hb;rw[e2] at hb'
  exact hσ id h1 id' h1' (r.inj _ _ _ _ _ h2 h2' hb hb')
 ·intro id x hl hx
  obtain⟨h1,h2⟩:=hlive id hl
  have h:=r.hid (σ id) x h2 hx
  refine⟨h.lt,h.m,h.old,fun i b c hi hb=>?_,fun i hi hx'=>?_⟩
  ·obtain⟨h1',h2'⟩:=hlive i hi
   rw[eβ i h1'] at hb
   exact h.ne _ b c h2' hb
  ·obtain⟨h1',h2'⟩:=hlive i hi
   exact hσ i h1' id h1 (h.un _ h2' hx')
 ·intro id hid
  have:¬id<n:=Nat.not_lt.2 hid
  show(if _ then _ else _)=_
  rw[if_neg this]
 ·intro q hq
  obtain⟨h1,h2⟩:=pinsOk_at hpin hq
  refine⟨h1,?_⟩
  rw[eβ q h1,h2];exact(r.pin q hq).2
def Frz(id k:Nat)(rows:List (List V)):Hy:=fun m β m' β'=>m.le m'/\β'=β/\(∀n x,VRel m β (.own id n) x->n<=rows.length->IRel m' (.lst k (rows.take n)) x)/\
 ∀i o row x,rows[i]? = some row->VRel m β (.ptr id k i o) x->IRel m' (.iptr row o) x
instance {id k:Nat} {rows:List (List V)}:HyMC (Frz id k rows):=⟨fun m β m' β' hy=>hy.1⟩
theorem Sub.keep{id k:Nat}{rows:List (List V)}{v:V}:Sub (Frz id k rows) v v:=fun _ _ _ _ _ hy hx=>by
 obtain⟨h1,rfl,_⟩:=hy
 exact hx.mono h1 (Locs.le_refl _)
theorem Sub.frz{id k n:Nat}{rows rows':List (List V)}(hn:n<=rows.length)(hr:rows.take n=rows'):Sub (Frz id k rows) (.lst k rows') (.own id n):=fun _ _ _ _ _ hy hx=>by
 subst hr
 exact .imm (hy.2.2.1 n _ hx hn)
theorem Sub.frzptr{id k i o:Nat}{rows:List (List V)}{row:List V}(hr:rows[i]? = some row):Sub (Frz id k rows) (.iptr row o) (.ptr id k i o):=fun _ _ _ _ _ hy hx=>.imm (hy.2.2.2 i o row _ hr hx)
theorem ghost_freeze(id:Nat){e:TypeId}{k:Nat}{rows:List (List V)}(env:Env)(hp:Heap)(ho:hget S.hp id=.arr e k rows)(hi:∀row,row∈rows->Imms row)
  (henv:∀t,Sub (Frz id k rows) (get env t) (get S.env t)) (hhp:∀i,ObSub (Frz id k rows) (hget hp i) (hget S.hp i)) (hd:hget hp id=.dead):Ghost K S ⟨env,hp,S.nx⟩:=by
 intro m β w a r
 have hown:=r.own id
 rw[ho] at hown
 cases hb:β id with
 |none=>rw[hb] at hown;simp[ObOk] at hown
 |some l=>
 have key:∃m',(∀b o,m' b=some o->w.heap[b]? = some o)/\Frz id k rows m β m' β/\(∀b,m' b=m b\/∃cap,l=some (b,cap)):=by
  cases l with
  |none=>
   rw[hb] at hown
   have:rows=[]:=hown
   subst this
   refine⟨m,r.imm,⟨Mem.le_refl _,rfl,fun n x hx hn=>?_,fun i o row x hr=>by simp at hr⟩,fun b=>.inl rfl⟩
   simp at hn;subst hn
   cases hx with
   |imm h=>cases h
   |ownNil h=>exact .nil k _ 0
   |own h=>rw[hb] at h;simp at h
  |some p=>
   obtain⟨b,cap⟩:=p
   rw[hb] at hown
   obtain⟨arr,bl,h1,h2,h3,h4,h5,hBl,h6⟩:=hown
   have hp':=r.priv id b cap (by rw[ho];simp) hb
   let m':Mem:=fun b'=>if b'=b then some (.cells arr e (0,0)) else m b'
   have hle:m.le m':=by
    intro b' o h
    have:b'≠b:=by intro e';subst e';rw[hp'.1] at h;simp at h
    simp[m',this,h]
   have hcells:∀i,i<rows.length*k->arr[cap.off+i]? = some (arr.getD (cap.off+i) undef):=by
    intro i hi'
    have:cap.off+i<arr.size:=by rw[h2];have:=Nat.lt_of_lt_of_le hi' (Nat.mul_le_mul_right k h3);omega
    simp[Array.getD_eq_getD_getElem?,this]
   have hrel:∀(i j:Nat) (row:List V) (c:V),rows[i]? = some row->row[j]? = some c->IRel m' c (arr.getD (cap.off+(i*k+j)) undef):=by
    intro i j row c hr hj
    obtain⟨v,a1,a2,_⟩:=h6 i j row c hr hj
    have hcc:=hi row (List.mem_of_getElem? hr) c (List.mem_of_getElem? hj)
    have:=hcc.2 m β v (a2.v hcc.1)
    simp only[Array.getD_eq_getD_getElem?,a1,Option.getD_some]
    exact this.mono hle
   refine⟨m',?_,⟨hle,rfl,?_,?_⟩,?_⟩
   ·intro b' o h
    by_cases hbb:b'=b
    ·subst hbb;simp[m'] at h;rw[h1,h]
    ·simp[m',hbb] at h;exact r.imm _ _ h
   ·intro n x hx hn
    cases hx with
    |imm h=>cases h
    |ownNil h=>exact .nil k _ 0
    | @own _ _ b2 cap2 h=>
     rw[hb] at h
     simp only[Option.some.injEq,Prod.mk.injEq] at h
     obtain⟨rfl,rfl⟩:=h
     refine .lst (T:=e) (arr:=arr) (fr:=(0,0)) (fun i=>arr.getD (cap.off+i) undef) (by simp[m']) rfl (by simp;omega) (by omega) (by omega) (fun row hr=>h5 row (List.mem_of_mem_take hr)) ?_ ?_
     ·intro i hi'
      refine hcells i (Nat.lt_of_lt_of_le hi' (Nat.mul_le_mul_right _ ?_))
      simp;exact Nat.min_le_right _ _
     ·intro i j row c hr hj
      rw[List.getElem?_take] at hr
      split at hr
      ·exact hrel i j row c hr hj
      ·simp at hr
   ·intro i o row x hr hx
    cases hx with
    |imm h=>cases h
    | @ptr _ _ _ _ b2 cap2 h=>
     rw[hb] at h
     simp only[Option.some.injEq,Prod.mk.injEq] at h
     obtain⟨rfl,rfl⟩:=h
     have hrk:=h5 row (List.mem_of_getElem? hr)
     refine .iptr (T:=e) (arr:=arr) (fr:=(0,0)) (fun j=>arr.getD (cap.off+(i*k+j)) undef) (cap.off+i*k) (by simp[m']) rfl (by simp;omega) ?_ ?_
     ·intro j hj
      rw[Nat.add_assoc]
      refine hcells _ ?_
      calc i*k+j<i*k+k:=by omega
       _=(i+1)*k:=by rw[Nat.add_mul,Nat.one_mul]
       _<=rows.length*k:=Nat.mul_le_mul_right _ (List.getElem?_eq_some_iff.1 hr).1
     ·exact fun j c hj=>hrel i j row c hr hj
   ·intro b'
    by_cases hbb:b'=b
    ·exact .inr ⟨cap,by rw[hbb]⟩
    ·exact .inl (by simp[m',hbb])
 obtain⟨m',k1,hy,k2⟩:=key
 have hlid:hget S.hp id≠.dead:=by rw[ho];simp
 have hlive:∀i,hget hp i≠.dead->hget S.hp i≠.dead/\i≠id:=by
  intro i h
  have h2:=hhp i
  refine⟨fun hdd=>?_,fun he=>h (by rw[he];exact hd)⟩
  rw[hdd] at h2
  cases ho':hget hp i with
  |dead=>exact h ho'
  |arr=>rw[ho'] at h2;simp[ObSub] at h2
  |res=>rw[ho'] at h2;simp[ObSub] at h2
  |map=>rw[ho'] at h2;simp[ObSub] at h2
  |iter=>rw[ho'] at h2;simp[ObSub] at h2
  |bld=>rw[ho'] at h2;simp[ObSub] at h2
 refine⟨m',β,?_⟩
 constructor
 ·exact k1
 ·exact Mem.le_trans r.ext hy.1
 ·intro b hb' hold
  rcases k2 b with h|⟨cap,h⟩
  ·rw[h];exact r.mold b hb' hold
  ·subst h
   have hp':=r.priv id b cap (by rw[ho];simp) hb
   exact absurd hold (hp'.2 hb')
 ·exact r.frame
 ·exact r.size
 ·exact r.same
 ·exact r.tn
 ·exact r.df
 ·exact fun t=>henv t _ _ _ _ _ hy (r.env t)
 ·intro i
  exact(hhp i).ok hy (r.own i)
 ·intro i b cap hl hb'
  obtain⟨h1,h2⟩:=hlive i hl
  have hp':=r.priv i b cap h1 hb'
  refine⟨?_,hp'.2⟩
  rcases k2 b with h|⟨cap',h⟩
  ·rw[h];exact hp'.1
  ·subst h
   exact absurd (r.inj i id b cap cap' h1 (by rw[ho];simp) hb' hb) h2
 ·intro i i' b cap cap' hl hl'
  exact r.inj i i' b cap cap' (hlive i hl).1 (hlive i' hl').1
 ·intro i x hl hx
  have h:=r.hid i x (hlive i hl).1 hx
  refine⟨h.lt,?_,h.old,fun i' b c hi'=>h.ne i' b c (hlive i' hi').1,fun i' hi'=>h.un i' (hlive i' hi').1⟩
  rcases k2 x with h'|⟨cap',h'⟩
  ·rw[h'];exact h.m
  ·subst h'
   exact absurd rfl (h.ne id x cap' hlid hb)
 ·exact r.nx
 ·exact r.pin
end
end Go.Pv
