/- Part of the proof: V, Z, ZA, T. -/
import Derived.Test.YtelmfadihfcgnaaGreatDoorXPvN
import Derived.Shelf.Sort.Plain
import Derived.Laws.MakeOwn
import Derived.Shelf.Slices.In.SortNone
import Derived.Below
import Derived.Laws.AppendOwn
import Derived.Laws.BytesArg
import Derived.Stop.BytesEq
import Derived.Lib.Repeat
import Derived.Lib.LaidTab
import Derived.Lib.ItoaNum
import Derived.Shelf.Strconv.Itoa3
import Derived.Laws.Build
set_option linter.unusedSimpArgs false
set_option linter.unusedVariables false
namespace Go.Pv
open Go
section
variable{K:Ctx}{Q:q5l}{S:St}
variable{m:Mem}{β:q4h}{w:World}{a:Act}
variable{ops:Array Oper}{rest:List Oper}{ty:TypeId}{pos:String}{after:Array Edge}{g:Option (Nat×Bool)}
theorem z7p{d nx:Nat}{f:FuncId}{args:Array Operand}{at':Array TypeId}{k':Nat}{hp':q8d}{dc:V}(ids:List Nat)(hid:(ids.all fun i=>Nat.blt i nx&&Nat.ble K.pins i)=true)(hnx:S.nx=nx)
  (hres:∀i,i∈ids->q7b S.hp i=.res) (dv:V) (avs:List V) (u:q8d) (hf:q7o K.P f=true)
  (hw:q2d ops S ⟨some d,.call ⟨.value (.func f),args,at'⟩,ty,pos,after,g⟩ true) (hN:Nat.blt d K.N=true) (ha:args.toList.map (evl K S)=avs)
  (hsub:j8d (Ren 0 fun i=>i) avs avs) (hc:z9y K.gl K.P f avs 0 [] dc k' hp') (hk:ids.length=k') (hτ:w0a k' (fun i=>ids.getD i 0)=true)
  (hdv:Sub (To k' fun i=>ids.getD i 0) dv dc) (hu:j1s (To k' fun i=>ids.getD i 0) (fun i=>ids.getD i 0) hp' k' 0 u)
  (kk:q1d K ops rest Q ⟨(d,dv)::S.env,u++S.hp,S.nx⟩):q1d K ops (⟨some d,.call ⟨.value (.func f),args,at'⟩,ty,pos,after,g⟩::rest) Q S:=by
 subst hnx;have hall:=as8.1 hid
 have hfree:∀i,(ids.any fun j=>Nat.beq i j)=true->i∈ids:=by
  intro i hi;obtain⟨j,hj,e⟩:=cj8.1 hi;rw[co9 e];exact hj
 have hto:toB 0 k' S.nx S.nx (fun i=>i) (fun i=>ids.getD i 0) (fun i=>ids.any fun j=>Nat.beq i j)=true:=by
  unfold toB;rw[as8];intro j hj;have hj':j<ids.length:=by rw[hk];exact cr8.1 hj
  have e:ids.getD j 0=ids[j]:=by rw[cs9,bb9 hj'];rfl
  have h1:=hall _ (be9 hj');simp only[as9] at h1 ⊢;rw[e];refine⟨h1.1,?_⟩;rw[if_neg (by intro e';exact absurd (az8 e') (by omega)),at9];exact .inr (cj8.2 ⟨_,be9 hj',ak8 _⟩)
 exact z7a (fun i=>i) (fun i=>ids.getD i 0) S.nx u (fun i=>ids.any fun j=>Nat.beq i j) hw rfl hN (j8v hf ha) hsub (q5j.get .nil) hc
  (fun i hi=>hres i (hfree i hi)) hto hτ (cp9 (by omega)) (cp9 (ak9 _))
  (fun i hi=>by have:=hall i (hfree i hi);simp only[as9] at this;exact az8 this.2) hdv hu kk
theorem q4g{d T T' e k bytes n n' id nx:Nat}{s x:Operand}{sv:V}{rows:List (List V)}(idn:Nat)(hid:(Nat.blt idn nx&&Nat.ble K.pins idn)=true)(hnxx:S.nx=nx)(hres:q7b S.hp idn=.res)(rows2 rows':List (List V))(hT:z0i K.P T e k bytes=true)(hT':q3k K.P T'=true)
  (hpos:Nat.blt 0 bytes=true) (hkp:Nat.blt 0 k=true)
  (hw:q2d ops S ⟨some d,.call ⟨.builtin .append,#[s,x],#[T,T']⟩,ty,pos,after,g⟩ true)
  (hs:evl K S s=.own id n) (ho:q7b S.hp id=.arr e k rows) (hn:rows.length=n) (hx:evl K S x=sv) (hsrc:Src S k sv rows2)
  (hr:rows++rows2=rows') (hn':rows'.length=n') (hb:n'*bytes<=140737488355328) (hN:Nat.blt d K.N=true)
  (kk:q1d K ops rest Q ⟨(d,.own idn n')::S.env,(idn,.arr e k rows')::(id,.dead)::S.hp,S.nx⟩):
  q1d K ops (⟨some d,.call ⟨.builtin .append,#[s,x],#[T,T']⟩,ty,pos,after,g⟩::rest) Q S:=
 z6u idn S.nx (fun _ _ _ _ r=>⟨r.free hres,fun q hq=>by have:=az8 (co8.1 hid).2;omega⟩) (by rw[hnxx];exact az8 (co8.1 hid).1) (ae8 _) rows2 rows' hT (z8q hT') hpos hkp hw hs ho hn hx hsrc hr hn' (.inl hb) hN kk
end
theorem w5t{α:Type}{l:List α}{b:Nat}:(l.drop 0).take (b - 0)=l.take b:=by simp
theorem w6t{α β:Type}{f:α->β}{l:List α}{a:Nat}:((l.map f).drop a).take (l.length - a)=(l.drop a).map f:=by rw[List.take_of_length_le]<;>simp
theorem y9n{α β:Type}{f:α->β}{l:List α}{b:Nat}:((l.map f).drop 0).take (b - 0)=(l.take b).map f:=by simp
section
variable{K:Ctx}{Q:q5l}{S:St}
variable{ops:Array Oper}{rest:List Oper}{ty:TypeId}{pos:String}{after:Array Edge}{g:Option (Nat×Bool)}
theorem j6c{d:Nat}{T k e:TypeId}{x y:Operand}{good:Value->Prop}{kv zv:Value}{mv:V}{es:List (Value×V)}(res:Option V)(zd dv:V)(hT:q8u K.P T k e=true)(hK:j7l K.P k good)
  (hz:(K.P.info? e).bind (·.zero)=some zv) (hzd:∀m,q1l m zd zv)
  (hw:q2d ops S ⟨some d,.lookup T x y true,ty,pos,after,g⟩ true) (hx:evl K S x=mv) (hm:j5q S mv es) (hy:z6i K S y kv) (hg:good kv) (hges:∀p,p∈es->good p.1)
  (hl:j0f kv es res) (hd:res.getD zd=dv) {b:Bool} (hb:res.isSome=b) (hN:Nat.blt d K.N=true)
  (kk:q1d K ops rest Q (S.put d (.tup [dv,.con (.bool b)]))) (hdd:dv.deep=false:=by rfl):q1d K ops (⟨some d,.lookup T x y true,ty,pos,after,g⟩::rest) Q S:=
 by subst hb;exact j2h res zd dv hT hK hz hzd hw hx hm hy hg hges hl hd hN kk hdd
end
section
variable{K:Ctx}{Q:q5l}{S:St}
theorem y0e{c:Code}{α:Type}{k:Nat}{A:List α}{enc:α->List V}(t:Nat)(ht:get S.env t=.lst k (A.map enc))(h:A.length<=maxLen->AWP K c Q S):AWP K c Q S:=by
 intro m β w a r;refine h ?_ m β w a r;have:=r.env t;rw[ht] at this;generalize a.tmps.getD t undef=v at this;generalize hrows:A.map enc=rows at this;cases this with
 |imm h=>
  cases h with
  |nil=>have:A=[]:=(by simpa using hrows);subst this;simp
  |lst f h1 h2 h3 h4 h5=>rw[<-hrows,bk8] at h3;omega
theorem w4p{c:Code}{α:Type}{e k:Nat}{A:List α}{enc:α->List V}(id:Nat)(ht:q7b S.hp id=.arr e k (A.map enc))(h:A.length<=maxLen->AWP K c Q S):AWP K c Q S:=by
 intro m β w a r;refine h ?_ m β w a r;have:=r.own id;rw[ht] at this;generalize hrows:A.map enc=rows at this;cases hb:β id with
 |none=>rw[hb] at this;simp[q9h] at this
 |some l=>
  rw[hb] at this;cases l with
  |none=>
   have:rows=[]:=this;subst this;have:A=[]:=by simpa using hrows
   subst this;simp
  |some p=>
   obtain⟨b,cap⟩:=p;obtain⟨arr,bl,h1,h2,h3,h4,_⟩:=this;rw[<-hrows,bk8] at h3;omega
def RG{α:Type}(A:List α)(X:List α->Int->Prop)(n:Nat)(N:Int):Prop:=∃j:Nat,N=j/\j<=A.length/\A.length - j<n/\X (A.drop j) N
theorem RG.zero{α:Type}{A:List α}{X:List α->Int->Prop}{N:Int}:¬RG A X 0 N:=fun⟨_,_,_,h,_⟩=>by omega
theorem RG.start{α:Type}{A:List α}{X:List α->Int->Prop}(h:X A 0):RG A X (A.length+1) 0:=⟨0,rfl,ak9 _,by omega,h⟩
theorem v4t{n:Nat}(h:n<=maxLen):IntKind.wrap .i64 (n:Int)=n:=by
 have h:n<=9223372036854775807:=h
 have:IntKind.wrap .i64 (n:Int)=if (n:Int) % 18446744073709551616>=9223372036854775808 then (n:Int) % 18446744073709551616 - 18446744073709551616 else (n:Int) % 18446744073709551616:=by
  simp[IntKind.wrap,IntKind.signed,IntKind.bits]
 rw[this];split<;>omega
theorem RG.t{α:Type}{A:List α}{X:List α->Int->Prop}{n:Nat}{N:Int}(hA:A.length<=maxLen)(h:RG A X (n+1) N)(hb:decide (N<((A.length:Nat):Int))=true):
  ∃x l,idx A N=some x/\X (x::l) N/\∀X':List α->Int->Prop,X' l (N+1)->RG A X' n (IntKind.wrap .i64 (N+1)):=by
 obtain⟨j,rfl,h1,h2,h3⟩:=h;have hj:j<A.length:=by have:=of_decide_eq_true hb;omega
 refine⟨A[j],A.drop (j+1),by simp[idx,hj],by rw[<-bx9 hj];exact h3,fun X' h=>?_⟩;have e:IntKind.wrap .i64 ((j:Int)+1)=((j+1:Nat):Int):=v4t (n:=j+1) (by omega);rw[e];exact⟨j+1,rfl,hj,by omega,h⟩
theorem RG.f{α:Type}{A:List α}{X:List α->Int->Prop}{n:Nat}{N:Int}(h:RG A X (n+1) N)(hb:decide (N<((A.length:Nat):Int))=false):X [] N:=by
 obtain⟨j,rfl,h1,h2,h3⟩:=h;have hj:¬j<A.length:=by have:=of_decide_eq_false hb;omega
 rwa [an9 (by omega)] at h3
def RC(B:Int)(X:Nat->Int->Prop)(n:Nat)(N:Int):Prop:=∃j:Nat,N=j/\j<=B.toNat/\B.toNat - j<n/\X (B.toNat - j) N
theorem RC.zero{B:Int}{X:Nat->Int->Prop}{N:Int}:¬RC B X 0 N:=fun⟨_,_,_,h,_⟩=>by omega
theorem RC.start{B:Int}{X:Nat->Int->Prop}(h:X B.toNat 0):RC B X (B.toNat+1) 0:=⟨0,rfl,ak9 _,by omega,h⟩
theorem RC.t{B:Int}{X:Nat->Int->Prop}{n:Nat}{N:Int}(hB:B<=9223372036854775807)(h:RC B X (n+1) N)(hb:decide (N<B)=true):
  ∃l,X (l+1) N/\∀X':Nat->Int->Prop,X' l (N+1)->RC B X' n (IntKind.wrap .i64 (N+1)):=by
 obtain⟨j,rfl,h1,h2,h3⟩:=h;have hj:j<B.toNat:=by have:=of_decide_eq_true hb;omega
 refine⟨B.toNat - (j+1),by rw[show B.toNat - (j+1)+1=B.toNat - j by omega];exact h3,fun X' h=>?_⟩;have e:IntKind.wrap .i64 ((j:Int)+1)=((j+1:Nat):Int):=v4t (n:=j+1) (by unfold maxLen;omega);rw[e];exact⟨j+1,rfl,hj,by omega,h⟩
theorem RC.f{B:Int}{X:Nat->Int->Prop}{n:Nat}{N:Int}(h:RC B X (n+1) N)(hb:decide (N<B)=false):X 0 N:=by
 obtain⟨j,rfl,h1,h2,h3⟩:=h;have hj:¬(j:Int)<B:=of_decide_eq_false hb
 rwa [show B.toNat - j=0 by omega] at h3
end
end Go.Pv
namespace Go.Pv
open Go Go.RowKit
theorem j9j{m:Mem}{w w':World}(hm:∀(b:Nat) o,m b=some o->w.heap[b]? = some o)(h:Below w.heap.size w w')(hd:True):w0h m m w w':=
 ⟨Mem.le_refl _,fun b o hb=>by rw[h.block b (q3e (hm b o hb))];exact hm b o hb,fun _ _=>rfl,h.block,h.size,⟨h.os,h.tape,h.output,hd⟩⟩
theorem v5z{m:Mem}{vs:Array Value}:∀{l:List Value},v3b m (l.map V.con) vs->vs=l.toArray:=by
 intro l h;apply Array.ext
 ·have:=h.len;simp at this ⊢;omega
 ·intro i h1 h2;have:=h.at' i (.con (l[i]'(by simpa using h2))) vs[i] (by simp[bb9 (show i<l.length by simpa using h2)]) (by simp[h1]);generalize vs[i]=x at this ⊢;cases this;simp
theorem v6o{gl:Gl}{P:Program}{f:FuncId}{l:List Value}{d:V}{v:Value}(h:∀w,Calls P f l.toArray w fun e w'=>e=.returned v/\Below w.heap.size w w'/\True)(hd:∀m,q1l m d v):q5s gl P f (l.map V.con) d:=by
 intro m w vs himm _ hargs;obtain rfl:=v5z hargs;refine(h w).mono ?_
 rintro e w' ⟨rfl,hb,hdr⟩
 exact⟨v,m,rfl,hd m,j9j himm hb hdr⟩
open Go.Sort in
theorem j7a{α:Type}[Inhabited α](enc:α->Value)(w:World)(n blk off:Nat)(d:Array α)(os:Array Obj)(b:Nat)(hb:b<w.heap.size):
  (grow (putRow enc (Sort.ahead w n) blk off d) os).heap[b]? = if blk=b then (w.heap[b]?).map (onCells (putCells enc off d)) else w.heap[b]?:=by
 unfold grow putRow mapBlock Sort.ahead;simp only;rw[ay9 (by simpa using hb),br9]
open Go.Sort in
theorem j4v{gl:Gl}{P:Program}{f:FuncId}{k id:Nat}{hp:q8d}{e:TypeId}{α:Type}[Inhabited α](enc:α->Value)(h1c:∀x,(enc x).oneCell'=true)(l l':List α)(hid:q7b hp id=.arr e 1 (l.map fun x=>[V.con (enc x)]))(hl:l'.length=l.length)
  (h:∀(w:World) (blk off cap:Nat),Holds enc w blk off l.toArray->blk<w.heap.size->Calls P f #[.slice (some ⟨blk,off,none⟩) l.length cap] w fun e w'=>
   e=.returned (.tuple #[])/\∃n os,w'=grow (putRow enc (Sort.ahead w n) blk off l'.toArray) os)
  (hn:∀(w:World) (a:Option Addr),l=[]->Calls P f #[.slice a 0 0] w fun e w'=>e=.returned (.tuple #[])/\Below w.heap.size w w'/\True):
  z9y gl P f [.own id l.length] k hp (.tup []) k ((id,.arr e 1 (l'.map fun x=>[V.con (enc x)]))::hp):=by
 intro m β w vs himm _ hargs hown hpriv hinj hhid hnx
 obtain⟨v,rfl⟩:∃v,vs=#[v]:=by
  have:=hargs.len;simp at this
  exact⟨vs[0],by
   apply Array.ext
   ·simp[<-this]
   ·intro i h1 h2;have:i=0:=by simp at h2;omega
    subst this;simp⟩
 have hv:=hargs.at' 0 _ _ rfl rfl;have hob:=hown id;rw[hid] at hob;have hg:∀q,q7b ((id,Ob.arr e 1 (l'.map fun x=>[V.con (enc x)]))::hp) q=if id=q then Ob.arr e 1 (l'.map fun x=>[V.con (enc x)]) else q7b hp q:=fun q=>q0b _ _ _ _
 have hlive:∀q,q7b ((id,Ob.arr e 1 (l'.map fun x=>[V.con (enc x)]))::hp) q≠.dead->q7b hp q≠.dead:=fun q hq=>by
  rw[hg] at hq;split at hq
  ·rename_i hh;subst hh;rw[hid];simp
  ·exact hq
 have hhids:∀(w':World),w.heap.size<=w'.heap.size->∀q x,q7b ((id,Ob.arr e 1 (l'.map fun x=>[V.con (enc x)]))::hp) q≠.dead->β.hid q x->x<w'.heap.size/\m x=none/\(x<w.heap.size->¬q9m hp β x)/\
   (∀i b c,q7b ((id,Ob.arr e 1 (l'.map fun x=>[V.con (enc x)]))::hp) i≠.dead->β i=some (some (b,c))->x≠b)/\∀i,q7b ((id,Ob.arr e 1 (l'.map fun x=>[V.con (enc x)]))::hp) i≠.dead->β.hid i x->i=q:=by
  intro w' hs q x hq hx;obtain⟨q1,q2,q3,q4⟩:=hhid q x (hlive q hq) hx;exact⟨by omega,q2,fun _ hF=>(hF q (hlive q hq)).2 hx,fun i b c hi=>q3 i b c (hlive i hi),fun i hi=>q4 i (hlive i hi)⟩
 generalize hnl:l.length=n at hv h;cases hv with
 |imm h'=>cases h'
 | @ownNil _ ad hb=>
  have hl0:l=[]:=ba8.1 hnl;subst hl0;have hl':l'=[]:=ba8.1 (by simpa using hl);subst hl';refine(hn w ad rfl).mono ?_
  rintro ex w' ⟨rfl,hB,hdr⟩
  have hheap:∀b,b<w.heap.size->w'.heap[b]? = w.heap[b]?:=hB.block;refine⟨_,m,β,rfl,.tup rfl (by simp),Mem.le_refl _,fun b o hb=>by rw[hheap b (q3e (himm b o hb))];exact himm b o hb,fun b hb _=>⟨rfl,hheap b hb⟩,hB.size,⟨hB.os,hB.tape,hB.output,hdr⟩,fun q=>?_,fun q b cap hq hbq=>?_,fun q q' b cap cap' hq hq'=>hinj q q' b cap cap' (hlive q hq) (hlive q' hq'),hhids w' hB.size,hnx,fun q hq=>⟨hq,rfl⟩⟩
  ·rw[hg];split
   ·rename_i hh;subst hh;rw[hb];simp[q9h]
   ·by_cases hd:q7b hp q=.dead
    ·rw[hd];exact q9h.dead' _
    ·exact q9h.congr (fun b cap hbb=>hheap b (q8w hd hbb (hown q))) (fun x hx=>hheap x (hhid q x hd hx).1) (hown q)
  ·have hq:=hlive q hq;exact⟨hpriv q b cap hq hbq,fun _ hF=>(hF q hq).1 cap hbq⟩
 | @own _ _ b cap hb=>
  rw[hb] at hob;obtain⟨arr,bl,o1,o2,o3,o4,o5,oB,o6⟩:=hob;have hbs:b<w.heap.size:=q3e o1
  have hcell:∀j (hj:j<l.length),arr[cap.off+j]? = some (enc l[j]):=fun j hj=>by
   obtain⟨v,v1,v2,_⟩:=o6 j 0 [V.con (enc l[j])] (V.con (enc l[j])) (by simp[bb9 hj]) rfl;have:=(v2.v rfl).of_con;subst this
   simpa using v1
  refine(h w b cap.off cap.n (fun j hj=>?_) hbs).mono ?_
  ·have hj':j<l.length:=by simpa using hj
   have hz:(l.toArray)[j]! = l[j]:=by rw[getElem!_pos _ j hj];simp
   rw[hz];exact⟨(q0i o1).trans (hcell j hj'),by simp[World.frozen?,o1]⟩
  rintro ex w' ⟨rfl,nd,os,rfl⟩
  have hheap:=j7a enc w nd b cap.off l'.toArray os;have hother:∀b',b'<w.heap.size->b'≠b->(grow (putRow enc (Sort.ahead w nd) b cap.off l'.toArray) os).heap[b']? = w.heap[b']?:=fun b' h1 h2=>by rw[hheap b' h1,if_neg (Ne.symm h2)]
  have hlid:q7b hp id≠.dead:=by rw[hid];simp
  have hsz:w.heap.size<=(grow (putRow enc (Sort.ahead w nd) b cap.off l'.toArray) os).heap.size:=by simp[grow,putRow,mapBlock,Sort.ahead]
  refine⟨_,m,β,rfl,.tup rfl (by simp),Mem.le_refl _,fun b' o hb'=>?_,fun b' hb' hF=>⟨rfl,hother b' hb' (fun e=>?_)⟩,hsz,⟨rfl,rfl,rfl,trivial⟩,fun q=>?_,fun q b' cap' hq hbq=>?_,fun q q' b1 cap1 cap2 hq hq'=>hinj q q' b1 cap1 cap2 (hlive q hq) (hlive q' hq'),hhids _ hsz,hnx,fun q hq=>⟨hq,rfl⟩⟩
  ·have hne:b'≠b:=fun e=>by
    subst e;rw[hpriv id b' cap hlid hb] at hb';simp at hb'
   rw[hother b' (q3e (himm b' o hb')) hne];exact himm b' o hb'
  ·subst e;exact(hF id hlid).1 cap hb
  ·rw[hg];split
   ·rename_i hh;subst hh;rw[hb];refine⟨putCells enc cap.off l'.toArray arr,bl,by rw[hheap b hbs,if_pos rfl,o1];rfl,by simp[putCells,o2],by simpa[hl] using o3,o4,?_,oB,fun i j row c hr hc=>?_⟩
    ·intro row hr;obtain⟨x,_,rfl⟩:=bg9.1 hr;rfl
    ·rw[bb8] at hr;cases hli:l'[i]? with
     |none=>rw[hli] at hr;simp at hr
     |some x=>
      rw[hli] at hr;simp at hr;subst hr;have hi:i<l'.length:=(bf9.1 hli).1;have hx:l'[i]=x:=(bf9.1 hli).2
      have hj:j=0:=by
       have:=(bf9.1 hc).1;simp at this;exact this
      subst hj;simp at hc;subst hc;have ha:cap.off+i<arr.size:=by simp at o3;omega
      refine⟨enc x,?_,.inl (.imm (.con _)),h1c x⟩;rw[bn9,bh8];unfold putCells;rw[Array.getElem?_mapIdx,bd8 ha,bc8,if_pos ⟨bf8 _ _,by simpa using hi⟩,bi9,getElem!_pos _ i (by simpa using hi)];simp[hx]
   ·by_cases hd:q7b hp q=.dead
    ·rw[hd];exact q9h.dead' _
    ·refine q9h.congr (fun b' cap' hbb=>hother b' (q8w hd hbb (hown q)) (fun e=>?_)) (fun x hx=>hother x (hhid q x hd hx).1 ((hhid q x hd hx).2.2.1 id b cap hlid hb)) (hown q);subst e;rename_i hne;exact hne (hinj id q b' cap cap' hlid hd hb hbb)
  ·have hq:=hlive q hq;exact⟨hpriv q b' cap' hq hbq,fun _ hF=>(hF q hq).1 cap' hbq⟩
open Go.Sort in
theorem w0l{gl:Gl}{P:Program}{f:FuncId}{k id:Nat}{hp:q8d}{e:TypeId}(l l':List Int)(hid:q7b hp id=.arr e 1 (l.map fun x=>[V.con (.int .i64 x)]))(hl:l'.length=l.length)
  (h:∀(w:World) (blk off cap:Nat),Holds (Value.int .i64) w blk off l.toArray->blk<w.heap.size->Calls P f #[.slice (some ⟨blk,off,none⟩) l.length cap] w fun e w'=>
   e=.returned (.tuple #[])/\∃n os,w'=grow (putRow (Value.int .i64) (Sort.ahead w n) blk off l'.toArray) os)
  (hn:∀(w:World) (a:Option Addr),l=[]->Calls P f #[.slice a 0 0] w fun e w'=>e=.returned (.tuple #[])/\Below w.heap.size w w'/\True):
  z9y gl P f [.own id l.length] k hp (.tup []) k ((id,.arr e 1 (l'.map fun x=>[V.con (.int .i64 x)]))::hp):=j4v (Value.int .i64) (fun _=>rfl) l l' hid hl h hn
theorem z5y{id:Nat}{a b:Ob}(q:Nat):q7b [(id,b)] q=q7b ((id,b)::[(id,a)]) q:=by
 rw[q0b,q0b,q0b];split<;>rfl
theorem z9y.heap{gl:Gl}{P:Program}{f:FuncId}{args:List V}{k k':Nat}{hp hp' hp'':q8d}{d:V}(h:z9y gl P f args k hp d k' hp')(he:∀q,q7b hp'' q=q7b hp' q):z9y gl P f args k hp d k' hp'':=by
 intro m β w vs a1 a2 a3 a4 a5 a6 a7 a8;refine(h m β w vs a1 a2 a3 a4 a5 a6 a7 a8).mono ?_
 rintro e w' ⟨v,m',β',e1,e2,A⟩
 refine⟨v,m',β',e1,e2,⟨A.le,A.imm,A.old,A.size,A.same,fun id=>by rw[he];exact A.own id,fun id b cap hl=>A.priv id b cap (by rwa [he] at hl),fun id id' b c c' hl hl'=>A.inj id id' b c c' (by rwa [he] at hl) (by rwa [he] at hl'),
  fun id x hl hx=>let q:=A.hid id x (by rwa [he] at hl) hx;⟨q.1,q.2.1,q.2.2.1,fun i b c hi=>q.2.2.2.1 i b c (by rwa [he] at hi),fun i hi=>q.2.2.2.2 i (by rwa [he] at hi)⟩,A.nx,A.pin⟩⟩
def v5p(l:List Int):List Int:=l.mergeSort fun x y=>decide (x<=y)
section
variable{K:Ctx}{Q:q5l}{S:St}
variable{ops:Array Oper}{rest:List Oper}{ty:TypeId}{pos:String}{after:Array Edge}{g:Option (Nat×Bool)}
theorem q1x{d T e k bytes:Nat}{x:Operand}{n:Int}{zs:List Value}{ln:Nat}(rows:List (List V))(hT:z0i K.P T e k bytes=true)(hz:zeroCells K.P e=some zs)
  (h1:zs.all (·.oneCell')=true) (hk:Nat.blt 0 k=true) (h0:0<=n/\(bytes:Int)*n<=140737488355328/\n<=140737488355328) (hr:rows=List.replicate n.toNat (zs.map V.con)) (hln:ln=n.toNat) (hw:q2d ops S ⟨some d,.makeSlice T x x,ty,pos,after,g⟩ true)
  (hx:evl K S x=.con (.int .i64 n)) (hN:Nat.blt d K.N=true)
  (kk:q1d K ops rest Q ⟨(d,.own S.nx ln)::S.env,(S.nx,.arr e k rows)::S.hp,S.nx+1⟩):
  q1d K ops (⟨some d,.makeSlice T x x,ty,pos,after,g⟩::rest) Q S:=by
 subst hr hln;refine q8h hw (fun m β w a r=>?_) kk;have hk:=az8 hk;obtain⟨i,z,hu,hi,hs,hby,hzz,hzk⟩:=q0r hT
 have hzs:zs=z.cells.toList:=by
  have:zeroCells K.P e=some z.cells.toList:=by simp[zeroCells,hi,hzz]
  rw[hz] at this;exact aj9 this
 have hzl:zs.length=k:=by rw[hzs];simp[hzk]
 have hrun:=run_make (P:=K.P) w T e i z hu hi hzz .i64 .i64 n n h0.1 (Int.le_refl _) (by rw[hby];omega) (by omega)
 obtain⟨β',hle,hnx,r2⟩:=r.alloc (.cells (madeCells z.cells (n.toNat*i.size)) e (0,0)) (.arr e k (List.replicate n.toNat (zs.map V.con))) ⟨n.toNat,0⟩ _ rfl (fun β' hle=>by
  refine q2o (vs:=madeCells z.cells (n.toNat*i.size)) (by simp) (by rw[size_madeCells,hs]) (by simp) (by unfold maxLen;omega) (fun row hrow=>by rw[List.eq_of_mem_replicate hrow];simp[hzl]) ?_;intro p j row c hp hj;have hpn:p<n.toNat:=by have:=(bf9.1 hp).1;simpa using this
  have hrow:row=zs.map V.con:=by
   have:=(bf9.1 hp).2;rw[List.getElem_replicate] at this;exact this.symm
  subst hrow;rw[bb8] at hj;cases hzj:zs[j]? with
  |none=>rw[hzj] at hj;simp at hj
  |some v=>
   rw[hzj] at hj;simp at hj;subst hj;have hjk:j<k:=by have:=(bf9.1 hzj).1;omega
   have hv:zs[j]'(by omega)=v:=(bf9.1 hzj).2;refine⟨v,?_,.imm (.con _),as8.1 h1 v (ba9 hzj)⟩
   have hlt:p*k+j<n.toNat*i.size:=by
    rw[hs];have:(p+1)*k<=n.toNat*k:=bh9 k hpn;rw[Nat.succ_mul] at this;omega
   unfold madeCells;rw[ce8,Array.getElem?_range,if_pos hlt,bc8,hzk,aq8,Nat.mul_add_mod,Nat.mod_eq_of_lt hjk,getElem!_pos _ j (by omega)]
   congr 1
   rw[<-hv];simp[hzs])
 refine⟨.slice (some ⟨w.heap.size,0,none⟩) n.toNat n.toNat,_,m,β',.inl ?_,Rel.put r2 hN (.own hnx)⟩;simp only[execOp];rw[Sem.run_bind];have hxv:=r.con hx;rw[hxv,hrun];rfl
theorem z3s{d T e k bytes nx:Nat}{x:Operand}{n:Int}{zs:List Value}{ln:Nat}(id:Nat)(hid:(Nat.blt id nx&&Nat.ble K.pins id)=true)(hnx0:S.nx=nx)(hres:q7b S.hp id=.res)(rows:List (List V))(hT:z0i K.P T e k bytes=true)(hz:zeroCells K.P e=some zs)
  (h1:zs.all (·.oneCell')=true) (hk:Nat.blt 0 k=true) (h0:0<=n/\(bytes:Int)*n<=140737488355328/\n<=140737488355328) (hr:rows=List.replicate n.toNat (zs.map V.con)) (hln:ln=n.toNat) (hw:q2d ops S ⟨some d,.makeSlice T x x,ty,pos,after,g⟩ true)
  (hx:evl K S x=.con (.int .i64 n)) (hN:Nat.blt d K.N=true)
  (kk:q1d K ops rest Q ⟨(d,.own id ln)::S.env,(id,.arr e k rows)::S.hp,S.nx⟩):
  q1d K ops (⟨some d,.makeSlice T x x,ty,pos,after,g⟩::rest) Q S:=by
 subst hr hln;refine q8h hw (fun m β w a r=>?_) kk;have hk:=az8 hk;obtain⟨i,z,hu,hi,hs,hby,hzz,hzk⟩:=q0r hT
 have hzs:zs=z.cells.toList:=by
  have:zeroCells K.P e=some z.cells.toList:=by simp[zeroCells,hi,hzz]
  rw[hz] at this;exact aj9 this
 have hzl:zs.length=k:=by rw[hzs];simp[hzk]
 have hrun:=run_make (P:=K.P) w T e i z hu hi hzz .i64 .i64 n n h0.1 (Int.le_refl _) (by rw[hby];omega) (by omega)
 obtain⟨β',hle,hnx,r2⟩:=r.allocAt id (by rw[hnx0];exact az8 (co8.1 hid).1) (az8 (co8.1 hid).2) hres (.cells (madeCells z.cells (n.toNat*i.size)) e (0,0)) (.arr e k (List.replicate n.toNat (zs.map V.con))) ⟨n.toNat,0⟩ _ rfl (fun β' hle=>by
  refine q2o (vs:=madeCells z.cells (n.toNat*i.size)) (by simp) (by rw[size_madeCells,hs]) (by simp) (by unfold maxLen;omega) (fun row hrow=>by rw[List.eq_of_mem_replicate hrow];simp[hzl]) ?_;intro p j row c hp hj;have hpn:p<n.toNat:=by have:=(bf9.1 hp).1;simpa using this
  have hrow:row=zs.map V.con:=by
   have:=(bf9.1 hp).2;rw[List.getElem_replicate] at this;exact this.symm
  subst hrow;rw[bb8] at hj;cases hzj:zs[j]? with
  |none=>rw[hzj] at hj;simp at hj
  |some v=>
   rw[hzj] at hj;simp at hj;subst hj;have hjk:j<k:=by have:=(bf9.1 hzj).1;omega
   have hv:zs[j]'(by omega)=v:=(bf9.1 hzj).2;refine⟨v,?_,.imm (.con _),as8.1 h1 v (ba9 hzj)⟩
   have hlt:p*k+j<n.toNat*i.size:=by
    rw[hs];have:(p+1)*k<=n.toNat*k:=bh9 k hpn;rw[Nat.succ_mul] at this;omega
   unfold madeCells;rw[ce8,Array.getElem?_range,if_pos hlt,bc8,hzk,aq8,Nat.mul_add_mod,Nat.mod_eq_of_lt hjk,getElem!_pos _ j (by omega)]
   congr 1
   rw[<-hv];simp[hzs])
 refine⟨.slice (some ⟨w.heap.size,0,none⟩) n.toNat n.toNat,_,m,β',.inl ?_,Rel.put r2 hN (.own hnx)⟩;simp only[execOp];rw[Sem.run_bind];have hxv:=r.con hx;rw[hxv,hrun];rfl
end
end Go.Pv
namespace Go.Pv
open Go
section
variable{K:Ctx}{Q:q5l}{S:St}{ops:Array Oper}{rest:List Oper}{ty:TypeId}{pos:String}{after:Array Edge}{g:Option (Nat×Bool)}
def eU8(n:Int):List V:=[V.con (.int .u8 n)]
def j2m(P:Program)(T:TypeId):Bool:=
 match P.underlying T with|some (.slice e)=>(match P.underlying e with|some (.int .u8)=>true|_=>false)|_=>false
theorem v6c{P:Program}{T:TypeId}(h:j2m P T=true):∃e,P.underlying T=some (.slice e)/\P.underlying e=some (.int .u8):=by
 unfold j2m at h;split at h
 ·rename_i e hu;split at h
  ·rename_i he;exact⟨e,hu,he⟩
  ·simp at h
 ·simp at h
theorem j9p{d:Nat}{x:Operand}{src dst:TypeId}(xs:List Int)(hs:j2m K.P src=true)(hd:z7q K.P dst=true)
  (hw:q2d ops S ⟨some d,.convert src dst x,ty,pos,after,g⟩ true) (hx:evl K S x=.lst 1 (xs.map eU8)) (hN:Nat.blt d K.N=true)
  (kk:q1d K ops rest Q (S.put d (.con (str (xs.map fun n=>UInt8.ofNat n.toNat))))):q1d K ops (⟨some d,.convert src dst x,ty,pos,after,g⟩::rest) Q S:=
 q8c _ hw hN (fun m β w a r=>by
  obtain⟨e,h1,h2⟩:=v6c hs;have h:=r.reads x;rw[hx] at h;refine⟨.string ⟨(xs.map fun n=>UInt8.ofNat n.toNat).toArray⟩,?_,.imm (.con _)⟩;generalize hxs:xs.map eU8=rows at h;generalize hv:a.eval x=v at h;simp only[execOp,hv];refine q4c ?_;cases h with
  |imm h=>
   cases h with
   |nil _ ad cap=>
    have:xs=[]:=by simpa using hxs
    subst this;rw[run_convert_bytes_string w src dst e ad 0 cap h1 h2 (z1d hd)];cases ad with
    |none=>simp[Conv.bytesToString];rfl
    |some ad=>
     rw[run_bytesToString w ad 0 cap [] (by simpa using run_loadCells_list (P:=K.P) w ad [] (by simp))];rfl
   | @lst _ _ ad n cap arr T' fr f hm hsp hn hcap hbd hk hf hc=>
    have hlen:xs.length=n:=by rw[<-hn,<-hxs];simp
    rw[z9a hsp]
    have:=run_convert_bytes_arg (P:=K.P) w src e h1 h2 ad.block ad.off n cap xs hlen (fun i hi=>by
     have hi':i<xs.length:=by omega
     have h3:=hf i (by omega);have h4:=hc i 0 (eU8 xs[i]) (V.con (.int .u8 xs[i])) (by rw[<-hxs];simp[bb9 hi']) rfl
     have h5:f i=.int .u8 xs[i]:=by
      have:i*1+0=i:=by omega
      rw[this] at h4;exact(q8i.imm (β:=β) h4).of_con
     have h6:=r.imm _ _ hm;rw[q0i h6,h3,h5];simp[cs9,bb9 hi']) dst (z1d hd)
    rw[this];rfl) kk
end
section
variable{K:Ctx}{Q:q5l}{S:St}{ops:Array Oper}{rest:List Oper}{ty:TypeId}{pos:String}{after:Array Edge}{g:Option (Nat×Bool)}
end
inductive It where
 |c (x:Code)
 |b (id:Nat)
 |o (ops:Array Oper) (l:List Oper)
 |j (J:St->Prop)
def post(K:Ctx)(Q:q5l):List It->q5l
 |[]=>Q
 | .c x::s=>w0z K x (post K Q s)
 | .b id::s=>v3m id (post K Q s)
 | .o ops l::s=>fun e S=>match e with | .normal=>q1d K ops l (post K Q s) S|e=>post K Q s e S
 | .j J::s=>fun e S=>match e with | .normal=>J S|e=>post K Q s e S
def WG(K:Ctx)(Q:q5l)(s:List It)(S:St):Prop:=post K Q s .normal S
section
variable{K:Ctx}{Q:q5l}{S S':St}{s s':List It}
theorem q2z:∀{s:List It},Q .ret S->post K Q s .ret S
 |[],h=>h
 | .c _::s,h=>q2z (s:=s) h
 | .b _::s,h=>q2z (s:=s) h
 | .o _ _::s,h=>q2z (s:=s) h
 | .j _::s,h=>q2z (s:=s) h
def unw(i:Nat):List It->Option (List It)
 |[]=>none
 | .b k::s=>bif Nat.beq i k then some s else unw i s
 | .c _::s=>unw i s
 | .o _ _::s=>unw i s
 | .j _::s=>unw i s
theorem j5s{i:Nat}:∀{s s':List It},unw i s=some s'->WG K Q s' S->post K Q s (.exit i) S
 |[],_,h,_=>by simp[unw] at h
 | .b k::s,s',h,q=>by
  simp only[unw] at h
  show post K Q (.b k::s) (.exit i) S
  simp only[post,v3m];cases hb:Nat.beq i k with
  |true=>
   rw[hb] at h;simp only[cond_true,az9] at h;subst h;rw[if_pos (co9 hb)];exact q
  |false=>
   rw[hb] at h;simp only[cond_false] at h;rw[if_neg (cr9 hb)];exact j5s h q
 | .c x::s,s',h,q=>j5s (s:=s) (by simpa[unw] using h) q
 | .o _ _::s,s',h,q=>j5s (s:=s) (by simpa[unw] using h) q
 | .j _::s,s',h,q=>j5s (s:=s) (by simpa[unw] using h) q
def y3l(P:Program)(T f:Nat):Bool:=
 match P.underlying T with|some (.struct fs)=>(match fs[f]? with|some fl=>tyC P fl.type|none=>false)|_=>false
def tyB(P:Program)(T:Nat):Bool:=match P.underlying T with|some .bool=>true|_=>false
def tyI(P:Program)(T:Nat)(k:IntKind):Bool:=match P.underlying T with|some (.int k')=>decide (k'=k)|_=>false
def tyU(P:Program)(T:Nat):Bool:=match P.underlying T with|some _=>true|_=>false
def z8c{α:Type}:Nat->List α->Bool
 |0,[]=>true
 |n+1,_::l=>z8c n l
 |_,_=>false
theorem q1p{α:Type}:∀{n:Nat} {l:List α},z8c n l=true->l.length=n
 |0,[],_=>rfl
 |n+1,_::l,h=>by rw[ca9,q1p (n:=n) (l:=l) h]
 |0,_::_,h=>by simp[z8c] at h
 |n+1,[],h=>by simp[z8c] at h
inductive TF where
 |A (n:Nat)
 |C
 |F (f off:Nat)
 |FC (f:Nat)
 |S (n:Nat)
 |Sl (k:Nat)
 |Sn
 |Str
 |Z (n:Nat) (zs:List Value)
 |Pl (ps:List (Nat×Nat))
 |Arr (len s:Nat)
 |El (e k bytes:Nat)
 |B
 |I (k:IntKind)
 |U
 |Fn
 |AA (n k e:Nat)
 |AC (n e:Nat)
 |Cn
 |M (name:String) (f:Nat)
 |Mn
 |R (n:Nat)
def w6r(P:Program)(T:Nat):Bool:=match P.underlying T with|some (.map _ _)=>true|_=>false
def TF.ok(P:Program)(T:Nat):TF->Prop
 | .A n=>tyA P T n=true
 | .C=>tyC P T=true
 | .F f off=>tyF P T f off=true
 | .FC f=>y3l P T f=true
 | .S n=>tyS P T n=true
 | .Sl k=>v5c P T k=true
 | .Sn=>q3k P T=true
 | .Str=>z7q P T=true
 | .Z n zs=>zeroCells P T=some zs/\(z8c n zs&&zs.all (·.oneCell'))=true
 | .Pl ps=>z7g P T=some ps
 | .Arr len s=>j5f P T len s=true
 | .El e k bytes=>z0i P T e k bytes=true
 | .B=>tyB P T=true
 | .I k=>tyI P T k=true
 | .U=>tyU P T=true
 | .Fn=>q7o P T=true
 | .AA n k e=>z3z P T n k e=true
 | .AC n e=>j3i P T n e=true
 | .Cn=>P.concrete T=true
 | .M name f=>(∀(v:Value) (args:Array Value) (w:World),(callMethod (.iface T v) name args).run P w=.ok (.enter f (#[v]++args)) w)/\∀(v:Value) (w:World),(nilAhead (P.types.size+Made.depth) T v name).run P w=.ok (some false) w
 | .Mn=>w6r P T=true
 | .R _=>True
abbrev TT:=List (Nat×List TF)
def q7p(P:Program)(t:TT):Prop:=∀p,p∈t->∀f,f∈p.2->TF.ok P p.1 f
class TC (K:Ctx) (t:outParam TT):Prop where
 h:q7p K.P t
def TF.okB(P:Program)(T:Nat):TF->Bool
 | .A n=>tyA P T n
 | .C=>tyC P T
 | .F f off=>tyF P T f off
 | .FC f=>y3l P T f
 | .S n=>tyS P T n
 | .Sl k=>v5c P T k
 | .Sn=>q3k P T
 | .Str=>z7q P T
 | .Z n zs=>z8c n zs&&zs.all (·.oneCell')
 | .Pl ps=>decide (z7g P T=some ps)
 | .Arr len s=>j5f P T len s
 | .El e k bytes=>z0i P T e k bytes
 | .B=>tyB P T
 | .I k=>tyI P T k
 | .U=>tyU P T
 | .Fn=>q7o P T
 | .AA n k e=>z3z P T n k e
 | .AC n e=>j3i P T n e
 | .Cn=>P.concrete T
 | .M _ _=>true
 | .Mn=>w6r P T
 | .R _=>true
def zP(P:Program)(t:TT):List (Option (List Value)×Option (List Value)):=t.flatMap fun p=>p.2.filterMap fun f=>match f with | .Z _ zs=>some (zeroCells P p.1,some zs)|_=>none
def mP(t:TT):List (Nat×TF):=t.flatMap fun p=>p.2.filterMap fun f=>match f with | .M s n=>some (p.1,.M s n)|_=>none
def mOk(P:Program):List (Nat×TF)->Prop
 |[]=>True
 |p::l=>TF.ok P p.1 p.2/\mOk P l
theorem v3y{P:Program}:∀{l:List (Nat×TF)},mOk P l->∀p,p∈l->TF.ok P p.1 p.2
 |_::_,h,p,hp=>(at8.1 hp).elim (fun e=>e ▸ h.1) (v3y h.2 p)
theorem w6v{α:Type}:∀{l:List (α×α)},l.map (·.1)=l.map (·.2)->∀p,p∈l->p.1=p.2
 |a::l,h,p,hp=>by
  simp only[bo9,cd8] at h;exact(at8.1 hp).elim (fun e=>e ▸ h.1) (w6v h.2 p)
theorem tt_b{P:Program}{t:TT}(hB:(t.all fun p=>p.2.all (TF.okB P p.1))=true)(hZ:(zP P t).map (·.1)=(zP P t).map (·.2))(hM:mOk P (mP t)):q7p P t:=fun p hp f hf=>by
 have h:=as8.1 (as8.1 hB p hp) f hf;cases f with
 |Z n zs=>exact⟨w6v hZ (zeroCells P p.1,some zs) (ad9.2 ⟨p,hp,List.mem_filterMap.2 ⟨_,hf,rfl⟩⟩),h⟩
 |M s n=>exact v3y hM (p.1,.M s n) (ad9.2 ⟨p,hp,List.mem_filterMap.2 ⟨_,hf,rfl⟩⟩)
 |Pl ps=>exact of_decide_eq_true (p:=z7g P p.1=some ps) h
 |R n=>trivial
 |_=>exact h
def lk{α:Type}:List (Nat×α)->Nat->Option α
 |[],_=>none
 |(k,v)::l,t=>bif Nat.beq k t then some v else lk l t
theorem z0u{α:Type}:∀{l:List (Nat×α)} {t:Nat} {v:α},lk l t=some v->(t,v)∈l
 |(k,v')::l,t,v,h=>by
  simp only[lk] at h;cases hb:Nat.beq k t with
  |true=>rw[hb] at h;simp at h;subst h;rw[co9 hb];exact ci9
  |false=>rw[hb] at h;simp at h;exact cb9 _ (z0u h)
def fnd{α:Type}(p:TF->Option α):List TF->Option α
 |[]=>none
 |f::l=>match p f with|some a=>some a|none=>fnd p l
theorem w8a{α:Type}{p:TF->Option α}:∀{l:List TF} {a:α},fnd p l=some a->∃f,f∈l/\p f=some a
 |f::l,a,h=>by
  simp only[fnd] at h;split at h
  ·rename_i b hb;simp at h;subst h;exact⟨f,ci9,hb⟩
  ·obtain⟨f',h1,h2⟩:=w8a h;exact⟨f',cb9 _ h1,h2⟩
def ask{α:Type}(t:TT)(T:Nat)(p:TF->Option α):Option α:=match lk t T with|some l=>fnd p l|none=>none
theorem q4o{P:Program}{α:Type}{t:TT}(ht:q7p P t){T:Nat}{p:TF->Option α}{a:α}(h:ask t T p=some a):∃f,p f=some a/\TF.ok P T f:=by
 unfold ask at h;split at h
 ·rename_i l hl;obtain⟨f,h1,h2⟩:=w8a h;exact⟨f,h2,ht _ (z0u hl) _ h1⟩
 ·simp at h
def TF.qA:TF->Option Nat | .A n=>some n|_=>none
def TF.qC:TF->Option Unit | .C=>some ()|_=>none
def TF.qF(f:Nat):TF->Option Nat | .F f' off=>bif Nat.beq f' f then some off else none|_=>none
def TF.qFC(f:Nat):TF->Option Unit | .FC f'=>bif Nat.beq f' f then some () else none|_=>none
def TF.qS:TF->Option Nat | .S n=>some n|_=>none
def TF.qSl:TF->Option Nat | .Sl n=>some n|_=>none
def TF.qSn:TF->Option Unit | .Sn=>some ()|_=>none
def TF.qStr:TF->Option Unit | .Str=>some ()|_=>none
def TF.qZ:TF->Option (Nat×List Value) | .Z n zs=>some (n,zs)|_=>none
def TF.qPl:TF->Option (List (Nat×Nat)) | .Pl ps=>some ps|_=>none
def TF.qArr:TF->Option (Nat×Nat) | .Arr l s=>some (l,s)|_=>none
def TF.qEl:TF->Option (Nat×Nat×Nat) | .El e k b=>some (e,k,b)|_=>none
def TF.qB:TF->Option Unit | .B=>some ()|_=>none
def TF.qI:TF->Option IntKind | .I k=>some k|_=>none
def TF.qU:TF->Option Unit | .U=>some ()|_=>none
def TF.qAA:TF->Option (Nat×Nat×Nat) | .AA n k e=>some (n,k,e)|_=>none
def TF.qAC:TF->Option (Nat×Nat) | .AC n e=>some (n,e)|_=>none
def TF.qFn:TF->Option Unit | .Fn=>some ()|_=>none
def TF.qCn:TF->Option Unit | .Cn=>some ()|_=>none
def TF.qM(name:String):TF->Option Nat | .M nm f=>(match decide (nm=name) with|true=>some f|false=>none)|_=>none
def TF.qR:TF->Option Nat | .R n=>some n|_=>none
def TF.qMn:TF->Option Unit | .Mn=>some ()|_=>none
section
variable{P:Program}{t:TT}{T:Nat}
theorem y0z(ht:q7p P t){n:Nat}(h:ask t T TF.qA=some n):tyA P T n=true:=by
 obtain⟨f,h1,h2⟩:=q4o ht h;cases f<;>simp[TF.qA] at h1;subst h1;exact h2
theorem y9y(ht:q7p P t){n:Unit}(h:ask t T TF.qC=some n):tyC P T=true:=by
 obtain⟨f,h1,h2⟩:=q4o ht h;cases f<;>simp[TF.qC] at h1;exact h2
theorem askF(ht:q7p P t){n f:Nat}(h:ask t T (TF.qF f)=some n):tyF P T f n=true:=by
 obtain⟨f',h1,h2⟩:=q4o ht h;cases f'<;>simp only[TF.qF,reduceCtorEq] at h1;rename_i g off;cases hb:Nat.beq g f with
 |true=>rw[hb] at h1;simp at h1;subst h1;rw[<-co9 hb];exact h2
 |false=>rw[hb] at h1;simp at h1
theorem askFC(ht:q7p P t){n:Unit}{f:Nat}(h:ask t T (TF.qFC f)=some n):y3l P T f=true:=by
 obtain⟨f',h1,h2⟩:=q4o ht h;cases f'<;>simp only[TF.qFC,reduceCtorEq] at h1;rename_i g;cases hb:Nat.beq g f with
 |true=>rw[<-co9 hb];exact h2
 |false=>rw[hb] at h1;simp at h1
theorem askS(ht:q7p P t){n:Nat}(h:ask t T TF.qS=some n):tyS P T n=true:=by
 obtain⟨f,h1,h2⟩:=q4o ht h;cases f<;>simp[TF.qS] at h1;subst h1;exact h2
theorem w6d(ht:q7p P t){n:Nat}(h:ask t T TF.qSl=some n):v5c P T n=true:=by
 obtain⟨f,h1,h2⟩:=q4o ht h;cases f<;>simp[TF.qSl] at h1;subst h1;exact h2
theorem z0s(ht:q7p P t){n:Unit}(h:ask t T TF.qSn=some n):q3k P T=true:=by
 obtain⟨f,h1,h2⟩:=q4o ht h;cases f<;>simp[TF.qSn] at h1;exact h2
theorem v5m(ht:q7p P t){n:Unit}(h:ask t T TF.qStr=some n):z7q P T=true:=by
 obtain⟨f,h1,h2⟩:=q4o ht h;cases f<;>simp[TF.qStr] at h1;exact h2
theorem w6p(ht:q7p P t){n:Nat}{zs:List Value}(h:ask t T TF.qZ=some (n,zs)):zeroCells P T=some zs/\zs.length=n/\zs.all (·.oneCell')=true:=by
 obtain⟨f,h1,h2⟩:=q4o ht h;cases f<;>simp[TF.qZ] at h1;obtain⟨rfl,rfl⟩:=h1;obtain⟨h3,h4⟩:=h2;simp only[as9] at h4;exact⟨h3,q1p h4.1,h4.2⟩
theorem askPl(ht:q7p P t){n:List (Nat×Nat)}(h:ask t T TF.qPl=some n):z7g P T=some n:=by
 obtain⟨f,h1,h2⟩:=q4o ht h;cases f<;>simp[TF.qPl] at h1;subst h1;exact h2
theorem w1w(ht:q7p P t){l k:Nat}(h:ask t T TF.qArr=some (l,k)):j5f P T l k=true:=by
 obtain⟨f,h1,h2⟩:=q4o ht h;cases f<;>simp[TF.qArr] at h1;obtain⟨rfl,rfl⟩:=h1;exact h2
theorem z7w(ht:q7p P t){e k b:Nat}(h:ask t T TF.qEl=some (e,k,b)):z0i P T e k b=true:=by
 obtain⟨f,h1,h2⟩:=q4o ht h;cases f<;>simp[TF.qEl] at h1;obtain⟨rfl,rfl,rfl⟩:=h1;exact h2
theorem askAA(ht:q7p P t){n k e:Nat}(h:ask t T TF.qAA=some (n,k,e)):z3z P T n k e=true:=by
 obtain⟨f,h1,h2⟩:=q4o ht h;cases f<;>simp[TF.qAA] at h1;obtain⟨rfl,rfl,rfl⟩:=h1;exact h2
theorem askAC(ht:q7p P t){n e:Nat}(h:ask t T TF.qAC=some (n,e)):j3i P T n e=true:=by
 obtain⟨f,h1,h2⟩:=q4o ht h;cases f<;>simp[TF.qAC] at h1;obtain⟨rfl,rfl⟩:=h1;exact h2
theorem askFn(ht:q7p P t){n:Unit}(h:ask t T TF.qFn=some n):q7o P T=true:=by
 obtain⟨f,h1,h2⟩:=q4o ht h;cases f<;>simp[TF.qFn] at h1;exact h2
theorem askCn(ht:q7p P t){n:Unit}(h:ask t T TF.qCn=some n):P.concrete T=true:=by
 obtain⟨f,h1,h2⟩:=q4o ht h;cases f<;>simp[TF.qCn] at h1;exact h2
theorem y9s(ht:q7p P t){n:Unit}(h:ask t T TF.qMn=some n):w6r P T=true:=by
 obtain⟨f,h1,h2⟩:=q4o ht h;cases f<;>simp[TF.qMn] at h1;exact h2
theorem askM(ht:q7p P t){name:String}{n:Nat}(h:ask t T (TF.qM name)=some n):(∀(v:Value) (args:Array Value) (w:World),(callMethod (.iface T v) name args).run P w=.ok (.enter n (#[v]++args)) w)/\∀(v:Value) (w:World),(nilAhead (P.types.size+Made.depth) T v name).run P w=.ok (some false) w:=by
 obtain⟨f,h1,h2⟩:=q4o ht h;cases f<;>simp only[TF.qM,reduceCtorEq] at h1;split at h1
 ·rename_i hd;simp only[az9] at h1;subst h1;rw[<-of_decide_eq_true hd];exact h2
 ·simp at h1
theorem askB(ht:q7p P t){n:Unit}(h:ask t T TF.qB=some n):P.underlying T=some .bool:=by
 obtain⟨f,h1,h2⟩:=q4o ht h;cases f<;>simp[TF.qB] at h1;have h3:tyB P T=true:=h2;unfold tyB at h3;cases hu:P.underlying T with
 |none=>simp[hu] at h3
 |some d=>rw[hu] at h3;cases d<;>simp at h3;rfl
theorem askI(ht:q7p P t){k:IntKind}(h:ask t T TF.qI=some k):P.underlying T=some (.int k):=by
 obtain⟨f,h1,h2⟩:=q4o ht h;cases f<;>simp[TF.qI] at h1;subst h1;have h3:tyI P T _=true:=h2;unfold tyI at h3;cases hu:P.underlying T with
 |none=>simp[hu] at h3
 |some d=>rw[hu] at h3;cases d<;>simp at h3;rw[h3]
theorem askU(ht:q7p P t){n:Unit}(h:ask t T TF.qU=some n):∃d,P.underlying T=some d:=by
 obtain⟨f,h1,h2⟩:=q4o ht h;cases f<;>simp[TF.qU] at h1;have h3:tyU P T=true:=h2;unfold tyU at h3;cases hu:P.underlying T with
 |none=>simp[hu] at h3
 |some d=>exact⟨d,rfl⟩
end
def gtC:Env->Nat->Option V
 |[],_=>none
 |(k,v)::e,t=>bif Nat.beq k t then some v else gtC e t
def hgC:q8d->Nat->Option Ob
 |[],_=>none
 |(k,v)::e,t=>bif Nat.beq k t then some v else hgC e t
def Ag(e:Env)(S:St):Prop:=∀t v,gtC e t=some v->get S.env t=v
def AgH(hp:q8d)(S:St):Prop:=∀t v,hgC hp t=some v->q7b S.hp t=v
theorem q4p:∀{e:Env} {t:Nat} {v:V},gtC e t=some v->get e t=v
 |[],t,v,h=>by simp[gtC] at h
 |(k,x)::e,t,v,h=>by
  simp only[gtC] at h;simp only[get];cases hb:Nat.beq k t with
  |true=>rw[hb] at h;simpa using h
  |false=>rw[hb] at h;simp at h;simpa using q4p h
theorem q8v:∀{e:q8d} {t:Nat} {v:Ob},hgC e t=some v->q7b e t=v
 |[],t,v,h=>by simp[hgC] at h
 |(k,x)::e,t,v,h=>by
  simp only[hgC] at h;simp only[q7b];cases hb:Nat.beq k t with
  |true=>rw[hb] at h;simpa using h
  |false=>rw[hb] at h;simp at h;simpa using q8v h
theorem agE:Ag S.env S:=fun _ _ h=>q4p h
theorem agH:AgH S.hp S:=fun _ _ h=>q8v h
def evC(e:Env):Operand->Option V
 | .tmp t=>gtC e t
 | .const v=>some (.con v)
 | .func f=>some (.fn (.func f) [] [])
 | .global _=>none
theorem q0d{e:Env}(ha:Ag e S){x:Operand}{v:V}(h:evC e x=some v):evl K S x=v:=by
 cases x with
 |tmp t=>exact ha _ _ h
 |const v=>simpa[evC,evl] using h
 |func f=>simpa[evC,evl] using h
 |global g=>simp[evC] at h
def evL(e:Env):List Operand->Option (List V)
 |[]=>some []
 |x::l=>match evC e x with|some v=>(match evL e l with|some r=>some (v::r)|none=>none)|none=>none
theorem j4x{e:Env}(ha:Ag e S):∀{l:List Operand} {vs:List V},evL e l=some vs->l.map (evl K S)=vs
 |[],vs,h=>by simpa[evL] using h
 |x::l,vs,h=>by
  simp only[evL] at h;split at h
  ·rename_i v hv;split at h
   ·rename_i r hr;simp at h;subst h;simp[q0d ha hv,j4x ha hr]
   ·simp at h
  ·simp at h
def evP(e:Env):List (Nat×Operand)->Option (List (Nat×V))
 |[]=>some []
 |(i,x)::l=>match evC e x with|some v=>(match evP e l with|some r=>some ((i,v)::r)|none=>none)|none=>none
theorem j3x{e:Env}(ha:Ag e S):∀{l:List (Nat×Operand)} {vs:List (Nat×V)},evP e l=some vs->l.map (fun p=>(p.1,evl K S p.2))=vs
 |[],vs,h=>by simpa[evP] using h
 |(i,x)::l,vs,h=>by
  simp only[evP] at h;split at h
  ·rename_i v hv;split at h
   ·rename_i r hr;simp at h;subst h;simp[q0d ha hv,j3x ha hr]
   ·simp at h
  ·simp at h
def frc{α:Type}:List α->Option (List α)
 |[]=>some []
 |x::l=>match frc l with|some r=>some (x::r)|none=>none
theorem z2e{α:Type}:∀{l r:List α},frc l=some r->l=r
 |[],r,h=>by simpa[frc] using h
 |x::l,r,h=>by
  simp only[frc] at h;split at h
  ·rename_i q hq;simp at h;subst h;rw[z2e hq]
  ·simp at h
def lgt{α:Type}:List α->Nat->Option α
 |[],_=>none
 |x::l,n=>match n with|0=>some x|n+1=>lgt l n
theorem q7s{α:Type}:∀{l:List α} {n:Nat} {x:α},lgt l n=some x->l[n]? = some x
 |x::l,0,y,h=>by simpa[lgt] using h
 |x::l,n+1,y,h=>by simpa[lgt] using q7s (l:=l) (n:=n) (by simpa[lgt] using h)
 |[],_,y,h=>by simp[lgt] at h
def drC{α:Type}:Nat->List α->Option (List α)
 |0,l=>some l
 |n+1,l=>match l with|_::l=>drC n l|[]=>none
def tkC{α:Type}:Nat->List α->Option (List α)
 |0,_=>some []
 |n+1,l=>match l with|x::l=>(match tkC n l with|some r=>some (x::r)|none=>none)|[]=>none
theorem w8v{α:Type}:∀{n:Nat} {l r:List α},drC n l=some r->l.drop n=r
 |0,l,r,h=>by simpa[drC] using h
 |n+1,x::l,r,h=>by simpa using w8v (n:=n) (l:=l) (by simpa[drC] using h)
 |n+1,[],r,h=>by simp[drC] at h
theorem w8r{α:Type}:∀{n:Nat} {l r:List α},tkC n l=some r->l.take n=r/\r.length=n
 |0,l,r,h=>by simp[tkC] at h;subst h;simp
 |n+1,x::l,r,h=>by
  simp only[tkC] at h;split at h
  ·rename_i q hq;simp at h;subst h;obtain⟨h1,h2⟩:=w8r hq;simp[h1,h2]
  ·simp at h
 |n+1,[],r,h=>by simp[tkC] at h
def cut(row:List V)(o n:Nat):Option (List V):=
 bif Nat.beq o 0&&z8c n row then some row else match drC o row with|some r=>tkC n r|none=>none
theorem z2u{row cs:List V}{o n:Nat}(h:cut row o n=some cs):(row.drop o).take n=cs/\cs.length=n:=by
 unfold cut at h;cases hb:Nat.beq o 0&&z8c n row with
 |true=>
  rw[hb] at h;simp at h;subst h;simp only[as9] at hb;have:=co9 hb.1;subst this;have:=q1p hb.2;simp[<-this]
 |false=>
  rw[hb] at h;simp only[cond_false] at h;split at h
  ·rename_i r hr;rw[w8v hr];exact w8r h
  ·simp at h
def vcC:V->Option (List V)
 | .agg cs=>some cs
 | .con v=>some [.con v]
 | .lst k r=>some [.lst k r]
 | .iptr r o=>some [.iptr r o]
 | .imap e=>some [.imap e]
 | .fn f a b=>some [.fn f a b]
 | .ptr a b c d=>some [.ptr a b c d]
 | .own a b=>some [.own a b]
 | .map a=>some [.map a]
 |_=>none
theorem j4s{v:V}{cs:List V}(h:vcC v=some cs):q2n v=cs:=by
 cases v<;>simp[vcC] at h<;>simp[q2n,h]
def w2w:List V->Bool
 |[]=>true
 |x::l=>bif q4x x then w2w l else false
theorem z8s:∀{l:List V},w2w l=true->l.all q4x=true
 |[],_=>rfl
 |x::l,h=>by
  simp only[w2w] at h;cases hb:q4x x with
  |true=>rw[hb] at h;simp[hb,z8s (by simpa using h)]
  |false=>rw[hb] at h;simp at h
def j8t(b:ByteArray):B8:=b.data.toList
theorem q1t(b:ByteArray):str (j8t b)=.string b:=by cases b;simp[j8t,str]
def bin(t:TT)(op:BinOp)(T:Nat):V->V->Option V
 | .con x,.con y=>
  match x,y with
  | .int k a,.int k' b=>(match y8y op (.int k a) (.int k' b) with|some v=>some (.con v)|none=>none)
  | .string a,.string b=>(match op with | .add=>none|op=>(match y6s op (j8t a) (j8t b) with|some v=>some (.con v)|none=>none))
  | .bool a,.bool b=>(match ask t T TF.qB with
   |some _=>(match op with | .eql=>some (.con (.bool (a==b))) | .neq=>some (.con (.bool (a != b)))|_=>none)
   |none=>none)
  | .slice none 0 0,.slice none 0 0=>(match ask t T TF.qSn with
   |some _=>(match op with | .eql=>some (.con (.bool true)) | .neq=>some (.con (.bool false))|_=>none)
   |none=>none)
  |_,_=>none
 |_,_=>none
def ldV(t:TT)(T:Nat)(row:List V)(o:Nat):Option V:=
 match ask t T TF.qA with
 |some n=>(match cut row o n with|some cs=>(match ndB cs with|true=>some (.agg cs)|false=>none)|none=>none)
 |none=>match ask t T TF.qC with|some _=>(match lgt row o with|some c=>(match c.deep with|false=>some c|true=>none)|none=>none)|none=>none
def ap1(b:Builtin)(t:TT)(T:Nat):V->Option V
 | .con x=>
  match x with
  | .string s=>(match b with | .len=>(match ask t T TF.qStr with|some _=>some (.con (.int .i64 (j8t s).length))|none=>none)|_=>none)
  | .slice _ n _=>(match b with | .len=>(match ask t T TF.qSn with|some _=>some (.con (.int .i64 n))|none=>none)|_=>none)
  |_=>none
 | .own _ n=>(match b with | .len=>(match ask t T TF.qSn with|some _=>some (.con (.int .i64 n))|none=>none)|_=>none)
 |_=>none
def ap2(b:Builtin):V->V->Option V
 | .con x,.con y=>
  match x,y with
  | .int k n,.int k' n'=>(match decide (k=k') with
   |true=>(match b with | .min=>some (.con (.int k (if n'<n then n' else n))) | .max=>some (.con (.int k (if n'>n then n' else n)))|_=>none)
   |false=>none)
  |_,_=>none
 |_,_=>none
def val(t:TT)(e:Env)(hp:q8d):Op->Option V
 | .move x=>evC e x
 | .assign x=>evC e x
 | .pick c x y=>(match evC e c with
  |some (.con (.bool b))=>(match b with|true=>evC e x|false=>evC e y)
  |_=>none)
 | .binOp op T x y _=>(match evC e x with|some a=>(match evC e y with|some b=>bin t op T a b|none=>none)|none=>none)
 | .unOp op _ x=>(match evC e x with
  |some (.con (.bool b))=>(match op with | .not=>some (.con (.bool (!b)))|_=>none)
  |some (.con (.int k n))=>(match op with | .neg=>some (.con (.int k (k.wrap (0 - n))))|_=>none)
  |_=>none)
 | .extract x i=>(match evC e x with|some (.tup vs)=>lgt vs i|_=>none)
 | .load T x=>(match evC e x with
  |some (.iptr row o)=>ldV t T row o
  |some (.ptr id k i o)=>(match hgC hp id with
   |some (.arr _ k2 rows)=>(match Nat.beq k k2 with|true=>(match lgt rows i with|some row=>ldV t T row o|none=>none)|false=>none)
   |_=>none)
  |_=>none)
 | .fieldAddr T x f=>(match ask t T (TF.qF f) with
  |some off=>(match evC e x with|some (.ptr id k i o)=>some (.ptr id k i (o+off))|some (.iptr row o)=>some (.iptr row (o+off))|_=>none)
  |none=>none)
 | .field T x f=>(match ask t T (TF.qF f) with
  |some off=>(match ask t T (TF.qFC f) with|some _=>(match evC e x with|some (.agg cs)=>lgt cs off|_=>none)|none=>none)
  |none=>none)
 | .build T parts=>(match ask t T TF.qZ with
  |some (_,zs)=>(match ask t T TF.qPl with
   |some pls=>(match evP e parts.toList with
    |some ps=>(match z1p (fun i=>pls[i]?) (zs.map .con) ps with
     |some cs=>(match frc cs with|some cs=>some (.agg cs)|none=>none)
     |none=>none)
    |none=>none)
   |none=>none)
  |none=>none)
 | .makeFunc fn first caps=>(match fn with
  | .func f=>(match first.toList with|[]=>(match evL e caps.toList with|some cs=>some (.fn (.func f) [] cs)|none=>none)|_=>none)
  |_=>none)
 | .convert src dst x=>(match ask t dst TF.qI with
  |some k=>(match ask t src TF.qU with|some _=>(match evC e x with|some (.con (.int _ n))=>some (.con (.int k (k.wrap n)))|_=>none)|none=>none)
  |none=>none)
 | .nilCheck x=>(match evC e x with|some (.ptr a b c d)=>some (.ptr a b c d)|some (.iptr a b)=>some (.iptr a b)|_=>none)
 | .indexAddr T x y=>(match ask t T TF.qArr with
  |some (len,k)=>(match evC e x with
   |some (.ptr id a i o)=>(match evC e y with
    |some (.con (.int _ n))=>(match n with
     | .ofNat j=>(match Nat.blt j len with|true=>some (.ptr id a i (o+j*k))|false=>none)
     |_=>none)
    |_=>none)
   |_=>none)
  |none=>none)
 | .call c=>(match c.callee with
  | .builtin b=>(match c.args.toList,c.argTypes.toList with
   |[x],[T]=>(match evC e x with|some v=>ap1 b t T v|none=>none)
   |[x,y],[_,_]=>(match evC e x with|some v=>(match evC e y with|some u=>ap2 b v u|none=>none)|none=>none)
   |_,_=>none)
  |_=>none)
 |_=>none
end
end Go.Pv
