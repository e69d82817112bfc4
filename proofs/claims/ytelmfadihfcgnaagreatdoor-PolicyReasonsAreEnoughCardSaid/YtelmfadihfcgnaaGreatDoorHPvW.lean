/- Part of the proof. -/
import Derived.Test.YtelmfadihfcgnaaGreatDoorHPvN
import Derived.Shelf.Sort.Plain
import Derived.Shelf.Slices.In.SortNone
import Derived.Stop.BytesEq
import Derived.Lib.Repeat
import Derived.Shelf.Strconv.Itoa3
set_option linter.unusedSimpArgs false
set_option linter.unusedVariables false
namespace Go.Pv
open Go
section
variable{K:cR}{Q:ca}{S:St}
variable{m:bB}{β:ba}{w:World}{a:Act}
variable{ops:Array Oper}{rest:List Oper}{ty:TypeId}{pos:String}{after:Array Edge}{g:Option (Nat×Bool)}
theorem nt{d nx:Nat}{f:FuncId}{args:Array Operand}{at':Array TypeId}{k':Nat}{hp':aC}{dc:V}(ids:List Nat)(hid:(ids.all fun i=>Nat.blt i nx&&Nat.ble K.pins i)=true)(hnx:S.nx=nx)
  (hres:∀i,i∈ids->ak S.hp i=.res) (dv:V) (avs:List V) (u:aC) (hf:cE K.P f=true)
  (hw:aN ops S ⟨some d,.call ⟨.value (.func f),args,at'⟩,ty,pos,after,g⟩ true) (hN:Nat.blt d K.N=true) (ha:args.toList.map (evl K S)=avs)
  (hsub:ia (Ren 0 fun i=>i) avs avs) (hc:fV K.gl K.P f avs 0 [] dc k' hp') (hk:ids.length=k') (hτ:qG k' (fun i=>ids.getD i 0)=true)
  (hdv:ai (To k' fun i=>ids.getD i 0) dv dc) (hu:kS (To k' fun i=>ids.getD i 0) (fun i=>ids.getD i 0) hp' k' 0 u)
  (kk:ay K ops rest Q ⟨(d,dv)::S.env,u++S.hp,S.nx⟩):ay K ops (⟨some d,.call ⟨.value (.func f),args,at'⟩,ty,pos,after,g⟩::rest) Q S:=by
 subst hnx;have hall:=aq8.1 hid
 have hfree:∀i,(ids.any fun j=>Nat.beq i j)=true->i∈ids:=by
  intro i hi;obtain⟨j,hj,e⟩:=cf9.1 hi;rw[ci9 e];exact hj
 have hto:Cv 0 k' S.nx S.nx (fun i=>i) (fun i=>ids.getD i 0) (fun i=>ids.any fun j=>Nat.beq i j)=true:=by
  unfold Cv;rw[aq8];intro j hj;have hj':j<ids.length:=by rw[hk];exact cl8.1 hj
  have e:ids.getD j 0=ids[j]:=by rw[cm9,az9 hj'];rfl
  have h1:=hall _ (bc9 hj');simp only[aq9] at h1 ⊢;rw[e];refine⟨h1.1,?_⟩;rw[if_neg (by simp_all),ar8];exact .inr (cf9.2 ⟨_,bc9 hj',aj9 _⟩)
 exact gH (fun i=>i) (fun i=>ids.getD i 0) S.nx u (fun i=>ids.any fun j=>Nat.beq i j) hw Y hN (px hf ha) hsub (bJ.get .nil) hc
  (fun i hi=>hres i (hfree i hi)) hto hτ (cj9 (by omega)) (cj9 (ai8 _))
  (fun i hi=>by simp_all) hdv hu kk
theorem ci{d T T' e k bytes n n' id nx:Nat}{s x:Operand}{sv:V}{rows:List (List V)}(idn:Nat)(hid:(Nat.blt idn nx&&Nat.ble K.pins idn)=true)(hnxx:S.nx=nx)(hres:ak S.hp idn=.res)(rows2 rows':List (List V))(hT:eQ K.P T e k bytes=true)(hT':cQ K.P T'=true)
  (hpos:Nat.blt 0 bytes=true) (hkp:Nat.blt 0 k=true)
  (hw:aN ops S ⟨some d,.call ⟨.builtin .append,#[s,x],#[T,T']⟩,ty,pos,after,g⟩ true)
  (hs:evl K S s=.own id n) (ho:ak S.hp id=.arr e k rows) (hn:rows.length=n) (hx:evl K S x=sv) (hsrc:xE S k sv rows2)
  (hr:rows++rows2=rows') (hn':rows'.length=n') (hb:n'*bytes<=140737488355328) (hN:Nat.blt d K.N=true)
  (kk:ay K ops rest Q ⟨(d,.own idn n')::S.env,(idn,.arr e k rows')::(id,.dead)::S.hp,S.nx⟩):
  ay K ops (⟨some d,.call ⟨.builtin .append,#[s,x],#[T,T']⟩,ty,pos,after,g⟩::rest) Q S:=
 oY idn S.nx (fun _ _ _ _ r=>⟨r.free hres,fun q hq=>by have:=ax8 (ci8.1 hid).2;omega⟩) (by simp_all) (ae9 _) rows2 rows' hT (nB hT') hpos hkp hw hs ho hn hx hsrc hr hn' (.inl hb) hN kk
end
theorem EQ{α:Type}{l:List α}{b:Nat}:(l.drop 0).take (b - 0)=l.take b:=by simp
theorem ER{α β:Type}{f:α->β}{l:List α}{a:Nat}:((l.map f).drop a).take (l.length - a)=(l.drop a).map f:=by rw[List.take_of_length_le]<;>simp
theorem KZ{α β:Type}{f:α->β}{l:List α}{b:Nat}:((l.map f).drop 0).take (b - 0)=(l.take b).map f:=by simp
section
variable{K:cR}{Q:ca}{S:St}
variable{ops:Array Oper}{rest:List Oper}{ty:TypeId}{pos:String}{after:Array Edge}{g:Option (Nat×Bool)}
theorem kY{d:Nat}{T k e:TypeId}{x y:Operand}{good:Value->Prop}{kv zv:Value}{mv:V}{es:List (Value×V)}(res:Option V)(zd dv:V)(hT:eh K.P T k e=true)(hK:ja K.P k good)
  (hz:(K.P.info? e).bind (·.zero)=some zv) (hzd:∀m,bN m zd zv)
  (hw:aN ops S ⟨some d,.lookup T x y true,ty,pos,after,g⟩ true) (hx:evl K S x=mv) (hm:o8 S mv es) (hy:fg K S y kv) (hg:good kv) (hges:∀p,p∈es->good p.1)
  (hl:i4 kv es res) (hd:res.getD zd=dv) {b:Bool} (hb:res.isSome=b) (hN:Nat.blt d K.N=true)
  (kk:ay K ops rest Q (S.put d (.tup [dv,.con (.bool b)]))) (hdd:dv.deep=false:=by rfl):ay K ops (⟨some d,.lookup T x y true,ty,pos,after,g⟩::rest) Q S:=
 by grind [tk]
end
section
variable{K:cR}{Q:ca}{S:St}
theorem IV{c:Code}{α:Type}{k:Nat}{A:List α}{enc:α->List V}(t:Nat)(ht:get S.env t=.lst k (A.map enc))(h:A.length<=maxLen->iC K c Q S):iC K c Q S:=by
 intro m β w a r;refine h ?_ m β w a r;have:=r.env t;rw[ht] at this;generalize a.tmps.getD t undef=v at this;generalize hrows:A.map enc=rows at this;cases this with
 |imm h=>
  cases h<;>grind [List.length_map]
theorem GP{c:Code}{α:Type}{e k:Nat}{A:List α}{enc:α->List V}(id:Nat)(ht:ak S.hp id=.arr e k (A.map enc))(h:A.length<=maxLen->iC K c Q S):iC K c Q S:=by
 intro m β w a r;refine h ?_ m β w a r;have:=r.own id;rw[ht] at this;generalize hrows:A.map enc=rows at this;cases hb:β id with
 |none=>simp_all[bn]
 |some l=>
  rw[hb] at this;cases l with
  |none=>
   have:rows=[]:=this
   simp_all
  |some p=>
   obtain⟨b,cap⟩:=p;obtain⟨arr,bl,h1,h2,h3,h4,_⟩:=this<;>grind
def RG{α:Type}(A:List α)(X:List α->Int->Prop)(n:Nat)(N:Int):Prop:=∃j:Nat,N=j/\j<=A.length/\A.length - j<n/\X (A.drop j) N
theorem RG.zero{α:Type}{A:List α}{X:List α->Int->Prop}{N:Int}:¬RG A X 0 N:=fun⟨_,_,_,h,_⟩=>by omega
theorem RG.start{α:Type}{A:List α}{X:List α->Int->Prop}(h:X A 0):RG A X (A.length+1) 0:=⟨0,rfl,ai8 _,by omega,h⟩
theorem Be{n:Nat}(h:n<=maxLen):IntKind.wrap .i64 (n:Int)=n:=by
 have h:n<=9223372036854775807:=h
 grind [IntKind.wrap,IntKind.bits]
theorem RG.t{α:Type}{A:List α}{X:List α->Int->Prop}{n:Nat}{N:Int}(hA:A.length<=maxLen)(h:RG A X (n+1) N)(hb:decide (N<((A.length:Nat):Int))=true):
  ∃x l,ct A N=some x/\X (x::l) N/\∀X':List α->Int->Prop,X' l (N+1)->RG A X' n (IntKind.wrap .i64 (N+1)):=by
 obtain⟨j,rfl,h1,h2,h3⟩:=h;have hj:j<A.length:=by have:=of_decide_eq_true hb;omega
 refine⟨A[j],A.drop (j+1),by simp[ct,hj],by simp_all,fun X' h=>?_⟩;have e:IntKind.wrap .i64 ((j:Int)+1)=((j+1:Nat):Int):=Be (n:=j+1) (by omega);rw[e];exact⟨j+1,rfl,hj,by omega,h⟩
theorem RG.f{α:Type}{A:List α}{X:List α->Int->Prop}{n:Nat}{N:Int}(h:RG A X (n+1) N)(hb:decide (N<((A.length:Nat):Int))=false):X [] N:=by
 obtain⟨j,rfl,h1,h2,h3⟩:=h<;>grind
def RC(B:Int)(X:Nat->Int->Prop)(n:Nat)(N:Int):Prop:=∃j:Nat,N=j/\j<=B.toNat/\B.toNat - j<n/\X (B.toNat - j) N
theorem RC.zero{B:Int}{X:Nat->Int->Prop}{N:Int}:¬RC B X 0 N:=fun⟨_,_,_,h,_⟩=>by omega
theorem RC.start{B:Int}{X:Nat->Int->Prop}(h:X B.toNat 0):RC B X (B.toNat+1) 0:=⟨0,rfl,ai8 _,by omega,h⟩
theorem RC.t{B:Int}{X:Nat->Int->Prop}{n:Nat}{N:Int}(hB:B<=9223372036854775807)(h:RC B X (n+1) N)(hb:decide (N<B)=true):
  ∃l,X (l+1) N/\∀X':Nat->Int->Prop,X' l (N+1)->RC B X' n (IntKind.wrap .i64 (N+1)):=by
 obtain⟨j,rfl,h1,h2,h3⟩:=h;have hj:j<B.toNat:=by have:=of_decide_eq_true hb;omega
 refine⟨B.toNat - (j+1),by grind,fun X' h=>?_⟩;have e:IntKind.wrap .i64 ((j:Int)+1)=((j+1:Nat):Int):=Be (n:=j+1) (by grind [maxLen]);rw[e];exact⟨j+1,rfl,hj,by omega,h⟩
theorem RC.f{B:Int}{X:Nat->Int->Prop}{n:Nat}{N:Int}(h:RC B X (n+1) N)(hb:decide (N<B)=false):X 0 N:=by
 obtain⟨j,rfl,h1,h2,h3⟩:=h<;>simp_all
end
end Go.Pv
namespace Go.Pv
open Go Go.RowKit
theorem sI{m:bB}{w w':World}(hm:∀(b:Nat) o,m b=some o->w.heap[b]? = some o)(h:Below w.heap.size w w')(hd:True):ur m m w w':=
 ⟨bB.le_refl _,fun b o hb=>by rw[h.block b (bD (hm b o hb))];grind,fun _ _=>rfl,h.block,h.size,⟨h.os,h.tape,h.output,hd⟩⟩
theorem CV{m:bB}{vs:Array Value}:∀{l:List Value},nA m (l.map V.con) vs->vs=l.toArray:=by
 intro l h;apply Array.ext
 ·have:=h.len;grind
 ·intro i h1 h2;have:=h.at' i (.con (l[i]'(by grind))) vs[i] (by grind) (by simp[h1]);generalize vs[i]=x at this ⊢;cases this;simp
theorem zZ{gl:Gl}{P:Program}{f:FuncId}{l:List Value}{d:V}{v:Value}(h:∀w,Calls P f l.toArray w fun e w'=>e=.returned v/\Below w.heap.size w w'/\True)(hd:∀m,bN m d v):dY gl P f (l.map V.con) d:=by
 intro m w vs himm _ hargs;obtain rfl:=CV hargs;refine(h w).mono ?_
 rintro e w' ⟨rfl,hb,hdr⟩
 exact⟨v,m,Y,hd m,sI himm hb hdr⟩
open Go.Sort in
theorem jh{α:Type}[Inhabited α](enc:α->Value)(w:World)(n blk off:Nat)(d:Array α)(os:Array Obj)(b:Nat)(hb:b<w.heap.size):
  (grow (putRow enc (Sort.ahead w n) blk off d) os).heap[b]? = if blk=b then (w.heap[b]?).map (onCells (putCells enc off d)) else w.heap[b]?:=by
 unfold grow putRow mapBlock Sort.ahead
 grind
open Go.Sort in
theorem uS{gl:Gl}{P:Program}{f:FuncId}{k id:Nat}{hp:aC}{e:TypeId}{α:Type}[Inhabited α](enc:α->Value)(h1c:∀x,(enc x).oneCell'=true)(l l':List α)(hid:ak hp id=.arr e 1 (l.map fun x=>[V.con (enc x)]))(hl:l'.length=l.length)
  (h:∀(w:World) (blk off cap:Nat),Holds enc w blk off l.toArray->blk<w.heap.size->Calls P f #[.slice (some ⟨blk,off,none⟩) l.length cap] w fun e w'=>
   e=.returned (.tuple #[])/\∃n os,w'=grow (putRow enc (Sort.ahead w n) blk off l'.toArray) os)
  (hn:∀(w:World) (a:Option Addr),l=[]->Calls P f #[.slice a 0 0] w fun e w'=>e=.returned (.tuple #[])/\Below w.heap.size w w'/\True):
  fV gl P f [.own id l.length] k hp (.tup []) k ((id,.arr e 1 (l'.map fun x=>[V.con (enc x)]))::hp):=by
 intro m β w vs himm _ hargs hown hpriv hinj hhid hnx
 obtain⟨v,rfl⟩:∃v,vs=#[v]:=by
  have:=hargs.len;simp at this
  exact⟨vs[0],by
   grind⟩
 have hv:=hargs.at' 0 _ _ rfl rfl;have hob:=hown id;rw[hid] at hob;have hg:∀q,ak ((id,Ob.arr e 1 (l'.map fun x=>[V.con (enc x)]))::hp) q=if id=q then Ob.arr e 1 (l'.map fun x=>[V.con (enc x)]) else ak hp q:=fun q=>av _ _ _ _
 have hlive:∀q,ak ((id,Ob.arr e 1 (l'.map fun x=>[V.con (enc x)]))::hp) q≠.dead->ak hp q≠.dead:=fun q hq=>by
  grind
 have hhids:∀(w':World),w.heap.size<=w'.heap.size->∀q x,ak ((id,Ob.arr e 1 (l'.map fun x=>[V.con (enc x)]))::hp) q≠.dead->β.hid q x->x<w'.heap.size/\m x=none/\(x<w.heap.size->¬c8 hp β x)/\
   (∀i b c,ak ((id,Ob.arr e 1 (l'.map fun x=>[V.con (enc x)]))::hp) i≠.dead->β i=some (some (b,c))->x≠b)/\∀i,ak ((id,Ob.arr e 1 (l'.map fun x=>[V.con (enc x)]))::hp) i≠.dead->β.hid i x->i=q:=by
  intro w' hs q x hq hx;obtain⟨q1,q2,q3,q4⟩:=hhid q x (hlive q hq) hx;exact⟨by omega,q2,fun _ hF=>(hF q (hlive q hq)).2 hx,fun i b c hi=>q3 i b c (hlive i hi),fun i hi=>q4 i (hlive i hi)⟩
 generalize hnl:l.length=n at hv h;cases hv with
 |imm h'=>cases h'
 | @ownNil _ ad hb=>
  have hl0:l=[]:=ay8.1 hnl;subst hl0;have hl':l'=[]:=ay8.1 (by grind);subst hl';refine(hn w ad Y).mono ?_
  rintro ex w' ⟨rfl,hB,hdr⟩
  have hheap:∀b,b<w.heap.size->w'.heap[b]? = w.heap[b]?:=hB.block;refine⟨_,m,β,Y,.tup Y (by simp),bB.le_refl _,fun b o hb=>by grind,fun b hb _=>⟨Y,hheap b hb⟩,hB.size,⟨hB.os,hB.tape,hB.output,hdr⟩,fun q=>?_,fun q b cap hq hbq=>?_,fun q q' b cap cap' hq hq'=>hinj q q' b cap cap' (hlive q hq) (hlive q' hq'),hhids w' hB.size,hnx,fun q hq=>⟨hq,Y⟩⟩
  ·grind [bn.dead',bn.congr,eL]
  ·have hq:=hlive q hq;exact⟨hpriv q b cap hq hbq,fun _ hF=>(hF q hq).1 cap hbq⟩
 | @own _ _ b cap hb=>
  rw[hb] at hob;obtain⟨arr,bl,o1,o2,o3,o4,o5,oB,o6⟩:=hob;have hbs:b<w.heap.size:=bD o1
  have hcell:∀j (hj:j<l.length),arr[cap.off+j]? = some (enc l[j]):=fun j hj=>by
   obtain⟨v,v1,v2,_⟩:=o6 j 0 [V.con (enc l[j])] (V.con (enc l[j])) (by grind) rfl;have:=(v2.v rfl).of_con
   grind
  refine(h w b cap.off cap.n (fun j hj=>?_) hbs).mono ?_
  ·grind [bW,World.frozen?]
  rintro ex w' ⟨rfl,nd,os,rfl⟩
  have hheap:=jh enc w nd b cap.off l'.toArray os;have hother:∀b',b'<w.heap.size->b'≠b->(grow (putRow enc (Sort.ahead w nd) b cap.off l'.toArray) os).heap[b']? = w.heap[b']?:=fun b' h1 h2=>by grind
  have hlid:ak hp id≠.dead:=by rw[hid];simp
  have hsz:w.heap.size<=(grow (putRow enc (Sort.ahead w nd) b cap.off l'.toArray) os).heap.size:=by simp[grow,putRow,mapBlock,Sort.ahead]
  refine⟨_,m,β,Y,.tup Y (by simp),bB.le_refl _,fun b' o hb'=>?_,fun b' hb' hF=>⟨Y,hother b' hb' (fun e=>?_)⟩,hsz,⟨Y,Y,Y,trivial⟩,fun q=>?_,fun q b' cap' hq hbq=>?_,fun q q' b1 cap1 cap2 hq hq'=>hinj q q' b1 cap1 cap2 (hlive q hq) (hlive q' hq'),hhids _ hsz,hnx,fun q hq=>⟨hq,Y⟩⟩
  ·grind
  ·subst e;exact(hF id hlid).1 cap hb
  ·rw[hg];split
   ·rename_i hh;subst hh;rw[hb];refine⟨putCells enc cap.off l'.toArray arr,bl,by rw[hheap b hbs,if_pos rfl,o1];rfl,by simp[putCells,o2],by grind,o4,?_,oB,fun i j row c hr hc=>?_⟩
    ·grind
    ·rw[az8] at hr;cases hli:l'[i]? with
     |none=>grind
     |some x=>
      rw[hli] at hr;simp at hr;subst hr;have hi:i<l'.length:=(bd9.1 hli).1;have hx:l'[i]=x:=(bd9.1 hli).2
      have hj:j=0:=by
       have:=(bd9.1 hc).1;simp at this;exact this
      subst hj;simp at hc;subst hc;have ha:cap.off+i<arr.size:=by simp at o3;omega
      refine⟨enc x,?_,.inl (.imm (.con _)),h1c x⟩;rw[Nat.mul_one,bg8];unfold putCells
      grind
   grind [bn.dead',bn.congr,eL]
  ·have hq:=hlive q hq;exact⟨hpriv q b' cap' hq hbq,fun _ hF=>(hF q hq).1 cap' hbq⟩
open Go.Sort in
theorem FE{gl:Gl}{P:Program}{f:FuncId}{k id:Nat}{hp:aC}{e:TypeId}(l l':List Int)(hid:ak hp id=.arr e 1 (l.map fun x=>[V.con (.int .i64 x)]))(hl:l'.length=l.length)
  (h:∀(w:World) (blk off cap:Nat),Holds (Value.int .i64) w blk off l.toArray->blk<w.heap.size->Calls P f #[.slice (some ⟨blk,off,none⟩) l.length cap] w fun e w'=>
   e=.returned (.tuple #[])/\∃n os,w'=grow (putRow (Value.int .i64) (Sort.ahead w n) blk off l'.toArray) os)
  (hn:∀(w:World) (a:Option Addr),l=[]->Calls P f #[.slice a 0 0] w fun e w'=>e=.returned (.tuple #[])/\Below w.heap.size w w'/\True):
  fV gl P f [.own id l.length] k hp (.tup []) k ((id,.arr e 1 (l'.map fun x=>[V.con (.int .i64 x)]))::hp):=uS (Value.int .i64) (fun _=>rfl) l l' hid hl h hn
theorem iN{id:Nat}{a b:Ob}(q:Nat):ak [(id,b)] q=ak ((id,b)::[(id,a)]) q:=by
 simp_all[av]
theorem fV.heap{gl:Gl}{P:Program}{f:FuncId}{args:List V}{k k':Nat}{hp hp' hp'':aC}{d:V}(h:fV gl P f args k hp d k' hp')(he:∀q,ak hp'' q=ak hp' q):fV gl P f args k hp d k' hp'':=by
 intro m β w vs a1 a2 a3 a4 a5 a6 a7 a8;refine(h m β w vs a1 a2 a3 a4 a5 a6 a7 a8).mono ?_
 rintro e w' ⟨v,m',β',e1,e2,A⟩
 refine⟨v,m',β',e1,e2,⟨A.le,A.imm,A.old,A.size,A.same,fun id=>by rw[he];exact A.own id,fun id b cap hl=>A.priv id b cap (by grind),fun id id' b c c' hl hl'=>A.inj id id' b c c' (by grind) (by grind),
  fun id x hl hx=>let q:=A.hid id x (by grind) hx;⟨q.1,q.2.1,q.2.2.1,fun i b c hi=>q.2.2.2.1 i b c (by grind),fun i hi=>q.2.2.2.2 i (by grind)⟩,A.nx,A.pin⟩⟩
def u5(l:List Int):List Int:=l.mergeSort fun x y=>decide (x<=y)
section
variable{K:cR}{Q:ca}{S:St}
variable{ops:Array Oper}{rest:List Oper}{ty:TypeId}{pos:String}{after:Array Edge}{g:Option (Nat×Bool)}
theorem iT{d T e k bytes:Nat}{x:Operand}{n:Int}{zs:List Value}{ln:Nat}(rows:List (List V))(hT:eQ K.P T e k bytes=true)(hz:zeroCells K.P e=some zs)
  (h1:zs.all (·.oneCell')=true) (hk:Nat.blt 0 k=true) (h0:0<=n/\(bytes:Int)*n<=140737488355328/\n<=140737488355328) (hr:rows=List.replicate n.toNat (zs.map V.con)) (hln:ln=n.toNat) (hw:aN ops S ⟨some d,.makeSlice T x x,ty,pos,after,g⟩ true)
  (hx:evl K S x=.con (.int .i64 n)) (hN:Nat.blt d K.N=true)
  (kk:ay K ops rest Q ⟨(d,.own S.nx ln)::S.env,(S.nx,.arr e k rows)::S.hp,S.nx+1⟩):
  ay K ops (⟨some d,.makeSlice T x x,ty,pos,after,g⟩::rest) Q S:=by
 subst hr hln;refine cm hw (fun m β w a r=>?_) kk;have hk:=ax8 hk;obtain⟨i,z,hu,hi,hs,hby,hzz,hzk⟩:=eX hT
 have hzs:zs=z.cells.toList:=by
  have:zeroCells K.P e=some z.cells.toList:=by simp[zeroCells,hi,hzz]
  rw[hz] at this;exact ah8 this
 have hzl:zs.length=k:=by rw[hzs];simp[hzk]
 have hrun:=run_make (P:=K.P) w T e i z hu hi hzz .i64 .i64 n n h0.1 (Int.le_refl _) (by grind) (by omega)
 obtain⟨β',hle,hnx,r2⟩:=r.alloc (.cells (madeCells z.cells (n.toNat*i.size)) e (0,0)) (.arr e k (List.replicate n.toNat (zs.map V.con))) ⟨n.toNat,0⟩ _ rfl (fun β' hle=>by
  refine dZ (vs:=madeCells z.cells (n.toNat*i.size)) (by simp) (by rw[size_madeCells,hs]) (by simp) (by grind [maxLen]) (fun row hrow=>by grind) ?_;intro p j row c hp hj;have hpn:p<n.toNat:=by have:=(bd9.1 hp).1;simpa using this
  have hrow:row=zs.map V.con:=by
   have:=(bd9.1 hp).2;rw[List.getElem_replicate] at this;exact this.symm
  subst hrow;rw[az8] at hj;cases hzj:zs[j]? with
  |none=>grind
  |some v=>
   rw[hzj] at hj;simp at hj;subst hj;have hjk:j<k:=by have:=(bd9.1 hzj).1;omega
   have hv:zs[j]'(by omega)=v:=(bd9.1 hzj).2;refine⟨v,?_,.imm (.con _),aq8.1 h1 v (ay9 hzj)⟩
   have hlt:p*k+j<n.toNat*i.size:=by
    rw[hs];have:(p+1)*k<=n.toNat*k:=bg9 k hpn;rw[Nat.succ_mul] at this;omega
   unfold madeCells;rw[cb8,Array.getElem?_range,if_pos hlt,ba8,hzk,ao9,Nat.mul_add_mod,Nat.mod_eq_of_lt hjk,getElem!_pos _ j (by omega)]
   grind)
 refine⟨.slice (some ⟨w.heap.size,0,none⟩) n.toNat n.toNat,_,m,β',.inl ?_,bX.put r2 hN (.own hnx)⟩;simp only[execOp];rw[Sem.run_bind];have hxv:=r.con hx
 simp_all
theorem oT{d T e k bytes nx:Nat}{x:Operand}{n:Int}{zs:List Value}{ln:Nat}(id:Nat)(hid:(Nat.blt id nx&&Nat.ble K.pins id)=true)(hnx0:S.nx=nx)(hres:ak S.hp id=.res)(rows:List (List V))(hT:eQ K.P T e k bytes=true)(hz:zeroCells K.P e=some zs)
  (h1:zs.all (·.oneCell')=true) (hk:Nat.blt 0 k=true) (h0:0<=n/\(bytes:Int)*n<=140737488355328/\n<=140737488355328) (hr:rows=List.replicate n.toNat (zs.map V.con)) (hln:ln=n.toNat) (hw:aN ops S ⟨some d,.makeSlice T x x,ty,pos,after,g⟩ true)
  (hx:evl K S x=.con (.int .i64 n)) (hN:Nat.blt d K.N=true)
  (kk:ay K ops rest Q ⟨(d,.own id ln)::S.env,(id,.arr e k rows)::S.hp,S.nx⟩):
  ay K ops (⟨some d,.makeSlice T x x,ty,pos,after,g⟩::rest) Q S:=by
 subst hr hln;refine cm hw (fun m β w a r=>?_) kk;have hk:=ax8 hk;obtain⟨i,z,hu,hi,hs,hby,hzz,hzk⟩:=eX hT
 have hzs:zs=z.cells.toList:=by
  have:zeroCells K.P e=some z.cells.toList:=by simp[zeroCells,hi,hzz]
  rw[hz] at this;exact ah8 this
 have hzl:zs.length=k:=by rw[hzs];simp[hzk]
 have hrun:=run_make (P:=K.P) w T e i z hu hi hzz .i64 .i64 n n h0.1 (Int.le_refl _) (by grind) (by omega)
 obtain⟨β',hle,hnx,r2⟩:=r.allocAt id (by simp_all) (ax8 (ci8.1 hid).2) hres (.cells (madeCells z.cells (n.toNat*i.size)) e (0,0)) (.arr e k (List.replicate n.toNat (zs.map V.con))) ⟨n.toNat,0⟩ _ rfl (fun β' hle=>by
  refine dZ (vs:=madeCells z.cells (n.toNat*i.size)) (by simp) (by rw[size_madeCells,hs]) (by simp) (by grind [maxLen]) (fun row hrow=>by grind) ?_;intro p j row c hp hj;have hpn:p<n.toNat:=by have:=(bd9.1 hp).1;simpa using this
  have hrow:row=zs.map V.con:=by
   have:=(bd9.1 hp).2;rw[List.getElem_replicate] at this;exact this.symm
  subst hrow;rw[az8] at hj;cases hzj:zs[j]? with
  |none=>grind
  |some v=>
   rw[hzj] at hj;simp at hj;subst hj;have hjk:j<k:=by have:=(bd9.1 hzj).1;omega
   have hv:zs[j]'(by omega)=v:=(bd9.1 hzj).2;refine⟨v,?_,.imm (.con _),aq8.1 h1 v (ay9 hzj)⟩
   have hlt:p*k+j<n.toNat*i.size:=by
    rw[hs];have:(p+1)*k<=n.toNat*k:=bg9 k hpn;rw[Nat.succ_mul] at this;omega
   unfold madeCells;rw[cb8,Array.getElem?_range,if_pos hlt,ba8,hzk,ao9,Nat.mul_add_mod,Nat.mod_eq_of_lt hjk,getElem!_pos _ j (by omega)]
   grind)
 refine⟨.slice (some ⟨w.heap.size,0,none⟩) n.toNat n.toNat,_,m,β',.inl ?_,bX.put r2 hN (.own hnx)⟩;simp only[execOp];rw[Sem.run_bind];have hxv:=r.con hx
 simp_all
end
end Go.Pv
namespace Go.Pv
open Go
section
variable{K:cR}{Q:ca}{S:St}{ops:Array Oper}{rest:List Oper}{ty:TypeId}{pos:String}{after:Array Edge}{g:Option (Nat×Bool)}
def Pk(n:Int):List V:=[V.con (.int .u8 n)]
def rj(P:Program)(T:TypeId):Bool:=
 match P.underlying T with|some (.slice e)=>(match P.underlying e with|some (.int .u8)=>true|_=>false)|_=>false
theorem xP{P:Program}{T:TypeId}(h:rj P T=true):∃e,P.underlying T=some (.slice e)/\P.underlying e=some (.int .u8):=by
 grind [rj]
theorem ui{d:Nat}{x:Operand}{src dst:TypeId}(xs:List Int)(hs:rj K.P src=true)(hd:jO K.P dst=true)
  (hw:aN ops S ⟨some d,.convert src dst x,ty,pos,after,g⟩ true) (hx:evl K S x=.lst 1 (xs.map Pk)) (hN:Nat.blt d K.N=true)
  (kk:ay K ops rest Q (S.put d (.con (str (xs.map fun n=>UInt8.ofNat n.toNat))))):ay K ops (⟨some d,.convert src dst x,ty,pos,after,g⟩::rest) Q S:=
 aX _ hw hN (fun m β w a r=>by
  obtain⟨e,h1,h2⟩:=xP hs;have h:=r.reads x;rw[hx] at h;refine⟨.string ⟨(xs.map fun n=>UInt8.ofNat n.toNat).toArray⟩,?_,.imm (.con _)⟩;generalize hxs:xs.map Pk=rows at h;generalize hv:a.eval x=v at h;simp only[execOp,hv];refine bk ?_;cases h with
  |imm h=>
   cases h with
   |nil _ ad cap=>
    have:xs=[]:=by simpa using hxs
    subst this;rw[run_convert_bytes_string w src dst e ad 0 cap h1 h2 (jN hd)];cases ad with
    |none=>simp[Conv.bytesToString];rfl
    |some ad=>
     rw[run_bytesToString w ad 0 cap [] (by simpa using run_loadCells_list (P:=K.P) w ad [] (by simp))];rfl
   | @lst _ _ ad n cap arr T' fr f hm hsp hn hcap hbd hk hf hc=>
    have hlen:xs.length=n:=by rw[<-hn,<-hxs];simp
    rw[iX hsp]
    have:=run_convert_bytes_arg (P:=K.P) w src e h1 h2 ad.block ad.off n cap xs hlen (fun i hi=>by
     have hi':i<xs.length:=by omega
     have h3:=hf i (by omega);have h4:=hc i 0 (Pk xs[i]) (V.con (.int .u8 xs[i])) (by grind) rfl
     have h5:f i=.int .u8 xs[i]:=by
      have:i*1+0=i:=by omega
      rw[this] at h4;exact(br.imm (β:=β) h4).of_con
     have h6:=r.imm _ _ hm
     grind [bW]) dst (jN hd)
    rw[this];rfl) kk
end
section
variable{K:cR}{Q:ca}{S:St}{ops:Array Oper}{rest:List Oper}{ty:TypeId}{pos:String}{after:Array Edge}{g:Option (Nat×Bool)}
end
inductive It where
 |c (x:Code)
 |b (id:Nat)
 |o (ops:Array Oper) (l:List Oper)
 |j (J:St->Prop)
def post(K:cR)(Q:ca):List It->ca
 |[]=>Q
 | .c x::s=>Eh K x (post K Q s)
 | .b id::s=>wO id (post K Q s)
 | .o ops l::s=>fun e S=>match e with | .normal=>ay K ops l (post K Q s) S|e=>post K Q s e S
 | .j J::s=>fun e S=>match e with | .normal=>J S|e=>post K Q s e S
def WG(K:cR)(Q:ca)(s:List It)(S:St):Prop:=post K Q s .normal S
section
variable{K:cR}{Q:ca}{S S':St}{s s':List It}
theorem iI:∀{s:List It},Q .ret S->post K Q s .ret S
 |[],h=>h
 | .c _::s,h=>iI (s:=s) h
 | .b _::s,h=>iI (s:=s) h
 | .o _ _::s,h=>iI (s:=s) h
 | .j _::s,h=>iI (s:=s) h
def D5(i:Nat):List It->Option (List It)
 |[]=>none
 | .b k::s=>bif Nat.beq i k then some s else D5 i s
 | .c _::s=>D5 i s
 | .o _ _::s=>D5 i s
 | .j _::s=>D5 i s
theorem rO{i:Nat}:∀{s s':List It},D5 i s=some s'->WG K Q s' S->post K Q s (.exit i) S
 |[],_,h,_=>by simp[D5] at h
 | .b k::s,s',h,q=>by
  simp only[D5] at h
  show post K Q (.b k::s) (.exit i) S
  simp only[post,wO];cases hb:Nat.beq i k with
  |true=>
   rw[hb] at h;simp only[cond_true,ax9] at h;subst h;rw[if_pos (ci9 hb)];exact q
  |false=>
   simp_all[cl9,rO]
 | .c x::s,s',h,q=>rO (s:=s) (by grind [D5]) q
 | .o _ _::s,s',h,q=>rO (s:=s) (by grind [D5]) q
 | .j _::s,s',h,q=>rO (s:=s) (by grind [D5]) q
def D9(P:Program)(T f:Nat):Bool:=
 match P.underlying T with|some (.struct fs)=>(match fs[f]? with|some fl=>ri P fl.type|none=>false)|_=>false
def OA(P:Program)(T:Nat):Bool:=match P.underlying T with|some .bool=>true|_=>false
def Oz(P:Program)(T:Nat)(k:IntKind):Bool:=match P.underlying T with|some (.int k')=>decide (k'=k)|_=>false
def Oy(P:Program)(T:Nat):Bool:=match P.underlying T with|some _=>true|_=>false
def fZ{α:Type}:Nat->List α->Bool
 |0,[]=>true
 |n+1,_::l=>fZ n l
 |_,_=>false
theorem ew{α:Type}:∀{n:Nat} {l:List α},fZ n l=true->l.length=n
 |0,[],_=>rfl
 |n+1,_::l,h=>by rw[bx9,ew (n:=n) (l:=l) h]
 |0,_::_,h=>by simp[fZ] at h
 |n+1,[],h=>by simp[fZ] at h
inductive TF where
 |A (n:Nat)
 |C
 |F (f off:Nat)
 |FC (f:Nat)
 |S (n:Nat)
 |Sl (k:Nat)
 |Sn
 |Str
 |Z (n:Nat) (zs:List Value)
 |Pl (ps:List (Nat×Nat))
 |Arr (len s:Nat)
 |El (e k bytes:Nat)
 |B
 |I (k:IntKind)
 |U
 |Fn
 |AA (n k e:Nat)
 |AC (n e:Nat)
 |Cn
 |M (name:String) (f:Nat)
 |Mn
 |R (n:Nat)
def xO(P:Program)(T:Nat):Bool:=match P.underlying T with|some (.map _ _)=>true|_=>false
def TF.ok(P:Program)(T:Nat):TF->Prop
 | .A n=>zy P T n=true
 | .C=>ri P T=true
 | .F f off=>HL P T f off=true
 | .FC f=>D9 P T f=true
 | .S n=>Hx P T n=true
 | .Sl k=>mW P T k=true
 | .Sn=>cQ P T=true
 | .Str=>jO P T=true
 | .Z n zs=>zeroCells P T=some zs/\(fZ n zs&&zs.all (·.oneCell'))=true
 | .Pl ps=>jP P T=some ps
 | .Arr len s=>m8 P T len s=true
 | .El e k bytes=>eQ P T e k bytes=true
 | .B=>OA P T=true
 | .I k=>Oz P T k=true
 | .U=>Oy P T=true
 | .Fn=>cE P T=true
 | .AA n k e=>nC P T n k e=true
 | .AC n e=>pj P T n e=true
 | .Cn=>P.concrete T=true
 | .M name f=>(∀(v:Value) (args:Array Value) (w:World),(callMethod (.iface T v) name args).run P w=.ok (.enter f (#[v]++args)) w)/\∀(v:Value) (w:World),(nilAhead (P.types.size+Made.depth) T v name).run P w=.ok (some false) w
 | .Mn=>xO P T=true
 | .R _=>True
abbrev TT:=List (Nat×List TF)
def cK(P:Program)(t:TT):Prop:=∀p,p∈t->∀f,f∈p.2->TF.ok P p.1 f
class TC (K:cR) (t:outParam TT):Prop where
 h:cK K.P t
def TF.okB(P:Program)(T:Nat):TF->Bool
 | .A n=>zy P T n
 | .C=>ri P T
 | .F f off=>HL P T f off
 | .FC f=>D9 P T f
 | .S n=>Hx P T n
 | .Sl k=>mW P T k
 | .Sn=>cQ P T
 | .Str=>jO P T
 | .Z n zs=>fZ n zs&&zs.all (·.oneCell')
 | .Pl ps=>decide (jP P T=some ps)
 | .Arr len s=>m8 P T len s
 | .El e k bytes=>eQ P T e k bytes
 | .B=>OA P T
 | .I k=>Oz P T k
 | .U=>Oy P T
 | .Fn=>cE P T
 | .AA n k e=>nC P T n k e
 | .AC n e=>pj P T n e
 | .Cn=>P.concrete T
 | .M _ _=>true
 | .Mn=>xO P T
 | .R _=>true
def zP(P:Program)(t:TT):List (Option (List Value)×Option (List Value)):=t.flatMap fun p=>p.2.filterMap fun f=>match f with | .Z _ zs=>some (zeroCells P p.1,some zs)|_=>none
def mP(t:TT):List (Nat×TF):=t.flatMap fun p=>p.2.filterMap fun f=>match f with | .M s n=>some (p.1,.M s n)|_=>none
def Pb(P:Program):List (Nat×TF)->Prop
 |[]=>True
 |p::l=>TF.ok P p.1 p.2/\Pb P l
theorem BH{P:Program}:∀{l:List (Nat×TF)},Pb P l->∀p,p∈l->TF.ok P p.1 p.2
 |_::_,h,p,hp=>(as9.1 hp).elim (fun e=>e ▸ h.1) (BH h.2 p)
theorem Gq{α:Type}:∀{l:List (α×α)},l.map (·.1)=l.map (·.2)->∀p,p∈l->p.1=p.2
 |a::l,h,p,hp=>by
  simp only[bm9,ca8] at h;exact(as9.1 hp).elim (fun e=>e ▸ h.1) (Gq h.2 p)
theorem MS{P:Program}{t:TT}(hB:(t.all fun p=>p.2.all (TF.okB P p.1))=true)(hZ:(zP P t).map (·.1)=(zP P t).map (·.2))(hM:Pb P (mP t)):cK P t:=fun p hp f hf=>by
 have h:=aq8.1 (aq8.1 hB p hp) f hf;cases f with
 |Z n zs=>exact⟨Gq hZ (zeroCells P p.1,some zs) (ac8.2 ⟨p,hp,List.mem_filterMap.2 ⟨_,hf,rfl⟩⟩),h⟩
 |M s n=>exact BH hM (p.1,.M s n) (ac8.2 ⟨p,hp,List.mem_filterMap.2 ⟨_,hf,rfl⟩⟩)
 |Pl ps=>exact of_decide_eq_true (p:=jP P p.1=some ps) h
 |R n=>trivial
 |_=>exact h
def lk{α:Type}:List (Nat×α)->Nat->Option α
 |[],_=>none
 |(k,v)::l,t=>bif Nat.beq k t then some v else lk l t
theorem lG{α:Type}:∀{l:List (Nat×α)} {t:Nat} {v:α},lk l t=some v->(t,v)∈l
 |(k,v')::l,t,v,h=>by
  simp only[lk] at h;cases hb:Nat.beq k t with
  |true=>rw[hb] at h;simp at h;subst h;rw[ci9 hb];exact ce8
  |false=>rw[hb] at h;simp at h;exact by9 _ (lG h)
def qH{α:Type}(p:TF->Option α):List TF->Option α
 |[]=>none
 |f::l=>match p f with|some a=>some a|none=>qH p l
theorem BR{α:Type}{p:TF->Option α}:∀{l:List TF} {a:α},qH p l=some a->∃f,f∈l/\p f=some a
 |f::l,a,h=>by
  simp only[qH] at h;split at h
  ·rename_i b hb;simp at h;subst h;exact⟨f,ce8,hb⟩
  ·obtain⟨f',h1,h2⟩:=BR h;exact⟨f',by9 _ h1,h2⟩
def du{α:Type}(t:TT)(T:Nat)(p:TF->Option α):Option α:=match lk t T with|some l=>qH p l|none=>none
theorem dA{P:Program}{α:Type}{t:TT}(ht:cK P t){T:Nat}{p:TF->Option α}{a:α}(h:du t T p=some a):∃f,p f=some a/\TF.ok P T f:=by
 unfold du at h;split at h
 ·rename_i l hl;obtain⟨f,h1,h2⟩:=BR h;exact⟨f,h2,ht _ (lG hl) _ h1⟩
 grind
def TF.qA:TF->Option Nat | .A n=>some n|_=>none
def TF.qC:TF->Option Unit | .C=>some ()|_=>none
def TF.qF(f:Nat):TF->Option Nat | .F f' off=>bif Nat.beq f' f then some off else none|_=>none
def TF.qFC(f:Nat):TF->Option Unit | .FC f'=>bif Nat.beq f' f then some () else none|_=>none
def TF.qS:TF->Option Nat | .S n=>some n|_=>none
def TF.qSl:TF->Option Nat | .Sl n=>some n|_=>none
def TF.qSn:TF->Option Unit | .Sn=>some ()|_=>none
def TF.qStr:TF->Option Unit | .Str=>some ()|_=>none
def TF.qZ:TF->Option (Nat×List Value) | .Z n zs=>some (n,zs)|_=>none
def TF.qPl:TF->Option (List (Nat×Nat)) | .Pl ps=>some ps|_=>none
def TF.qArr:TF->Option (Nat×Nat) | .Arr l s=>some (l,s)|_=>none
def TF.qEl:TF->Option (Nat×Nat×Nat) | .El e k b=>some (e,k,b)|_=>none
def TF.qB:TF->Option Unit | .B=>some ()|_=>none
def TF.qI:TF->Option IntKind | .I k=>some k|_=>none
def TF.qU:TF->Option Unit | .U=>some ()|_=>none
def TF.qAA:TF->Option (Nat×Nat×Nat) | .AA n k e=>some (n,k,e)|_=>none
def TF.qAC:TF->Option (Nat×Nat) | .AC n e=>some (n,e)|_=>none
def TF.qFn:TF->Option Unit | .Fn=>some ()|_=>none
def TF.qCn:TF->Option Unit | .Cn=>some ()|_=>none
def TF.qM(name:String):TF->Option Nat | .M nm f=>(match decide (nm=name) with|true=>some f|false=>none)|_=>none
def TF.qR:TF->Option Nat | .R n=>some n|_=>none
def TF.qMn:TF->Option Unit | .Mn=>some ()|_=>none
section
variable{P:Program}{t:TT}{T:Nat}
theorem IY(ht:cK P t){n:Nat}(h:du t T TF.qA=some n):zy P T n=true:=by
 obtain⟨f,h1,h2⟩:=dA ht h;cases f<;>simp[TF.qA] at h1;subst h1;exact h2
theorem IX(ht:cK P t){n:Unit}(h:du t T TF.qC=some n):ri P T=true:=by
 obtain⟨f,h1,h2⟩:=dA ht h;cases f<;>simp[TF.qC] at h1;exact h2
theorem LL(ht:cK P t){n f:Nat}(h:du t T (TF.qF f)=some n):HL P T f n=true:=by
 obtain⟨f',h1,h2⟩:=dA ht h;cases f'<;>simp_all[TF.qF];rename_i g off;cases hb:Nat.beq g f with
 |true=>rw[hb] at h1;simp at h1;subst h1;rw[<-ci9 hb];exact h2
 |false=>grind
theorem NO(ht:cK P t){n:Unit}{f:Nat}(h:du t T (TF.qFC f)=some n):D9 P T f=true:=by
 obtain⟨f',h1,h2⟩:=dA ht h;cases f'<;>simp_all[TF.qFC];rename_i g;cases hb:Nat.beq g f with
 |true=>rw[<-ci9 hb];exact h2
 |false=>grind
theorem LJ(ht:cK P t){n:Nat}(h:du t T TF.qS=some n):Hx P T n=true:=by
 obtain⟨f,h1,h2⟩:=dA ht h;cases f<;>simp[TF.qS] at h1;subst h1;exact h2
theorem yW(ht:cK P t){n:Nat}(h:du t T TF.qSl=some n):mW P T n=true:=by
 obtain⟨f,h1,h2⟩:=dA ht h;cases f<;>simp[TF.qSl] at h1;subst h1;exact h2
theorem j8(ht:cK P t){n:Unit}(h:du t T TF.qSn=some n):cQ P T=true:=by
 obtain⟨f,h1,h2⟩:=dA ht h;cases f<;>simp[TF.qSn] at h1;exact h2
theorem wT(ht:cK P t){n:Unit}(h:du t T TF.qStr=some n):jO P T=true:=by
 obtain⟨f,h1,h2⟩:=dA ht h;cases f<;>simp[TF.qStr] at h1;exact h2
theorem wS(ht:cK P t){n:Nat}{zs:List Value}(h:du t T TF.qZ=some (n,zs)):zeroCells P T=some zs/\zs.length=n/\zs.all (·.oneCell')=true:=by
 obtain⟨f,h1,h2⟩:=dA ht h;cases f<;>simp[TF.qZ] at h1;obtain⟨rfl,rfl⟩:=h1;obtain⟨h3,h4⟩:=h2;simp only[aq9] at h4
 grind [ew]
theorem NM(ht:cK P t){n:List (Nat×Nat)}(h:du t T TF.qPl=some n):jP P T=some n:=by
 obtain⟨f,h1,h2⟩:=dA ht h;cases f<;>simp[TF.qPl] at h1;subst h1;exact h2
theorem GR(ht:cK P t){l k:Nat}(h:du t T TF.qArr=some (l,k)):m8 P T l k=true:=by
 obtain⟨f,h1,h2⟩:=dA ht h;cases f<;>simp[TF.qArr] at h1;obtain⟨rfl,rfl⟩:=h1;exact h2
theorem kX(ht:cK P t){e k b:Nat}(h:du t T TF.qEl=some (e,k,b)):eQ P T e k b=true:=by
 obtain⟨f,h1,h2⟩:=dA ht h;cases f<;>simp[TF.qEl] at h1;obtain⟨rfl,rfl,rfl⟩:=h1;exact h2
theorem NS(ht:cK P t){n k e:Nat}(h:du t T TF.qAA=some (n,k,e)):nC P T n k e=true:=by
 obtain⟨f,h1,h2⟩:=dA ht h;cases f<;>simp[TF.qAA] at h1;obtain⟨rfl,rfl,rfl⟩:=h1;exact h2
theorem NR(ht:cK P t){n e:Nat}(h:du t T TF.qAC=some (n,e)):pj P T n e=true:=by
 obtain⟨f,h1,h2⟩:=dA ht h;cases f<;>simp[TF.qAC] at h1;obtain⟨rfl,rfl⟩:=h1;exact h2
theorem NN(ht:cK P t){n:Unit}(h:du t T TF.qFn=some n):cE P T=true:=by
 obtain⟨f,h1,h2⟩:=dA ht h;cases f<;>simp[TF.qFn] at h1;exact h2
theorem NP(ht:cK P t){n:Unit}(h:du t T TF.qCn=some n):P.concrete T=true:=by
 obtain⟨f,h1,h2⟩:=dA ht h;cases f<;>simp[TF.qCn] at h1;exact h2
theorem J7(ht:cK P t){n:Unit}(h:du t T TF.qMn=some n):xO P T=true:=by
 obtain⟨f,h1,h2⟩:=dA ht h;cases f<;>simp[TF.qMn] at h1;exact h2
theorem LK(ht:cK P t){name:String}{n:Nat}(h:du t T (TF.qM name)=some n):(∀(v:Value) (args:Array Value) (w:World),(callMethod (.iface T v) name args).run P w=.ok (.enter n (#[v]++args)) w)/\∀(v:Value) (w:World),(nilAhead (P.types.size+Made.depth) T v name).run P w=.ok (some false) w:=by
 obtain⟨f,h1,h2⟩:=dA ht h;cases f<;>simp_all[TF.qM];split at h1
 ·rename_i hd;simp only[ax9] at h1;subst h1;rw[<-of_decide_eq_true hd];exact h2
 grind
theorem NQ(ht:cK P t){n:Unit}(h:du t T TF.qB=some n):P.underlying T=some .bool:=by
 obtain⟨f,h1,h2⟩:=dA ht h;cases f<;>simp[TF.qB] at h1;have h3:OA P T=true:=h2
 grind [OA]
theorem Pt(ht:cK P t){k:IntKind}(h:du t T TF.qI=some k):P.underlying T=some (.int k):=by
 obtain⟨f,h1,h2⟩:=dA ht h;cases f<;>simp[TF.qI] at h1;subst h1;have h3:Oz P T _=true:=h2
 grind [Oz]
theorem Ps(ht:cK P t){n:Unit}(h:du t T TF.qU=some n):∃d,P.underlying T=some d:=by
 obtain⟨f,h1,h2⟩:=dA ht h;cases f<;>simp[TF.qU] at h1;have h3:Oy P T=true:=h2
 grind [Oy]
end
def pf:cc->Nat->Option V
 |[],_=>none
 |(k,v)::e,t=>bif Nat.beq k t then some v else pf e t
def pz:aC->Nat->Option Ob
 |[],_=>none
 |(k,v)::e,t=>bif Nat.beq k t then some v else pz e t
def Ag(e:cc)(S:St):Prop:=∀t v,pf e t=some v->get S.env t=v
def Hu(hp:aC)(S:St):Prop:=∀t v,pz hp t=some v->ak S.hp t=v
theorem dN:∀{e:cc} {t:Nat} {v:V},pf e t=some v->get e t=v
 |[],t,v,h=>by simp[pf] at h
 |(k,x)::e,t,v,h=>by
  simp only[pf] at h;simp only[get];cases hb:Nat.beq k t with
  |true=>rw[hb] at h;simpa using h
  |false=>rw[hb] at h;simp at h;simpa using dN h
theorem fJ:∀{e:aC} {t:Nat} {v:Ob},pz e t=some v->ak e t=v
 |[],t,v,h=>by simp[pz] at h
 |(k,x)::e,t,v,h=>by
  simp only[pz] at h;simp only[ak];cases hb:Nat.beq k t with
  |true=>rw[hb] at h;simpa using h
  |false=>rw[hb] at h;simp at h;simpa using fJ h
theorem xd:Ag S.env S:=fun _ _ h=>dN h
theorem Py:Hu S.hp S:=fun _ _ h=>fJ h
def eA(e:cc):Operand->Option V
 | .tmp t=>pf e t
 | .const v=>some (.con v)
 | .func f=>some (.fn (.func f) [] [])
 | .global _=>none
theorem aW{e:cc}(ha:Ag e S){x:Operand}{v:V}(h:eA e x=some v):evl K S x=v:=by
 cases x with
 |tmp t=>exact ha _ _ h
 |const v=>grind [eA,evl]
 |func f=>grind [eA,evl]
 |global g=>simp[eA] at h
def IC(e:cc):List Operand->Option (List V)
 |[]=>some []
 |x::l=>match eA e x with|some v=>(match IC e l with|some r=>some (v::r)|none=>none)|none=>none
theorem sW{e:cc}(ha:Ag e S):∀{l:List Operand} {vs:List V},IC e l=some vs->l.map (evl K S)=vs
 |[],vs,h=>by grind [IC]
 |x::l,vs,h=>by
  simp only[IC] at h;split at h
  ·rename_i v hv;split at h
   ·rename_i r hr;simp at h;subst h;simp[aW ha hv,sW ha hr]
   ·simp at h
  ·simp at h
def J4(e:cc):List (Nat×Operand)->Option (List (Nat×V))
 |[]=>some []
 |(i,x)::l=>match eA e x with|some v=>(match J4 e l with|some r=>some ((i,v)::r)|none=>none)|none=>none
theorem sU{e:cc}(ha:Ag e S):∀{l:List (Nat×Operand)} {vs:List (Nat×V)},J4 e l=some vs->l.map (fun p=>(p.1,evl K S p.2))=vs
 |[],vs,h=>by grind [J4]
 |(i,x)::l,vs,h=>by
  simp only[J4] at h;split at h
  ·rename_i v hv;split at h
   ·rename_i r hr;simp at h;subst h;simp[aW ha hv,sU ha hr]
   grind
  grind
def C3{α:Type}:List α->Option (List α)
 |[]=>some []
 |x::l=>match C3 l with|some r=>some (x::r)|none=>none
theorem jx{α:Type}:∀{l r:List α},C3 l=some r->l=r
 |[],r,h=>by simpa[C3] using h
 |x::l,r,h=>by
  simp only[C3] at h;split at h
  ·rename_i q hq;simp at h;subst h;rw[jx hq]
  ·simp at h
def lH{α:Type}:List α->Nat->Option α
 |[],_=>none
 |x::l,n=>match n with|0=>some x|n+1=>lH l n
theorem eR{α:Type}:∀{l:List α} {n:Nat} {x:α},lH l n=some x->l[n]? = some x
 |x::l,0,y,h=>by simpa[lH] using h
 |x::l,n+1,y,h=>by simpa[lH] using eR (l:=l) (n:=n) (by simpa[lH] using h)
 |[],_,y,h=>by simp[lH] at h
def MI{α:Type}:Nat->List α->Option (List α)
 |0,l=>some l
 |n+1,l=>match l with|_::l=>MI n l|[]=>none
def MB{α:Type}:Nat->List α->Option (List α)
 |0,_=>some []
 |n+1,l=>match l with|x::l=>(match MB n l with|some r=>some (x::r)|none=>none)|[]=>none
theorem Gx{α:Type}:∀{n:Nat} {l r:List α},MI n l=some r->l.drop n=r
 |0,l,r,h=>by simpa[MI] using h
 |n+1,x::l,r,h=>by simpa using Gx (n:=n) (l:=l) (by simpa[MI] using h)
 |n+1,[],r,h=>by simp[MI] at h
theorem Ee{α:Type}:∀{n:Nat} {l r:List α},MB n l=some r->l.take n=r/\r.length=n
 |0,l,r,h=>by simp_all[MB]
 |n+1,x::l,r,h=>by
  simp only[MB] at h;split at h
  ·rename_i q hq;simp at h;subst h;obtain⟨h1,h2⟩:=Ee hq;simp[h1,h2]
  ·simp at h
 |n+1,[],r,h=>by simp[MB] at h
def cut(row:List V)(o n:Nat):Option (List V):=
 bif Nat.beq o 0&&fZ n row then some row else match MI o row with|some r=>MB n r|none=>none
theorem lU{row cs:List V}{o n:Nat}(h:cut row o n=some cs):(row.drop o).take n=cs/\cs.length=n:=by
 unfold cut at h;cases hb:Nat.beq o 0&&fZ n row with
 |true=>
  rw[hb] at h;simp at h;subst h;simp only[aq9] at hb
  grind [Nat.eq_of_beq_eq_true,ew]
 |false=>
  rw[hb] at h;simp only[cond_false] at h
  grind [Gx,Ee]
def Kk:V->Option (List V)
 | .agg cs=>some cs
 | .con v=>some [.con v]
 | .lst k r=>some [.lst k r]
 | .iptr r o=>some [.iptr r o]
 | .imap e=>some [.imap e]
 | .fn f a b=>some [.fn f a b]
 | .ptr a b c d=>some [.ptr a b c d]
 | .own a b=>some [.own a b]
 | .map a=>some [.map a]
 |_=>none
theorem rM{v:V}{cs:List V}(h:Kk v=some cs):dl v=cs:=by
 cases v<;>simp[Kk] at h<;>simp[dl,h]
def zi:List V->Bool
 |[]=>true
 |x::l=>bif dF x then zi l else false
theorem mT:∀{l:List V},zi l=true->l.all dF=true
 |[],_=>rfl
 |x::l,h=>by
  simp only[zi] at h;cases hb:dF x with
  |true=>rw[hb] at h;simp[hb,mT (by simpa using h)]
  |false=>rw[hb] at h;simp at h
def lx(b:ByteArray):B8:=b.data.toList
theorem gA(b:ByteArray):str (lx b)=.string b:=by simp_all[lx]
def Pr(t:TT)(op:BinOp)(T:Nat):V->V->Option V
 | .con x,.con y=>
  match x,y with
  | .int k a,.int k' b=>(match IS op (.int k a) (.int k' b) with|some v=>some (.con v)|none=>none)
  | .string a,.string b=>(match op with | .add=>none|op=>(match GK op (lx a) (lx b) with|some v=>some (.con v)|none=>none))
  | .bool a,.bool b=>(match du t T TF.qB with
   |some _=>(match op with | .eql=>some (.con (.bool (a==b))) | .neq=>some (.con (.bool (a != b)))|_=>none)
   |none=>none)
  | .slice none 0 0,.slice none 0 0=>(match du t T TF.qSn with
   |some _=>(match op with | .eql=>some (.con (.bool true)) | .neq=>some (.con (.bool false))|_=>none)
   |none=>none)
  |_,_=>none
 |_,_=>none
def CU(t:TT)(T:Nat)(row:List V)(o:Nat):Option V:=
 match du t T TF.qA with
 |some n=>(match cut row o n with|some cs=>(match uQ cs with|true=>some (.agg cs)|false=>none)|none=>none)
 |none=>match du t T TF.qC with|some _=>(match lH row o with|some c=>(match c.deep with|false=>some c|true=>none)|none=>none)|none=>none
def ap1(b:Builtin)(t:TT)(T:Nat):V->Option V
 | .con x=>
  match x with
  | .string s=>(match b with | .len=>(match du t T TF.qStr with|some _=>some (.con (.int .i64 (lx s).length))|none=>none)|_=>none)
  | .slice _ n _=>(match b with | .len=>(match du t T TF.qSn with|some _=>some (.con (.int .i64 n))|none=>none)|_=>none)
  |_=>none
 | .own _ n=>(match b with | .len=>(match du t T TF.qSn with|some _=>some (.con (.int .i64 n))|none=>none)|_=>none)
 |_=>none
def ap2(b:Builtin):V->V->Option V
 | .con x,.con y=>
  match x,y with
  | .int k n,.int k' n'=>(match decide (k=k') with
   |true=>(match b with | .min=>some (.con (.int k (if n'<n then n' else n))) | .max=>some (.con (.int k (if n'>n then n' else n)))|_=>none)
   |false=>none)
  |_,_=>none
 |_,_=>none
def val(t:TT)(e:cc)(hp:aC):Op->Option V
 | .move x=>eA e x
 | .assign x=>eA e x
 | .pick c x y=>(match eA e c with
  |some (.con (.bool b))=>(match b with|true=>eA e x|false=>eA e y)
  |_=>none)
 | .binOp op T x y _=>(match eA e x with|some a=>(match eA e y with|some b=>Pr t op T a b|none=>none)|none=>none)
 | .unOp op _ x=>(match eA e x with
  |some (.con (.bool b))=>(match op with | .not=>some (.con (.bool (!b)))|_=>none)
  |some (.con (.int k n))=>(match op with | .neg=>some (.con (.int k (k.wrap (0 - n))))|_=>none)
  |_=>none)
 | .extract x i=>(match eA e x with|some (.tup vs)=>lH vs i|_=>none)
 | .load T x=>(match eA e x with
  |some (.iptr row o)=>CU t T row o
  |some (.ptr id k i o)=>(match pz hp id with
   |some (.arr _ k2 rows)=>(match Nat.beq k k2 with|true=>(match lH rows i with|some row=>CU t T row o|none=>none)|false=>none)
   |_=>none)
  |_=>none)
 | .fieldAddr T x f=>(match du t T (TF.qF f) with
  |some off=>(match eA e x with|some (.ptr id k i o)=>some (.ptr id k i (o+off))|some (.iptr row o)=>some (.iptr row (o+off))|_=>none)
  |none=>none)
 | .field T x f=>(match du t T (TF.qF f) with
  |some off=>(match du t T (TF.qFC f) with|some _=>(match eA e x with|some (.agg cs)=>lH cs off|_=>none)|none=>none)
  |none=>none)
 | .build T parts=>(match du t T TF.qZ with
  |some (_,zs)=>(match du t T TF.qPl with
   |some pls=>(match J4 e parts.toList with
    |some ps=>(match ji (fun i=>pls[i]?) (zs.map .con) ps with
     |some cs=>(match C3 cs with|some cs=>some (.agg cs)|none=>none)
     |none=>none)
    |none=>none)
   |none=>none)
  |none=>none)
 | .makeFunc fn first caps=>(match fn with
  | .func f=>(match first.toList with|[]=>(match IC e caps.toList with|some cs=>some (.fn (.func f) [] cs)|none=>none)|_=>none)
  |_=>none)
 | .convert src dst x=>(match du t dst TF.qI with
  |some k=>(match du t src TF.qU with|some _=>(match eA e x with|some (.con (.int _ n))=>some (.con (.int k (k.wrap n)))|_=>none)|none=>none)
  |none=>none)
 | .nilCheck x=>(match eA e x with|some (.ptr a b c d)=>some (.ptr a b c d)|some (.iptr a b)=>some (.iptr a b)|_=>none)
 | .indexAddr T x y=>(match du t T TF.qArr with
  |some (len,k)=>(match eA e x with
   |some (.ptr id a i o)=>(match eA e y with
    |some (.con (.int _ n))=>(match n with
     | .ofNat j=>(match Nat.blt j len with|true=>some (.ptr id a i (o+j*k))|false=>none)
     |_=>none)
    |_=>none)
   |_=>none)
  |none=>none)
 | .call c=>(match c.callee with
  | .builtin b=>(match c.args.toList,c.argTypes.toList with
   |[x],[T]=>(match eA e x with|some v=>ap1 b t T v|none=>none)
   |[x,y],[_,_]=>(match eA e x with|some v=>(match eA e y with|some u=>ap2 b v u|none=>none)|none=>none)
   |_,_=>none)
  |_=>none)
 |_=>none
end
section
variable{K:cR}{Q:ca}{S S':St}{s s':List It}{ops:Array Oper}{rest:List Oper}{op:Op}{ty:TypeId}{pos:String}{after:Array Edge}{g:Option (Nat×Bool)}{t:TT}
theorem LH(ht:cK K.P t){bop:BinOp}{T T':TypeId}{x y:Operand}{a b v:V}{d:Nat}(h:Pr t bop T a b=some v)(hx:evl K S x=a)(hy:evl K S y=b)
  (hw:aN ops S ⟨some d,.binOp bop T x y T',ty,pos,after,g⟩ true) (hN:Nat.blt d K.N=true) (k:ay K ops rest Q (S.put d v)):ay K ops (⟨some d,.binOp bop T x y T',ty,pos,after,g⟩::rest) Q S:=by
 unfold Pr at h;split at h
 ·split at h
  ·grind [GZ]
  ·grind [mS,gA]
  ·split at h
   ·rename_i hB;split at h
    ·simp at h;subst h;exact zg false hw (NQ ht hB) hx hy hN k
    ·simp at h;subst h;exact zg true hw (NQ ht hB) hx hy hN k
    grind
   grind
  ·split at h
   ·rename_i hB;split at h
    ·simp at h;subst h;exact ql false (j8 ht hB) hw hx hy hN k
    ·simp at h;subst h;exact ql true (j8 ht hB) hw hx hy hN k
    grind
   grind
  grind
 grind
theorem rq{t:TT}{T o:Nat}{row:List V}{v:V}{n:Nat}(hn:du t T TF.qA=some n)(h:CU t T row o=some v):∃cs,v=.agg cs/\cut row o n=some cs/\uQ cs=true:=by
 grind [CU]
theorem oC{t:TT}{T o:Nat}{row:List V}{v:V}(hn:du t T TF.qA=none)(h:CU t T row o=some v):du t T TF.qC=some ()/\lH row o=some v/\v.deep=false:=by
 grind [CU]
theorem Nj(ht:cK K.P t){T:TypeId}{x:Operand}{row:List V}{o:Nat}{v:V}{d:Nat}(h:CU t T row o=some v)(hx:evl K S x=.iptr row o)
  (hw:aN ops S ⟨some d,.load T x,ty,pos,after,g⟩ true) (hN:Nat.blt d K.N=true) (k:ay K ops rest Q (S.put d v)):ay K ops (⟨some d,.load T x,ty,pos,after,g⟩::rest) Q S:=by
 cases hn:du t T TF.qA with
 |some n=>
  obtain⟨cs,rfl,hc,_⟩:=rq hn h;exact tq (IY ht hn) hw hx (lU hc).1 (lU hc).2 hN k
 |none=>
  obtain⟨hq,hc,_⟩:=oC hn h<;>grind [qW,IX,eR]
theorem JU(ht:cK K.P t){T e:TypeId}{x:Operand}{id k i:Nat}{rows:List (List V)}{row:List V}{o:Nat}{v:V}{d:Nat}(h:CU t T row o=some v)(hx:evl K S x=.ptr id k i o)
  (ho:ak S.hp id=.arr e k rows) (hr:rows[i]? = some row)
  (hw:aN ops S ⟨some d,.load T x,ty,pos,after,g⟩ true) (hN:Nat.blt d K.N=true) (kk:ay K ops rest Q (S.put d v)):ay K ops (⟨some d,.load T x,ty,pos,after,g⟩::rest) Q S:=by
 cases hn:du t T TF.qA with
 |some n=>
  obtain⟨cs,rfl,hc,hd⟩:=rq hn h;exact cA (IY ht hn) hw hx ho hr (lU hc).1 (lU hc).2 hd hN kk
 |none=>
  obtain⟨hq,hc,hd⟩:=oC hn h<;>grind [eD,IX,eR]
theorem HK{P:Program}{T f:Nat}(h:D9 P T f=true):∃fs fl,P.underlying T=some (.struct fs)/\fs[f]? = some fl/\ri P fl.type=true:=by
 grind [D9]
theorem fi{α:Type}{a:Array α}{x:α}(h:a.toList=[x]):a=#[x]:=by grind
theorem dw{α:Type}{a:Array α}{x y:α}(h:a.toList=[x,y]):a=#[x,y]:=by grind
theorem iE{α:Type}{a:Array α}(h:a.toList=[]):a=#[]:=by grind
theorem zK(ht:cK K.P t){e:cc}{hp:aC}(ha:Ag e S)(hh:Hu hp S){v:V}{d:Nat}(h:val t e hp op=some v)(hw:aN ops S ⟨some d,op,ty,pos,after,g⟩ true)(hN:Nat.blt d K.N=true)
  (k:ay K ops rest Q (S.put d v)):ay K ops (⟨some d,op,ty,pos,after,g⟩::rest) Q S:=by
 cases op with
 |move x=>exact Dk v hw (aW ha h) hN k
 |assign x=>exact zh v hw (aW ha h) hN k
 |pick c x y=>
  simp only[val] at h;split at h
  ·rename_i b hc;cases b with
   |true=>exact ve true v hw (aW ha hc) rfl (aW ha h) hN k
   |false=>exact ve false v hw (aW ha hc) rfl (aW ha h) hN k
  grind
 |binOp bop T x y T'=>
  grind [val,LH,aW]
 |unOp uop T x=>
  grind [val,GV,aW,GW]
 |extract x i=>
  grind [val,w8,aW,eR]
 |load T x=>
  simp only[val] at h;split at h
  ·grind [Nj,aW]
  ·rename_i id kk i o hx;split at h
   ·rename_i e k2 rows ho;split at h
    ·rename_i hk;have hk:=ci9 hk;subst hk;split at h
     ·rename_i row hr;exact JU ht h (aW ha hx) (hh _ _ ho) (eR hr) hw hN k
     grind
    grind
   grind
  grind
 |fieldAddr T x f=>
  simp only[val] at h;split at h
  ·rename_i off hF;split at h
   ·rename_i hx;simp at h;subst h;exact tr (LL ht hF) hw (aW ha hx) hN k
   ·rename_i hx;simp at h;subst h;exact qX (LL ht hF) hw (aW ha hx) hN k
   grind
  grind
 |field T x f=>
  simp only[val] at h;split at h
  ·rename_i off hF;split at h
   ·rename_i hFC;split at h
    ·rename_i cs hx;exact zc v (LL ht hF) (HK (NO ht hFC)) hw (aW ha hx) (eR h) hN k
    grind
   grind
  grind
 |build T parts=>
  simp only[val] at h;split at h
  ·rename_i n zs hz;split at h
   ·rename_i pls hp;split at h
    ·rename_i ps hps;split at h
     ·rename_i cs hf;split at h
      ·rename_i cs' hc;simp at h;subst h;have hc:=jx hc;subst hc;exact AR ps cs (wS ht hz).1 (NM ht hp) (wS ht hz).2.2 hw (sU ha hps) hf hN k
      grind
     grind
    grind
   grind
  grind
 |makeFunc fn first caps=>
  simp only[val] at h
  grind [iE,ug,sW]
 |convert src dst x=>
  simp only[val] at h;split at h
  ·rename_i kk hI;split at h
   ·rename_i hU;split at h
    ·rename_i hx;simp at h;subst h;exact xa (Pt ht hI) (Ps ht hU) hw (aW ha hx) hN k
    grind
   grind
  grind
 |nilCheck x=>
  grind [val,oS,aW,nN]
 |indexAddr T x y=>
  simp only[val] at h;split at h
  ·rename_i len kk hA;split at h
   ·rename_i hx;split at h
    ·rename_i hy;split at h
     ·split at h
      ·rename_i j hb;simp at h;subst h;have:=ax8 hb;exact l0 (GR ht hA) hw (aW ha hx) (aW ha hy) (by simp) (Nat.lt_of_succ_le this) hN k
      grind
     grind
    grind
   grind
  grind
 |call c=>
  obtain⟨callee,args,at'⟩:=c;simp only[val] at h;split at h
  ·rename_i b;split at h
   ·rename_i x T h1 h2;have h1:=fi h1;have h2:=fi h2;subst h1;subst h2;split at h
    ·rename_i a ha';have ha':=aW (K:=K) ha ha';unfold ap1 at h;split at h
     ·split at h
      ·grind [Dl,wT,gA]
      ·split at h
       ·split at h
        ·rename_i hS;simp at h;subst h;exact tp (j8 ht hS) hw ha' Y hN k
        grind
       grind
      grind
     ·split at h
      ·split at h
       ·rename_i hS;simp at h;subst h;exact tp (j8 ht hS) hw ha' Y hN k
       grind
      grind
     grind
    grind
   ·rename_i x y T T' h1 h2;have h1:=dw h1;have h2:=dw h2;subst h1;subst h2;split at h
    ·rename_i a ha';split at h
     ·rename_i b' hb;have ha':=aW (K:=K) ha ha';have hb:=aW (K:=K) ha hb;unfold ap2 at h;split at h
      ·split at h
       ·split at h
        ·rename_i hk;have hk:=of_decide_eq_true hk
         grind [GX,GY]
        grind
       grind
      grind
     grind
    grind
   grind
  grind
 |_=>simp[val] at h
def wt(ops:Array Oper)(e:cc):Option (Nat×Bool)->Option Bool
 |none=>some true
 |some (j,want)=>
  match ops[j]? with
  |some o=>(match o.dst with
   |some t=>(match pf e t with
    |some (.con v)=>(match v with
     | .bool c=>(match c with|true=>some want|false=>(match want with|true=>some false|false=>some true))
     | .tuple a=>(match a.toList with|[]=>some false|_=>none)
     |_=>none)
    |_=>none)
   |none=>none)
  |none=>none
theorem jc{e:cc}(ha:Ag e S){o:Oper}{b:Bool}(h:wt ops e o.guard=some b):aN ops S o b:=by
 unfold aN;generalize o.guard=gd at h;cases gd with
 |none=>simp_all[wt]
 |some p=>
  obtain⟨j,want⟩:=p;simp only[wt] at h;split at h
  ·rename_i o' ho;split at h
   ·rename_i t htt;refine⟨t,by grind,?_⟩;split at h
    ·rename_i v hv;have hv:=ha _ _ hv;cases v with
     |bool c=>
      left
      cases c<;>cases want<;>simp at h<;>subst h<;>grind
     |tuple a=>
      simp only at h;split at h
      ·rename_i hl;have hl:=iE hl;subst hl;simp at h
       right;exact⟨hv,h⟩
      grind
     |_=>simp at h
    grind
   grind
  grind
def OC(t:TT)(e:cc)(hp:aC):Op->Option (Nat×Ob)
 | .store T x y=>(match du t T TF.qS with
  |some n=>(match eA e x with
   |some (.ptr id k i off)=>(match pz hp id with
    |some (.arr ty k2 rows)=>(match Nat.beq k k2,i,rows with
     |true,0,[row]=>(match eA e y with
      |some v=>(match Kk v with
       |some cs=>(match fZ n cs&&zi cs&&Nat.ble (off+n) row.length with
        |true=>(match C3 (row.take off++cs++row.drop (off+n)) with|some row'=>some (id,.arr ty k [row'])|none=>none)
        |false=>none)
       |none=>none)
      |none=>none)
     |_,_,_=>none)
    |_=>none)
   |_=>none)
  |none=>none)
 |_=>none
theorem EN(ht:cK K.P t){e:cc}{hp:aC}(ha:Ag e S)(hh:Hu hp S){id:Nat}{ob:Ob}(h:OC t e hp op=some (id,ob))(hw:aN ops S ⟨none,op,ty,pos,after,g⟩ true)
  (k:ay K ops rest Q ⟨S.env,(id,ob)::S.hp,S.nx⟩):ay K ops (⟨none,op,ty,pos,after,g⟩::rest) Q S:=by
 unfold OC at h;split at h
 ·split at h
  ·rename_i n hn;split at h
   ·rename_i hx;split at h
    ·rename_i ho;split at h
     ·rename_i hk;have hk:=ci9 hk;subst hk;split at h
      ·rename_i v hy;split at h
       ·rename_i cs hc;split at h
        ·rename_i hb;simp only[aq9] at hb;have hl:=ew hb.1.1;subst hl;split at h
         ·rename_i row' hr;have hr:=jx hr;simp at h;obtain⟨rfl,rfl⟩:=h;exact dB cs _ (LJ ht hn) hw (aW ha hx) (aW ha hy) (rM hc) (mT hb.1.2) (hh _ _ ho) Y hb.2 (by grind) k
         grind
        grind
       grind
      grind
     grind
    grind
   grind
  grind
 grind
def one(t:TT)(N:Nat)(ops:Array Oper)(o:Oper):St->Option St
 |⟨e,hp,nx⟩=>
  match wt ops e o.guard with
  |none=>none
  |some b=>(match b with
   |false=>(match o.dst with|some d=>(match Nat.blt d N with|true=>some ⟨(d,.con undef)::e,hp,nx⟩|false=>none)|none=>none)
   |true=>(match o.dst with
    |some d=>(match Nat.blt d N with
     |false=>none
     |true=>(match o.op with
      | .alloc T=>(match du t T TF.qZ with
       |some (n,zs)=>(match C3 (zs.map V.con) with|some cs=>some ⟨(d,.ptr nx n 0 0)::e,(nx,.arr T n [cs])::hp,nx+1⟩|none=>none)
       |none=>none)
      | .box T x=>(match du t T TF.qS with
       |some n=>(match eA e x with
        |some v=>(match Kk v with
         |some cs=>(match fZ n cs&&zi cs with|true=>some ⟨(d,.ptr nx n 0 0)::e,(nx,.arr T n [cs])::hp,nx+1⟩|false=>none)
         |none=>none)
        |none=>none)
       |none=>none)
      | .makeMap _ r=>(match r with|none=>some ⟨(d,.map nx)::e,(nx,.map [])::hp,nx+1⟩|some _=>none)
      |op=>(match val t e hp op with|some v=>some ⟨(d,v)::e,hp,nx⟩|none=>none)))
    |none=>(match OC t e hp o.op with|some (id,ob)=>some ⟨e,(id,ob)::hp,nx⟩|none=>none)))
theorem Fg(ht:cK K.P t){o:Oper}(h:one t K.N ops o S=some S')(k:ay K ops rest Q S'):ay K ops (o::rest) Q S:=by
 have ha:Ag S.env S:=xd;have hh:Hu S.hp S:=Py;obtain⟨e,hp,nx⟩:=S;simp only at ha hh;simp only[one] at h;split at h
 ·simp at h
 ·rename_i hw;have hw:=jc ha hw;split at h
  ·split at h
   ·rename_i d hd;split at h
    ·rename_i hN;simp at h;subst h;exact pJ hw hd hN k
    grind
   grind
  ·obtain⟨dst,op,ty,pos,after,g⟩:=o;cases dst with
   |some d=>
    simp only at h;split at h
    ·simp at h
    ·rename_i hN;split at h
     ·split at h
      ·rename_i n zs hz;obtain⟨z1,z2,z3⟩:=wS ht hz;split at h<;>simp_all[jx,AS]
      grind
     ·split at h
      ·split at h
       ·rename_i hv;split at h
        ·rename_i cs hc;split at h
         ·rename_i hb;simp only[aq9] at hb;simp at h;subst h;have hl:=ew hb.1;subst hl;exact eG cs hw (aW ha hv) (rM hc) (mT hb.2) hN k
         grind
        grind
       grind
      grind
     ·grind [wZ]
     ·split at h
      ·rename_i v hv;simp at h;subst h;exact zK ht ha hh hv hw hN k
      grind
   |none=>
    grind [EN]
def EL(t:TT)(N:Nat):List It->St->Option (List It×St)
 | .c x::s,S=>
  (match x with
  | .seq x y=>some (.c x::.c y::s,S)
  | .skip=>some (s,S)
  | .scope x=>some (.c x::s,S)
  | .label _=>some (s,S)
  | .block id x=>some (.c x::.b id::s,S)
  | .region _ ops draw=>(match draw with|false=>some (.o ops ops.toList::s,S)|true=>none)
  | .exit i=>(match D5 i s with|some s'=>some (s',S)|none=>none)
  | .cond c x y=>(match S with
   |⟨e,hp,nx⟩=>(match eA e c with
    |some (.con v)=>(match v with | .bool b=>(match b with|true=>some (.c x::s,⟨e,hp,nx⟩)|false=>some (.c y::s,⟨e,hp,nx⟩))|_=>none)
    |_=>none))
  |_=>none)
 | .b _::s,S=>some (s,S)
 | .o ops l::s,S=>(match l with|[]=>some (s,S)|o::l=>(match one t N ops o S with|some S'=>some (.o ops l::s,S')|none=>none))
 |_,_=>none
theorem EJ(ht:cK K.P t)(h:EL t K.N s S=some (s',S'))(k:WG K Q s' S'):WG K Q s S:=by
 match s,h with
 |[],h=>simp[EL] at h
 | .j _::s,h=>simp[EL] at h
 | .b id::s,h=>simp[EL] at h;obtain⟨rfl,rfl⟩:=h;exact k
 | .o ops []::s,h=>simp[EL] at h;obtain⟨rfl,rfl⟩:=h;exact aM k
 | .o ops (o::l)::s,h=>
  simp only[EL] at h;split at h
  ·rename_i S2 h2;simp at h;obtain⟨rfl,rfl⟩:=h;exact Fg ht h2 k
  ·simp at h
 | .c x::s,h=>
  simp only[EL] at h;split at h
  ·simp at h;obtain⟨rfl,rfl⟩:=h;exact IU k
  ·simp at h;obtain⟨rfl,rfl⟩:=h;exact GN k
  ·simp at h;obtain⟨rfl,rfl⟩:=h;exact Dg k
  ·simp at h;obtain⟨rfl,rfl⟩:=h;exact Dh k
  ·simp at h;obtain⟨rfl,rfl⟩:=h;exact Di k
  ·split at h
   ·rename_i ops _;simp at h;obtain⟨rfl,rfl⟩:=h;exact AN (l:=ops.toList) k
   ·simp at h
  ·split at h
   ·rename_i s2 h2;simp at h;obtain⟨rfl,rfl⟩:=h;exact GQ (rO h2 k)
   ·simp at h
  ·obtain⟨e,hp,nx⟩:=S;simp only at h;split at h
   ·rename_i hv;split at h
    ·split at h
     ·simp at h;obtain⟨rfl,rfl⟩:=h;exact AO (aW (xd (S:=⟨e,hp,nx⟩)) hv) Y k
     ·simp at h;obtain⟨rfl,rfl⟩:=h;exact AP (aW (xd (S:=⟨e,hp,nx⟩)) hv) Y k
    ·simp at h
   ·simp at h
  ·simp at h
def run(t:TT)(N:Nat):Nat->List It->St->Option (List It×St)
 |0,s,S=>some (s,S)
 |n+1,s,S=>match EL t N s S with|some (s',S')=>run t N n s' S'|none=>none
theorem rn[ht:TC K t]:∀(n:Nat) {s:List It} {S:St},run t K.N n s S=some (s',S')->WG K Q s' S'->WG K Q s S
 |0,s,S,h,k=>by simp_all[run]
 |n+1,s,S,h,k=>by
  simp only[run] at h;split at h
  ·rename_i s2 S2 h2;exact EJ ht.h h2 (rn n h k)
  ·simp at h
theorem en{c:Code}(h:WG K Q [.c c] S):iC K c Q S:=h
theorem fo{l:List Oper}(h:WG K Q (.o ops l::s) S):ay K ops l (post K Q s) S:=h
theorem fa{c:Code}(h:WG K Q (.c c::s) S):iC K c (post K Q s) S:=h
theorem aY.env{e:cc}(h:∀t,get e t=get S.env t):aY K S ⟨e,S.hp,S.nx⟩:=fun m β _ _ r=>⟨m,β,r.congr h (fun _=>rfl) rfl⟩
theorem rL{x:It}(hx:(∃c,x=.c c)\/∃ops l,x=.o ops l)(hg:aY K S S')(k:WG K Q (x::s) S'):WG K Q (x::s) S:=by
 rcases hx with ⟨c,rfl⟩|⟨ops,l,rfl⟩
 ·exact bd hg k
 ·exact bp hg k
theorem rx{e:cc}{hp:aC}{nx n:Nat}{c b:Bool}(hc:pf e n=some (.con (.bool c)))(hb:c=b):aY K ⟨e,hp,nx⟩ ⟨(n,.con (.bool b))::e,hp,nx⟩:=by
 refine aY.env (S:=⟨e,hp,nx⟩) (fun t=>?_)
 grind [cn,dN]
variable{R:Type}{r:R}
theorem dH{A B:Option R}{c:Bool}{e:cc}{hp:aC}{nx:Nat}{l:List Oper}(n:Nat)(h:(if c=true then A else B)=some r)(hc:pf e n=some (.con (.bool c)))
  (kt:c=true->A=some r->WG K Q (.o ops l::s) ⟨(n,.con (.bool true))::e,hp,nx⟩) (kf:c=false->B=some r->WG K Q (.o ops l::s) ⟨(n,.con (.bool false))::e,hp,nx⟩):
  WG K Q (.o ops l::s) ⟨e,hp,nx⟩:=by
 cases c with
 |true=>exact rL (.inr ⟨_,_,rfl⟩) (rx hc rfl) (kt rfl (by grind))
 |false=>exact rL (.inr ⟨_,_,rfl⟩) (rx hc rfl) (kf rfl (by grind))
theorem bO{A B:Option R}{c:Bool}{e:cc}{hp:aC}{nx:Nat}{x y:Code}{n:Nat}(h:(if c=true then A else B)=some r)(hc:pf e n=some (.con (.bool c)))
  (kt:c=true->A=some r->WG K Q (.c x::s) ⟨e,hp,nx⟩) (kf:c=false->B=some r->WG K Q (.c y::s) ⟨e,hp,nx⟩):
  WG K Q (.c (.cond (.tmp n) x y)::s) ⟨e,hp,nx⟩:=
 oQ c (dN hc) (fun hb=>kt hb (by grind)) (fun hb=>kf hb (by grind))
theorem eu{c:Bool}{e:cc}{hp:aC}{nx:Nat}{x y:Code}{n:Nat}(hc:pf e n=some (.con (.bool c)))
  (kt:c=true->WG K Q (.c x::s) ⟨e,hp,nx⟩) (kf:c=false->WG K Q (.c y::s) ⟨e,hp,nx⟩):WG K Q (.c (.cond (.tmp n) x y)::s) ⟨e,hp,nx⟩:=
 oQ c (dN hc) kt kf
theorem OJ{c b:Bool}{e:cc}{hp:aC}{nx:Nat}{l:List Oper}(n:Nat)(hb:c=b)(hc:pf e n=some (.con (.bool c)))(k:WG K Q (.o ops l::s) ⟨(n,.con (.bool b))::e,hp,nx⟩):
  WG K Q (.o ops l::s) ⟨e,hp,nx⟩:=rL (.inr ⟨_,_,rfl⟩) (rx hc hb) k
theorem fxC{c b:Bool}{e:cc}{hp:aC}{nx:Nat}{x:Code}(n:Nat)(hb:c=b)(hc:pf e n=some (.con (.bool c)))(k:WG K Q (.c x::s) ⟨(n,.con (.bool b))::e,hp,nx⟩):
  WG K Q (.c x::s) ⟨e,hp,nx⟩:=rL (.inl ⟨_,rfl⟩) (rx hc hb) k
def Jn{α:Type}(K:cR)(T:α->St)(G:α->Prop)(S:St):Prop:=∃p,G p/\aY K S (T p)
theorem jC{α:Type}{x:Code}(T:α->St)(G:α->Prop)(h:WG K Q (.c x::.j (Jn K T G)::s) S)(k:∀p,G p->WG K Q s (T p)):WG K Q (.c x::s) S:=by
 intro m β w a r;refine wpIn_mono (h m β w a r) ?_
 rintro e _ _ ⟨hp,S',m',β',q,r'⟩
 cases e with
 |normal=>
  obtain⟨p,hg,hgh⟩:=q;obtain⟨m2,β2,r2⟩:=hgh _ _ _ _ r';exact⟨Y,T p,m2,β2,k p hg,r2⟩
 |_=>exact⟨hp,S',m',β',q,r'⟩
theorem lC{α:Type}{x:Code}(T:α->St)(G:Nat->α->Prop)(h0:∀p,¬G 0 p)(n:Nat)(p:α)(h:G n p)(hg:aY K S (T p))
  (round:∀n p,G (n+1) p->WG K Q (.c x::.j (Jn K T (G n))::s) (T p)):WG K Q (.c (.loop x)::s) S:=by
 refine bd hg ?_
 clear hg
 induction n generalizing p with
 |zero=>grind
 |succ n ih=>
  refine yU ?_;intro m β w a r;refine wpIn_mono (round n p h m β w a r) ?_
  rintro e a' w' ⟨hp,S',m',β',q,r'⟩
  cases e with
  |normal=>
   obtain⟨p',hg,hgh⟩:=q;obtain⟨m2,β2,r2⟩:=hgh _ _ _ _ r';exact⟨Y,T p',m2,β2,ih p' hg,r2⟩
  |_=>exact⟨hp,S',m',β',q,r'⟩
end
end Go.Pv
