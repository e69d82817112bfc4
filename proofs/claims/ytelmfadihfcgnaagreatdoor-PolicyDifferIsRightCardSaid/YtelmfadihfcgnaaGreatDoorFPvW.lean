/- Part of the proof. -/
import Derived.Test.YtelmfadihfcgnaaGreatDoorFPvN
import Derived.Shelf.Sort.Plain
import Derived.Shelf.Slices.In.SortNone
import Derived.Stop.BytesEq
import Derived.Lib.Repeat
import Derived.Shelf.Strconv.Itoa3
set_option linter.unusedSimpArgs false
set_option linter.unusedVariables false
namespace Go.Pv
open Go
section
variable{K:dE}{Q:cG}{S:St}
variable{m:bZ}{β:bw}{w:World}{a:Act}
variable{ops:Array Oper}{rest:List Oper}{ty:TypeId}{pos:String}{after:Array Edge}{g:Option (Nat×Bool)}
theorem g7{d nx:Nat}{f:FuncId}{args:Array Operand}{at':Array TypeId}{k':Nat}{hp':aJ}{dc:V}(ids:List Nat)(hid:(ids.all fun i=>Nat.blt i nx&&Nat.ble K.pins i)=true)(hnx:S.nx=nx)
  (hres:∀i,i∈ids->ao S.hp i=.res) (dv:V) (avs:List V) (u:aJ) (hf:cP K.P f=true)
  (hw:aT ops S ⟨some d,.call ⟨.value (.func f),args,at'⟩,ty,pos,after,g⟩ true) (hN:Nat.blt d K.N=true) (ha:args.toList.map (cv K S)=avs)
  (hsub:iW (Ren 0 fun i=>i) avs avs) (hc:iH K.gl K.P f avs 0 [] dc k' hp') (hk:ids.length=k') (hτ:si k' (fun i=>ids.getD i 0)=true)
  (hdv:ap (To k' fun i=>ids.getD i 0) dv dc) (hu:me (To k' fun i=>ids.getD i 0) (fun i=>ids.getD i 0) hp' k' 0 u)
  (kk:aD K ops rest Q ⟨(d,dv)::S.env,u++S.hp,S.nx⟩):aD K ops (⟨some d,.call ⟨.value (.func f),args,at'⟩,ty,pos,after,g⟩::rest) Q S:=by
 subst hnx;have hall:=ap9.1 hid
 have hfree:∀i,(ids.any fun j=>Nat.beq i j)=true->i∈ids:=by
  intro i hi;obtain⟨j,hj,e⟩:=ca9.1 hi;rw[cd8 e];exact hj
 have hto:Ef 0 k' S.nx S.nx (fun i=>i) (fun i=>ids.getD i 0) (fun i=>ids.any fun j=>Nat.beq i j)=true:=by
  unfold Ef;rw[ap9];intro j hj;have hj':j<ids.length:=by rw[hk];exact ch9.1 hj
  have e:ids.getD j 0=ids[j]:=by rw[ch8,ax9 hj'];rfl
  have h1:=hall _ (az8 hj');simp only[ao8] at h1 ⊢;rw[e];refine⟨h1.1,?_⟩;rw[if_neg (by simp_all),ap8];exact .inr (ca9.2 ⟨_,az8 hj',Nat.beq_refl _⟩)
 exact ip (fun i=>i) (fun i=>ids.getD i 0) S.nx u (fun i=>ids.any fun j=>Nat.beq i j) hw Y hN (ri hf ha) hsub (bT.get .nil) hc
  (fun i hi=>hres i (hfree i hi)) hto hτ (ce8 (by omega)) (ce8 (ai8 _))
  (fun i hi=>by simp_all) hdv hu kk
theorem bF{d T T' e k bytes n n' id nx:Nat}{s x:Operand}{sv:V}{rows:List (List V)}(idn:Nat)(hid:(Nat.blt idn nx&&Nat.ble K.pins idn)=true)(hnxx:S.nx=nx)(hres:ao S.hp idn=.res)(rows2 rows':List (List V))(hT:eQ K.P T e k bytes=true)(hT':cZ K.P T'=true)
  (hpos:Nat.blt 0 bytes=true) (hkp:Nat.blt 0 k=true)
  (hw:aT ops S ⟨some d,.call ⟨.builtin .append,#[s,x],#[T,T']⟩,ty,pos,after,g⟩ true)
  (hs:cv K S s=.own id n) (ho:ao S.hp id=.arr e k rows) (hn:rows.length=n) (hx:cv K S x=sv) (hsrc:zo S k sv rows2)
  (hr:rows++rows2=rows') (hn':rows'.length=n') (hb:n'*bytes<=140737488355328) (hN:Nat.blt d K.N=true)
  (kk:aD K ops rest Q ⟨(d,.own idn n')::S.env,(idn,.arr e k rows')::(id,.dead)::S.hp,S.nx⟩):
  aD K ops (⟨some d,.call ⟨.builtin .append,#[s,x],#[T,T']⟩,ty,pos,after,g⟩::rest) Q S:=
 qq idn S.nx (fun _ _ _ _ r=>⟨r.free hres,fun q hq=>by have:=av8 (ce9.1 hid).2;omega⟩) (by simp_all) (ae9 _) rows2 rows' hT (o8 hT') hpos hkp hw hs ho hn hx hsrc hr hn' (.inl hb) hN kk
end
theorem NI{α:Type}{l:List α}{a:Nat}:(l.drop a).take (l.length - a)=l.drop a:=by rw[List.take_of_length_le];simp
theorem BC{α:Type}{l:List α}{b:Nat}:(l.drop 0).take (b - 0)=l.take b:=by simp
theorem GR{α β:Type}{f:α->β}{l:List α}{a:Nat}:((l.map f).drop a).take (l.length - a)=(l.drop a).map f:=by rw[List.take_of_length_le]<;>simp
theorem GQ{α β:Type}{f:α->β}{l:List α}{b:Nat}:((l.map f).drop 0).take (b - 0)=(l.take b).map f:=by simp
section
variable{K:dE}{Q:cG}{S:St}
variable{ops:Array Oper}{rest:List Oper}{ty:TypeId}{pos:String}{after:Array Edge}{g:Option (Nat×Bool)}
theorem sw{d:Nat}{T k e:TypeId}{x y:Operand}{good:Value->Prop}{kv zv:Value}{mv:V}{es:List (Value×V)}(res:Option V)(zd dv:V)(hT:fq K.P T k e=true)(hK:kX K.P k good)
  (hz:(K.P.info? e).bind (·.zero)=some zv) (hzd:∀m,ct m zd zv)
  (hw:aT ops S ⟨some d,.lookup T x y true,ty,pos,after,g⟩ true) (hx:cv K S x=mv) (hm:qt S mv es) (hy:iL K S y kv) (hg:good kv) (hges:∀p,p∈es->good p.1)
  (hl:jA kv es res) (hd:res.getD zd=dv) {b:Bool} (hb:res.isSome=b) (hN:Nat.blt d K.N=true)
  (kk:aD K ops rest Q (S.put d (.tup [dv,.con (.bool b)]))) (hdd:dv.deep=false:=by rfl):aD K ops (⟨some d,.lookup T x y true,ty,pos,after,g⟩::rest) Q S:=
 by grind [uO]
end
section
variable{K:dE}{Q:cG}{S:St}
theorem K5{c:Code}{α:Type}{k:Nat}{A:List α}{enc:α->List V}(t:Nat)(ht:get S.env t=.lst k (A.map enc))(h:A.length<=maxLen->jF K c Q S):jF K c Q S:=by
 intro m β w a r;refine h ?_ m β w a r;have:=r.env t;rw[ht] at this;generalize a.tmps.getD t undef=v at this;generalize hrows:A.map enc=rows at this;cases this with
 |imm h=>
  cases h<;>grind [List.length_map]
theorem IQ{c:Code}{α:Type}{e k:Nat}{A:List α}{enc:α->List V}(id:Nat)(ht:ao S.hp id=.arr e k (A.map enc))(h:A.length<=maxLen->jF K c Q S):jF K c Q S:=by
 intro m β w a r;refine h ?_ m β w a r;have:=r.own id;rw[ht] at this;generalize hrows:A.map enc=rows at this;cases hb:β id with
 |none=>simp_all[bI]
 |some l=>
  rw[hb] at this;cases l with
  |none=>
   have:rows=[]:=this
   simp_all
  |some p=>
   obtain⟨b,cap⟩:=p;obtain⟨arr,bl,h1,h2,h3,h4,_⟩:=this<;>grind
def RG{α:Type}(A:List α)(X:List α->Int->Prop)(n:Nat)(N:Int):Prop:=∃j:Nat,N=j/\j<=A.length/\A.length - j<n/\X (A.drop j) N
theorem RG.zero{α:Type}{A:List α}{X:List α->Int->Prop}{N:Int}:¬RG A X 0 N:=fun⟨_,_,_,h,_⟩=>by omega
theorem RG.start{α:Type}{A:List α}{X:List α->Int->Prop}(h:X A 0):RG A X (A.length+1) 0:=⟨0,rfl,ai8 _,by omega,h⟩
theorem CK{n:Nat}(h:n<=maxLen):IntKind.wrap .i64 (n:Int)=n:=by
 have h:n<=9223372036854775807:=h
 grind [IntKind.wrap,IntKind.bits]
theorem RG.t{α:Type}{A:List α}{X:List α->Int->Prop}{n:Nat}{N:Int}(hA:A.length<=maxLen)(h:RG A X (n+1) N)(hb:decide (N<((A.length:Nat):Int))=true):
  ∃x l,cH A N=some x/\X (x::l) N/\∀X':List α->Int->Prop,X' l (N+1)->RG A X' n (IntKind.wrap .i64 (N+1)):=by
 obtain⟨j,rfl,h1,h2,h3⟩:=h;have hj:j<A.length:=by have:=of_decide_eq_true hb;omega
 refine⟨A[j],A.drop (j+1),by simp[cH,hj],by simp_all,fun X' h=>?_⟩;have e:IntKind.wrap .i64 ((j:Int)+1)=((j+1:Nat):Int):=CK (n:=j+1) (by omega);rw[e];exact⟨j+1,rfl,hj,by omega,h⟩
theorem RG.f{α:Type}{A:List α}{X:List α->Int->Prop}{n:Nat}{N:Int}(h:RG A X (n+1) N)(hb:decide (N<((A.length:Nat):Int))=false):X [] N:=by
 obtain⟨j,rfl,h1,h2,h3⟩:=h<;>grind
def RC(B:Int)(X:Nat->Int->Prop)(n:Nat)(N:Int):Prop:=∃j:Nat,N=j/\j<=B.toNat/\B.toNat - j<n/\X (B.toNat - j) N
theorem RC.zero{B:Int}{X:Nat->Int->Prop}{N:Int}:¬RC B X 0 N:=fun⟨_,_,_,h,_⟩=>by omega
theorem RC.start{B:Int}{X:Nat->Int->Prop}(h:X B.toNat 0):RC B X (B.toNat+1) 0:=⟨0,rfl,ai8 _,by omega,h⟩
theorem RC.t{B:Int}{X:Nat->Int->Prop}{n:Nat}{N:Int}(hB:B<=9223372036854775807)(h:RC B X (n+1) N)(hb:decide (N<B)=true):
  ∃l,X (l+1) N/\∀X':Nat->Int->Prop,X' l (N+1)->RC B X' n (IntKind.wrap .i64 (N+1)):=by
 obtain⟨j,rfl,h1,h2,h3⟩:=h;have hj:j<B.toNat:=by have:=of_decide_eq_true hb;omega
 refine⟨B.toNat - (j+1),by grind,fun X' h=>?_⟩;have e:IntKind.wrap .i64 ((j:Int)+1)=((j+1:Nat):Int):=CK (n:=j+1) (by grind [maxLen]);rw[e];exact⟨j+1,rfl,hj,by omega,h⟩
theorem RC.f{B:Int}{X:Nat->Int->Prop}{n:Nat}{N:Int}(h:RC B X (n+1) N)(hb:decide (N<B)=false):X 0 N:=by
 obtain⟨j,rfl,h1,h2,h3⟩:=h<;>simp_all
end
end Go.Pv
namespace Go.Pv
open Go Go.RowKit
theorem uj{m:bZ}{w w':World}(hm:∀(b:Nat) o,m b=some o->w.heap[b]? = some o)(h:Below w.heap.size w w')(hd:True):vR m m w w':=
 ⟨bZ.le_refl _,fun b o hb=>by rw[h.block b (cq (hm b o hb))];grind,fun _ _=>rfl,h.block,h.size,⟨h.os,h.tape,h.output,hd⟩⟩
theorem ET{m:bZ}{vs:Array Value}:∀{l:List Value},vl m (l.map V.con) vs->vs=l.toArray:=by
 intro l h;apply Array.ext
 ·have:=h.len;grind
 ·intro i h1 h2;have:=h.at' i (.con (l[i]'(by grind))) vs[i] (by grind) (by simp[h1]);generalize vs[i]=x at this ⊢;cases this;simp
theorem tK{gl:Gl}{P:Program}{f:FuncId}{l:List Value}{d:V}{v:Value}(h:∀w,Calls P f l.toArray w fun e w'=>e=.returned v/\Below w.heap.size w w'/\True)(hd:∀m,ct m d v):ek gl P f (l.map V.con) d:=by
 intro m w vs himm _ hargs;obtain rfl:=ET hargs;refine(h w).mono ?_
 rintro e w' ⟨rfl,hb,hdr⟩
 exact⟨v,m,Y,hd m,uj himm hb hdr⟩
theorem Eo{gl:Gl}{P:Program}{f:FuncId}{l:List Value}{d:V}{v:Value}(h:∀w,Calls P f l.toArray w fun e w'=>e=.returned v/\w'=w)(hd:∀m,ct m d v):ek gl P f (l.map V.con) d:=
 tK (fun w=>(h w).mono (by rintro e w' ⟨rfl,rfl⟩;exact⟨rfl,Below.refl _ _,trivial⟩)) hd
open Go.Sort in
theorem rO{α:Type}[Inhabited α](enc:α->Value)(w:World)(n blk off:Nat)(d:Array α)(os:Array Obj)(b:Nat)(hb:b<w.heap.size):
  (grow (putRow enc (Sort.ahead w n) blk off d) os).heap[b]? = if blk=b then (w.heap[b]?).map (onCells (putCells enc off d)) else w.heap[b]?:=by
 unfold grow putRow mapBlock Sort.ahead
 grind
open Go.Sort in
theorem ws{gl:Gl}{P:Program}{f:FuncId}{k id:Nat}{hp:aJ}{e:TypeId}{α:Type}[Inhabited α](enc:α->Value)(h1c:∀x,(enc x).oneCell'=true)(l l':List α)(hid:ao hp id=.arr e 1 (l.map fun x=>[V.con (enc x)]))(hl:l'.length=l.length)
  (h:∀(w:World) (blk off cap:Nat),Holds enc w blk off l.toArray->blk<w.heap.size->Calls P f #[.slice (some ⟨blk,off,none⟩) l.length cap] w fun e w'=>
   e=.returned (.tuple #[])/\∃n os,w'=grow (putRow enc (Sort.ahead w n) blk off l'.toArray) os)
  (hn:∀(w:World) (a:Option Addr),l=[]->Calls P f #[.slice a 0 0] w fun e w'=>e=.returned (.tuple #[])/\Below w.heap.size w w'/\True):
  iH gl P f [.own id l.length] k hp (.tup []) k ((id,.arr e 1 (l'.map fun x=>[V.con (enc x)]))::hp):=by
 intro m β w vs himm _ hargs hown hpriv hinj hhid hnx
 obtain⟨v,rfl⟩:∃v,vs=#[v]:=by
  have:=hargs.len;simp at this
  exact⟨vs[0],by
   grind⟩
 have hv:=hargs.at' 0 _ _ rfl rfl;have hob:=hown id;rw[hid] at hob;have hg:∀q,ao ((id,Ob.arr e 1 (l'.map fun x=>[V.con (enc x)]))::hp) q=if id=q then Ob.arr e 1 (l'.map fun x=>[V.con (enc x)]) else ao hp q:=fun q=>ar _ _ _ _
 have hlive:∀q,ao ((id,Ob.arr e 1 (l'.map fun x=>[V.con (enc x)]))::hp) q≠.dead->ao hp q≠.dead:=fun q hq=>by
  grind
 have hhids:∀(w':World),w.heap.size<=w'.heap.size->∀q x,ao ((id,Ob.arr e 1 (l'.map fun x=>[V.con (enc x)]))::hp) q≠.dead->β.hid q x->x<w'.heap.size/\m x=none/\(x<w.heap.size->¬dQ hp β x)/\
   (∀i b c,ao ((id,Ob.arr e 1 (l'.map fun x=>[V.con (enc x)]))::hp) i≠.dead->β i=some (some (b,c))->x≠b)/\∀i,ao ((id,Ob.arr e 1 (l'.map fun x=>[V.con (enc x)]))::hp) i≠.dead->β.hid i x->i=q:=by
  intro w' hs q x hq hx;obtain⟨q1,q2,q3,q4⟩:=hhid q x (hlive q hq) hx;exact⟨by omega,q2,fun _ hF=>(hF q (hlive q hq)).2 hx,fun i b c hi=>q3 i b c (hlive i hi),fun i hi=>q4 i (hlive i hi)⟩
 generalize hnl:l.length=n at hv h;cases hv with
 |imm h'=>cases h'
 | @ownNil _ ad hb=>
  have hl0:l=[]:=aw8.1 hnl;subst hl0;have hl':l'=[]:=aw8.1 (by grind);subst hl';refine(hn w ad Y).mono ?_
  rintro ex w' ⟨rfl,hB,hdr⟩
  have hheap:∀b,b<w.heap.size->w'.heap[b]? = w.heap[b]?:=hB.block;refine⟨_,m,β,Y,.tup Y (by simp),bZ.le_refl _,fun b o hb=>by grind,fun b hb _=>⟨Y,hheap b hb⟩,hB.size,⟨hB.os,hB.tape,hB.output,hdr⟩,fun q=>?_,fun q b cap hq hbq=>?_,fun q q' b cap cap' hq hq'=>hinj q q' b cap cap' (hlive q hq) (hlive q' hq'),hhids w' hB.size,hnx,fun q hq=>⟨hq,Y⟩⟩
  ·grind [bI.dead',bI.congr,gY]
  ·have hq:=hlive q hq;exact⟨hpriv q b cap hq hbq,fun _ hF=>(hF q hq).1 cap hbq⟩
 | @own _ _ b cap hb=>
  rw[hb] at hob;obtain⟨arr,bl,o1,o2,o3,o4,o5,oB,o6⟩:=hob;have hbs:b<w.heap.size:=cq o1
  have hcell:∀j (hj:j<l.length),arr[cap.off+j]? = some (enc l[j]):=fun j hj=>by
   obtain⟨v,v1,v2,_⟩:=o6 j 0 [V.con (enc l[j])] (V.con (enc l[j])) (by grind) rfl;have:=(v2.v rfl).of_con
   grind
  refine(h w b cap.off cap.n (fun j hj=>?_) hbs).mono ?_
  ·grind [cL,World.frozen?]
  rintro ex w' ⟨rfl,nd,os,rfl⟩
  have hheap:=rO enc w nd b cap.off l'.toArray os;have hother:∀b',b'<w.heap.size->b'≠b->(grow (putRow enc (Sort.ahead w nd) b cap.off l'.toArray) os).heap[b']? = w.heap[b']?:=fun b' h1 h2=>by grind
  have hlid:ao hp id≠.dead:=by rw[hid];simp
  have hsz:w.heap.size<=(grow (putRow enc (Sort.ahead w nd) b cap.off l'.toArray) os).heap.size:=by simp[grow,putRow,mapBlock,Sort.ahead]
  refine⟨_,m,β,Y,.tup Y (by simp),bZ.le_refl _,fun b' o hb'=>?_,fun b' hb' hF=>⟨Y,hother b' hb' (fun e=>?_)⟩,hsz,⟨Y,Y,Y,trivial⟩,fun q=>?_,fun q b' cap' hq hbq=>?_,fun q q' b1 cap1 cap2 hq hq'=>hinj q q' b1 cap1 cap2 (hlive q hq) (hlive q' hq'),hhids _ hsz,hnx,fun q hq=>⟨hq,Y⟩⟩
  ·grind
  ·subst e;exact(hF id hlid).1 cap hb
  ·rw[hg];split
   ·rename_i hh;subst hh;rw[hb];refine⟨putCells enc cap.off l'.toArray arr,bl,by rw[hheap b hbs,if_pos rfl,o1];rfl,by simp[putCells,o2],by grind,o4,?_,oB,fun i j row c hr hc=>?_⟩
    ·grind
    ·rw[ax8] at hr;cases hli:l'[i]? with
     |none=>grind
     |some x=>
      rw[hli] at hr;simp at hr;subst hr;have hi:i<l'.length:=(ba8.1 hli).1;have hx:l'[i]=x:=(ba8.1 hli).2
      have hj:j=0:=by
       have:=(ba8.1 hc).1;simp at this;exact this
      subst hj;simp at hc;subst hc;have ha:cap.off+i<arr.size:=by simp at o3;omega
      refine⟨enc x,?_,.inl (.imm (.con _)),h1c x⟩;rw[Nat.mul_one,bc8];unfold putCells
      grind
   grind [bI.dead',bI.congr,gY]
  ·have hq:=hlive q hq;exact⟨hpriv q b' cap' hq hbq,fun _ hF=>(hF q hq).1 cap' hbq⟩
open Go.Sort in
theorem HA{gl:Gl}{P:Program}{f:FuncId}{k id:Nat}{hp:aJ}{e:TypeId}(l l':List Int)(hid:ao hp id=.arr e 1 (l.map fun x=>[V.con (.int .i64 x)]))(hl:l'.length=l.length)
  (h:∀(w:World) (blk off cap:Nat),Holds (Value.int .i64) w blk off l.toArray->blk<w.heap.size->Calls P f #[.slice (some ⟨blk,off,none⟩) l.length cap] w fun e w'=>
   e=.returned (.tuple #[])/\∃n os,w'=grow (putRow (Value.int .i64) (Sort.ahead w n) blk off l'.toArray) os)
  (hn:∀(w:World) (a:Option Addr),l=[]->Calls P f #[.slice a 0 0] w fun e w'=>e=.returned (.tuple #[])/\Below w.heap.size w w'/\True):
  iH gl P f [.own id l.length] k hp (.tup []) k ((id,.arr e 1 (l'.map fun x=>[V.con (.int .i64 x)]))::hp):=ws (Value.int .i64) (fun _=>rfl) l l' hid hl h hn
theorem pZ{id:Nat}{a b:Ob}(q:Nat):ao [(id,b)] q=ao ((id,b)::[(id,a)]) q:=by
 simp_all[ar]
theorem iH.heap{gl:Gl}{P:Program}{f:FuncId}{args:List V}{k k':Nat}{hp hp' hp'':aJ}{d:V}(h:iH gl P f args k hp d k' hp')(he:∀q,ao hp'' q=ao hp' q):iH gl P f args k hp d k' hp'':=by
 intro m β w vs a1 a2 a3 a4 a5 a6 a7 a8;refine(h m β w vs a1 a2 a3 a4 a5 a6 a7 a8).mono ?_
 rintro e w' ⟨v,m',β',e1,e2,A⟩
 refine⟨v,m',β',e1,e2,⟨A.le,A.imm,A.old,A.size,A.same,fun id=>by rw[he];exact A.own id,fun id b cap hl=>A.priv id b cap (by grind),fun id id' b c c' hl hl'=>A.inj id id' b c c' (by grind) (by grind),
  fun id x hl hx=>let q:=A.hid id x (by grind) hx;⟨q.1,q.2.1,q.2.2.1,fun i b c hi=>q.2.2.2.1 i b c (by grind),fun i hi=>q.2.2.2.2 i (by grind)⟩,A.nx,A.pin⟩⟩
def wC(l:List Int):List Int:=l.mergeSort fun x y=>decide (x<=y)
section
variable{K:dE}{Q:cG}{S:St}
variable{ops:Array Oper}{rest:List Oper}{ty:TypeId}{pos:String}{after:Array Edge}{g:Option (Nat×Bool)}
theorem jq{d T e k bytes:Nat}{x:Operand}{n:Int}{zs:List Value}{ln:Nat}(rows:List (List V))(hT:eQ K.P T e k bytes=true)(hz:zeroCells K.P e=some zs)
  (h1:zs.all (·.oneCell')=true) (hk:Nat.blt 0 k=true) (h0:0<=n/\(bytes:Int)*n<=140737488355328/\n<=140737488355328) (hr:rows=List.replicate n.toNat (zs.map V.con)) (hln:ln=n.toNat) (hw:aT ops S ⟨some d,.makeSlice T x x,ty,pos,after,g⟩ true)
  (hx:cv K S x=.con (.int .i64 n)) (hN:Nat.blt d K.N=true)
  (kk:aD K ops rest Q ⟨(d,.own S.nx ln)::S.env,(S.nx,.arr e k rows)::S.hp,S.nx+1⟩):
  aD K ops (⟨some d,.makeSlice T x x,ty,pos,after,g⟩::rest) Q S:=by
 subst hr hln;refine cJ hw (fun m β w a r=>?_) kk;have hk:=av8 hk;obtain⟨i,z,hu,hi,hs,hby,hzz,hzk⟩:=fC hT
 have hzs:zs=z.cells.toList:=by
  have:zeroCells K.P e=some z.cells.toList:=by simp[zeroCells,hi,hzz]
  rw[hz] at this;exact ah8 this
 have hzl:zs.length=k:=by rw[hzs];simp[hzk]
 have hrun:=run_make (P:=K.P) w T e i z hu hi hzz .i64 .i64 n n h0.1 (Int.le_refl _) (by grind) (by omega)
 obtain⟨β',hle,hnx,r2⟩:=r.alloc (.cells (madeCells z.cells (n.toNat*i.size)) e (0,0)) (.arr e k (List.replicate n.toNat (zs.map V.con))) ⟨n.toNat,0⟩ _ rfl (fun β' hle=>by
  refine eG (vs:=madeCells z.cells (n.toNat*i.size)) (by simp) (by rw[size_madeCells,hs]) (by simp) (by grind [maxLen]) (fun row hrow=>by grind) ?_;intro p j row c hp hj;have hpn:p<n.toNat:=by have:=(ba8.1 hp).1;simpa using this
  have hrow:row=zs.map V.con:=by
   have:=(ba8.1 hp).2;rw[List.getElem_replicate] at this;exact this.symm
  subst hrow;rw[ax8] at hj;cases hzj:zs[j]? with
  |none=>grind
  |some v=>
   rw[hzj] at hj;simp at hj;subst hj;have hjk:j<k:=by have:=(ba8.1 hzj).1;omega
   have hv:zs[j]'(by omega)=v:=(ba8.1 hzj).2;refine⟨v,?_,.imm (.con _),ap9.1 h1 v (aw9 hzj)⟩
   have hlt:p*k+j<n.toNat*i.size:=by
    rw[hs];have:(p+1)*k<=n.toNat*k:=bc9 k hpn;rw[Nat.succ_mul] at this;omega
   unfold madeCells;rw[bw9,Array.getElem?_range,if_pos hlt,ay8,hzk,an9,Nat.mul_add_mod,Nat.mod_eq_of_lt hjk,getElem!_pos _ j (by omega)]
   grind)
 refine⟨.slice (some ⟨w.heap.size,0,none⟩) n.toNat n.toNat,_,m,β',.inl ?_,cw.put r2 hN (.own hnx)⟩;simp only[execOp];rw[Sem.run_bind];have hxv:=r.con hx
 simp_all
theorem ql{d T e k bytes nx:Nat}{x:Operand}{n:Int}{zs:List Value}{ln:Nat}(id:Nat)(hid:(Nat.blt id nx&&Nat.ble K.pins id)=true)(hnx0:S.nx=nx)(hres:ao S.hp id=.res)(rows:List (List V))(hT:eQ K.P T e k bytes=true)(hz:zeroCells K.P e=some zs)
  (h1:zs.all (·.oneCell')=true) (hk:Nat.blt 0 k=true) (h0:0<=n/\(bytes:Int)*n<=140737488355328/\n<=140737488355328) (hr:rows=List.replicate n.toNat (zs.map V.con)) (hln:ln=n.toNat) (hw:aT ops S ⟨some d,.makeSlice T x x,ty,pos,after,g⟩ true)
  (hx:cv K S x=.con (.int .i64 n)) (hN:Nat.blt d K.N=true)
  (kk:aD K ops rest Q ⟨(d,.own id ln)::S.env,(id,.arr e k rows)::S.hp,S.nx⟩):
  aD K ops (⟨some d,.makeSlice T x x,ty,pos,after,g⟩::rest) Q S:=by
 subst hr hln;refine cJ hw (fun m β w a r=>?_) kk;have hk:=av8 hk;obtain⟨i,z,hu,hi,hs,hby,hzz,hzk⟩:=fC hT
 have hzs:zs=z.cells.toList:=by
  have:zeroCells K.P e=some z.cells.toList:=by simp[zeroCells,hi,hzz]
  rw[hz] at this;exact ah8 this
 have hzl:zs.length=k:=by rw[hzs];simp[hzk]
 have hrun:=run_make (P:=K.P) w T e i z hu hi hzz .i64 .i64 n n h0.1 (Int.le_refl _) (by grind) (by omega)
 obtain⟨β',hle,hnx,r2⟩:=r.allocAt id (by simp_all) (av8 (ce9.1 hid).2) hres (.cells (madeCells z.cells (n.toNat*i.size)) e (0,0)) (.arr e k (List.replicate n.toNat (zs.map V.con))) ⟨n.toNat,0⟩ _ rfl (fun β' hle=>by
  refine eG (vs:=madeCells z.cells (n.toNat*i.size)) (by simp) (by rw[size_madeCells,hs]) (by simp) (by grind [maxLen]) (fun row hrow=>by grind) ?_;intro p j row c hp hj;have hpn:p<n.toNat:=by have:=(ba8.1 hp).1;simpa using this
  have hrow:row=zs.map V.con:=by
   have:=(ba8.1 hp).2;rw[List.getElem_replicate] at this;exact this.symm
  subst hrow;rw[ax8] at hj;cases hzj:zs[j]? with
  |none=>grind
  |some v=>
   rw[hzj] at hj;simp at hj;subst hj;have hjk:j<k:=by have:=(ba8.1 hzj).1;omega
   have hv:zs[j]'(by omega)=v:=(ba8.1 hzj).2;refine⟨v,?_,.imm (.con _),ap9.1 h1 v (aw9 hzj)⟩
   have hlt:p*k+j<n.toNat*i.size:=by
    rw[hs];have:(p+1)*k<=n.toNat*k:=bc9 k hpn;rw[Nat.succ_mul] at this;omega
   unfold madeCells;rw[bw9,Array.getElem?_range,if_pos hlt,ay8,hzk,an9,Nat.mul_add_mod,Nat.mod_eq_of_lt hjk,getElem!_pos _ j (by omega)]
   grind)
 refine⟨.slice (some ⟨w.heap.size,0,none⟩) n.toNat n.toNat,_,m,β',.inl ?_,cw.put r2 hN (.own hnx)⟩;simp only[execOp];rw[Sem.run_bind];have hxv:=r.con hx
 simp_all
end
end Go.Pv
namespace Go.Pv
open Go
section
variable{K:dE}{Q:cG}{S:St}{ops:Array Oper}{rest:List Oper}{ty:TypeId}{pos:String}{after:Array Edge}{g:Option (Nat×Bool)}
def SJ(n:Int):List V:=[V.con (.int .u8 n)]
def sJ(P:Program)(T:TypeId):Bool:=
 match P.underlying T with|some (.slice e)=>(match P.underlying e with|some (.int .u8)=>true|_=>false)|_=>false
theorem zA{P:Program}{T:TypeId}(h:sJ P T=true):∃e,P.underlying T=some (.slice e)/\P.underlying e=some (.int .u8):=by
 grind [sJ]
theorem vJ{d:Nat}{x:Operand}{src dst:TypeId}(xs:List Int)(hs:sJ K.P src=true)(hd:kA K.P dst=true)
  (hw:aT ops S ⟨some d,.convert src dst x,ty,pos,after,g⟩ true) (hx:cv K S x=.lst 1 (xs.map SJ)) (hN:Nat.blt d K.N=true)
  (kk:aD K ops rest Q (S.put d (.con (str (xs.map fun n=>UInt8.ofNat n.toNat))))):aD K ops (⟨some d,.convert src dst x,ty,pos,after,g⟩::rest) Q S:=
 bi _ hw hN (fun m β w a r=>by
  obtain⟨e,h1,h2⟩:=zA hs;have h:=r.reads x;rw[hx] at h;refine⟨.string ⟨(xs.map fun n=>UInt8.ofNat n.toNat).toArray⟩,?_,.imm (.con _)⟩;generalize hxs:xs.map SJ=rows at h;generalize hv:a.eval x=v at h;simp only[execOp,hv];refine bH ?_;cases h with
  |imm h=>
   cases h with
   |nil _ ad cap=>
    have:xs=[]:=by simpa using hxs
    subst this;rw[run_convert_bytes_string w src dst e ad 0 cap h1 h2 (kz hd)];cases ad with
    |none=>simp[Conv.bytesToString];rfl
    |some ad=>
     rw[run_bytesToString w ad 0 cap [] (by simpa using run_loadCells_list (P:=K.P) w ad [] (by simp))];rfl
   | @lst _ _ ad n cap arr T' fr f hm hsp hn hcap hbd hk hf hc=>
    have hlen:xs.length=n:=by rw[<-hn,<-hxs];simp
    rw[ju hsp]
    have:=run_convert_bytes_arg (P:=K.P) w src e h1 h2 ad.block ad.off n cap xs hlen (fun i hi=>by
     have hi':i<xs.length:=by omega
     have h3:=hf i (by omega);have h4:=hc i 0 (SJ xs[i]) (V.con (.int .u8 xs[i])) (by grind) rfl
     have h5:f i=.int .u8 xs[i]:=by
      have:i*1+0=i:=by omega
      rw[this] at h4;exact(bP.imm (β:=β) h4).of_con
     have h6:=r.imm _ _ hm
     grind [cL]) dst (kz hd)
    rw[this];rfl) kk
end
section
variable{K:dE}{Q:cG}{S:St}{ops:Array Oper}{rest:List Oper}{ty:TypeId}{pos:String}{after:Array Edge}{g:Option (Nat×Bool)}
end
inductive It where
 |c (x:Code)
 |b (id:Nat)
 |o (ops:Array Oper) (l:List Oper)
 |j (J:St->Prop)
def post(K:dE)(Q:cG):List It->cG
 |[]=>Q
 | .c x::s=>Gm K x (post K Q s)
 | .b id::s=>yx id (post K Q s)
 | .o ops l::s=>fun e S=>match e with | .normal=>aD K ops l (post K Q s) S|e=>post K Q s e S
 | .j J::s=>fun e S=>match e with | .normal=>J S|e=>post K Q s e S
def WG(K:dE)(Q:cG)(s:List It)(S:St):Prop:=post K Q s .normal S
section
variable{K:dE}{Q:cG}{S S':St}{s s':List It}
theorem jj:∀{s:List It},Q .ret S->post K Q s .ret S
 |[],h=>h
 | .c _::s,h=>jj (s:=s) h
 | .b _::s,h=>jj (s:=s) h
 | .o _ _::s,h=>jj (s:=s) h
 | .j _::s,h=>jj (s:=s) h
def F5(i:Nat):List It->Option (List It)
 |[]=>none
 | .b k::s=>bif Nat.beq i k then some s else F5 i s
 | .c _::s=>F5 i s
 | .o _ _::s=>F5 i s
 | .j _::s=>F5 i s
theorem tj{i:Nat}:∀{s s':List It},F5 i s=some s'->WG K Q s' S->post K Q s (.exit i) S
 |[],_,h,_=>by simp[F5] at h
 | .b k::s,s',h,q=>by
  simp only[F5] at h
  show post K Q (.b k::s) (.exit i) S
  simp only[post,yx];cases hb:Nat.beq i k with
  |true=>
   rw[hb] at h;simp only[cond_true,av9] at h;subst h;rw[if_pos (cd8 hb)];exact q
  |false=>
   simp_all[cg8,tj]
 | .c x::s,s',h,q=>tj (s:=s) (by grind [F5]) q
 | .o _ _::s,s',h,q=>tj (s:=s) (by grind [F5]) q
 | .j _::s,s',h,q=>tj (s:=s) (by grind [F5]) q
def F9(P:Program)(T f:Nat):Bool:=
 match P.underlying T with|some (.struct fs)=>(match fs[f]? with|some fl=>tm P fl.type|none=>false)|_=>false
def R1(P:Program)(T:Nat):Bool:=match P.underlying T with|some .bool=>true|_=>false
def RZ(P:Program)(T:Nat)(k:IntKind):Bool:=match P.underlying T with|some (.int k')=>decide (k'=k)|_=>false
def RY(P:Program)(T:Nat):Bool:=match P.underlying T with|some _=>true|_=>false
def gG{α:Type}:Nat->List α->Bool
 |0,[]=>true
 |n+1,_::l=>gG n l
 |_,_=>false
theorem eU{α:Type}:∀{n:Nat} {l:List α},gG n l=true->l.length=n
 |0,[],_=>rfl
 |n+1,_::l,h=>by rw[br8,eU (n:=n) (l:=l) h]
 |0,_::_,h=>by simp[gG] at h
 |n+1,[],h=>by simp[gG] at h
inductive TF where
 |A (n:Nat)
 |C
 |F (f off:Nat)
 |FC (f:Nat)
 |S (n:Nat)
 |Sl (k:Nat)
 |Sn
 |Str
 |Z (n:Nat) (zs:List Value)
 |Pl (ps:List (Nat×Nat))
 |Arr (len s:Nat)
 |El (e k bytes:Nat)
 |B
 |I (k:IntKind)
 |U
 |Fn
 |AA (n k e:Nat)
 |AC (n e:Nat)
 |Cn
 |M (name:String) (f:Nat)
 |Mn
 |R (n:Nat)
def zz(P:Program)(T:Nat):Bool:=match P.underlying T with|some (.map _ _)=>true|_=>false
def TF.ok(P:Program)(T:Nat):TF->Prop
 | .A n=>Bv P T n=true
 | .C=>tm P T=true
 | .F f off=>J1 P T f off=true
 | .FC f=>F9 P T f=true
 | .S n=>Mo P T n=true
 | .Sl k=>oC P T k=true
 | .Sn=>cZ P T=true
 | .Str=>kA P T=true
 | .Z n zs=>zeroCells P T=some zs/\(gG n zs&&zs.all (·.oneCell'))=true
 | .Pl ps=>kB P T=some ps
 | .Arr len s=>oL P T len s=true
 | .El e k bytes=>eQ P T e k bytes=true
 | .B=>R1 P T=true
 | .I k=>RZ P T k=true
 | .U=>RY P T=true
 | .Fn=>cP P T=true
 | .AA n k e=>o9 P T n k e=true
 | .AC n e=>qK P T n e=true
 | .Cn=>P.concrete T=true
 | .M name f=>(∀(v:Value) (args:Array Value) (w:World),(callMethod (.iface T v) name args).run P w=.ok (.enter f (#[v]++args)) w)/\∀(v:Value) (w:World),(nilAhead (P.types.size+Made.depth) T v name).run P w=.ok (some false) w
 | .Mn=>zz P T=true
 | .R _=>True
abbrev TT:=List (Nat×List TF)
def dm(P:Program)(t:TT):Prop:=∀p,p∈t->∀f,f∈p.2->TF.ok P p.1 f
class TC (K:dE) (t:outParam TT):Prop where
 h:dm K.P t
def TF.okB(P:Program)(T:Nat):TF->Bool
 | .A n=>Bv P T n
 | .C=>tm P T
 | .F f off=>J1 P T f off
 | .FC f=>F9 P T f
 | .S n=>Mo P T n
 | .Sl k=>oC P T k
 | .Sn=>cZ P T
 | .Str=>kA P T
 | .Z n zs=>gG n zs&&zs.all (·.oneCell')
 | .Pl ps=>decide (kB P T=some ps)
 | .Arr len s=>oL P T len s
 | .El e k bytes=>eQ P T e k bytes
 | .B=>R1 P T
 | .I k=>RZ P T k
 | .U=>RY P T
 | .Fn=>cP P T
 | .AA n k e=>o9 P T n k e
 | .AC n e=>qK P T n e
 | .Cn=>P.concrete T
 | .M _ _=>true
 | .Mn=>zz P T
 | .R _=>true
def zP(P:Program)(t:TT):List (Option (List Value)×Option (List Value)):=t.flatMap fun p=>p.2.filterMap fun f=>match f with | .Z _ zs=>some (zeroCells P p.1,some zs)|_=>none
def mP(t:TT):List (Nat×TF):=t.flatMap fun p=>p.2.filterMap fun f=>match f with | .M s n=>some (p.1,.M s n)|_=>none
def SA(P:Program):List (Nat×TF)->Prop
 |[]=>True
 |p::l=>TF.ok P p.1 p.2/\SA P l
theorem Df{P:Program}:∀{l:List (Nat×TF)},SA P l->∀p,p∈l->TF.ok P p.1 p.2
 |_::_,h,p,hp=>(aq9.1 hp).elim (fun e=>e ▸ h.1) (Df h.2 p)
theorem Ij{α:Type}:∀{l:List (α×α)},l.map (·.1)=l.map (·.2)->∀p,p∈l->p.1=p.2
 |a::l,h,p,hp=>by
  simp only[bh9,bv9] at h;exact(aq9.1 hp).elim (fun e=>e ▸ h.1) (Ij h.2 p)
theorem P6{P:Program}{t:TT}(hB:(t.all fun p=>p.2.all (TF.okB P p.1))=true)(hZ:(zP P t).map (·.1)=(zP P t).map (·.2))(hM:SA P (mP t)):dm P t:=fun p hp f hf=>by
 have h:=ap9.1 (ap9.1 hB p hp) f hf;cases f with
 |Z n zs=>exact⟨Ij hZ (zeroCells P p.1,some zs) (ac8.2 ⟨p,hp,List.mem_filterMap.2 ⟨_,hf,rfl⟩⟩),h⟩
 |M s n=>exact Df hM (p.1,.M s n) (ac8.2 ⟨p,hp,List.mem_filterMap.2 ⟨_,hf,rfl⟩⟩)
 |Pl ps=>exact of_decide_eq_true (p:=kB P p.1=some ps) h
 |R n=>trivial
 |_=>exact h
def lk{α:Type}:List (Nat×α)->Nat->Option α
 |[],_=>none
 |(k,v)::l,t=>bif Nat.beq k t then some v else lk l t
theorem mJ{α:Type}:∀{l:List (Nat×α)} {t:Nat} {v:α},lk l t=some v->(t,v)∈l
 |(k,v')::l,t,v,h=>by
  simp only[lk] at h;cases hb:Nat.beq k t with
  |true=>rw[hb] at h;simp at h;subst h;rw[cd8 hb];exact bz9
  |false=>rw[hb] at h;simp at h;exact bs8 _ (mJ h)
def sj{α:Type}(p:TF->Option α):List TF->Option α
 |[]=>none
 |f::l=>match p f with|some a=>some a|none=>sj p l
theorem Dp{α:Type}{p:TF->Option α}:∀{l:List TF} {a:α},sj p l=some a->∃f,f∈l/\p f=some a
 |f::l,a,h=>by
  simp only[sj] at h;split at h
  ·rename_i b hb;simp at h;subst h;exact⟨f,bz9,hb⟩
  ·obtain⟨f',h1,h2⟩:=Dp h;exact⟨f',bs8 _ h1,h2⟩
def dV{α:Type}(t:TT)(T:Nat)(p:TF->Option α):Option α:=match lk t T with|some l=>sj p l|none=>none
theorem dN{P:Program}{α:Type}{t:TT}(ht:dm P t){T:Nat}{p:TF->Option α}{a:α}(h:dV t T p=some a):∃f,p f=some a/\TF.ok P T f:=by
 unfold dV at h;split at h
 ·rename_i l hl;obtain⟨f,h1,h2⟩:=Dp h;exact⟨f,h2,ht _ (mJ hl) _ h1⟩
 grind
def TF.qA:TF->Option Nat | .A n=>some n|_=>none
def TF.qC:TF->Option Unit | .C=>some ()|_=>none
def TF.qF(f:Nat):TF->Option Nat | .F f' off=>bif Nat.beq f' f then some off else none|_=>none
def TF.qFC(f:Nat):TF->Option Unit | .FC f'=>bif Nat.beq f' f then some () else none|_=>none
def TF.qS:TF->Option Nat | .S n=>some n|_=>none
def TF.qSl:TF->Option Nat | .Sl n=>some n|_=>none
def TF.qSn:TF->Option Unit | .Sn=>some ()|_=>none
def TF.qStr:TF->Option Unit | .Str=>some ()|_=>none
def TF.qZ:TF->Option (Nat×List Value) | .Z n zs=>some (n,zs)|_=>none
def TF.qPl:TF->Option (List (Nat×Nat)) | .Pl ps=>some ps|_=>none
def TF.qArr:TF->Option (Nat×Nat) | .Arr l s=>some (l,s)|_=>none
def TF.qEl:TF->Option (Nat×Nat×Nat) | .El e k b=>some (e,k,b)|_=>none
def TF.qB:TF->Option Unit | .B=>some ()|_=>none
def TF.qI:TF->Option IntKind | .I k=>some k|_=>none
def TF.qU:TF->Option Unit | .U=>some ()|_=>none
def TF.qAA:TF->Option (Nat×Nat×Nat) | .AA n k e=>some (n,k,e)|_=>none
def TF.qAC:TF->Option (Nat×Nat) | .AC n e=>some (n,e)|_=>none
def TF.qFn:TF->Option Unit | .Fn=>some ()|_=>none
def TF.qCn:TF->Option Unit | .Cn=>some ()|_=>none
def TF.qM(name:String):TF->Option Nat | .M nm f=>(match decide (nm=name) with|true=>some f|false=>none)|_=>none
def TF.qR:TF->Option Nat | .R n=>some n|_=>none
def TF.qMn:TF->Option Unit | .Mn=>some ()|_=>none
section
variable{P:Program}{t:TT}{T:Nat}
theorem K8(ht:dm P t){n:Nat}(h:dV t T TF.qA=some n):Bv P T n=true:=by
 obtain⟨f,h1,h2⟩:=dN ht h;cases f<;>simp[TF.qA] at h1;subst h1;exact h2
theorem K7(ht:dm P t){n:Unit}(h:dV t T TF.qC=some n):tm P T=true:=by
 obtain⟨f,h1,h2⟩:=dN ht h;cases f<;>simp[TF.qC] at h1;exact h2
theorem OB(ht:dm P t){n f:Nat}(h:dV t T (TF.qF f)=some n):J1 P T f n=true:=by
 obtain⟨f',h1,h2⟩:=dN ht h;cases f'<;>simp_all[TF.qF];rename_i g off;cases hb:Nat.beq g f with
 |true=>rw[hb] at h1;simp at h1;subst h1;rw[<-cd8 hb];exact h2
 |false=>grind
theorem Q9(ht:dm P t){n:Unit}{f:Nat}(h:dV t T (TF.qFC f)=some n):F9 P T f=true:=by
 obtain⟨f',h1,h2⟩:=dN ht h;cases f'<;>simp_all[TF.qFC];rename_i g;cases hb:Nat.beq g f with
 |true=>rw[<-cd8 hb];exact h2
 |false=>grind
theorem Oz(ht:dm P t){n:Nat}(h:dV t T TF.qS=some n):Mo P T n=true:=by
 obtain⟨f,h1,h2⟩:=dN ht h;cases f<;>simp[TF.qS] at h1;subst h1;exact h2
theorem AM(ht:dm P t){n:Nat}(h:dV t T TF.qSl=some n):oC P T n=true:=by
 obtain⟨f,h1,h2⟩:=dN ht h;cases f<;>simp[TF.qSl] at h1;subst h1;exact h2
theorem kV(ht:dm P t){n:Unit}(h:dV t T TF.qSn=some n):cZ P T=true:=by
 obtain⟨f,h1,h2⟩:=dN ht h;cases f<;>simp[TF.qSn] at h1;exact h2
theorem yB(ht:dm P t){n:Unit}(h:dV t T TF.qStr=some n):kA P T=true:=by
 obtain⟨f,h1,h2⟩:=dN ht h;cases f<;>simp[TF.qStr] at h1;exact h2
theorem yA(ht:dm P t){n:Nat}{zs:List Value}(h:dV t T TF.qZ=some (n,zs)):zeroCells P T=some zs/\zs.length=n/\zs.all (·.oneCell')=true:=by
 obtain⟨f,h1,h2⟩:=dN ht h;cases f<;>simp[TF.qZ] at h1;obtain⟨rfl,rfl⟩:=h1;obtain⟨h3,h4⟩:=h2;simp only[ao8] at h4
 grind [eU]
theorem Q7(ht:dm P t){n:List (Nat×Nat)}(h:dV t T TF.qPl=some n):kB P T=some n:=by
 obtain⟨f,h1,h2⟩:=dN ht h;cases f<;>simp[TF.qPl] at h1;subst h1;exact h2
theorem IS(ht:dm P t){l k:Nat}(h:dV t T TF.qArr=some (l,k)):oL P T l k=true:=by
 obtain⟨f,h1,h2⟩:=dN ht h;cases f<;>simp[TF.qArr] at h1;obtain⟨rfl,rfl⟩:=h1;exact h2
theorem mj(ht:dm P t){e k b:Nat}(h:dV t T TF.qEl=some (e,k,b)):eQ P T e k b=true:=by
 obtain⟨f,h1,h2⟩:=dN ht h;cases f<;>simp[TF.qEl] at h1;obtain⟨rfl,rfl,rfl⟩:=h1;exact h2
theorem Rd(ht:dm P t){n k e:Nat}(h:dV t T TF.qAA=some (n,k,e)):o9 P T n k e=true:=by
 obtain⟨f,h1,h2⟩:=dN ht h;cases f<;>simp[TF.qAA] at h1;obtain⟨rfl,rfl,rfl⟩:=h1;exact h2
theorem Rc(ht:dm P t){n e:Nat}(h:dV t T TF.qAC=some (n,e)):qK P T n e=true:=by
 obtain⟨f,h1,h2⟩:=dN ht h;cases f<;>simp[TF.qAC] at h1;obtain⟨rfl,rfl⟩:=h1;exact h2
theorem Q8(ht:dm P t){n:Unit}(h:dV t T TF.qFn=some n):cP P T=true:=by
 obtain⟨f,h1,h2⟩:=dN ht h;cases f<;>simp[TF.qFn] at h1;exact h2
theorem Ra(ht:dm P t){n:Unit}(h:dV t T TF.qCn=some n):P.concrete T=true:=by
 obtain⟨f,h1,h2⟩:=dN ht h;cases f<;>simp[TF.qCn] at h1;exact h2
theorem MR(ht:dm P t){n:Unit}(h:dV t T TF.qMn=some n):zz P T=true:=by
 obtain⟨f,h1,h2⟩:=dN ht h;cases f<;>simp[TF.qMn] at h1;exact h2
theorem OA(ht:dm P t){name:String}{n:Nat}(h:dV t T (TF.qM name)=some n):(∀(v:Value) (args:Array Value) (w:World),(callMethod (.iface T v) name args).run P w=.ok (.enter n (#[v]++args)) w)/\∀(v:Value) (w:World),(nilAhead (P.types.size+Made.depth) T v name).run P w=.ok (some false) w:=by
 obtain⟨f,h1,h2⟩:=dN ht h;cases f<;>simp_all[TF.qM];split at h1
 ·rename_i hd;simp only[av9] at h1;subst h1;rw[<-of_decide_eq_true hd];exact h2
 grind
theorem Rb(ht:dm P t){n:Unit}(h:dV t T TF.qB=some n):P.underlying T=some .bool:=by
 obtain⟨f,h1,h2⟩:=dN ht h;cases f<;>simp[TF.qB] at h1;have h3:R1 P T=true:=h2
 grind [R1]
theorem SS(ht:dm P t){k:IntKind}(h:dV t T TF.qI=some k):P.underlying T=some (.int k):=by
 obtain⟨f,h1,h2⟩:=dN ht h;cases f<;>simp[TF.qI] at h1;subst h1;have h3:RZ P T _=true:=h2
 grind [RZ]
theorem SR(ht:dm P t){n:Unit}(h:dV t T TF.qU=some n):∃d,P.underlying T=some d:=by
 obtain⟨f,h1,h2⟩:=dN ht h;cases f<;>simp[TF.qU] at h1;have h3:RY P T=true:=h2
 grind [RY]
end
def qE:cE->Nat->Option V
 |[],_=>none
 |(k,v)::e,t=>bif Nat.beq k t then some v else qE e t
def rj:aJ->Nat->Option Ob
 |[],_=>none
 |(k,v)::e,t=>bif Nat.beq k t then some v else rj e t
def Ag(e:cE)(S:St):Prop:=∀t v,qE e t=some v->get S.env t=v
def JF(hp:aJ)(S:St):Prop:=∀t v,rj hp t=some v->ao S.hp t=v
theorem eu:∀{e:cE} {t:Nat} {v:V},qE e t=some v->get e t=v
 |[],t,v,h=>by simp[qE] at h
 |(k,x)::e,t,v,h=>by
  simp only[qE] at h;simp only[get];cases hb:Nat.beq k t with
  |true=>rw[hb] at h;simpa using h
  |false=>rw[hb] at h;simp at h;simpa using eu h
theorem gk:∀{e:aJ} {t:Nat} {v:Ob},rj e t=some v->ao e t=v
 |[],t,v,h=>by simp[rj] at h
 |(k,x)::e,t,v,h=>by
  simp only[rj] at h;simp only[ao];cases hb:Nat.beq k t with
  |true=>rw[hb] at h;simpa using h
  |false=>rw[hb] at h;simp at h;simpa using gk h
theorem yP:Ag S.env S:=fun _ _ h=>eu h
theorem SW:JF S.hp S:=fun _ _ h=>gk h
def eX(e:cE):Operand->Option V
 | .tmp t=>qE e t
 | .const v=>some (.con v)
 | .func f=>some (.fn (.func f) [] [])
 | .global _=>none
theorem bd{e:cE}(ha:Ag e S){x:Operand}{v:V}(h:eX e x=some v):cv K S x=v:=by
 cases x with
 |tmp t=>exact ha _ _ h
 |const v=>grind [eX,cv]
 |func f=>grind [eX,cv]
 |global g=>simp[eX] at h
def KM(e:cE):List Operand->Option (List V)
 |[]=>some []
 |x::l=>match eX e x with|some v=>(match KM e l with|some r=>some (v::r)|none=>none)|none=>none
theorem ux{e:cE}(ha:Ag e S):∀{l:List Operand} {vs:List V},KM e l=some vs->l.map (cv K S)=vs
 |[],vs,h=>by grind [KM]
 |x::l,vs,h=>by
  simp only[KM] at h;split at h
  ·rename_i v hv;split at h
   ·rename_i r hr;simp at h;subst h;simp[bd ha hv,ux ha hr]
   ·simp at h
  ·simp at h
def MO(e:cE):List (Nat×Operand)->Option (List (Nat×V))
 |[]=>some []
 |(i,x)::l=>match eX e x with|some v=>(match MO e l with|some r=>some ((i,v)::r)|none=>none)|none=>none
theorem uw{e:cE}(ha:Ag e S):∀{l:List (Nat×Operand)} {vs:List (Nat×V)},MO e l=some vs->l.map (fun p=>(p.1,cv K S p.2))=vs
 |[],vs,h=>by grind [MO]
 |(i,x)::l,vs,h=>by
  simp only[MO] at h;split at h
  ·rename_i v hv;split at h
   ·rename_i r hr;simp at h;subst h;simp[bd ha hv,uw ha hr]
   grind
  grind
def E7{α:Type}:List α->Option (List α)
 |[]=>some []
 |x::l=>match E7 l with|some r=>some (x::r)|none=>none
theorem kg{α:Type}:∀{l r:List α},E7 l=some r->l=r
 |[],r,h=>by simpa[E7] using h
 |x::l,r,h=>by
  simp only[E7] at h;split at h
  ·rename_i q hq;simp at h;subst h;rw[kg hq]
  ·simp at h
def mK{α:Type}:List α->Nat->Option α
 |[],_=>none
 |x::l,n=>match n with|0=>some x|n+1=>mK l n
theorem fw{α:Type}:∀{l:List α} {n:Nat} {x:α},mK l n=some x->l[n]? = some x
 |x::l,0,y,h=>by simpa[mK] using h
 |x::l,n+1,y,h=>by simpa[mK] using fw (l:=l) (n:=n) (by simpa[mK] using h)
 |[],_,y,h=>by simp[mK] at h
def PQ{α:Type}:Nat->List α->Option (List α)
 |0,l=>some l
 |n+1,l=>match l with|_::l=>PQ n l|[]=>none
def PH{α:Type}:Nat->List α->Option (List α)
 |0,_=>some []
 |n+1,l=>match l with|x::l=>(match PH n l with|some r=>some (x::r)|none=>none)|[]=>none
theorem Iq{α:Type}:∀{n:Nat} {l r:List α},PQ n l=some r->l.drop n=r
 |0,l,r,h=>by simpa[PQ] using h
 |n+1,x::l,r,h=>by simpa using Iq (n:=n) (l:=l) (by simpa[PQ] using h)
 |n+1,[],r,h=>by simp[PQ] at h
theorem Gi{α:Type}:∀{n:Nat} {l r:List α},PH n l=some r->l.take n=r/\r.length=n
 |0,l,r,h=>by simp_all[PH]
 |n+1,x::l,r,h=>by
  simp only[PH] at h;split at h
  ·rename_i q hq;simp at h;subst h;obtain⟨h1,h2⟩:=Gi hq;simp[h1,h2]
  ·simp at h
 |n+1,[],r,h=>by simp[PH] at h
def cut(row:List V)(o n:Nat):Option (List V):=
 bif Nat.beq o 0&&gG n row then some row else match PQ o row with|some r=>PH n r|none=>none
theorem mV{row cs:List V}{o n:Nat}(h:cut row o n=some cs):(row.drop o).take n=cs/\cs.length=n:=by
 unfold cut at h;cases hb:Nat.beq o 0&&gG n row with
 |true=>
  rw[hb] at h;simp at h;subst h;simp only[ao8] at hb
  grind [Nat.eq_of_beq_eq_true,eU]
 |false=>
  rw[hb] at h;simp only[cond_false] at h
  grind [Iq,Gi]
def M6:V->Option (List V)
 | .agg cs=>some cs
 | .con v=>some [.con v]
 | .lst k r=>some [.lst k r]
 | .iptr r o=>some [.iptr r o]
 | .imap e=>some [.imap e]
 | .fn f a b=>some [.fn f a b]
 | .ptr a b c d=>some [.ptr a b c d]
 | .own a b=>some [.own a b]
 | .map a=>some [.map a]
 |_=>none
theorem th{v:V}{cs:List V}(h:M6 v=some cs):dR v=cs:=by
 cases v<;>simp[M6] at h<;>simp[dR,h]
def AY:List V->Bool
 |[]=>true
 |x::l=>bif dL x then AY l else false
theorem ox:∀{l:List V},AY l=true->l.all dL=true
 |[],_=>rfl
 |x::l,h=>by
  simp only[AY] at h;cases hb:dL x with
  |true=>rw[hb] at h;simp[hb,ox (by simpa using h)]
  |false=>rw[hb] at h;simp at h
def mC(b:ByteArray):B8:=b.data.toList
theorem hO(b:ByteArray):str (mC b)=.string b:=by simp_all[mC]
def SQ(t:TT)(op:BinOp)(T:Nat):V->V->Option V
 | .con x,.con y=>
  match x,y with
  | .int k a,.int k' b=>(match K2 op (.int k a) (.int k' b) with|some v=>some (.con v)|none=>none)
  | .string a,.string b=>(match op with | .add=>none|op=>(match IJ op (mC a) (mC b) with|some v=>some (.con v)|none=>none))
  | .bool a,.bool b=>(match dV t T TF.qB with
   |some _=>(match op with | .eql=>some (.con (.bool (a==b))) | .neq=>some (.con (.bool (a != b)))|_=>none)
   |none=>none)
  | .slice none 0 0,.slice none 0 0=>(match dV t T TF.qSn with
   |some _=>(match op with | .eql=>some (.con (.bool true)) | .neq=>some (.con (.bool false))|_=>none)
   |none=>none)
  |_,_=>none
 |_,_=>none
def EQ(t:TT)(T:Nat)(row:List V)(o:Nat):Option V:=
 match dV t T TF.qA with
 |some n=>(match cut row o n with|some cs=>(match xO cs with|true=>some (.agg cs)|false=>none)|none=>none)
 |none=>match dV t T TF.qC with|some _=>(match mK row o with|some c=>(match c.deep with|false=>some c|true=>none)|none=>none)|none=>none
def ap1(b:Builtin)(t:TT)(T:Nat):V->Option V
 | .con x=>
  match x with
  | .string s=>(match b with | .len=>(match dV t T TF.qStr with|some _=>some (.con (.int .i64 (mC s).length))|none=>none)|_=>none)
  | .slice _ n _=>(match b with | .len=>(match dV t T TF.qSn with|some _=>some (.con (.int .i64 n))|none=>none)|_=>none)
  |_=>none
 | .own _ n=>(match b with | .len=>(match dV t T TF.qSn with|some _=>some (.con (.int .i64 n))|none=>none)|_=>none)
 |_=>none
def ap2(b:Builtin):V->V->Option V
 | .con x,.con y=>
  match x,y with
  | .int k n,.int k' n'=>(match decide (k=k') with
   |true=>(match b with | .min=>some (.con (.int k (if n'<n then n' else n))) | .max=>some (.con (.int k (if n'>n then n' else n)))|_=>none)
   |false=>none)
  |_,_=>none
 |_,_=>none
def val(t:TT)(e:cE)(hp:aJ):Op->Option V
 | .move x=>eX e x
 | .assign x=>eX e x
 | .pick c x y=>(match eX e c with
  |some (.con (.bool b))=>(match b with|true=>eX e x|false=>eX e y)
  |_=>none)
 | .binOp op T x y _=>(match eX e x with|some a=>(match eX e y with|some b=>SQ t op T a b|none=>none)|none=>none)
 | .unOp op _ x=>(match eX e x with
  |some (.con (.bool b))=>(match op with | .not=>some (.con (.bool (!b)))|_=>none)
  |some (.con (.int k n))=>(match op with | .neg=>some (.con (.int k (k.wrap (0 - n))))|_=>none)
  |_=>none)
 | .extract x i=>(match eX e x with|some (.tup vs)=>mK vs i|_=>none)
 | .load T x=>(match eX e x with
  |some (.iptr row o)=>EQ t T row o
  |some (.ptr id k i o)=>(match rj hp id with
   |some (.arr _ k2 rows)=>(match Nat.beq k k2 with|true=>(match mK rows i with|some row=>EQ t T row o|none=>none)|false=>none)
   |_=>none)
  |_=>none)
 | .fieldAddr T x f=>(match dV t T (TF.qF f) with
  |some off=>(match eX e x with|some (.ptr id k i o)=>some (.ptr id k i (o+off))|some (.iptr row o)=>some (.iptr row (o+off))|_=>none)
  |none=>none)
 | .field T x f=>(match dV t T (TF.qF f) with
  |some off=>(match dV t T (TF.qFC f) with|some _=>(match eX e x with|some (.agg cs)=>mK cs off|_=>none)|none=>none)
  |none=>none)
 | .build T parts=>(match dV t T TF.qZ with
  |some (_,zs)=>(match dV t T TF.qPl with
   |some pls=>(match MO e parts.toList with
    |some ps=>(match jR (fun i=>pls[i]?) (zs.map .con) ps with
     |some cs=>(match E7 cs with|some cs=>some (.agg cs)|none=>none)
     |none=>none)
    |none=>none)
   |none=>none)
  |none=>none)
 | .makeFunc fn first caps=>(match fn with
  | .func f=>(match first.toList with|[]=>(match KM e caps.toList with|some cs=>some (.fn (.func f) [] cs)|none=>none)|_=>none)
  |_=>none)
 | .convert src dst x=>(match dV t dst TF.qI with
  |some k=>(match dV t src TF.qU with|some _=>(match eX e x with|some (.con (.int _ n))=>some (.con (.int k (k.wrap n)))|_=>none)|none=>none)
  |none=>none)
 | .nilCheck x=>(match eX e x with|some (.ptr a b c d)=>some (.ptr a b c d)|some (.iptr a b)=>some (.iptr a b)|_=>none)
 | .indexAddr T x y=>(match dV t T TF.qArr with
  |some (len,k)=>(match eX e x with
   |some (.ptr id a i o)=>(match eX e y with
    |some (.con (.int _ n))=>(match n with
     | .ofNat j=>(match Nat.blt j len with|true=>some (.ptr id a i (o+j*k))|false=>none)
     |_=>none)
    |_=>none)
   |_=>none)
  |none=>none)
 | .call c=>(match c.callee with
  | .builtin b=>(match c.args.toList,c.argTypes.toList with
   |[x],[T]=>(match eX e x with|some v=>ap1 b t T v|none=>none)
   |[x,y],[_,_]=>(match eX e x with|some v=>(match eX e y with|some u=>ap2 b v u|none=>none)|none=>none)
   |_,_=>none)
  |_=>none)
 |_=>none
end
section
variable{K:dE}{Q:cG}{S S':St}{s s':List It}{ops:Array Oper}{rest:List Oper}{op:Op}{ty:TypeId}{pos:String}{after:Array Edge}{g:Option (Nat×Bool)}{t:TT}
theorem Ox(ht:dm K.P t){bop:BinOp}{T T':TypeId}{x y:Operand}{a b v:V}{d:Nat}(h:SQ t bop T a b=some v)(hx:cv K S x=a)(hy:cv K S y=b)
  (hw:aT ops S ⟨some d,.binOp bop T x y T',ty,pos,after,g⟩ true) (hN:Nat.blt d K.N=true) (k:aD K ops rest Q (S.put d v)):aD K ops (⟨some d,.binOp bop T x y T',ty,pos,after,g⟩::rest) Q S:=by
 unfold SQ at h;split at h
 ·split at h
  ·grind [IY]
  ·grind [ow,hO]
  ·split at h
   ·rename_i hB;split at h
    ·simp at h;subst h;exact AV false hw (Rb ht hB) hx hy hN k
    ·simp at h;subst h;exact AV true hw (Rb ht hB) hx hy hN k
    grind
   grind
  ·split at h
   ·rename_i hB;split at h
    ·simp at h;subst h;exact rS false (kV ht hB) hw hx hy hN k
    ·simp at h;subst h;exact rS true (kV ht hB) hw hx hy hN k
    grind
   grind
  grind
 grind
theorem sU{t:TT}{T o:Nat}{row:List V}{v:V}{n:Nat}(hn:dV t T TF.qA=some n)(h:EQ t T row o=some v):∃cs,v=.agg cs/\cut row o n=some cs/\xO cs=true:=by
 grind [EQ]
theorem pW{t:TT}{T o:Nat}{row:List V}{v:V}(hn:dV t T TF.qA=none)(h:EQ t T row o=some v):dV t T TF.qC=some ()/\mK row o=some v/\v.deep=false:=by
 grind [EQ]
theorem QA(ht:dm K.P t){T:TypeId}{x:Operand}{row:List V}{o:Nat}{v:V}{d:Nat}(h:EQ t T row o=some v)(hx:cv K S x=.iptr row o)
  (hw:aT ops S ⟨some d,.load T x,ty,pos,after,g⟩ true) (hN:Nat.blt d K.N=true) (k:aD K ops rest Q (S.put d v)):aD K ops (⟨some d,.load T x,ty,pos,after,g⟩::rest) Q S:=by
 cases hn:dV t T TF.qA with
 |some n=>
  obtain⟨cs,rfl,hc,_⟩:=sU hn h;exact uS (K8 ht hn) hw hx (mV hc).1 (mV hc).2 hN k
 |none=>
  obtain⟨hq,hc,_⟩:=pW hn h<;>grind [sA,K7,fw]
theorem Mz(ht:dm K.P t){T e:TypeId}{x:Operand}{id k i:Nat}{rows:List (List V)}{row:List V}{o:Nat}{v:V}{d:Nat}(h:EQ t T row o=some v)(hx:cv K S x=.ptr id k i o)
  (ho:ao S.hp id=.arr e k rows) (hr:rows[i]? = some row)
  (hw:aT ops S ⟨some d,.load T x,ty,pos,after,g⟩ true) (hN:Nat.blt d K.N=true) (kk:aD K ops rest Q (S.put d v)):aD K ops (⟨some d,.load T x,ty,pos,after,g⟩::rest) Q S:=by
 cases hn:dV t T TF.qA with
 |some n=>
  obtain⟨cs,rfl,hc,hd⟩:=sU hn h;exact cY (K8 ht hn) hw hx ho hr (mV hc).1 (mV hc).2 hd hN kk
 |none=>
  obtain⟨hq,hc,hd⟩:=pW hn h<;>grind [e8,K7,fw]
theorem J0{P:Program}{T f:Nat}(h:F9 P T f=true):∃fs fl,P.underlying T=some (.struct fs)/\fs[f]? = some fl/\tm P fl.type=true:=by
 grind [F9]
theorem fJ{α:Type}{a:Array α}{x:α}(h:a.toList=[x]):a=#[x]:=by grind
theorem dZ{α:Type}{a:Array α}{x y:α}(h:a.toList=[x,y]):a=#[x,y]:=by grind
theorem jf{α:Type}{a:Array α}(h:a.toList=[]):a=#[]:=by grind
theorem Br(ht:dm K.P t){e:cE}{hp:aJ}(ha:Ag e S)(hh:JF hp S){v:V}{d:Nat}(h:val t e hp op=some v)(hw:aT ops S ⟨some d,op,ty,pos,after,g⟩ true)(hN:Nat.blt d K.N=true)
  (k:aD K ops rest Q (S.put d v)):aD K ops (⟨some d,op,ty,pos,after,g⟩::rest) Q S:=by
 cases op with
 |move x=>exact Fo v hw (bd ha h) hN k
 |assign x=>exact AW v hw (bd ha h) hN k
 |pick c x y=>
  simp only[val] at h;split at h
  ·rename_i b hc;cases b with
   |true=>exact wN true v hw (bd ha hc) rfl (bd ha h) hN k
   |false=>exact wN false v hw (bd ha hc) rfl (bd ha h) hN k
  grind
 |binOp bop T x y T'=>
  grind [val,Ox,bd]
 |unOp uop T x=>
  grind [val,IU,bd,IV]
 |extract x i=>
  grind [val,yJ,bd,fw]
 |load T x=>
  simp only[val] at h;split at h
  ·grind [QA,bd]
  ·rename_i id kk i o hx;split at h
   ·rename_i e k2 rows ho;split at h
    ·rename_i hk;have hk:=cd8 hk;subst hk;split at h
     ·rename_i row hr;exact Mz ht h (bd ha hx) (hh _ _ ho) (fw hr) hw hN k
     grind
    grind
   grind
  grind
 |fieldAddr T x f=>
  simp only[val] at h;split at h
  ·rename_i off hF;split at h
   ·rename_i hx;simp at h;subst h;exact uU (OB ht hF) hw (bd ha hx) hN k
   ·rename_i hx;simp at h;subst h;exact sB (OB ht hF) hw (bd ha hx) hN k
   grind
  grind
 |field T x f=>
  simp only[val] at h;split at h
  ·rename_i off hF;split at h
   ·rename_i hFC;split at h
    ·rename_i cs hx;exact AR v (OB ht hF) (J0 (Q9 ht hFC)) hw (bd ha hx) (fw h) hN k
    grind
   grind
  grind
 |build T parts=>
  simp only[val] at h;split at h
  ·rename_i n zs hz;split at h
   ·rename_i pls hp;split at h
    ·rename_i ps hps;split at h
     ·rename_i cs hf;split at h
      ·rename_i cs' hc;simp at h;subst h;have hc:=kg hc;subst hc;exact Cs ps cs (yA ht hz).1 (Q7 ht hp) (yA ht hz).2.2 hw (uw ha hps) hf hN k
      grind
     grind
    grind
   grind
  grind
 |makeFunc fn first caps=>
  simp only[val] at h
  grind [jf,vI,ux]
 |convert src dst x=>
  simp only[val] at h;split at h
  ·rename_i kk hI;split at h
   ·rename_i hU;split at h
    ·rename_i hx;simp at h;subst h;exact yL (SS ht hI) (SR ht hU) hw (bd ha hx) hN k
    grind
   grind
  grind
 |nilCheck x=>
  grind [val,qk,bd,pi]
 |indexAddr T x y=>
  simp only[val] at h;split at h
  ·rename_i len kk hA;split at h
   ·rename_i hx;split at h
    ·rename_i hy;split at h
     ·split at h
      ·rename_i j hb;simp at h;subst h;have:=av8 hb;exact nb (IS ht hA) hw (bd ha hx) (bd ha hy) (by simp) (Nat.lt_of_succ_le this) hN k
      grind
     grind
    grind
   grind
  grind
 |call c=>
  obtain⟨callee,args,at'⟩:=c;simp only[val] at h;split at h
  ·rename_i b;split at h
   ·rename_i x T h1 h2;have h1:=fJ h1;have h2:=fJ h2;subst h1;subst h2;split at h
    ·rename_i a ha';have ha':=bd (K:=K) ha ha';unfold ap1 at h;split at h
     ·split at h
      ·grind [Fp,yB,hO]
      ·split at h
       ·split at h
        ·rename_i hS;simp at h;subst h;exact uQ (kV ht hS) hw ha' Y hN k
        grind
       grind
      grind
     ·split at h
      ·split at h
       ·rename_i hS;simp at h;subst h;exact uQ (kV ht hS) hw ha' Y hN k
       grind
      grind
     grind
    grind
   ·rename_i x y T T' h1 h2;have h1:=dZ h1;have h2:=dZ h2;subst h1;subst h2;split at h
    ·rename_i a ha';split at h
     ·rename_i b' hb;have ha':=bd (K:=K) ha ha';have hb:=bd (K:=K) ha hb;unfold ap2 at h;split at h
      ·split at h
       ·split at h
        ·rename_i hk;have hk:=of_decide_eq_true hk
         grind [IW,IX]
        grind
       grind
      grind
     grind
    grind
   grind
  grind
 |_=>simp[val] at h
def wt(ops:Array Oper)(e:cE):Option (Nat×Bool)->Option Bool
 |none=>some true
 |some (j,want)=>
  match ops[j]? with
  |some o=>(match o.dst with
   |some t=>(match qE e t with
    |some (.con v)=>(match v with
     | .bool c=>(match c with|true=>some want|false=>(match want with|true=>some false|false=>some true))
     | .tuple a=>(match a.toList with|[]=>some false|_=>none)
     |_=>none)
    |_=>none)
   |none=>none)
  |none=>none
theorem jL{e:cE}(ha:Ag e S){o:Oper}{b:Bool}(h:wt ops e o.guard=some b):aT ops S o b:=by
 unfold aT;generalize o.guard=gd at h;cases gd with
 |none=>simp_all[wt]
 |some p=>
  obtain⟨j,want⟩:=p;simp only[wt] at h;split at h
  ·rename_i o' ho;split at h
   ·rename_i t htt;refine⟨t,by grind,?_⟩;split at h
    ·rename_i v hv;have hv:=ha _ _ hv;cases v with
     |bool c=>
      left
      cases c<;>cases want<;>simp at h<;>subst h<;>grind
     |tuple a=>
      simp only at h;split at h
      ·rename_i hl;have hl:=jf hl;subst hl;simp at h
       right;exact⟨hv,h⟩
      grind
     |_=>simp at h
    grind
   grind
  grind
def R3(t:TT)(e:cE)(hp:aJ):Op->Option (Nat×Ob)
 | .store T x y=>(match dV t T TF.qS with
  |some n=>(match eX e x with
   |some (.ptr id k i off)=>(match rj hp id with
    |some (.arr ty k2 rows)=>(match Nat.beq k k2,i,rows with
     |true,0,[row]=>(match eX e y with
      |some v=>(match M6 v with
       |some cs=>(match gG n cs&&AY cs&&Nat.ble (off+n) row.length with
        |true=>(match E7 (row.take off++cs++row.drop (off+n)) with|some row'=>some (id,.arr ty k [row'])|none=>none)
        |false=>none)
       |none=>none)
      |none=>none)
     |_,_,_=>none)
    |_=>none)
   |_=>none)
  |none=>none)
 |_=>none
theorem GO(ht:dm K.P t){e:cE}{hp:aJ}(ha:Ag e S)(hh:JF hp S){id:Nat}{ob:Ob}(h:R3 t e hp op=some (id,ob))(hw:aT ops S ⟨none,op,ty,pos,after,g⟩ true)
  (k:aD K ops rest Q ⟨S.env,(id,ob)::S.hp,S.nx⟩):aD K ops (⟨none,op,ty,pos,after,g⟩::rest) Q S:=by
 unfold R3 at h;split at h
 ·split at h
  ·rename_i n hn;split at h
   ·rename_i hx;split at h
    ·rename_i ho;split at h
     ·rename_i hk;have hk:=cd8 hk;subst hk;split at h
      ·rename_i v hy;split at h
       ·rename_i cs hc;split at h
        ·rename_i hb;simp only[ao8] at hb;have hl:=eU hb.1.1;subst hl;split at h
         ·rename_i row' hr;have hr:=kg hr;simp at h;obtain⟨rfl,rfl⟩:=h;exact gM cs _ (Oz ht hn) hw (bd ha hx) (bd ha hy) (th hc) (ox hb.1.2) (hh _ _ ho) Y hb.2 (by grind) k
         grind
        grind
       grind
      grind
     grind
    grind
   grind
  grind
 grind
def one(t:TT)(N:Nat)(ops:Array Oper)(o:Oper):St->Option St
 |⟨e,hp,nx⟩=>
  match wt ops e o.guard with
  |none=>none
  |some b=>(match b with
   |false=>(match o.dst with|some d=>(match Nat.blt d N with|true=>some ⟨(d,.con undef)::e,hp,nx⟩|false=>none)|none=>none)
   |true=>(match o.dst with
    |some d=>(match Nat.blt d N with
     |false=>none
     |true=>(match o.op with
      | .alloc T=>(match dV t T TF.qZ with
       |some (n,zs)=>(match E7 (zs.map V.con) with|some cs=>some ⟨(d,.ptr nx n 0 0)::e,(nx,.arr T n [cs])::hp,nx+1⟩|none=>none)
       |none=>none)
      | .box T x=>(match dV t T TF.qS with
       |some n=>(match eX e x with
        |some v=>(match M6 v with
         |some cs=>(match gG n cs&&AY cs with|true=>some ⟨(d,.ptr nx n 0 0)::e,(nx,.arr T n [cs])::hp,nx+1⟩|false=>none)
         |none=>none)
        |none=>none)
       |none=>none)
      | .makeMap _ r=>(match r with|none=>some ⟨(d,.map nx)::e,(nx,.map [])::hp,nx+1⟩|some _=>none)
      |op=>(match val t e hp op with|some v=>some ⟨(d,v)::e,hp,nx⟩|none=>none)))
    |none=>(match R3 t e hp o.op with|some (id,ob)=>some ⟨e,(id,ob)::hp,nx⟩|none=>none)))
theorem Hf(ht:dm K.P t){o:Oper}(h:one t K.N ops o S=some S')(k:aD K ops rest Q S'):aD K ops (o::rest) Q S:=by
 have ha:Ag S.env S:=yP;have hh:JF S.hp S:=SW;obtain⟨e,hp,nx⟩:=S;simp only at ha hh;simp only[one] at h;split at h
 ·simp at h
 ·rename_i hw;have hw:=jL ha hw;split at h
  ·split at h
   ·rename_i d hd;split at h
    ·rename_i hN;simp at h;subst h;exact ry hw hd hN k
    grind
   grind
  ·obtain⟨dst,op,ty,pos,after,g⟩:=o;cases dst with
   |some d=>
    simp only at h;split at h
    ·simp at h
    ·rename_i hN;split at h
     ·split at h
      ·rename_i n zs hz;obtain⟨z1,z2,z3⟩:=yA ht hz;split at h<;>simp_all[kg,Ct]
      grind
     ·split at h
      ·split at h
       ·rename_i hv;split at h
        ·rename_i cs hc;split at h
         ·rename_i hb;simp only[ao8] at hb;simp at h;subst h;have hl:=eU hb.1;subst hl;exact eD cs hw (bd ha hv) (th hc) (ox hb.2) hN k
         grind
        grind
       grind
      grind
     ·grind [yF]
     ·split at h
      ·rename_i v hv;simp at h;subst h;exact Br ht ha hh hv hw hN k
      grind
   |none=>
    grind [GO]
def GN(t:TT)(N:Nat):List It->St->Option (List It×St)
 | .c x::s,S=>
  (match x with
  | .seq x y=>some (.c x::.c y::s,S)
  | .skip=>some (s,S)
  | .scope x=>some (.c x::s,S)
  | .label _=>some (s,S)
  | .block id x=>some (.c x::.b id::s,S)
  | .region _ ops draw=>(match draw with|false=>some (.o ops ops.toList::s,S)|true=>none)
  | .exit i=>(match F5 i s with|some s'=>some (s',S)|none=>none)
  | .cond c x y=>(match S with
   |⟨e,hp,nx⟩=>(match eX e c with
    |some (.con v)=>(match v with | .bool b=>(match b with|true=>some (.c x::s,⟨e,hp,nx⟩)|false=>some (.c y::s,⟨e,hp,nx⟩))|_=>none)
    |_=>none))
  |_=>none)
 | .b _::s,S=>some (s,S)
 | .o ops l::s,S=>(match l with|[]=>some (s,S)|o::l=>(match one t N ops o S with|some S'=>some (.o ops l::s,S')|none=>none))
 |_,_=>none
theorem GM(ht:dm K.P t)(h:GN t K.N s S=some (s',S'))(k:WG K Q s' S'):WG K Q s S:=by
 match s,h with
 |[],h=>simp[GN] at h
 | .j _::s,h=>simp[GN] at h
 | .b id::s,h=>simp[GN] at h;obtain⟨rfl,rfl⟩:=h;exact k
 | .o ops []::s,h=>simp[GN] at h;obtain⟨rfl,rfl⟩:=h;exact aF k
 | .o ops (o::l)::s,h=>
  simp only[GN] at h;split at h
  ·rename_i S2 h2;simp at h;obtain⟨rfl,rfl⟩:=h;exact Hf ht h2 k
  ·simp at h
 | .c x::s,h=>
  simp only[GN] at h;split at h
  ·simp at h;obtain⟨rfl,rfl⟩:=h;exact K4 k
  ·simp at h;obtain⟨rfl,rfl⟩:=h;exact IM k
  ·simp at h;obtain⟨rfl,rfl⟩:=h;exact Fj k
  ·simp at h;obtain⟨rfl,rfl⟩:=h;exact Fk k
  ·simp at h;obtain⟨rfl,rfl⟩:=h;exact Fl k
  ·split at h
   ·rename_i ops _;simp at h;obtain⟨rfl,rfl⟩:=h;exact Cl (l:=ops.toList) k
   ·simp at h
  ·split at h
   ·rename_i s2 h2;simp at h;obtain⟨rfl,rfl⟩:=h;exact IR (tj h2 k)
   ·simp at h
  ·obtain⟨e,hp,nx⟩:=S;simp only at h;split at h
   ·rename_i hv;split at h
    ·split at h
     ·simp at h;obtain⟨rfl,rfl⟩:=h;exact Cm (bd (yP (S:=⟨e,hp,nx⟩)) hv) Y k
     ·simp at h;obtain⟨rfl,rfl⟩:=h;exact Co (bd (yP (S:=⟨e,hp,nx⟩)) hv) Y k
    ·simp at h
   ·simp at h
  ·simp at h
def run(t:TT)(N:Nat):Nat->List It->St->Option (List It×St)
 |0,s,S=>some (s,S)
 |n+1,s,S=>match GN t N s S with|some (s',S')=>run t N n s' S'|none=>none
theorem rn[ht:TC K t]:∀(n:Nat) {s:List It} {S:St},run t K.N n s S=some (s',S')->WG K Q s' S'->WG K Q s S
 |0,s,S,h,k=>by simp_all[run]
 |n+1,s,S,h,k=>by
  simp only[run] at h;split at h
  ·rename_i s2 S2 h2;exact GM ht.h h2 (rn n h k)
  ·simp at h
theorem en{c:Code}(h:WG K Q [.c c] S):jF K c Q S:=h
theorem fo{l:List Oper}(h:WG K Q (.o ops l::s) S):aD K ops l (post K Q s) S:=h
theorem fa{c:Code}(h:WG K Q (.c c::s) S):jF K c (post K Q s) S:=h
theorem bb.env{e:cE}(h:∀t,get e t=get S.env t):bb K S ⟨e,S.hp,S.nx⟩:=fun m β _ _ r=>⟨m,β,r.congr h (fun _=>rfl) rfl⟩
theorem tg{x:It}(hx:(∃c,x=.c c)\/∃ops l,x=.o ops l)(hg:bb K S S')(k:WG K Q (x::s) S'):WG K Q (x::s) S:=by
 rcases hx with ⟨c,rfl⟩|⟨ops,l,rfl⟩
 ·exact aP hg k
 ·exact aU hg k
theorem sX{e:cE}{hp:aJ}{nx n:Nat}{c b:Bool}(hc:qE e n=some (.con (.bool c)))(hb:c=b):bb K ⟨e,hp,nx⟩ ⟨(n,.con (.bool b))::e,hp,nx⟩:=by
 refine bb.env (S:=⟨e,hp,nx⟩) (fun t=>?_)
 grind [dg,eu]
variable{R:Type}{r:R}
theorem di{A B:Option R}{c:Bool}{e:cE}{hp:aJ}{nx:Nat}{l:List Oper}(n:Nat)(h:(if c=true then A else B)=some r)(hc:qE e n=some (.con (.bool c)))
  (kt:c=true->A=some r->WG K Q (.o ops l::s) ⟨(n,.con (.bool true))::e,hp,nx⟩) (kf:c=false->B=some r->WG K Q (.o ops l::s) ⟨(n,.con (.bool false))::e,hp,nx⟩):
  WG K Q (.o ops l::s) ⟨e,hp,nx⟩:=by
 cases c with
 |true=>exact tg (.inr ⟨_,_,rfl⟩) (sX hc rfl) (kt rfl (by grind))
 |false=>exact tg (.inr ⟨_,_,rfl⟩) (sX hc rfl) (kf rfl (by grind))
theorem bC{A B:Option R}{c:Bool}{e:cE}{hp:aJ}{nx:Nat}{x y:Code}{n:Nat}(h:(if c=true then A else B)=some r)(hc:qE e n=some (.con (.bool c)))
  (kt:c=true->A=some r->WG K Q (.c x::s) ⟨e,hp,nx⟩) (kf:c=false->B=some r->WG K Q (.c y::s) ⟨e,hp,nx⟩):
  WG K Q (.c (.cond (.tmp n) x y)::s) ⟨e,hp,nx⟩:=
 qi c (eu hc) (fun hb=>kt hb (by grind)) (fun hb=>kf hb (by grind))
theorem el{c:Bool}{e:cE}{hp:aJ}{nx:Nat}{x y:Code}{n:Nat}(hc:qE e n=some (.con (.bool c)))
  (kt:c=true->WG K Q (.c x::s) ⟨e,hp,nx⟩) (kf:c=false->WG K Q (.c y::s) ⟨e,hp,nx⟩):WG K Q (.c (.cond (.tmp n) x y)::s) ⟨e,hp,nx⟩:=
 qi c (eu hc) kt kf
theorem R9{c b:Bool}{e:cE}{hp:aJ}{nx:Nat}{l:List Oper}(n:Nat)(hb:c=b)(hc:qE e n=some (.con (.bool c)))(k:WG K Q (.o ops l::s) ⟨(n,.con (.bool b))::e,hp,nx⟩):
  WG K Q (.o ops l::s) ⟨e,hp,nx⟩:=tg (.inr ⟨_,_,rfl⟩) (sX hc hb) k
theorem fxC{c b:Bool}{e:cE}{hp:aJ}{nx:Nat}{x:Code}(n:Nat)(hb:c=b)(hc:qE e n=some (.con (.bool c)))(k:WG K Q (.c x::s) ⟨(n,.con (.bool b))::e,hp,nx⟩):
  WG K Q (.c x::s) ⟨e,hp,nx⟩:=tg (.inl ⟨_,rfl⟩) (sX hc hb) k
def Jn{α:Type}(K:dE)(T:α->St)(G:α->Prop)(S:St):Prop:=∃p,G p/\bb K S (T p)
theorem jC{α:Type}{x:Code}(T:α->St)(G:α->Prop)(h:WG K Q (.c x::.j (Jn K T G)::s) S)(k:∀p,G p->WG K Q s (T p)):WG K Q (.c x::s) S:=by
 intro m β w a r;refine wpIn_mono (h m β w a r) ?_
 rintro e _ _ ⟨hp,S',m',β',q,r'⟩
 cases e with
 |normal=>
  obtain⟨p,hg,hgh⟩:=q;obtain⟨m2,β2,r2⟩:=hgh _ _ _ _ r';exact⟨Y,T p,m2,β2,k p hg,r2⟩
 |_=>exact⟨hp,S',m',β',q,r'⟩
theorem lC{α:Type}{x:Code}(T:α->St)(G:Nat->α->Prop)(h0:∀p,¬G 0 p)(n:Nat)(p:α)(h:G n p)(hg:bb K S (T p))
  (round:∀n p,G (n+1) p->WG K Q (.c x::.j (Jn K T (G n))::s) (T p)):WG K Q (.c (.loop x)::s) S:=by
 refine aP hg ?_
 clear hg
 induction n generalizing p with
 |zero=>grind
 |succ n ih=>
  refine AL ?_;intro m β w a r;refine wpIn_mono (round n p h m β w a r) ?_
  rintro e a' w' ⟨hp,S',m',β',q,r'⟩
  cases e with
  |normal=>
   obtain⟨p',hg,hgh⟩:=q;obtain⟨m2,β2,r2⟩:=hgh _ _ _ _ r';exact⟨Y,T p',m2,β2,ih p' hg,r2⟩
  |_=>exact⟨hp,S',m',β',q,r'⟩
end
end Go.Pv
