/- Part of the proof. -/
import Derived.Test.YtelmfadihfcgnaaGreatDoorGPvN
import Derived.Shelf.Sort.Plain
import Derived.Shelf.Slices.In.SortNone
import Derived.Stop.BytesEq
import Derived.Lib.Repeat
import Derived.Shelf.Strconv.Itoa3
set_option linter.unusedSimpArgs false
set_option linter.unusedVariables false
namespace Go.Pv
open Go
section
variable{K:cS}{Q:bX}{S:St}
variable{m:bA}{β:aZ}{w:World}{a:Act}
variable{ops:Array Oper}{rest:List Oper}{ty:TypeId}{pos:String}{after:Array Edge}{g:Option (Nat×Bool)}
theorem nh{d nx:Nat}{f:FuncId}{args:Array Operand}{at':Array TypeId}{k':Nat}{hp':aD}{dc:V}(ids:List Nat)(hid:(ids.all fun i=>Nat.blt i nx&&Nat.ble K.pins i)=true)(hnx:S.nx=nx)
  (hres:∀i,i∈ids->ao S.hp i=.res) (dv:V) (avs:List V) (u:aD) (hf:cM K.P f=true)
  (hw:aT ops S ⟨some d,.call ⟨.value (.func f),args,at'⟩,ty,pos,after,g⟩ true) (hN:Nat.blt d K.N=true) (ha:args.toList.map (evl K S)=avs)
  (hsub:iP (Ren 0 fun i=>i) avs avs) (hc:g9 K.gl K.P f avs 0 [] dc k' hp') (hk:ids.length=k') (hτ:r8 k' (fun i=>ids.getD i 0)=true)
  (hdv:ak (To k' fun i=>ids.getD i 0) dv dc) (hu:kZ (To k' fun i=>ids.getD i 0) (fun i=>ids.getD i 0) hp' k' 0 u)
  (kk:ax K ops rest Q ⟨(d,dv)::S.env,u++S.hp,S.nx⟩):ax K ops (⟨some d,.call ⟨.value (.func f),args,at'⟩,ty,pos,after,g⟩::rest) Q S:=by
 subst hnx;have hall:=ap8.1 hid
 have hfree:∀i,(ids.any fun j=>Nat.beq i j)=true->i∈ids:=by
  intro i hi;obtain⟨j,hj,e⟩:=cd9.1 hi;rw[cg9 e];exact hj
 have hto:Dh 0 k' S.nx S.nx (fun i=>i) (fun i=>ids.getD i 0) (fun i=>ids.any fun j=>Nat.beq i j)=true:=by
  unfold Dh;rw[ap8];intro j hj;have hj':j<ids.length:=by rw[hk];exact cj8.1 hj
  have e:ids.getD j 0=ids[j]:=by rw[ck9,ax8 hj'];rfl
  have h1:=hall _ (ba8 hj');simp only[ap9] at h1 ⊢;rw[e];refine⟨h1.1,?_⟩;rw[if_neg (by simp_all),aq9];exact .inr (cd9.2 ⟨_,ba8 hj',ai8 _⟩)
 exact jb (fun i=>i) (fun i=>ids.getD i 0) S.nx u (fun i=>ids.any fun j=>Nat.beq i j) hw Y hN (uB hf ha) hsub (bR.get .nil) hc
  (fun i hi=>hres i (hfree i hi)) hto hτ (ch9 (by omega)) (ch9 (ai9 _))
  (fun i hi=>by simp_all) hdv hu kk
theorem ca{d T T' e k bytes n n' id nx:Nat}{s x:Operand}{sv:V}{rows:List (List V)}(idn:Nat)(hid:(Nat.blt idn nx&&Nat.ble K.pins idn)=true)(hnxx:S.nx=nx)(hres:ao S.hp idn=.res)(rows2 rows':List (List V))(hT:fd K.P T e k bytes=true)(hT':cR K.P T'=true)
  (hpos:Nat.blt 0 bytes=true) (hkp:Nat.blt 0 k=true)
  (hw:aT ops S ⟨some d,.call ⟨.builtin .append,#[s,x],#[T,T']⟩,ty,pos,after,g⟩ true)
  (hs:evl K S s=.own id n) (ho:ao S.hp id=.arr e k rows) (hn:rows.length=n) (hx:evl K S x=sv) (hsrc:xm S k sv rows2)
  (hr:rows++rows2=rows') (hn':rows'.length=n') (hb:n'*bytes<=140737488355328) (hN:Nat.blt d K.N=true)
  (kk:ax K ops rest Q ⟨(d,.own idn n')::S.env,(idn,.arr e k rows')::(id,.dead)::S.hp,S.nx⟩):
  ax K ops (⟨some d,.call ⟨.builtin .append,#[s,x],#[T,T']⟩,ty,pos,after,g⟩::rest) Q S:=
 oQ idn S.nx (fun _ _ _ _ r=>⟨r.free hres,fun q hq=>by have:=aw9 (cg8.1 hid).2;omega⟩) (by simp_all) (ae9 _) rows2 rows' hT (nq hT') hpos hkp hw hs ho hn hx hsrc hr hn' (.inl hb) hN kk
end
theorem Et{α:Type}{l:List α}{b:Nat}:(l.drop 0).take (b - 0)=l.take b:=by simp
theorem Eu{α β:Type}{f:α->β}{l:List α}{a:Nat}:((l.map f).drop a).take (l.length - a)=(l.drop a).map f:=by rw[List.take_of_length_le]<;>simp
theorem KB{α β:Type}{f:α->β}{l:List α}{b:Nat}:((l.map f).drop 0).take (b - 0)=(l.take b).map f:=by simp
section
variable{K:cS}{Q:bX}{S:St}
variable{ops:Array Oper}{rest:List Oper}{ty:TypeId}{pos:String}{after:Array Edge}{g:Option (Nat×Bool)}
theorem kP{d:Nat}{T k e:TypeId}{x y:Operand}{good:Value->Prop}{kv zv:Value}{mv:V}{es:List (Value×V)}(res:Option V)(zd dv:V)(hT:ef K.P T k e=true)(hK:iY K.P k good)
  (hz:(K.P.info? e).bind (·.zero)=some zv) (hzd:∀m,bT m zd zv)
  (hw:aT ops S ⟨some d,.lookup T x y true,ty,pos,after,g⟩ true) (hx:evl K S x=mv) (hm:oT S mv es) (hy:eY K S y kv) (hg:good kv) (hges:∀p,p∈es->good p.1)
  (hl:iS kv es res) (hd:res.getD zd=dv) {b:Bool} (hb:res.isSome=b) (hN:Nat.blt d K.N=true)
  (kk:ax K ops rest Q (S.put d (.tup [dv,.con (.bool b)]))) (hdd:dv.deep=false:=by rfl):ax K ops (⟨some d,.lookup T x y true,ty,pos,after,g⟩::rest) Q S:=
 by grind [sQ]
end
section
variable{K:cS}{Q:bX}{S:St}
theorem Ir{c:Code}{α:Type}{k:Nat}{A:List α}{enc:α->List V}(t:Nat)(ht:get S.env t=.lst k (A.map enc))(h:A.length<=maxLen->ir K c Q S):ir K c Q S:=by
 intro m β w a r;refine h ?_ m β w a r;have:=r.env t;rw[ht] at this;generalize a.tmps.getD t undef=v at this;generalize hrows:A.map enc=rows at this;cases this with
 |imm h=>
  cases h<;>grind [List.length_map]
theorem Gp{c:Code}{α:Type}{e k:Nat}{A:List α}{enc:α->List V}(id:Nat)(ht:ao S.hp id=.arr e k (A.map enc))(h:A.length<=maxLen->ir K c Q S):ir K c Q S:=by
 intro m β w a r;refine h ?_ m β w a r;have:=r.own id;rw[ht] at this;generalize hrows:A.map enc=rows at this;cases hb:β id with
 |none=>simp_all[bo]
 |some l=>
  rw[hb] at this;cases l with
  |none=>
   have:rows=[]:=this
   simp_all
  |some p=>
   obtain⟨b,cap⟩:=p;obtain⟨arr,bl,h1,h2,h3,h4,_⟩:=this<;>grind
def RG{α:Type}(A:List α)(X:List α->Int->Prop)(n:Nat)(N:Int):Prop:=∃j:Nat,N=j/\j<=A.length/\A.length - j<n/\X (A.drop j) N
theorem RG.zero{α:Type}{A:List α}{X:List α->Int->Prop}{N:Int}:¬RG A X 0 N:=fun⟨_,_,_,h,_⟩=>by omega
theorem RG.start{α:Type}{A:List α}{X:List α->Int->Prop}(h:X A 0):RG A X (A.length+1) 0:=⟨0,rfl,ai9 _,by omega,h⟩
theorem AY{n:Nat}(h:n<=maxLen):IntKind.wrap .i64 (n:Int)=n:=by
 have h:n<=9223372036854775807:=h
 grind [IntKind.wrap,IntKind.bits]
theorem RG.t{α:Type}{A:List α}{X:List α->Int->Prop}{n:Nat}{N:Int}(hA:A.length<=maxLen)(h:RG A X (n+1) N)(hb:decide (N<((A.length:Nat):Int))=true):
  ∃x l,cn A N=some x/\X (x::l) N/\∀X':List α->Int->Prop,X' l (N+1)->RG A X' n (IntKind.wrap .i64 (N+1)):=by
 obtain⟨j,rfl,h1,h2,h3⟩:=h;have hj:j<A.length:=by have:=of_decide_eq_true hb;omega
 refine⟨A[j],A.drop (j+1),by simp[cn,hj],by simp_all,fun X' h=>?_⟩;have e:IntKind.wrap .i64 ((j:Int)+1)=((j+1:Nat):Int):=AY (n:=j+1) (by omega);rw[e];exact⟨j+1,rfl,hj,by omega,h⟩
theorem RG.f{α:Type}{A:List α}{X:List α->Int->Prop}{n:Nat}{N:Int}(h:RG A X (n+1) N)(hb:decide (N<((A.length:Nat):Int))=false):X [] N:=by
 obtain⟨j,rfl,h1,h2,h3⟩:=h<;>grind
def RC(B:Int)(X:Nat->Int->Prop)(n:Nat)(N:Int):Prop:=∃j:Nat,N=j/\j<=B.toNat/\B.toNat - j<n/\X (B.toNat - j) N
theorem RC.zero{B:Int}{X:Nat->Int->Prop}{N:Int}:¬RC B X 0 N:=fun⟨_,_,_,h,_⟩=>by omega
theorem RC.start{B:Int}{X:Nat->Int->Prop}(h:X B.toNat 0):RC B X (B.toNat+1) 0:=⟨0,rfl,ai9 _,by omega,h⟩
theorem RC.t{B:Int}{X:Nat->Int->Prop}{n:Nat}{N:Int}(hB:B<=9223372036854775807)(h:RC B X (n+1) N)(hb:decide (N<B)=true):
  ∃l,X (l+1) N/\∀X':Nat->Int->Prop,X' l (N+1)->RC B X' n (IntKind.wrap .i64 (N+1)):=by
 obtain⟨j,rfl,h1,h2,h3⟩:=h;have hj:j<B.toNat:=by have:=of_decide_eq_true hb;omega
 refine⟨B.toNat - (j+1),by grind,fun X' h=>?_⟩;have e:IntKind.wrap .i64 ((j:Int)+1)=((j+1:Nat):Int):=AY (n:=j+1) (by grind [maxLen]);rw[e];exact⟨j+1,rfl,hj,by omega,h⟩
theorem RC.f{B:Int}{X:Nat->Int->Prop}{n:Nat}{N:Int}(h:RC B X (n+1) N)(hb:decide (N<B)=false):X 0 N:=by
 obtain⟨j,rfl,h1,h2,h3⟩:=h<;>simp_all
end
end Go.Pv
namespace Go.Pv
open Go Go.RowKit
theorem se{m:bA}{w w':World}(hm:∀(b:Nat) o,m b=some o->w.heap[b]? = some o)(h:Below w.heap.size w w')(hd:True):tZ m m w w':=
 ⟨bA.le_refl _,fun b o hb=>by rw[h.block b (bL (hm b o hb))];grind,fun _ _=>rfl,h.block,h.size,⟨h.os,h.tape,h.output,hd⟩⟩
theorem CE{m:bA}{vs:Array Value}:∀{l:List Value},tu m (l.map V.con) vs->vs=l.toArray:=by
 intro l h;apply Array.ext
 ·have:=h.len;grind
 ·intro i h1 h2;have:=h.at' i (.con (l[i]'(by grind))) vs[i] (by grind) (by simp[h1]);generalize vs[i]=x at this ⊢;cases this;simp
theorem zD{gl:Gl}{P:Program}{f:FuncId}{l:List Value}{d:V}{v:Value}(h:∀w,Calls P f l.toArray w fun e w'=>e=.returned v/\Below w.heap.size w w'/\True)(hd:∀m,bT m d v):dX gl P f (l.map V.con) d:=by
 intro m w vs himm _ hargs;obtain rfl:=CE hargs;refine(h w).mono ?_
 rintro e w' ⟨rfl,hb,hdr⟩
 exact⟨v,m,Y,hd m,se himm hb hdr⟩
open Go.Sort in
theorem pV{α:Type}[Inhabited α](enc:α->Value)(w:World)(n blk off:Nat)(d:Array α)(os:Array Obj)(b:Nat)(hb:b<w.heap.size):
  (grow (putRow enc (Sort.ahead w n) blk off d) os).heap[b]? = if blk=b then (w.heap[b]?).map (onCells (putCells enc off d)) else w.heap[b]?:=by
 unfold grow putRow mapBlock Sort.ahead
 grind
open Go.Sort in
theorem uz{gl:Gl}{P:Program}{f:FuncId}{k id:Nat}{hp:aD}{e:TypeId}{α:Type}[Inhabited α](enc:α->Value)(h1c:∀x,(enc x).oneCell'=true)(l l':List α)(hid:ao hp id=.arr e 1 (l.map fun x=>[V.con (enc x)]))(hl:l'.length=l.length)
  (h:∀(w:World) (blk off cap:Nat),Holds enc w blk off l.toArray->blk<w.heap.size->Calls P f #[.slice (some ⟨blk,off,none⟩) l.length cap] w fun e w'=>
   e=.returned (.tuple #[])/\∃n os,w'=grow (putRow enc (Sort.ahead w n) blk off l'.toArray) os)
  (hn:∀(w:World) (a:Option Addr),l=[]->Calls P f #[.slice a 0 0] w fun e w'=>e=.returned (.tuple #[])/\Below w.heap.size w w'/\True):
  g9 gl P f [.own id l.length] k hp (.tup []) k ((id,.arr e 1 (l'.map fun x=>[V.con (enc x)]))::hp):=by
 intro m β w vs himm _ hargs hown hpriv hinj hhid hnx
 obtain⟨v,rfl⟩:∃v,vs=#[v]:=by
  have:=hargs.len;simp at this
  exact⟨vs[0],by
   grind⟩
 have hv:=hargs.at' 0 _ _ rfl rfl;have hob:=hown id;rw[hid] at hob;have hg:∀q,ao ((id,Ob.arr e 1 (l'.map fun x=>[V.con (enc x)]))::hp) q=if id=q then Ob.arr e 1 (l'.map fun x=>[V.con (enc x)]) else ao hp q:=fun q=>av _ _ _ _
 have hlive:∀q,ao ((id,Ob.arr e 1 (l'.map fun x=>[V.con (enc x)]))::hp) q≠.dead->ao hp q≠.dead:=fun q hq=>by
  grind
 have hhids:∀(w':World),w.heap.size<=w'.heap.size->∀q x,ao ((id,Ob.arr e 1 (l'.map fun x=>[V.con (enc x)]))::hp) q≠.dead->β.hid q x->x<w'.heap.size/\m x=none/\(x<w.heap.size->¬di hp β x)/\
   (∀i b c,ao ((id,Ob.arr e 1 (l'.map fun x=>[V.con (enc x)]))::hp) i≠.dead->β i=some (some (b,c))->x≠b)/\∀i,ao ((id,Ob.arr e 1 (l'.map fun x=>[V.con (enc x)]))::hp) i≠.dead->β.hid i x->i=q:=by
  intro w' hs q x hq hx;obtain⟨q1,q2,q3,q4⟩:=hhid q x (hlive q hq) hx;exact⟨by omega,q2,fun _ hF=>(hF q (hlive q hq)).2 hx,fun i b c hi=>q3 i b c (hlive i hi),fun i hi=>q4 i (hlive i hi)⟩
 generalize hnl:l.length=n at hv h;cases hv with
 |imm h'=>cases h'
 | @ownNil _ ad hb=>
  have hl0:l=[]:=ax9.1 hnl;subst hl0;have hl':l'=[]:=ax9.1 (by grind);subst hl';refine(hn w ad Y).mono ?_
  rintro ex w' ⟨rfl,hB,hdr⟩
  have hheap:∀b,b<w.heap.size->w'.heap[b]? = w.heap[b]?:=hB.block;refine⟨_,m,β,Y,.tup Y (by simp),bA.le_refl _,fun b o hb=>by grind,fun b hb _=>⟨Y,hheap b hb⟩,hB.size,⟨hB.os,hB.tape,hB.output,hdr⟩,fun q=>?_,fun q b cap hq hbq=>?_,fun q q' b cap cap' hq hq'=>hinj q q' b cap cap' (hlive q hq) (hlive q' hq'),hhids w' hB.size,hnx,fun q hq=>⟨hq,Y⟩⟩
  ·grind [bo.dead',bo.congr,gu]
  ·have hq:=hlive q hq;exact⟨hpriv q b cap hq hbq,fun _ hF=>(hF q hq).1 cap hbq⟩
 | @own _ _ b cap hb=>
  rw[hb] at hob;obtain⟨arr,bl,o1,o2,o3,o4,o5,oB,o6⟩:=hob;have hbs:b<w.heap.size:=bL o1
  have hcell:∀j (hj:j<l.length),arr[cap.off+j]? = some (enc l[j]):=fun j hj=>by
   obtain⟨v,v1,v2,_⟩:=o6 j 0 [V.con (enc l[j])] (V.con (enc l[j])) (by grind) rfl;have:=(v2.v rfl).of_con
   grind
  refine(h w b cap.off cap.n (fun j hj=>?_) hbs).mono ?_
  ·grind [b9,World.frozen?]
  rintro ex w' ⟨rfl,nd,os,rfl⟩
  have hheap:=pV enc w nd b cap.off l'.toArray os;have hother:∀b',b'<w.heap.size->b'≠b->(grow (putRow enc (Sort.ahead w nd) b cap.off l'.toArray) os).heap[b']? = w.heap[b']?:=fun b' h1 h2=>by grind
  have hlid:ao hp id≠.dead:=by rw[hid];simp
  have hsz:w.heap.size<=(grow (putRow enc (Sort.ahead w nd) b cap.off l'.toArray) os).heap.size:=by simp[grow,putRow,mapBlock,Sort.ahead]
  refine⟨_,m,β,Y,.tup Y (by simp),bA.le_refl _,fun b' o hb'=>?_,fun b' hb' hF=>⟨Y,hother b' hb' (fun e=>?_)⟩,hsz,⟨Y,Y,Y,trivial⟩,fun q=>?_,fun q b' cap' hq hbq=>?_,fun q q' b1 cap1 cap2 hq hq'=>hinj q q' b1 cap1 cap2 (hlive q hq) (hlive q' hq'),hhids _ hsz,hnx,fun q hq=>⟨hq,Y⟩⟩
  ·grind
  ·subst e;exact(hF id hlid).1 cap hb
  ·rw[hg];split
   ·rename_i hh;subst hh;rw[hb];refine⟨putCells enc cap.off l'.toArray arr,bl,by rw[hheap b hbs,if_pos rfl,o1];rfl,by simp[putCells,o2],by grind,o4,?_,oB,fun i j row c hr hc=>?_⟩
    ·grind
    ·rw[ay9] at hr;cases hli:l'[i]? with
     |none=>grind
     |some x=>
      rw[hli] at hr;simp at hr;subst hr;have hi:i<l'.length:=(bb8.1 hli).1;have hx:l'[i]=x:=(bb8.1 hli).2
      have hj:j=0:=by
       have:=(bb8.1 hc).1;simp at this;exact this
      subst hj;simp at hc;subst hc;have ha:cap.off+i<arr.size:=by simp at o3;omega
      refine⟨enc x,?_,.inl (.imm (.con _)),h1c x⟩;rw[Nat.mul_one,bd9];unfold putCells
      grind
   grind [bo.dead',bo.congr,gu]
  ·have hq:=hlive q hq;exact⟨hpriv q b' cap' hq hbq,fun _ hF=>(hF q hq).1 cap' hbq⟩
open Go.Sort in
theorem Fh{gl:Gl}{P:Program}{f:FuncId}{k id:Nat}{hp:aD}{e:TypeId}(l l':List Int)(hid:ao hp id=.arr e 1 (l.map fun x=>[V.con (.int .i64 x)]))(hl:l'.length=l.length)
  (h:∀(w:World) (blk off cap:Nat),Holds (Value.int .i64) w blk off l.toArray->blk<w.heap.size->Calls P f #[.slice (some ⟨blk,off,none⟩) l.length cap] w fun e w'=>
   e=.returned (.tuple #[])/\∃n os,w'=grow (putRow (Value.int .i64) (Sort.ahead w n) blk off l'.toArray) os)
  (hn:∀(w:World) (a:Option Addr),l=[]->Calls P f #[.slice a 0 0] w fun e w'=>e=.returned (.tuple #[])/\Below w.heap.size w w'/\True):
  g9 gl P f [.own id l.length] k hp (.tup []) k ((id,.arr e 1 (l'.map fun x=>[V.con (.int .i64 x)]))::hp):=uz (Value.int .i64) (fun _=>rfl) l l' hid hl h hn
theorem ov{id:Nat}{a b:Ob}(q:Nat):ao [(id,b)] q=ao ((id,b)::[(id,a)]) q:=by
 simp_all[av]
theorem g9.heap{gl:Gl}{P:Program}{f:FuncId}{args:List V}{k k':Nat}{hp hp' hp'':aD}{d:V}(h:g9 gl P f args k hp d k' hp')(he:∀q,ao hp'' q=ao hp' q):g9 gl P f args k hp d k' hp'':=by
 intro m β w vs a1 a2 a3 a4 a5 a6 a7 a8;refine(h m β w vs a1 a2 a3 a4 a5 a6 a7 a8).mono ?_
 rintro e w' ⟨v,m',β',e1,e2,A⟩
 refine⟨v,m',β',e1,e2,⟨A.le,A.imm,A.old,A.size,A.same,fun id=>by rw[he];exact A.own id,fun id b cap hl=>A.priv id b cap (by grind),fun id id' b c c' hl hl'=>A.inj id id' b c c' (by grind) (by grind),
  fun id x hl hx=>let q:=A.hid id x (by grind) hx;⟨q.1,q.2.1,q.2.2.1,fun i b c hi=>q.2.2.2.1 i b c (by grind),fun i hi=>q.2.2.2.2 i (by grind)⟩,A.nx,A.pin⟩⟩
def uL(l:List Int):List Int:=l.mergeSort fun x y=>decide (x<=y)
section
variable{K:cS}{Q:bX}{S:St}
variable{ops:Array Oper}{rest:List Oper}{ty:TypeId}{pos:String}{after:Array Edge}{g:Option (Nat×Bool)}
theorem iL{d T e k bytes:Nat}{x:Operand}{n:Int}{zs:List Value}{ln:Nat}(rows:List (List V))(hT:fd K.P T e k bytes=true)(hz:zeroCells K.P e=some zs)
  (h1:zs.all (·.oneCell')=true) (hk:Nat.blt 0 k=true) (h0:0<=n/\(bytes:Int)*n<=140737488355328/\n<=140737488355328) (hr:rows=List.replicate n.toNat (zs.map V.con)) (hln:ln=n.toNat) (hw:aT ops S ⟨some d,.makeSlice T x x,ty,pos,after,g⟩ true)
  (hx:evl K S x=.con (.int .i64 n)) (hN:Nat.blt d K.N=true)
  (kk:ax K ops rest Q ⟨(d,.own S.nx ln)::S.env,(S.nx,.arr e k rows)::S.hp,S.nx+1⟩):
  ax K ops (⟨some d,.makeSlice T x x,ty,pos,after,g⟩::rest) Q S:=by
 subst hr hln;refine cg hw (fun m β w a r=>?_) kk;have hk:=aw9 hk;obtain⟨i,z,hu,hi,hs,hby,hzz,hzk⟩:=eR hT
 have hzs:zs=z.cells.toList:=by
  have:zeroCells K.P e=some z.cells.toList:=by simp[zeroCells,hi,hzz]
  rw[hz] at this;exact ah9 this
 have hzl:zs.length=k:=by rw[hzs];simp[hzk]
 have hrun:=run_make (P:=K.P) w T e i z hu hi hzz .i64 .i64 n n h0.1 (Int.le_refl _) (by grind) (by omega)
 obtain⟨β',hle,hnx,r2⟩:=r.alloc (.cells (madeCells z.cells (n.toNat*i.size)) e (0,0)) (.arr e k (List.replicate n.toNat (zs.map V.con))) ⟨n.toNat,0⟩ _ rfl (fun β' hle=>by
  refine dY (vs:=madeCells z.cells (n.toNat*i.size)) (by simp) (by rw[size_madeCells,hs]) (by simp) (by grind [maxLen]) (fun row hrow=>by grind) ?_;intro p j row c hp hj;have hpn:p<n.toNat:=by have:=(bb8.1 hp).1;simpa using this
  have hrow:row=zs.map V.con:=by
   have:=(bb8.1 hp).2;rw[List.getElem_replicate] at this;exact this.symm
  subst hrow;rw[ay9] at hj;cases hzj:zs[j]? with
  |none=>grind
  |some v=>
   rw[hzj] at hj;simp at hj;subst hj;have hjk:j<k:=by have:=(bb8.1 hzj).1;omega
   have hv:zs[j]'(by omega)=v:=(bb8.1 hzj).2;refine⟨v,?_,.imm (.con _),ap8.1 h1 v (aw8 hzj)⟩
   have hlt:p*k+j<n.toNat*i.size:=by
    rw[hs];have:(p+1)*k<=n.toNat*k:=bc8 k hpn;rw[Nat.succ_mul] at this;omega
   unfold madeCells;rw[bz9,Array.getElem?_range,if_pos hlt,az9,hzk,an8,Nat.mul_add_mod,Nat.mod_eq_of_lt hjk,getElem!_pos _ j (by omega)]
   grind)
 refine⟨.slice (some ⟨w.heap.size,0,none⟩) n.toNat n.toNat,_,m,β',.inl ?_,bQ.put r2 hN (.own hnx)⟩;simp only[execOp];rw[Sem.run_bind];have hxv:=r.con hx
 simp_all
theorem oL{d T e k bytes nx:Nat}{x:Operand}{n:Int}{zs:List Value}{ln:Nat}(id:Nat)(hid:(Nat.blt id nx&&Nat.ble K.pins id)=true)(hnx0:S.nx=nx)(hres:ao S.hp id=.res)(rows:List (List V))(hT:fd K.P T e k bytes=true)(hz:zeroCells K.P e=some zs)
  (h1:zs.all (·.oneCell')=true) (hk:Nat.blt 0 k=true) (h0:0<=n/\(bytes:Int)*n<=140737488355328/\n<=140737488355328) (hr:rows=List.replicate n.toNat (zs.map V.con)) (hln:ln=n.toNat) (hw:aT ops S ⟨some d,.makeSlice T x x,ty,pos,after,g⟩ true)
  (hx:evl K S x=.con (.int .i64 n)) (hN:Nat.blt d K.N=true)
  (kk:ax K ops rest Q ⟨(d,.own id ln)::S.env,(id,.arr e k rows)::S.hp,S.nx⟩):
  ax K ops (⟨some d,.makeSlice T x x,ty,pos,after,g⟩::rest) Q S:=by
 subst hr hln;refine cg hw (fun m β w a r=>?_) kk;have hk:=aw9 hk;obtain⟨i,z,hu,hi,hs,hby,hzz,hzk⟩:=eR hT
 have hzs:zs=z.cells.toList:=by
  have:zeroCells K.P e=some z.cells.toList:=by simp[zeroCells,hi,hzz]
  rw[hz] at this;exact ah9 this
 have hzl:zs.length=k:=by rw[hzs];simp[hzk]
 have hrun:=run_make (P:=K.P) w T e i z hu hi hzz .i64 .i64 n n h0.1 (Int.le_refl _) (by grind) (by omega)
 obtain⟨β',hle,hnx,r2⟩:=r.allocAt id (by simp_all) (aw9 (cg8.1 hid).2) hres (.cells (madeCells z.cells (n.toNat*i.size)) e (0,0)) (.arr e k (List.replicate n.toNat (zs.map V.con))) ⟨n.toNat,0⟩ _ rfl (fun β' hle=>by
  refine dY (vs:=madeCells z.cells (n.toNat*i.size)) (by simp) (by rw[size_madeCells,hs]) (by simp) (by grind [maxLen]) (fun row hrow=>by grind) ?_;intro p j row c hp hj;have hpn:p<n.toNat:=by have:=(bb8.1 hp).1;simpa using this
  have hrow:row=zs.map V.con:=by
   have:=(bb8.1 hp).2;rw[List.getElem_replicate] at this;exact this.symm
  subst hrow;rw[ay9] at hj;cases hzj:zs[j]? with
  |none=>grind
  |some v=>
   rw[hzj] at hj;simp at hj;subst hj;have hjk:j<k:=by have:=(bb8.1 hzj).1;omega
   have hv:zs[j]'(by omega)=v:=(bb8.1 hzj).2;refine⟨v,?_,.imm (.con _),ap8.1 h1 v (aw8 hzj)⟩
   have hlt:p*k+j<n.toNat*i.size:=by
    rw[hs];have:(p+1)*k<=n.toNat*k:=bc8 k hpn;rw[Nat.succ_mul] at this;omega
   unfold madeCells;rw[bz9,Array.getElem?_range,if_pos hlt,az9,hzk,an8,Nat.mul_add_mod,Nat.mod_eq_of_lt hjk,getElem!_pos _ j (by omega)]
   grind)
 refine⟨.slice (some ⟨w.heap.size,0,none⟩) n.toNat n.toNat,_,m,β',.inl ?_,bQ.put r2 hN (.own hnx)⟩;simp only[execOp];rw[Sem.run_bind];have hxv:=r.con hx
 simp_all
end
end Go.Pv
namespace Go.Pv
open Go
section
variable{K:cS}{Q:bX}{S:St}{ops:Array Oper}{rest:List Oper}{ty:TypeId}{pos:String}{after:Array Edge}{g:Option (Nat×Bool)}
def OP(n:Int):List V:=[V.con (.int .u8 n)]
def qJ(P:Program)(T:TypeId):Bool:=
 match P.underlying T with|some (.slice e)=>(match P.underlying e with|some (.int .u8)=>true|_=>false)|_=>false
theorem xz{P:Program}{T:TypeId}(h:qJ P T=true):∃e,P.underlying T=some (.slice e)/\P.underlying e=some (.int .u8):=by
 grind [qJ]
theorem tS{d:Nat}{x:Operand}{src dst:TypeId}(xs:List Int)(hs:qJ K.P src=true)(hd:jA K.P dst=true)
  (hw:aT ops S ⟨some d,.convert src dst x,ty,pos,after,g⟩ true) (hx:evl K S x=.lst 1 (xs.map OP)) (hN:Nat.blt d K.N=true)
  (kk:ax K ops rest Q (S.put d (.con (str (xs.map fun n=>UInt8.ofNat n.toNat))))):ax K ops (⟨some d,.convert src dst x,ty,pos,after,g⟩::rest) Q S:=
 aW _ hw hN (fun m β w a r=>by
  obtain⟨e,h1,h2⟩:=xz hs;have h:=r.reads x;rw[hx] at h;refine⟨.string ⟨(xs.map fun n=>UInt8.ofNat n.toNat).toArray⟩,?_,.imm (.con _)⟩;generalize hxs:xs.map OP=rows at h;generalize hv:a.eval x=v at h;simp only[execOp,hv];refine bi ?_;cases h with
  |imm h=>
   cases h with
   |nil _ ad cap=>
    have:xs=[]:=by simpa using hxs
    subst this;rw[run_convert_bytes_string w src dst e ad 0 cap h1 h2 (jz hd)];cases ad with
    |none=>simp[Conv.bytesToString];rfl
    |some ad=>
     rw[run_bytesToString w ad 0 cap [] (by simpa using run_loadCells_list (P:=K.P) w ad [] (by simp))];rfl
   | @lst _ _ ad n cap arr T' fr f hm hsp hn hcap hbd hk hf hc=>
    have hlen:xs.length=n:=by rw[<-hn,<-hxs];simp
    rw[iO hsp]
    have:=run_convert_bytes_arg (P:=K.P) w src e h1 h2 ad.block ad.off n cap xs hlen (fun i hi=>by
     have hi':i<xs.length:=by omega
     have h3:=hf i (by omega);have h4:=hc i 0 (OP xs[i]) (V.con (.int .u8 xs[i])) (by grind) rfl
     have h5:f i=.int .u8 xs[i]:=by
      have:i*1+0=i:=by omega
      rw[this] at h4;exact(bn.imm (β:=β) h4).of_con
     have h6:=r.imm _ _ hm
     grind [b9]) dst (jz hd)
    rw[this];rfl) kk
end
section
variable{K:cS}{Q:bX}{S:St}{ops:Array Oper}{rest:List Oper}{ty:TypeId}{pos:String}{after:Array Edge}{g:Option (Nat×Bool)}
end
inductive It where
 |c (x:Code)
 |b (id:Nat)
 |o (ops:Array Oper) (l:List Oper)
 |j (J:St->Prop)
def post(K:cS)(Q:bX):List It->bX
 |[]=>Q
 | .c x::s=>DV K x (post K Q s)
 | .b id::s=>wx id (post K Q s)
 | .o ops l::s=>fun e S=>match e with | .normal=>ax K ops l (post K Q s) S|e=>post K Q s e S
 | .j J::s=>fun e S=>match e with | .normal=>J S|e=>post K Q s e S
def WG(K:cS)(Q:bX)(s:List It)(S:St):Prop:=post K Q s .normal S
section
variable{K:cS}{Q:bX}{S S':St}{s s':List It}
theorem iy:∀{s:List It},Q .ret S->post K Q s .ret S
 |[],h=>h
 | .c _::s,h=>iy (s:=s) h
 | .b _::s,h=>iy (s:=s) h
 | .o _ _::s,h=>iy (s:=s) h
 | .j _::s,h=>iy (s:=s) h
def Dx(i:Nat):List It->Option (List It)
 |[]=>none
 | .b k::s=>bif Nat.beq i k then some s else Dx i s
 | .c _::s=>Dx i s
 | .o _ _::s=>Dx i s
 | .j _::s=>Dx i s
theorem ru{i:Nat}:∀{s s':List It},Dx i s=some s'->WG K Q s' S->post K Q s (.exit i) S
 |[],_,h,_=>by simp[Dx] at h
 | .b k::s,s',h,q=>by
  simp only[Dx] at h
  show post K Q (.b k::s) (.exit i) S
  simp only[post,wx];cases hb:Nat.beq i k with
  |true=>
   rw[hb] at h;simp only[cond_true,av8] at h;subst h;rw[if_pos (cg9 hb)];exact q
  |false=>
   simp_all[cj9,ru]
 | .c x::s,s',h,q=>ru (s:=s) (by grind [Dx]) q
 | .o _ _::s,s',h,q=>ru (s:=s) (by grind [Dx]) q
 | .j _::s,s',h,q=>ru (s:=s) (by grind [Dx]) q
def DC(P:Program)(T f:Nat):Bool:=
 match P.underlying T with|some (.struct fs)=>(match fs[f]? with|some fl=>qH P fl.type|none=>false)|_=>false
def N3(P:Program)(T:Nat):Bool:=match P.underlying T with|some .bool=>true|_=>false
def N2(P:Program)(T:Nat)(k:IntKind):Bool:=match P.underlying T with|some (.int k')=>decide (k'=k)|_=>false
def N1(P:Program)(T:Nat):Bool:=match P.underlying T with|some _=>true|_=>false
def fU{α:Type}:Nat->List α->Bool
 |0,[]=>true
 |n+1,_::l=>fU n l
 |_,_=>false
theorem el{α:Type}:∀{n:Nat} {l:List α},fU n l=true->l.length=n
 |0,[],_=>rfl
 |n+1,_::l,h=>by rw[bu8,el (n:=n) (l:=l) h]
 |0,_::_,h=>by simp[fU] at h
 |n+1,[],h=>by simp[fU] at h
inductive TF where
 |A (n:Nat)
 |C
 |F (f off:Nat)
 |FC (f:Nat)
 |S (n:Nat)
 |Sl (k:Nat)
 |Sn
 |Str
 |Z (n:Nat) (zs:List Value)
 |Pl (ps:List (Nat×Nat))
 |Arr (len s:Nat)
 |El (e k bytes:Nat)
 |B
 |I (k:IntKind)
 |U
 |Fn
 |AA (n k e:Nat)
 |AC (n e:Nat)
 |Cn
 |M (name:String) (f:Nat)
 |Mn
 |R (n:Nat)
def xy(P:Program)(T:Nat):Bool:=match P.underlying T with|some (.map _ _)=>true|_=>false
def TF.ok(P:Program)(T:Nat):TF->Prop
 | .A n=>ze P T n=true
 | .C=>qH P T=true
 | .F f off=>Hn P T f off=true
 | .FC f=>DC P T f=true
 | .S n=>G8 P T n=true
 | .Sl k=>mR P T k=true
 | .Sn=>cR P T=true
 | .Str=>jA P T=true
 | .Z n zs=>zeroCells P T=some zs/\(fU n zs&&zs.all (·.oneCell'))=true
 | .Pl ps=>jB P T=some ps
 | .Arr len s=>mX P T len s=true
 | .El e k bytes=>fd P T e k bytes=true
 | .B=>N3 P T=true
 | .I k=>N2 P T k=true
 | .U=>N1 P T=true
 | .Fn=>cM P T=true
 | .AA n k e=>nr P T n k e=true
 | .AC n e=>pa P T n e=true
 | .Cn=>P.concrete T=true
 | .M name f=>(∀(v:Value) (args:Array Value) (w:World),(callMethod (.iface T v) name args).run P w=.ok (.enter f (#[v]++args)) w)/\∀(v:Value) (w:World),(nilAhead (P.types.size+Made.depth) T v name).run P w=.ok (some false) w
 | .Mn=>xy P T=true
 | .R _=>True
abbrev TT:=List (Nat×List TF)
def cK(P:Program)(t:TT):Prop:=∀p,p∈t->∀f,f∈p.2->TF.ok P p.1 f
class TC (K:cS) (t:outParam TT):Prop where
 h:cK K.P t
def TF.okB(P:Program)(T:Nat):TF->Bool
 | .A n=>ze P T n
 | .C=>qH P T
 | .F f off=>Hn P T f off
 | .FC f=>DC P T f
 | .S n=>G8 P T n
 | .Sl k=>mR P T k
 | .Sn=>cR P T
 | .Str=>jA P T
 | .Z n zs=>fU n zs&&zs.all (·.oneCell')
 | .Pl ps=>decide (jB P T=some ps)
 | .Arr len s=>mX P T len s
 | .El e k bytes=>fd P T e k bytes
 | .B=>N3 P T
 | .I k=>N2 P T k
 | .U=>N1 P T
 | .Fn=>cM P T
 | .AA n k e=>nr P T n k e
 | .AC n e=>pa P T n e
 | .Cn=>P.concrete T
 | .M _ _=>true
 | .Mn=>xy P T
 | .R _=>true
def zP(P:Program)(t:TT):List (Option (List Value)×Option (List Value)):=t.flatMap fun p=>p.2.filterMap fun f=>match f with | .Z _ zs=>some (zeroCells P p.1,some zs)|_=>none
def mP(t:TT):List (Nat×TF):=t.flatMap fun p=>p.2.filterMap fun f=>match f with | .M s n=>some (p.1,.M s n)|_=>none
def OH(P:Program):List (Nat×TF)->Prop
 |[]=>True
 |p::l=>TF.ok P p.1 p.2/\OH P l
theorem Bs{P:Program}:∀{l:List (Nat×TF)},OH P l->∀p,p∈l->TF.ok P p.1 p.2
 |_::_,h,p,hp=>(aq8.1 hp).elim (fun e=>e ▸ h.1) (Bs h.2 p)
theorem FY{α:Type}:∀{l:List (α×α)},l.map (·.1)=l.map (·.2)->∀p,p∈l->p.1=p.2
 |a::l,h,p,hp=>by
  simp only[bi8,by9] at h;exact(aq8.1 hp).elim (fun e=>e ▸ h.1) (FY h.2 p)
theorem Mr{P:Program}{t:TT}(hB:(t.all fun p=>p.2.all (TF.okB P p.1))=true)(hZ:(zP P t).map (·.1)=(zP P t).map (·.2))(hM:OH P (mP t)):cK P t:=fun p hp f hf=>by
 have h:=ap8.1 (ap8.1 hB p hp) f hf;cases f with
 |Z n zs=>exact⟨FY hZ (zeroCells P p.1,some zs) (ac8.2 ⟨p,hp,List.mem_filterMap.2 ⟨_,hf,rfl⟩⟩),h⟩
 |M s n=>exact Bs hM (p.1,.M s n) (ac8.2 ⟨p,hp,List.mem_filterMap.2 ⟨_,hf,rfl⟩⟩)
 |Pl ps=>exact of_decide_eq_true (p:=jB P p.1=some ps) h
 |R n=>trivial
 |_=>exact h
def lk{α:Type}:List (Nat×α)->Nat->Option α
 |[],_=>none
 |(k,v)::l,t=>bif Nat.beq k t then some v else lk l t
theorem lz{α:Type}:∀{l:List (Nat×α)} {t:Nat} {v:α},lk l t=some v->(t,v)∈l
 |(k,v')::l,t,v,h=>by
  simp only[lk] at h;cases hb:Nat.beq k t with
  |true=>rw[hb] at h;simp at h;subst h;rw[cg9 hb];exact cc9
  |false=>rw[hb] at h;simp at h;exact bv8 _ (lz h)
def qn{α:Type}(p:TF->Option α):List TF->Option α
 |[]=>none
 |f::l=>match p f with|some a=>some a|none=>qn p l
theorem BB{α:Type}{p:TF->Option α}:∀{l:List TF} {a:α},qn p l=some a->∃f,f∈l/\p f=some a
 |f::l,a,h=>by
  simp only[qn] at h;split at h
  ·rename_i b hb;simp at h;subst h;exact⟨f,cc9,hb⟩
  ·obtain⟨f',h1,h2⟩:=BB h;exact⟨f',bv8 _ h1,h2⟩
def dq{α:Type}(t:TT)(T:Nat)(p:TF->Option α):Option α:=match lk t T with|some l=>qn p l|none=>none
theorem dy{P:Program}{α:Type}{t:TT}(ht:cK P t){T:Nat}{p:TF->Option α}{a:α}(h:dq t T p=some a):∃f,p f=some a/\TF.ok P T f:=by
 unfold dq at h;split at h
 ·rename_i l hl;obtain⟨f,h1,h2⟩:=BB h;exact⟨f,h2,ht _ (lz hl) _ h1⟩
 grind
def TF.qA:TF->Option Nat | .A n=>some n|_=>none
def TF.qC:TF->Option Unit | .C=>some ()|_=>none
def TF.qF(f:Nat):TF->Option Nat | .F f' off=>bif Nat.beq f' f then some off else none|_=>none
def TF.qFC(f:Nat):TF->Option Unit | .FC f'=>bif Nat.beq f' f then some () else none|_=>none
def TF.qS:TF->Option Nat | .S n=>some n|_=>none
def TF.qSl:TF->Option Nat | .Sl n=>some n|_=>none
def TF.qSn:TF->Option Unit | .Sn=>some ()|_=>none
def TF.qStr:TF->Option Unit | .Str=>some ()|_=>none
def TF.qZ:TF->Option (Nat×List Value) | .Z n zs=>some (n,zs)|_=>none
def TF.qPl:TF->Option (List (Nat×Nat)) | .Pl ps=>some ps|_=>none
def TF.qArr:TF->Option (Nat×Nat) | .Arr l s=>some (l,s)|_=>none
def TF.qEl:TF->Option (Nat×Nat×Nat) | .El e k b=>some (e,k,b)|_=>none
def TF.qB:TF->Option Unit | .B=>some ()|_=>none
def TF.qI:TF->Option IntKind | .I k=>some k|_=>none
def TF.qU:TF->Option Unit | .U=>some ()|_=>none
def TF.qAA:TF->Option (Nat×Nat×Nat) | .AA n k e=>some (n,k,e)|_=>none
def TF.qAC:TF->Option (Nat×Nat) | .AC n e=>some (n,e)|_=>none
def TF.qFn:TF->Option Unit | .Fn=>some ()|_=>none
def TF.qCn:TF->Option Unit | .Cn=>some ()|_=>none
def TF.qM(name:String):TF->Option Nat | .M nm f=>(match decide (nm=name) with|true=>some f|false=>none)|_=>none
def TF.qR:TF->Option Nat | .R n=>some n|_=>none
def TF.qMn:TF->Option Unit | .Mn=>some ()|_=>none
section
variable{P:Program}{t:TT}{T:Nat}
theorem Iv(ht:cK P t){n:Nat}(h:dq t T TF.qA=some n):ze P T n=true:=by
 obtain⟨f,h1,h2⟩:=dy ht h;cases f<;>simp[TF.qA] at h1;subst h1;exact h2
theorem Iu(ht:cK P t){n:Unit}(h:dq t T TF.qC=some n):qH P T=true:=by
 obtain⟨f,h1,h2⟩:=dy ht h;cases f<;>simp[TF.qC] at h1;exact h2
theorem Lo(ht:cK P t){n f:Nat}(h:dq t T (TF.qF f)=some n):Hn P T f n=true:=by
 obtain⟨f',h1,h2⟩:=dy ht h;cases f'<;>simp_all[TF.qF];rename_i g off;cases hb:Nat.beq g f with
 |true=>rw[hb] at h1;simp at h1;subst h1;rw[<-cg9 hb];exact h2
 |false=>grind
theorem Ng(ht:cK P t){n:Unit}{f:Nat}(h:dq t T (TF.qFC f)=some n):DC P T f=true:=by
 obtain⟨f',h1,h2⟩:=dy ht h;cases f'<;>simp_all[TF.qFC];rename_i g;cases hb:Nat.beq g f with
 |true=>rw[<-cg9 hb];exact h2
 |false=>grind
theorem Lm(ht:cK P t){n:Nat}(h:dq t T TF.qS=some n):G8 P T n=true:=by
 obtain⟨f,h1,h2⟩:=dy ht h;cases f<;>simp[TF.qS] at h1;subst h1;exact h2
theorem yB(ht:cK P t){n:Nat}(h:dq t T TF.qSl=some n):mR P T n=true:=by
 obtain⟨f,h1,h2⟩:=dy ht h;cases f<;>simp[TF.qSl] at h1;subst h1;exact h2
theorem jT(ht:cK P t){n:Unit}(h:dq t T TF.qSn=some n):cR P T=true:=by
 obtain⟨f,h1,h2⟩:=dy ht h;cases f<;>simp[TF.qSn] at h1;exact h2
theorem wB(ht:cK P t){n:Unit}(h:dq t T TF.qStr=some n):jA P T=true:=by
 obtain⟨f,h1,h2⟩:=dy ht h;cases f<;>simp[TF.qStr] at h1;exact h2
theorem wA(ht:cK P t){n:Nat}{zs:List Value}(h:dq t T TF.qZ=some (n,zs)):zeroCells P T=some zs/\zs.length=n/\zs.all (·.oneCell')=true:=by
 obtain⟨f,h1,h2⟩:=dy ht h;cases f<;>simp[TF.qZ] at h1;obtain⟨rfl,rfl⟩:=h1;obtain⟨h3,h4⟩:=h2;simp only[ap9] at h4
 grind [el]
theorem Nd(ht:cK P t){n:List (Nat×Nat)}(h:dq t T TF.qPl=some n):jB P T=some n:=by
 obtain⟨f,h1,h2⟩:=dy ht h;cases f<;>simp[TF.qPl] at h1;subst h1;exact h2
theorem Gr(ht:cK P t){l k:Nat}(h:dq t T TF.qArr=some (l,k)):mX P T l k=true:=by
 obtain⟨f,h1,h2⟩:=dy ht h;cases f<;>simp[TF.qArr] at h1;obtain⟨rfl,rfl⟩:=h1;exact h2
theorem kO(ht:cK P t){e k b:Nat}(h:dq t T TF.qEl=some (e,k,b)):fd P T e k b=true:=by
 obtain⟨f,h1,h2⟩:=dy ht h;cases f<;>simp[TF.qEl] at h1;obtain⟨rfl,rfl,rfl⟩:=h1;exact h2
theorem Nk(ht:cK P t){n k e:Nat}(h:dq t T TF.qAA=some (n,k,e)):nr P T n k e=true:=by
 obtain⟨f,h1,h2⟩:=dy ht h;cases f<;>simp[TF.qAA] at h1;obtain⟨rfl,rfl,rfl⟩:=h1;exact h2
theorem Nj(ht:cK P t){n e:Nat}(h:dq t T TF.qAC=some (n,e)):pa P T n e=true:=by
 obtain⟨f,h1,h2⟩:=dy ht h;cases f<;>simp[TF.qAC] at h1;obtain⟨rfl,rfl⟩:=h1;exact h2
theorem Nf(ht:cK P t){n:Unit}(h:dq t T TF.qFn=some n):cM P T=true:=by
 obtain⟨f,h1,h2⟩:=dy ht h;cases f<;>simp[TF.qFn] at h1;exact h2
theorem Nh(ht:cK P t){n:Unit}(h:dq t T TF.qCn=some n):P.concrete T=true:=by
 obtain⟨f,h1,h2⟩:=dy ht h;cases f<;>simp[TF.qCn] at h1;exact h2
theorem JK(ht:cK P t){n:Unit}(h:dq t T TF.qMn=some n):xy P T=true:=by
 obtain⟨f,h1,h2⟩:=dy ht h;cases f<;>simp[TF.qMn] at h1;exact h2
theorem Ln(ht:cK P t){name:String}{n:Nat}(h:dq t T (TF.qM name)=some n):(∀(v:Value) (args:Array Value) (w:World),(callMethod (.iface T v) name args).run P w=.ok (.enter n (#[v]++args)) w)/\∀(v:Value) (w:World),(nilAhead (P.types.size+Made.depth) T v name).run P w=.ok (some false) w:=by
 obtain⟨f,h1,h2⟩:=dy ht h;cases f<;>simp_all[TF.qM];split at h1
 ·rename_i hd;simp only[av8] at h1;subst h1;rw[<-of_decide_eq_true hd];exact h2
 grind
theorem Ni(ht:cK P t){n:Unit}(h:dq t T TF.qB=some n):P.underlying T=some .bool:=by
 obtain⟨f,h1,h2⟩:=dy ht h;cases f<;>simp[TF.qB] at h1;have h3:N3 P T=true:=h2
 grind [N3]
theorem OW(ht:cK P t){k:IntKind}(h:dq t T TF.qI=some k):P.underlying T=some (.int k):=by
 obtain⟨f,h1,h2⟩:=dy ht h;cases f<;>simp[TF.qI] at h1;subst h1;have h3:N2 P T _=true:=h2
 grind [N2]
theorem OV(ht:cK P t){n:Unit}(h:dq t T TF.qU=some n):∃d,P.underlying T=some d:=by
 obtain⟨f,h1,h2⟩:=dy ht h;cases f<;>simp[TF.qU] at h1;have h3:N1 P T=true:=h2
 grind [N1]
end
def oY:bY->Nat->Option V
 |[],_=>none
 |(k,v)::e,t=>bif Nat.beq k t then some v else oY e t
def pk:aD->Nat->Option Ob
 |[],_=>none
 |(k,v)::e,t=>bif Nat.beq k t then some v else pk e t
def Ag(e:bY)(S:St):Prop:=∀t v,oY e t=some v->get S.env t=v
def G6(hp:aD)(S:St):Prop:=∀t v,pk hp t=some v->ao S.hp t=v
theorem dN:∀{e:bY} {t:Nat} {v:V},oY e t=some v->get e t=v
 |[],t,v,h=>by simp[oY] at h
 |(k,x)::e,t,v,h=>by
  simp only[oY] at h;simp only[get];cases hb:Nat.beq k t with
  |true=>rw[hb] at h;simpa using h
  |false=>rw[hb] at h;simp at h;simpa using dN h
theorem fI:∀{e:aD} {t:Nat} {v:Ob},pk e t=some v->ao e t=v
 |[],t,v,h=>by simp[pk] at h
 |(k,x)::e,t,v,h=>by
  simp only[pk] at h;simp only[ao];cases hb:Nat.beq k t with
  |true=>rw[hb] at h;simpa using h
  |false=>rw[hb] at h;simp at h;simpa using fI h
theorem wS:Ag S.env S:=fun _ _ h=>dN h
theorem O0:G6 S.hp S:=fun _ _ h=>fI h
def eu(e:bY):Operand->Option V
 | .tmp t=>oY e t
 | .const v=>some (.con v)
 | .func f=>some (.fn (.func f) [] [])
 | .global _=>none
theorem aU{e:bY}(ha:Ag e S){x:Operand}{v:V}(h:eu e x=some v):evl K S x=v:=by
 cases x with
 |tmp t=>exact ha _ _ h
 |const v=>grind [eu,evl]
 |func f=>grind [eu,evl]
 |global g=>simp[eu] at h
def H9(e:bY):List Operand->Option (List V)
 |[]=>some []
 |x::l=>match eu e x with|some v=>(match H9 e l with|some r=>some (v::r)|none=>none)|none=>none
theorem sD{e:bY}(ha:Ag e S):∀{l:List Operand} {vs:List V},H9 e l=some vs->l.map (evl K S)=vs
 |[],vs,h=>by grind [H9]
 |x::l,vs,h=>by
  simp only[H9] at h;split at h
  ·rename_i v hv;split at h
   ·rename_i r hr;simp at h;subst h;simp[aU ha hv,sD ha hr]
   ·simp at h
  ·simp at h
def JI(e:bY):List (Nat×Operand)->Option (List (Nat×V))
 |[]=>some []
 |(i,x)::l=>match eu e x with|some v=>(match JI e l with|some r=>some ((i,v)::r)|none=>none)|none=>none
theorem sC{e:bY}(ha:Ag e S):∀{l:List (Nat×Operand)} {vs:List (Nat×V)},JI e l=some vs->l.map (fun p=>(p.1,evl K S p.2))=vs
 |[],vs,h=>by grind [JI]
 |(i,x)::l,vs,h=>by
  simp only[JI] at h;split at h
  ·rename_i v hv;split at h
   ·rename_i r hr;simp at h;subst h;simp[aU ha hv,sC ha hr]
   grind
  grind
def CM{α:Type}:List α->Option (List α)
 |[]=>some []
 |x::l=>match CM l with|some r=>some (x::r)|none=>none
theorem jo{α:Type}:∀{l r:List α},CM l=some r->l=r
 |[],r,h=>by simpa[CM] using h
 |x::l,r,h=>by
  simp only[CM] at h;split at h
  ·rename_i q hq;simp at h;subst h;rw[jo hq]
  ·simp at h
def lA{α:Type}:List α->Nat->Option α
 |[],_=>none
 |x::l,n=>match n with|0=>some x|n+1=>lA l n
theorem eL{α:Type}:∀{l:List α} {n:Nat} {x:α},lA l n=some x->l[n]? = some x
 |x::l,0,y,h=>by simpa[lA] using h
 |x::l,n+1,y,h=>by simpa[lA] using eL (l:=l) (n:=n) (by simpa[lA] using h)
 |[],_,y,h=>by simp[lA] at h
def Mm{α:Type}:Nat->List α->Option (List α)
 |0,l=>some l
 |n+1,l=>match l with|_::l=>Mm n l|[]=>none
def Mf{α:Type}:Nat->List α->Option (List α)
 |0,_=>some []
 |n+1,l=>match l with|x::l=>(match Mf n l with|some r=>some (x::r)|none=>none)|[]=>none
theorem F5{α:Type}:∀{n:Nat} {l r:List α},Mm n l=some r->l.drop n=r
 |0,l,r,h=>by simpa[Mm] using h
 |n+1,x::l,r,h=>by simpa using F5 (n:=n) (l:=l) (by simpa[Mm] using h)
 |n+1,[],r,h=>by simp[Mm] at h
theorem DI{α:Type}:∀{n:Nat} {l r:List α},Mf n l=some r->l.take n=r/\r.length=n
 |0,l,r,h=>by simp_all[Mf]
 |n+1,x::l,r,h=>by
  simp only[Mf] at h;split at h
  ·rename_i q hq;simp at h;subst h;obtain⟨h1,h2⟩:=DI hq;simp[h1,h2]
  ·simp at h
 |n+1,[],r,h=>by simp[Mf] at h
def cut(row:List V)(o n:Nat):Option (List V):=
 bif Nat.beq o 0&&fU n row then some row else match Mm o row with|some r=>Mf n r|none=>none
theorem lM{row cs:List V}{o n:Nat}(h:cut row o n=some cs):(row.drop o).take n=cs/\cs.length=n:=by
 unfold cut at h;cases hb:Nat.beq o 0&&fU n row with
 |true=>
  rw[hb] at h;simp at h;subst h;simp only[ap9] at hb
  grind [Nat.eq_of_beq_eq_true,el]
 |false=>
  rw[hb] at h;simp only[cond_false] at h
  grind [F5,DI]
def J1:V->Option (List V)
 | .agg cs=>some cs
 | .con v=>some [.con v]
 | .lst k r=>some [.lst k r]
 | .iptr r o=>some [.iptr r o]
 | .imap e=>some [.imap e]
 | .fn f a b=>some [.fn f a b]
 | .ptr a b c d=>some [.ptr a b c d]
 | .own a b=>some [.own a b]
 | .map a=>some [.map a]
 |_=>none
theorem rp{v:V}{cs:List V}(h:J1 v=some cs):dk v=cs:=by
 cases v<;>simp[J1] at h<;>simp[dk,h]
def yL:List V->Bool
 |[]=>true
 |x::l=>bif dC x then yL l else false
theorem mN:∀{l:List V},yL l=true->l.all dC=true
 |[],_=>rfl
 |x::l,h=>by
  simp only[yL] at h;cases hb:dC x with
  |true=>rw[hb] at h;simp[hb,mN (by simpa using h)]
  |false=>rw[hb] at h;simp at h
def lm(b:ByteArray):B8:=b.data.toList
theorem gz(b:ByteArray):str (lm b)=.string b:=by simp_all[lm]
def OU(t:TT)(op:BinOp)(T:Nat):V->V->Option V
 | .con x,.con y=>
  match x,y with
  | .int k a,.int k' b=>(match Im op (.int k a) (.int k' b) with|some v=>some (.con v)|none=>none)
  | .string a,.string b=>(match op with | .add=>none|op=>(match Gi op (lm a) (lm b) with|some v=>some (.con v)|none=>none))
  | .bool a,.bool b=>(match dq t T TF.qB with
   |some _=>(match op with | .eql=>some (.con (.bool (a==b))) | .neq=>some (.con (.bool (a != b)))|_=>none)
   |none=>none)
  | .slice none 0 0,.slice none 0 0=>(match dq t T TF.qSn with
   |some _=>(match op with | .eql=>some (.con (.bool true)) | .neq=>some (.con (.bool false))|_=>none)
   |none=>none)
  |_,_=>none
 |_,_=>none
def CC(t:TT)(T:Nat)(row:List V)(o:Nat):Option V:=
 match dq t T TF.qA with
 |some n=>(match cut row o n with|some cs=>(match uy cs with|true=>some (.agg cs)|false=>none)|none=>none)
 |none=>match dq t T TF.qC with|some _=>(match lA row o with|some c=>(match c.deep with|false=>some c|true=>none)|none=>none)|none=>none
def ap1(b:Builtin)(t:TT)(T:Nat):V->Option V
 | .con x=>
  match x with
  | .string s=>(match b with | .len=>(match dq t T TF.qStr with|some _=>some (.con (.int .i64 (lm s).length))|none=>none)|_=>none)
  | .slice _ n _=>(match b with | .len=>(match dq t T TF.qSn with|some _=>some (.con (.int .i64 n))|none=>none)|_=>none)
  |_=>none
 | .own _ n=>(match b with | .len=>(match dq t T TF.qSn with|some _=>some (.con (.int .i64 n))|none=>none)|_=>none)
 |_=>none
def ap2(b:Builtin):V->V->Option V
 | .con x,.con y=>
  match x,y with
  | .int k n,.int k' n'=>(match decide (k=k') with
   |true=>(match b with | .min=>some (.con (.int k (if n'<n then n' else n))) | .max=>some (.con (.int k (if n'>n then n' else n)))|_=>none)
   |false=>none)
  |_,_=>none
 |_,_=>none
def val(t:TT)(e:bY)(hp:aD):Op->Option V
 | .move x=>eu e x
 | .assign x=>eu e x
 | .pick c x y=>(match eu e c with
  |some (.con (.bool b))=>(match b with|true=>eu e x|false=>eu e y)
  |_=>none)
 | .binOp op T x y _=>(match eu e x with|some a=>(match eu e y with|some b=>OU t op T a b|none=>none)|none=>none)
 | .unOp op _ x=>(match eu e x with
  |some (.con (.bool b))=>(match op with | .not=>some (.con (.bool (!b)))|_=>none)
  |some (.con (.int k n))=>(match op with | .neg=>some (.con (.int k (k.wrap (0 - n))))|_=>none)
  |_=>none)
 | .extract x i=>(match eu e x with|some (.tup vs)=>lA vs i|_=>none)
 | .load T x=>(match eu e x with
  |some (.iptr row o)=>CC t T row o
  |some (.ptr id k i o)=>(match pk hp id with
   |some (.arr _ k2 rows)=>(match Nat.beq k k2 with|true=>(match lA rows i with|some row=>CC t T row o|none=>none)|false=>none)
   |_=>none)
  |_=>none)
 | .fieldAddr T x f=>(match dq t T (TF.qF f) with
  |some off=>(match eu e x with|some (.ptr id k i o)=>some (.ptr id k i (o+off))|some (.iptr row o)=>some (.iptr row (o+off))|_=>none)
  |none=>none)
 | .field T x f=>(match dq t T (TF.qF f) with
  |some off=>(match dq t T (TF.qFC f) with|some _=>(match eu e x with|some (.agg cs)=>lA cs off|_=>none)|none=>none)
  |none=>none)
 | .build T parts=>(match dq t T TF.qZ with
  |some (_,zs)=>(match dq t T TF.qPl with
   |some pls=>(match JI e parts.toList with
    |some ps=>(match i8 (fun i=>pls[i]?) (zs.map .con) ps with
     |some cs=>(match CM cs with|some cs=>some (.agg cs)|none=>none)
     |none=>none)
    |none=>none)
   |none=>none)
  |none=>none)
 | .makeFunc fn first caps=>(match fn with
  | .func f=>(match first.toList with|[]=>(match H9 e caps.toList with|some cs=>some (.fn (.func f) [] cs)|none=>none)|_=>none)
  |_=>none)
 | .convert src dst x=>(match dq t dst TF.qI with
  |some k=>(match dq t src TF.qU with|some _=>(match eu e x with|some (.con (.int _ n))=>some (.con (.int k (k.wrap n)))|_=>none)|none=>none)
  |none=>none)
 | .nilCheck x=>(match eu e x with|some (.ptr a b c d)=>some (.ptr a b c d)|some (.iptr a b)=>some (.iptr a b)|_=>none)
 | .indexAddr T x y=>(match dq t T TF.qArr with
  |some (len,k)=>(match eu e x with
   |some (.ptr id a i o)=>(match eu e y with
    |some (.con (.int _ n))=>(match n with
     | .ofNat j=>(match Nat.blt j len with|true=>some (.ptr id a i (o+j*k))|false=>none)
     |_=>none)
    |_=>none)
   |_=>none)
  |none=>none)
 | .call c=>(match c.callee with
  | .builtin b=>(match c.args.toList,c.argTypes.toList with
   |[x],[T]=>(match eu e x with|some v=>ap1 b t T v|none=>none)
   |[x,y],[_,_]=>(match eu e x with|some v=>(match eu e y with|some u=>ap2 b v u|none=>none)|none=>none)
   |_,_=>none)
  |_=>none)
 |_=>none
end
section
variable{K:cS}{Q:bX}{S S':St}{s s':List It}{ops:Array Oper}{rest:List Oper}{op:Op}{ty:TypeId}{pos:String}{after:Array Edge}{g:Option (Nat×Bool)}{t:TT}
theorem Lk(ht:cK K.P t){bop:BinOp}{T T':TypeId}{x y:Operand}{a b v:V}{d:Nat}(h:OU t bop T a b=some v)(hx:evl K S x=a)(hy:evl K S y=b)
  (hw:aT ops S ⟨some d,.binOp bop T x y T',ty,pos,after,g⟩ true) (hN:Nat.blt d K.N=true) (k:ax K ops rest Q (S.put d v)):ax K ops (⟨some d,.binOp bop T x y T',ty,pos,after,g⟩::rest) Q S:=by
 unfold OU at h;split at h
 ·split at h
  ·grind [Gz]
  ·grind [mM,gz]
  ·split at h
   ·rename_i hB;split at h
    ·simp at h;subst h;exact yJ false hw (Ni ht hB) hx hy hN k
    ·simp at h;subst h;exact yJ true hw (Ni ht hB) hx hy hN k
    grind
   grind
  ·split at h
   ·rename_i hB;split at h
    ·simp at h;subst h;exact pY false (jT ht hB) hw hx hy hN k
    ·simp at h;subst h;exact pY true (jT ht hB) hw hx hy hN k
    grind
   grind
  grind
 grind
theorem qT{t:TT}{T o:Nat}{row:List V}{v:V}{n:Nat}(hn:dq t T TF.qA=some n)(h:CC t T row o=some v):∃cs,v=.agg cs/\cut row o n=some cs/\uy cs=true:=by
 grind [CC]
theorem oq{t:TT}{T o:Nat}{row:List V}{v:V}(hn:dq t T TF.qA=none)(h:CC t T row o=some v):dq t T TF.qC=some ()/\lA row o=some v/\v.deep=false:=by
 grind [CC]
theorem ML(ht:cK K.P t){T:TypeId}{x:Operand}{row:List V}{o:Nat}{v:V}{d:Nat}(h:CC t T row o=some v)(hx:evl K S x=.iptr row o)
  (hw:aT ops S ⟨some d,.load T x,ty,pos,after,g⟩ true) (hN:Nat.blt d K.N=true) (k:ax K ops rest Q (S.put d v)):ax K ops (⟨some d,.load T x,ty,pos,after,g⟩::rest) Q S:=by
 cases hn:dq t T TF.qA with
 |some n=>
  obtain⟨cs,rfl,hc,_⟩:=qT hn h;exact sT (Iv ht hn) hw hx (lM hc).1 (lM hc).2 hN k
 |none=>
  obtain⟨hq,hc,_⟩:=oq hn h<;>grind [qw,Iu,eL]
theorem Jy(ht:cK K.P t){T e:TypeId}{x:Operand}{id k i:Nat}{rows:List (List V)}{row:List V}{o:Nat}{v:V}{d:Nat}(h:CC t T row o=some v)(hx:evl K S x=.ptr id k i o)
  (ho:ao S.hp id=.arr e k rows) (hr:rows[i]? = some row)
  (hw:aT ops S ⟨some d,.load T x,ty,pos,after,g⟩ true) (hN:Nat.blt d K.N=true) (kk:ax K ops rest Q (S.put d v)):ax K ops (⟨some d,.load T x,ty,pos,after,g⟩::rest) Q S:=by
 cases hn:dq t T TF.qA with
 |some n=>
  obtain⟨cs,rfl,hc,hd⟩:=qT hn h;exact cC (Iv ht hn) hw hx ho hr (lM hc).1 (lM hc).2 hd hN kk
 |none=>
  obtain⟨hq,hc,hd⟩:=oq hn h<;>grind [ey,Iu,eL]
theorem Hm{P:Program}{T f:Nat}(h:DC P T f=true):∃fs fl,P.underlying T=some (.struct fs)/\fs[f]? = some fl/\qH P fl.type=true:=by
 grind [DC]
theorem fe{α:Type}{a:Array α}{x:α}(h:a.toList=[x]):a=#[x]:=by grind
theorem dt{α:Type}{a:Array α}{x y:α}(h:a.toList=[x,y]):a=#[x,y]:=by grind
theorem iu{α:Type}{a:Array α}(h:a.toList=[]):a=#[]:=by grind
theorem zo(ht:cK K.P t){e:bY}{hp:aD}(ha:Ag e S)(hh:G6 hp S){v:V}{d:Nat}(h:val t e hp op=some v)(hw:aT ops S ⟨some d,op,ty,pos,after,g⟩ true)(hN:Nat.blt d K.N=true)
  (k:ax K ops rest Q (S.put d v)):ax K ops (⟨some d,op,ty,pos,after,g⟩::rest) Q S:=by
 cases op with
 |move x=>exact C2 v hw (aU ha h) hN k
 |assign x=>exact yK v hw (aU ha h) hN k
 |pick c x y=>
  simp only[val] at h;split at h
  ·rename_i b hc;cases b with
   |true=>exact uV true v hw (aU ha hc) rfl (aU ha h) hN k
   |false=>exact uV false v hw (aU ha hc) rfl (aU ha h) hN k
  grind
 |binOp bop T x y T'=>
  grind [val,Lk,aU]
 |unOp uop T x=>
  grind [val,Gu,aU,Gw]
 |extract x i=>
  grind [val,wL,aU,eL]
 |load T x=>
  simp only[val] at h;split at h
  ·grind [ML,aU]
  ·rename_i id kk i o hx;split at h
   ·rename_i e k2 rows ho;split at h
    ·rename_i hk;have hk:=cg9 hk;subst hk;split at h
     ·rename_i row hr;exact Jy ht h (aU ha hx) (hh _ _ ho) (eL hr) hw hN k
     grind
    grind
   grind
  grind
 |fieldAddr T x f=>
  simp only[val] at h;split at h
  ·rename_i off hF;split at h
   ·rename_i hx;simp at h;subst h;exact sU (Lo ht hF) hw (aU ha hx) hN k
   ·rename_i hx;simp at h;subst h;exact qx (Lo ht hF) hw (aU ha hx) hN k
   grind
  grind
 |field T x f=>
  simp only[val] at h;split at h
  ·rename_i off hF;split at h
   ·rename_i hFC;split at h
    ·rename_i cs hx;exact yG v (Lo ht hF) (Hm (Ng ht hFC)) hw (aU ha hx) (eL h) hN k
    grind
   grind
  grind
 |build T parts=>
  simp only[val] at h;split at h
  ·rename_i n zs hz;split at h
   ·rename_i pls hp;split at h
    ·rename_i ps hps;split at h
     ·rename_i cs hf;split at h
      ·rename_i cs' hc;simp at h;subst h;have hc:=jo hc;subst hc;exact Ax ps cs (wA ht hz).1 (Nd ht hp) (wA ht hz).2.2 hw (sC ha hps) hf hN k
      grind
     grind
    grind
   grind
  grind
 |makeFunc fn first caps=>
  simp only[val] at h
  grind [iu,tR,sD]
 |convert src dst x=>
  simp only[val] at h;split at h
  ·rename_i kk hI;split at h
   ·rename_i hU;split at h
    ·rename_i hx;simp at h;subst h;exact wN (OW ht hI) (OV ht hU) hw (aU ha hx) hN k
    grind
   grind
  grind
 |nilCheck x=>
  grind [val,oK,aU,nF]
 |indexAddr T x y=>
  simp only[val] at h;split at h
  ·rename_i len kk hA;split at h
   ·rename_i hx;split at h
    ·rename_i hy;split at h
     ·split at h
      ·rename_i j hb;simp at h;subst h;have:=aw9 hb;exact lS (Gr ht hA) hw (aU ha hx) (aU ha hy) (by simp) (Nat.lt_of_succ_le this) hN k
      grind
     grind
    grind
   grind
  grind
 |call c=>
  obtain⟨callee,args,at'⟩:=c;simp only[val] at h;split at h
  ·rename_i b;split at h
   ·rename_i x T h1 h2;have h1:=fe h1;have h2:=fe h2;subst h1;subst h2;split at h
    ·rename_i a ha';have ha':=aU (K:=K) ha ha';unfold ap1 at h;split at h
     ·split at h
      ·grind [C3,wB,gz]
      ·split at h
       ·split at h
        ·rename_i hS;simp at h;subst h;exact sS (jT ht hS) hw ha' Y hN k
        grind
       grind
      grind
     ·split at h
      ·split at h
       ·rename_i hS;simp at h;subst h;exact sS (jT ht hS) hw ha' Y hN k
       grind
      grind
     grind
    grind
   ·rename_i x y T T' h1 h2;have h1:=dt h1;have h2:=dt h2;subst h1;subst h2;split at h
    ·rename_i a ha';split at h
     ·rename_i b' hb;have ha':=aU (K:=K) ha ha';have hb:=aU (K:=K) ha hb;unfold ap2 at h;split at h
      ·split at h
       ·split at h
        ·rename_i hk;have hk:=of_decide_eq_true hk
         grind [Gx,Gy]
        grind
       grind
      grind
     grind
    grind
   grind
  grind
 |_=>simp[val] at h
def wt(ops:Array Oper)(e:bY):Option (Nat×Bool)->Option Bool
 |none=>some true
 |some (j,want)=>
  match ops[j]? with
  |some o=>(match o.dst with
   |some t=>(match oY e t with
    |some (.con v)=>(match v with
     | .bool c=>(match c with|true=>some want|false=>(match want with|true=>some false|false=>some true))
     | .tuple a=>(match a.toList with|[]=>some false|_=>none)
     |_=>none)
    |_=>none)
   |none=>none)
  |none=>none
theorem i4{e:bY}(ha:Ag e S){o:Oper}{b:Bool}(h:wt ops e o.guard=some b):aT ops S o b:=by
 unfold aT;generalize o.guard=gd at h;cases gd with
 |none=>simp_all[wt]
 |some p=>
  obtain⟨j,want⟩:=p;simp only[wt] at h;split at h
  ·rename_i o' ho;split at h
   ·rename_i t htt;refine⟨t,by grind,?_⟩;split at h
    ·rename_i v hv;have hv:=ha _ _ hv;cases v with
     |bool c=>
      left
      cases c<;>cases want<;>simp at h<;>subst h<;>grind
     |tuple a=>
      simp only at h;split at h
      ·rename_i hl;have hl:=iu hl;subst hl;simp at h
       right;exact⟨hv,h⟩
      grind
     |_=>simp at h
    grind
   grind
  grind
def N5(t:TT)(e:bY)(hp:aD):Op->Option (Nat×Ob)
 | .store T x y=>(match dq t T TF.qS with
  |some n=>(match eu e x with
   |some (.ptr id k i off)=>(match pk hp id with
    |some (.arr ty k2 rows)=>(match Nat.beq k k2,i,rows with
     |true,0,[row]=>(match eu e y with
      |some v=>(match J1 v with
       |some cs=>(match fU n cs&&yL cs&&Nat.ble (off+n) row.length with
        |true=>(match CM (row.take off++cs++row.drop (off+n)) with|some row'=>some (id,.arr ty k [row'])|none=>none)
        |false=>none)
       |none=>none)
      |none=>none)
     |_,_,_=>none)
    |_=>none)
   |_=>none)
  |none=>none)
 |_=>none
theorem Er(ht:cK K.P t){e:bY}{hp:aD}(ha:Ag e S)(hh:G6 hp S){id:Nat}{ob:Ob}(h:N5 t e hp op=some (id,ob))(hw:aT ops S ⟨none,op,ty,pos,after,g⟩ true)
  (k:ax K ops rest Q ⟨S.env,(id,ob)::S.hp,S.nx⟩):ax K ops (⟨none,op,ty,pos,after,g⟩::rest) Q S:=by
 unfold N5 at h;split at h
 ·split at h
  ·rename_i n hn;split at h
   ·rename_i hx;split at h
    ·rename_i ho;split at h
     ·rename_i hk;have hk:=cg9 hk;subst hk;split at h
      ·rename_i v hy;split at h
       ·rename_i cs hc;split at h
        ·rename_i hb;simp only[ap9] at hb;have hl:=el hb.1.1;subst hl;split at h
         ·rename_i row' hr;have hr:=jo hr;simp at h;obtain⟨rfl,rfl⟩:=h;exact dz cs _ (Lm ht hn) hw (aU ha hx) (aU ha hy) (rp hc) (mN hb.1.2) (hh _ _ ho) Y hb.2 (by grind) k
         grind
        grind
       grind
      grind
     grind
    grind
   grind
  grind
 grind
def one(t:TT)(N:Nat)(ops:Array Oper)(o:Oper):St->Option St
 |⟨e,hp,nx⟩=>
  match wt ops e o.guard with
  |none=>none
  |some b=>(match b with
   |false=>(match o.dst with|some d=>(match Nat.blt d N with|true=>some ⟨(d,.con undef)::e,hp,nx⟩|false=>none)|none=>none)
   |true=>(match o.dst with
    |some d=>(match Nat.blt d N with
     |false=>none
     |true=>(match o.op with
      | .alloc T=>(match dq t T TF.qZ with
       |some (n,zs)=>(match CM (zs.map V.con) with|some cs=>some ⟨(d,.ptr nx n 0 0)::e,(nx,.arr T n [cs])::hp,nx+1⟩|none=>none)
       |none=>none)
      | .box T x=>(match dq t T TF.qS with
       |some n=>(match eu e x with
        |some v=>(match J1 v with
         |some cs=>(match fU n cs&&yL cs with|true=>some ⟨(d,.ptr nx n 0 0)::e,(nx,.arr T n [cs])::hp,nx+1⟩|false=>none)
         |none=>none)
        |none=>none)
       |none=>none)
      | .makeMap _ r=>(match r with|none=>some ⟨(d,.map nx)::e,(nx,.map [])::hp,nx+1⟩|some _=>none)
      |op=>(match val t e hp op with|some v=>some ⟨(d,v)::e,hp,nx⟩|none=>none)))
    |none=>(match N5 t e hp o.op with|some (id,ob)=>some ⟨e,(id,ob)::hp,nx⟩|none=>none)))
theorem EQ(ht:cK K.P t){o:Oper}(h:one t K.N ops o S=some S')(k:ax K ops rest Q S'):ax K ops (o::rest) Q S:=by
 have ha:Ag S.env S:=wS;have hh:G6 S.hp S:=O0;obtain⟨e,hp,nx⟩:=S;simp only at ha hh;simp only[one] at h;split at h
 ·simp at h
 ·rename_i hw;have hw:=i4 ha hw;split at h
  ·split at h
   ·rename_i d hd;split at h
    ·rename_i hN;simp at h;subst h;exact pw hw hd hN k
    grind
   grind
  ·obtain⟨dst,op,ty,pos,after,g⟩:=o;cases dst with
   |some d=>
    simp only at h;split at h
    ·simp at h
    ·rename_i hN;split at h
     ·split at h
      ·rename_i n zs hz;obtain⟨z1,z2,z3⟩:=wA ht hz;split at h<;>simp_all[jo,Ay]
      grind
     ·split at h
      ·split at h
       ·rename_i hv;split at h
        ·rename_i cs hc;split at h
         ·rename_i hb;simp only[ap9] at hb;simp at h;subst h;have hl:=el hb.1;subst hl;exact ez cs hw (aU ha hv) (rp hc) (mN hb.2) hN k
         grind
        grind
       grind
      grind
     ·grind [wH]
     ·split at h
      ·rename_i v hv;simp at h;subst h;exact zo ht ha hh hv hw hN k
      grind
   |none=>
    grind [Er]
def Ep(t:TT)(N:Nat):List It->St->Option (List It×St)
 | .c x::s,S=>
  (match x with
  | .seq x y=>some (.c x::.c y::s,S)
  | .skip=>some (s,S)
  | .scope x=>some (.c x::s,S)
  | .label _=>some (s,S)
  | .block id x=>some (.c x::.b id::s,S)
  | .region _ ops draw=>(match draw with|false=>some (.o ops ops.toList::s,S)|true=>none)
  | .exit i=>(match Dx i s with|some s'=>some (s',S)|none=>none)
  | .cond c x y=>(match S with
   |⟨e,hp,nx⟩=>(match eu e c with
    |some (.con v)=>(match v with | .bool b=>(match b with|true=>some (.c x::s,⟨e,hp,nx⟩)|false=>some (.c y::s,⟨e,hp,nx⟩))|_=>none)
    |_=>none))
  |_=>none)
 | .b _::s,S=>some (s,S)
 | .o ops l::s,S=>(match l with|[]=>some (s,S)|o::l=>(match one t N ops o S with|some S'=>some (.o ops l::s,S')|none=>none))
 |_,_=>none
theorem Eo(ht:cK K.P t)(h:Ep t K.N s S=some (s',S'))(k:WG K Q s' S'):WG K Q s S:=by
 match s,h with
 |[],h=>simp[Ep] at h
 | .j _::s,h=>simp[Ep] at h
 | .b id::s,h=>simp[Ep] at h;obtain⟨rfl,rfl⟩:=h;exact k
 | .o ops []::s,h=>simp[Ep] at h;obtain⟨rfl,rfl⟩:=h;exact aS k
 | .o ops (o::l)::s,h=>
  simp only[Ep] at h;split at h
  ·rename_i S2 h2;simp at h;obtain⟨rfl,rfl⟩:=h;exact EQ ht h2 k
  ·simp at h
 | .c x::s,h=>
  simp only[Ep] at h;split at h
  ·simp at h;obtain⟨rfl,rfl⟩:=h;exact Iq k
  ·simp at h;obtain⟨rfl,rfl⟩:=h;exact Gm k
  ·simp at h;obtain⟨rfl,rfl⟩:=h;exact CY k
  ·simp at h;obtain⟨rfl,rfl⟩:=h;exact CZ k
  ·simp at h;obtain⟨rfl,rfl⟩:=h;exact C0 k
  ·split at h
   ·rename_i ops _;simp at h;obtain⟨rfl,rfl⟩:=h;exact At (l:=ops.toList) k
   ·simp at h
  ·split at h
   ·rename_i s2 h2;simp at h;obtain⟨rfl,rfl⟩:=h;exact Gq (ru h2 k)
   ·simp at h
  ·obtain⟨e,hp,nx⟩:=S;simp only at h;split at h
   ·rename_i hv;split at h
    ·split at h
     ·simp at h;obtain⟨rfl,rfl⟩:=h;exact Au (aU (wS (S:=⟨e,hp,nx⟩)) hv) Y k
     ·simp at h;obtain⟨rfl,rfl⟩:=h;exact Av (aU (wS (S:=⟨e,hp,nx⟩)) hv) Y k
    ·simp at h
   ·simp at h
  ·simp at h
def run(t:TT)(N:Nat):Nat->List It->St->Option (List It×St)
 |0,s,S=>some (s,S)
 |n+1,s,S=>match Ep t N s S with|some (s',S')=>run t N n s' S'|none=>none
theorem rn[ht:TC K t]:∀(n:Nat) {s:List It} {S:St},run t K.N n s S=some (s',S')->WG K Q s' S'->WG K Q s S
 |0,s,S,h,k=>by simp_all[run]
 |n+1,s,S,h,k=>by
  simp only[run] at h;split at h
  ·rename_i s2 S2 h2;exact Eo ht.h h2 (rn n h k)
  ·simp at h
theorem en{c:Code}(h:WG K Q [.c c] S):ir K c Q S:=h
theorem fo{l:List Oper}(h:WG K Q (.o ops l::s) S):ax K ops l (post K Q s) S:=h
theorem fa{c:Code}(h:WG K Q (.c c::s) S):ir K c (post K Q s) S:=h
theorem aV.env{e:bY}(h:∀t,get e t=get S.env t):aV K S ⟨e,S.hp,S.nx⟩:=fun m β _ _ r=>⟨m,β,r.congr h (fun _=>rfl) rfl⟩
theorem ro{x:It}(hx:(∃c,x=.c c)\/∃ops l,x=.o ops l)(hg:aV K S S')(k:WG K Q (x::s) S'):WG K Q (x::s) S:=by
 rcases hx with ⟨c,rfl⟩|⟨ops,l,rfl⟩
 ·exact aY hg k
 ·exact bz hg k
theorem qW{e:bY}{hp:aD}{nx n:Nat}{c b:Bool}(hc:oY e n=some (.con (.bool c)))(hb:c=b):aV K ⟨e,hp,nx⟩ ⟨(n,.con (.bool b))::e,hp,nx⟩:=by
 refine aV.env (S:=⟨e,hp,nx⟩) (fun t=>?_)
 grind [ci,dN]
variable{R:Type}{r:R}
theorem cx{A B:Option R}{c:Bool}{e:bY}{hp:aD}{nx:Nat}{l:List Oper}(n:Nat)(h:(if c=true then A else B)=some r)(hc:oY e n=some (.con (.bool c)))
  (kt:c=true->A=some r->WG K Q (.o ops l::s) ⟨(n,.con (.bool true))::e,hp,nx⟩) (kf:c=false->B=some r->WG K Q (.o ops l::s) ⟨(n,.con (.bool false))::e,hp,nx⟩):
  WG K Q (.o ops l::s) ⟨e,hp,nx⟩:=by
 cases c with
 |true=>exact ro (.inr ⟨_,_,rfl⟩) (qW hc rfl) (kt rfl (by grind))
 |false=>exact ro (.inr ⟨_,_,rfl⟩) (qW hc rfl) (kf rfl (by grind))
theorem bd{A B:Option R}{c:Bool}{e:bY}{hp:aD}{nx:Nat}{x y:Code}{n:Nat}(h:(if c=true then A else B)=some r)(hc:oY e n=some (.con (.bool c)))
  (kt:c=true->A=some r->WG K Q (.c x::s) ⟨e,hp,nx⟩) (kf:c=false->B=some r->WG K Q (.c y::s) ⟨e,hp,nx⟩):
  WG K Q (.c (.cond (.tmp n) x y)::s) ⟨e,hp,nx⟩:=
 oI c (dN hc) (fun hb=>kt hb (by grind)) (fun hb=>kf hb (by grind))
theorem dS{c:Bool}{e:bY}{hp:aD}{nx:Nat}{x y:Code}{n:Nat}(hc:oY e n=some (.con (.bool c)))
  (kt:c=true->WG K Q (.c x::s) ⟨e,hp,nx⟩) (kf:c=false->WG K Q (.c y::s) ⟨e,hp,nx⟩):WG K Q (.c (.cond (.tmp n) x y)::s) ⟨e,hp,nx⟩:=
 oI c (dN hc) kt kf
theorem Oc{c b:Bool}{e:bY}{hp:aD}{nx:Nat}{l:List Oper}(n:Nat)(hb:c=b)(hc:oY e n=some (.con (.bool c)))(k:WG K Q (.o ops l::s) ⟨(n,.con (.bool b))::e,hp,nx⟩):
  WG K Q (.o ops l::s) ⟨e,hp,nx⟩:=ro (.inr ⟨_,_,rfl⟩) (qW hc hb) k
theorem fxC{c b:Bool}{e:bY}{hp:aD}{nx:Nat}{x:Code}(n:Nat)(hb:c=b)(hc:oY e n=some (.con (.bool c)))(k:WG K Q (.c x::s) ⟨(n,.con (.bool b))::e,hp,nx⟩):
  WG K Q (.c x::s) ⟨e,hp,nx⟩:=ro (.inl ⟨_,rfl⟩) (qW hc hb) k
def Jn{α:Type}(K:cS)(T:α->St)(G:α->Prop)(S:St):Prop:=∃p,G p/\aV K S (T p)
theorem jC{α:Type}{x:Code}(T:α->St)(G:α->Prop)(h:WG K Q (.c x::.j (Jn K T G)::s) S)(k:∀p,G p->WG K Q s (T p)):WG K Q (.c x::s) S:=by
 intro m β w a r;refine wpIn_mono (h m β w a r) ?_
 rintro e _ _ ⟨hp,S',m',β',q,r'⟩
 cases e with
 |normal=>
  obtain⟨p,hg,hgh⟩:=q;obtain⟨m2,β2,r2⟩:=hgh _ _ _ _ r';exact⟨Y,T p,m2,β2,k p hg,r2⟩
 |_=>exact⟨hp,S',m',β',q,r'⟩
theorem lC{α:Type}{x:Code}(T:α->St)(G:Nat->α->Prop)(h0:∀p,¬G 0 p)(n:Nat)(p:α)(h:G n p)(hg:aV K S (T p))
  (round:∀n p,G (n+1) p->WG K Q (.c x::.j (Jn K T (G n))::s) (T p)):WG K Q (.c (.loop x)::s) S:=by
 refine aY hg ?_
 clear hg
 induction n generalizing p with
 |zero=>grind
 |succ n ih=>
  refine yA ?_;intro m β w a r;refine wpIn_mono (round n p h m β w a r) ?_
  rintro e a' w' ⟨hp,S',m',β',q,r'⟩
  cases e with
  |normal=>
   obtain⟨p',hg,hgh⟩:=q;obtain⟨m2,β2,r2⟩:=hgh _ _ _ _ r';exact⟨Y,T p',m2,β2,ih p' hg,r2⟩
  |_=>exact⟨hp,S',m',β',q,r'⟩
end
end Go.Pv
