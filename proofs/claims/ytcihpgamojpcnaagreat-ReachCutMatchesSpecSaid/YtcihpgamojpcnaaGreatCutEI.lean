/- Part of the proof: ZV, DA, DS, DT, DX, DX2, DX3, DX4, EI. -/
import Derived.Test.YtcihpgamojpcnaaGreatCutZS
import Derived.Lib.SlicesDelete
import Derived.Lib.SliceRun
import Derived.Test.YtcihpgamojpcnaaGreatCutZA
import Derived.Test.YtcihpgamojpcnaaGreatCutWA
import Derived.Test.YtcihpgamojpcnaaGreatCutDN
set_option linter.unusedSimpArgs false
set_option linter.unusedVariables false
namespace Go.Pv
open Go Go.RowKit Go.Lib
theorem v7t{P:Program}{n:Nat}(w:World)(t e ty:TypeId)(z:Value)(ht:P.underlying t=some (.slice e))(hv:∀w,(zeroValue e).run P w=.ok z w)(h1:∀v∈(Builtin.zeroCells z.cells n).toList,v.oneCell'=true)(b o c:Nat)(hn:0<n)
  (hc:∀j,j<n*z.cells.size->(w.cell? ⟨b,o+j,none⟩).isSome=true) (hf:∀j,j<n*z.cells.size->w.frozen? ⟨b,o+j,none⟩=false):
  (Builtin.clear_ #[t] ty #[.slice (some ⟨b,o,none⟩) n c]).run P w=.ok (.tuple #[]) (w.setCells b o (Builtin.zeroCells z.cells n).toList):=by
 have hl:(Builtin.zeroCells z.cells n).toList.length=n*z.cells.size:=by simp[Builtin.zeroCells]
 have hst:=run_storeCells_cells (P:=P) b o (Builtin.zeroCells z.cells n).toList 0 w (by rw[hl];simpa using hc) (by rw[hl];simpa using hf) h1;simp only[bl8] at hst;obtain⟨m,rfl⟩:∃m,n=m+1:=⟨n - 1,by omega⟩;simp[Builtin.clear_,run_underlying ht,hv,hst]
theorem w5i{z:Array Value}{n:Nat}(h:z.all (·.oneCell')=true):∀v∈(Builtin.zeroCells z n).toList,v.oneCell'=true:=by
 intro v hv;simp only[Builtin.zeroCells,bn9,bk9,Array.mem_toList_iff,Array.mem_range] at hv;obtain⟨t,ht,rfl⟩:=hv
 have h0:0<z.size:=by
  rcases as8 z.size with q|q
  ·rw[q] at ht;simp at ht
  ·exact q
 rw[getElem!_pos z _ (at9 _ h0)];exact bn8.1 h _ (at9 _ h0)
theorem v3l{α:Type}(d:Array α)(i j:Nat)(zs:List α)(hz:zs.length=j - i)(hij:i<=j)(hj:j<=d.size):
  lay (lay d i (d.toList.drop j)) (i+(d.size - j)) zs=(d.toList.take i++d.toList.drop j++zs).toArray:=by
 apply bo9;intro t;have l1:(d.toList.take i).length=i:=by simp;omega
 have l2:(d.toList.drop j).length=d.size - j:=by simp
 rw[lay_get? _ _ _ _ (by rw[lay_size];omega),lay_get? _ _ _ _ (by rw[l2];omega),show(d.toList.take i++d.toList.drop j++zs).toArray[t]? = (d.toList.take i++d.toList.drop j++zs)[t]? from bo8];simp only[hz,l2];by_cases c1:t<i
 ·rw[if_neg (by omega),if_neg (by omega),az9 (by simp;omega),az9 (by omega),bp9,if_pos c1,ag8]
 ·by_cases c2:t<i+(d.size - j)
  ·rw[if_neg (by omega),if_pos (by omega),az9 (by simp;omega),az8 (by omega),l1]
  ·rw[az8 (by simp;omega)];simp only[bp8,l1,l2];by_cases c3:t<d.size
   ·rw[if_pos (by omega)]
   ·rw[if_neg (by omega),if_neg (by omega),bq9 (by omega),bb9 (by omega)]
def w0i(P:Program)(f:FuncId)(k:Nat):Prop:=∀(blk off cap n i j:Nat) (d:Array Value) (w:World),d.size=n*k->(∀x,x∈d.toList->x.oneCell'=true)->Go.Sort.Holds (fun v=>v) w blk off d->n<=cap->cap<=9223372036854775807->i<=j->j<=n->
 Calls P f #[.slice (some ⟨blk,off,none⟩) n cap,.int .i64 i,.int .i64 j] w fun e w'=>e=.returned (.slice (some ⟨blk,off,none⟩) (n - (j - i)) cap)/\∃q zs,zs.length=(j - i)*k/\w'=Go.Sort.putRow (fun v=>v) (Sort.ahead w q) blk off (d.toList.take (i*k)++d.toList.drop (j*k)++zs).toArray
def w6u(P:Program)(f:FuncId):Prop:=∀(a:Option Addr) (w:World),Calls P f #[.slice a 0 0,.int .i64 0,.int .i64 0] w fun e w'=>e=.returned (.slice a 0 0)/\w'=w
theorem w7i{vs:Array Value}(h:vs.size=3):∃a b c,vs=#[a,b,c]:=by
 obtain⟨l⟩:=vs
 match l,h with
 |[a,b,c],_=>exact⟨a,b,c,rfl⟩
theorem w5d{d:Array Value}{k i j:Nat}{zs:List Value}{n t c:Nat}(hd:d.size=n*k)(hij:i<=j)(hj:j<=n)(hc:c<k)(ht:t<n - (j - i)):
  (d.toList.take (i*k)++d.toList.drop (j*k)++zs)[t*k+c]? = d[(if t<i then t else t+(j - i))*k+c]?:=by
 have hik:i*k<=j*k:=bk8 _ hij;have hjk:j*k<=n*k:=bk8 _ hj;have l1:(d.toList.take (i*k)).length=i*k:=by simp;omega
 have l2:(d.toList.drop (j*k)).length=n*k - j*k:=by simp[hd]
 have hN:(n - (j - i))*k=i*k+(n*k - j*k):=by
  rw[Nat.sub_mul,Nat.sub_mul];omega
 have h1:t*k+k<=(n - (j - i))*k:=by
  rw[<-bl9];exact bk8 _ ht
 rw[az9 (by rw[bp8,l1,l2];omega)];by_cases hti:t<i
 ·have h2:t*k+k<=i*k:=by rw[<-bl9];exact bk8 _ hti
  rw[if_pos hti,az9 (by rw[l1];omega),bp9,if_pos (by omega),ag8]
 ·have h2:i*k<=t*k:=bk8 _ (by omega);rw[if_neg hti,az8 (by rw[l1];omega),l1,ba8,ag8]
  congr 1
  rw[ap8,Nat.sub_mul];omega
open Go.Sort in
theorem v9j{gl:Gl}{P:Program}{f:FuncId}{kk id:Nat}{hp:q0m}{e:TypeId}{k:Nat}{T:Type}(enc:T->List V)(hek:∀x,(enc x).length=k)(hnd:∀x,q1t (enc x))(l:List T)(i j:Int)
  (hid:q1e hp id=.arr e k (l.map enc)) (hD:w0i P f k) (hn:w6u P f) (hc:0<=i/\i<=j/\j.toNat<=l.length):
  j4v gl P f [.own id l.length,.con (.int .i64 i),.con (.int .i64 j)] kk hp (.own id (l.take i.toNat++l.drop j.toNat).length) kk ((id,.arr e k ((l.take i.toNat++l.drop j.toNat).map enc))::hp):=by
 obtain⟨h0,hij,hjl⟩:=hc;obtain⟨i,rfl⟩:=Int.eq_ofNat_of_zero_le h0;obtain⟨j,rfl⟩:=Int.eq_ofNat_of_zero_le (Int.le_trans h0 hij);simp only[Int.ofNat_eq_natCast,bq8] at hij hjl ⊢;have hij:i<=j:=by omega
 intro m β w vs himm _ hargs hown hpriv hinj hhid hnx;obtain⟨v,u1,u2,rfl⟩:=w7i (vs:=vs) (by have:=hargs.len;simpa using this.symm);have hv:=hargs.at' 0 _ _ rfl rfl;have hu1:=(hargs.at' 1 _ _ rfl rfl).of_con;have hu2:=(hargs.at' 2 _ _ rfl rfl).of_con;subst hu1 hu2;have hob:=hown id;rw[hid] at hob;have hl':(l.take i++l.drop j).length=l.length - (j - i):=by simp;omega
 generalize hr:l.take i++l.drop j=l' at hl' ⊢;have hg:∀q,q1e ((id,Ob.arr e k (l'.map enc))::hp) q=if id=q then Ob.arr e k (l'.map enc) else q1e hp q:=fun q=>q5d _ _ _ _
 have hlive:∀q,q1e ((id,Ob.arr e k (l'.map enc))::hp) q≠.dead->q1e hp q≠.dead:=fun q hq=>by
  rw[hg] at hq;split at hq
  ·rename_i hh;subst hh;rw[hid];simp
  ·exact hq
 have hhids:∀(w':World),w.heap.size<=w'.heap.size->∀q x,q1e ((id,Ob.arr e k (l'.map enc))::hp) q≠.dead->β.hid q x->x<w'.heap.size/\m x=none/\(x<w.heap.size->¬q5v hp β x)/\
   (∀i b c,q1e ((id,Ob.arr e k (l'.map enc))::hp) i≠.dead->β i=some (some (b,c))->x≠b)/\∀i,q1e ((id,Ob.arr e k (l'.map enc))::hp) i≠.dead->β.hid i x->i=q:=by
  intro w' hs q x hq hx;obtain⟨q1,q2,q3,q4⟩:=hhid q x (hlive q hq) hx;exact⟨by omega,q2,fun _ hF=>(hF q (hlive q hq)).2 hx,fun i b c hi=>q3 i b c (hlive i hi),fun i hi=>q4 i (hlive i hi)⟩
 generalize hnl:l.length=n at hv hjl hl';cases hv with
 |imm h'=>cases h'
 | @ownNil _ ad hb=>
  have hj0:j=0:=by omega
  have hi0:i=0:=by omega
  subst hj0 hi0;have hl0:l=[]:=be9.1 hnl;subst hl0;simp at hr;subst hr;refine(hn ad w).mono ?_
  rintro ex w' ⟨rfl,rfl⟩
  refine⟨_,m,β,rfl,.ownNil hb,Mem.le_refl _,himm,fun b hb _=>⟨rfl,rfl⟩,ae8 _,⟨rfl,rfl,rfl,ae8 _⟩,fun q=>?_,fun q b cap hq hbq=>?_,fun q q' b cap cap' hq hq'=>hinj q q' b cap cap' (hlive q hq) (hlive q' hq'),hhids w' (ae8 _),hnx,fun q hq=>⟨hq,rfl⟩⟩
  ·rw[hg];split
   ·rename_i hh;subst hh;rw[hb];simp[q4l]
   ·exact hown q
  ·have hq:=hlive q hq;exact⟨hpriv q b cap hq hbq,fun _ hF=>(hF q hq).1 cap hbq⟩
 | @own _ _ b cap hb=>
  rw[hb] at hob;obtain⟨arr,bl,o1,o2,o3,o4,o5,oB,o6⟩:=hob;have hbs:b<w.heap.size:=q9h o1;rw[br9,hnl] at o3;have hnk:n*k<=cap.n*k:=bk8 _ o3;obtain⟨d,hd⟩:∃d,d=arr.extract cap.off (cap.off+n*k):=⟨_,rfl⟩;have hds:d.size=n*k:=by rw[hd];simp;omega
  have hdg:∀t,t<n*k->d[t]? = arr[cap.off+t]?:=fun t ht=>by rw[hd,Array.getElem?_extract,if_pos (by omega)]
  have hcell:∀t c,t<n->c<k->∃v cv row,l[t]? = some row/\(enc row)[c]? = some cv/\arr[cap.off+(t*k+c)]? = some v/\q8n m β cv v/\v.oneCell'=true:=fun t c ht hc=>by
   have ht':t<l.length:=by omega
   have hc':c<(enc l[t]).length:=by rw[hek];exact hc
   obtain⟨v,v1,v2,v3⟩:=o6 t c (enc l[t]) (enc l[t])[c] (by rw[bf9,be8 ht'];rfl) (be8 hc');exact⟨v,_,l[t],be8 ht',be8 hc',v1,v2.v (hnd _ _ (bh8 hc')).1,v3⟩
  have hone:∀x,x∈d.toList->x.oneCell'=true:=by
   intro x hx;obtain⟨t,ht,rfl⟩:=br8 hx;have ht':t<n*k:=by rw[<-hds];simpa using ht
   have hk:0<k:=by
    rcases as8 k with h|h
    ·subst h;simp at ht'
    ·exact h
   obtain⟨v,_,_,_,_,a1,_,a2⟩:=hcell (t / k) (t % k) (bj9 (by rw[at8];exact ht')) (at9 _ hk);have e1:t / k*k+t % k=t:=by rw[at8];exact au9 t k
   rw[e1,<-hdg t ht'] at a1
   have:d.toList[t]=v:=by
    have:d.toList[t]? = some v:=by rw[ag8];exact a1
    rw[be8 ht] at this;exact ak9 this
   rw[this];exact a2
  have hcm:cap.n<=9223372036854775807:=o4;refine(hD b cap.off cap.n n i j d w hds hone (fun t ht=>?_) o3 hcm hij hjl).mono ?_
  ·have ht':t<n*k:=by rw[<-hds];exact ht
   have hx:=hdg t ht';rw[bh9 ht] at hx;rw[getElem!_pos d t ht];exact⟨(q7i o1).trans hx.symm,by simp[World.frozen?,o1]⟩
  rintro ex w' ⟨rfl,nd,zs,hzs,rfl⟩
  obtain⟨new,hnew⟩:∃new,new=d.toList.take (i*k)++d.toList.drop (j*k)++zs:=⟨_,rfl⟩;have hik:i*k<=j*k:=bk8 _ hij;have hjk:j*k<=n*k:=bk8 _ hjl
  have hnewl:new.length=n*k:=by
   rw[hnew,bp8,bp8,hzs,Nat.sub_mul,bs9,aq9,bs8,hds];omega
  rw[<-hnew];have hheap:=z7d (fun v:Value=>v) w nd b cap.off new.toArray #[];rw[<-v0q] at hheap;have hother:∀b',b'<w.heap.size->b'≠b->(putRow (fun v:Value=>v) (Sort.ahead w nd) b cap.off new.toArray).heap[b']? = w.heap[b']?:=fun b' h1 h2=>by rw[hheap b' h1,if_neg (Ne.symm h2)]
  have hlid:q1e hp id≠.dead:=by rw[hid];simp
  have hsz:w.heap.size<=(putRow (fun v:Value=>v) (Sort.ahead w nd) b cap.off new.toArray).heap.size:=by simp[putRow,mapBlock,Sort.ahead]
  have hres:q8n m β (.own id l'.length) (.slice (some ⟨b,cap.off,none⟩) (n - (j - i)) cap.n):=by rw[hl'];exact .own hb
  refine⟨_,m,β,rfl,hres,Mem.le_refl _,fun b' o hb'=>?_,fun b' hb' hF=>⟨rfl,hother b' hb' (fun e=>?_)⟩,hsz,⟨rfl,rfl,rfl,bj8 _ _⟩,fun q=>?_,fun q b' cap' hq hbq=>?_,fun q q' b1 cap1 cap2 hq hq'=>hinj q q' b1 cap1 cap2 (hlive q hq) (hlive q' hq'),hhids _ hsz,hnx,fun q hq=>⟨hq,rfl⟩⟩
  ·have hne:b'≠b:=fun e=>by
    subst e;rw[hpriv id b' cap hlid hb] at hb';simp at hb'
   rw[hother b' (q9h (himm b' o hb')) hne];exact himm b' o hb'
  ·subst e;exact(hF id hlid).1 cap hb
  ·rw[hg];split
   ·rename_i hh;subst hh;rw[hb];refine⟨putCells (fun v:Value=>v) cap.off new.toArray arr,bl,by rw[hheap b hbs,if_pos rfl,o1];rfl,by simp[putCells,o2],by rw[br9,hl'];omega,o4,?_,oB,fun t c row cv hr' hcv=>?_⟩
    ·intro row hr';obtain⟨x,_,rfl⟩:=bk9.1 hr';exact hek x
    ·rw[bf9] at hr';cases hli:l'[t]? with
     |none=>rw[hli] at hr';simp at hr'
     |some x=>
      rw[hli] at hr';simp at hr';subst hr';have ht:t<l'.length:=(bi8.1 hli).1;rw[hl'] at ht
      have hck:c<k:=by
       have:=(bi8.1 hcv).1;rw[hek] at this;exact this
      obtain⟨v,cv',row',a1,a2,a3,a4,a5⟩:=hcell (if t<i then t else t+(j - i)) c (by split<;>omega) hck
      have hrow:row'=x:=by
       have:l'[t]? = l[if t<i then t else t+(j - i)]?:=by
        rw[<-hr];by_cases hti:t<i
        ·rw[if_pos hti,az9 (by simp;omega),bp9,if_pos hti]
        ·rw[if_neg hti,az8 (by simp;omega),ba8]
         congr 1
         simp;omega
       rw[hli,a1] at this;exact(ak9 this).symm
      subst hrow;rw[hcv] at a2;simp only[bc8] at a2;subst a2
      have hpos:t*k+c<n*k:=by
       have h1:t*k+k<=n*k:=by rw[<-bl9];exact bk8 _ (by omega)
       omega
      have ha:cap.off+(t*k+c)<arr.size:=by rw[o2];omega
      refine⟨v,?_,.inl a4,a5⟩;unfold putCells;rw[bm9,bh9 ha,bg9,if_pos ⟨bj8 _ _,by simp[hnewl];omega⟩,bm8,getElem!_pos _ (t*k+c) (by simp[hnewl];exact hpos)];have hfg:=w5d (zs:=zs) hds hij hjl hck ht;rw[<-hnew,be8 (by rw[hnewl];exact hpos)] at hfg
      have hq:(if t<i then t else t+(j - i))*k+c<n*k:=by
       have h1:(if t<i then t else t+(j - i))+1<=n:=by split<;>omega
       have h2:=bk8 k h1;rw[bl9] at h2;omega
      rw[hdg _ hq,a3] at hfg
      simpa using hfg
   ·by_cases hd0:q1e hp q=.dead
    ·rw[hd0];exact q4l.dead' _
    ·refine q4l.congr (fun b' cap' hbb=>hother b' (q3x hd0 hbb (hown q)) (fun e=>?_)) (fun x hx=>hother x (hhid q x hd0 hx).1 ((hhid q x hd0 hx).2.2.1 id b cap hlid hb)) (hown q);subst e;rename_i hne;exact hne (hinj id q b' cap cap' hlid hd0 hb hbb)
  ·have hq:=hlive q hq;exact⟨hpriv q b' cap' hq hbq,fun _ hF=>(hF q hq).1 cap' hbq⟩
end Go.Pv
namespace Go.Pv
open Go
section
variable{K:Ctx}{Q:q5q}{S:St}
variable{ops:Array Oper}{rest:List Oper}{ty:TypeId}{pos:String}{after:Array Edge}{g:Option (Nat×Bool)}
def z0a{α:Type}(e k:Nat)(enc:α->List V)(r:List α):List V:=[.dsl e k (r.map enc)]
theorem v1z{α:Type}(l:List α)(i:Nat)(a b:α):(l.set i a).set i b=l.set i b:=by
 induction l generalizing i with
 |nil=>rfl
 |cons x l ih=>cases i with
  |zero=>rfl
  |succ i=>simp[ih]
theorem w7n(e k:Nat):j7v Idn (.dsl e k []) (.con (.slice none 0 0)):=fun m β m' β' w B x hy hx=>by
 have h:=hx.v rfl;have:=h.of_con;subst this;exact .inr (.nil e k none)
theorem v2a{env:Env}{hp:q0m}(hp':q0m){nx:Nat}(h:∀q,q1e hp' q=q1e hp q):q6h K ⟨env,hp,nx⟩ ⟨env,hp',nx⟩:=fun m β w a r=>⟨m,β,r.congr (fun _=>rfl) h rfl⟩
theorem j8z{i:Nat}{b:Ob}{hp:q0m}:q1e ((i,b)::hp) i=b:=by rw[q5d,if_pos rfl]
theorem j3g{α:Type}{d T e k bytes e2 k2:Nat}{x:Operand}{n:Int}{zs:List Value}{ln:Nat}(enc:α->List V)(rows:List (List V))(hT:z6j K.P T e k bytes=true)(hz:zeroCells K.P e=some zs)
  (h1:zs.all (·.oneCell')=true) (hk:Nat.blt 0 k=true) (hzn:zs=[.slice none 0 0]) (h0:0<=n/\(bytes:Int)*n<=140737488355328/\n<=140737488355328) (hr:rows=(List.replicate n.toNat ([]:List α)).map (z0a e2 k2 enc)) (hln:ln=n.toNat) (hw:q1h ops S ⟨some d,.makeSlice T x x,ty,pos,after,g⟩ true)
  (hx:evl K S x=.con (.int .i64 n)) (hN:Nat.blt d K.N=true)
  (kk:q7g K ops rest Q ⟨(d,.own S.nx ln)::S.env,(S.nx,.arr e k rows)::S.hp,S.nx+1⟩):
  q7g K ops (⟨some d,.makeSlice T x x,ty,pos,after,g⟩::rest) Q S:=by
 refine z3b (List.replicate n.toNat (zs.map V.con)) hT hz h1 hk h0 rfl hln hw hx hN ?_;refine q2h (z2m S.nx (.arr e k rows) (ob0:=.arr e k (List.replicate n.toNat (zs.map V.con))) j8z ?_) (q2h (v2a ((S.nx,.arr e k rows)::S.hp) (fun q=>?_)) kk)
 ·subst hr hzn;refine⟨rfl,rfl,by simp,fun i r r' h h'=>?_⟩;rw[bf9,bt9] at h;rw[bt9] at h';split at h
  ·rename_i hi;rw[if_pos hi] at h';simp only[bg9,bc8] at h h';subst h h';refine⟨by simp[z0a],fun j c c' hc hc'=>?_⟩
   match j with
   |0=>
    simp[z0a] at hc hc';subst hc hc';exact w7n e2 k2
   |j+1=>simp[z0a] at hc
  ·simp at h
 ·simp only[q5d];split<;>rfl
instance {α:Type} {e k:Nat} {enc:α->List V}:EK (z0a e k enc):=⟨fun x c hc=>by
 have:c=.dsl e k (x.map enc):=by simpa[z0a] using hc
 subst this;exact q9y.dsl _ _ _⟩
end
theorem bk{α β:Type}{o:Option α}{k:α->Option β}{r:β}{P:Prop}(h:o.bind k=some r)(c:∀y,o=some y->k y=some r->P):P:=by
 obtain⟨y,a,b⟩:=bind_some h;exact c y a b
theorem j7o{gl:Gl}{P:Program}{f:FuncId}{args args':List V}{d:V}{k:Nat}(i:Nat)(h1:args'[i]? = some (.con (.slice none 0 0)))(h2:args=args'.set i (.lst k []))(h:z6q gl P f args d):z6q gl P f args' d:=fun m w vs hm hg ha=>by
 subst h2;refine h m w vs hm hg ⟨by simpa using ha.1,fun j c v hc hv=>?_⟩;rw[bt8] at hc;by_cases e:i=j
 ·subst e;have hi:=(bi8.1 h1).1;rw[if_pos rfl,if_pos hi] at hc;cases hc;have:=ha.2 i _ v h1 hv;cases this;exact .nil _ _ _
 ·rw[if_neg e] at hc;exact ha.2 j c v hc hv
section
variable{K:Ctx}{Q:q5q}{S:St}
variable{ops:Array Oper}{rest:List Oper}{ty:TypeId}{pos:String}{after:Array Edge}{g:Option (Nat×Bool)}
theorem w8e(c:V):j7v Idn c c:=j7v.same j3v.h Sub.keepI
end
section
variable{K:Ctx}{Q:q5q}{S:St}
variable{m:Mem}{β:q4m}{w:World}{a:Act}
variable{ops:Array Oper}{rest:List Oper}{ty:TypeId}{pos:String}{after:Array Edge}{g:Option (Nat×Bool)}
def cellX(v:Option Value)(e k:Nat)(r:List (List V)):V:=match v with|none=>.dsl e k r|some v=>.dsx v e k r
def q1g{α:Type}(ls:Nat->Option Value)(e k:Nat)(enc:α->List V)(xs:List (List α)):List (List V):=xs.mapIdx fun i x=>[cellX (ls i) e k (x.map enc)]
theorem q3w{α:Type}{ls:Nat->Option Value}{e k:Nat}{enc:α->List V}{xs:List (List α)}:(q1g ls e k enc xs).length=xs.length:=by simp[q1g]
theorem q4w{α:Type}{ls:Nat->Option Value}{e k:Nat}{enc:α->List V}{xs:List (List α)}{i:Nat}{x:List α}(h:xs[i]? = some x):(q1g ls e k enc xs)[i]? = some [cellX (ls i) e k (x.map enc)]:=by
 simp[q1g,bu9,h]
theorem v8t{α:Type}{e k:Nat}{enc:α->List V}{xs:List (List α)}:q1g (fun _=>none) e k enc xs=xs.map (z0a e k enc):=by
 apply ay8;intro i;simp only[q1g,bu9,bf9];cases xs[i]?<;>rfl
theorem v3z{α:Type}{ls ls':Nat->Option Value}{e k:Nat}{enc:α->List V}{xs xs':List (List α)}{i:Nat}{x:List α}{c:V}(hl:∀j,j≠i->ls' j=ls j)(hi:i<xs.length)(hc:cellX (ls' i) e k (x.map enc)=c)(hx:xs'=xs.set i x):
  (q1g ls e k enc xs).set i [c]=q1g ls' e k enc xs':=by
 subst hx;apply ay8;intro j;rw[bt8];by_cases e1:i=j
 ·subst e1;rw[if_pos rfl,if_pos (by rw[q3w];exact hi),q4w (bu8 hi),hc]
 ·rw[if_neg e1];simp only[q1g,bu9,bt8,if_neg e1,hl j (Ne.symm e1)]
def q6t(v:Value)(o:Nat):Value:=match v with | .slice (some a) _ _=>.pointer (some ⟨a.block,a.off+o,a.spot⟩)|_=>.pointer none
theorem Rel.blk(r:Rel K m β w a S){id e k i:Nat}{rows:List (List V)}{row:List V}(ho:q1e S.hp id=.arr e k rows)(hi:rows[i]? = some row):∃b cap,β id=some (some (b,cap)):=by
 have hown:=r.own id;rw[ho] at hown
 match hh:β id,hown with
 |none,hown=>simp[q4l] at hown
 |some none,hown=>have hown:rows=[]:=hown;subst hown;simp at hi
 |some (some (b,cap)),_=>exact⟨b,cap,rfl⟩
theorem Rel.rowX{α:Type}(r:Rel K m β w a S){id E i e k:Nat}{ls:Nat->Option Value}{enc:α->List V}{xs:List (List α)}{x:List α}{v:Value}(ho:q1e S.hp id=.arr E 1 (q1g ls e k enc xs))(hi:xs[i]? = some x)(hv:ls i=some v):
  ∃b cap arr bl,β id=some (some (b,cap))/\w.heap[b]? = some (.cells arr E (0,0))/\Bls (β.hid id) bl/\arr[cap.off+i]? = some v/\z9m m w (bl i) (.dsl e k (x.map enc)) v/\v.oneCell'=true:=by
 have hr:=q4w (ls:=ls) (e:=e) (k:=k) (enc:=enc) hi;obtain⟨b,cap,hb⟩:=r.blk ho hr;obtain⟨arr,bl,h1,h2,h3,h4,h5,h6,h7⟩:=r.obj hb ho;obtain⟨u,u1,u2,u3⟩:=h7 i 0 _ _ hr rfl;rw[hv] at u2;simp only[bv9,bl8] at u1 u2;have hd:=z8c rfl u2;unfold cellX at hd;cases hd with
 |imm h=>cases h
 |dx hd=>exact⟨b,cap,arr,bl,hb,h1,h6,u1,hd,u3⟩
theorem w6e{B:Nat->Prop}{e k:Nat}{rows:List (List V)}{v:Value}(h:z9m m w B (.dsl e k rows) v):∃ad cap,v=.slice ad rows.length cap:=by
 cases h with
 |imm h=>cases h
 |nil=>exact⟨_,_,rfl⟩
 |sl=>exact⟨_,_,rfl⟩
theorem z2t{B:Nat->Prop}{e k j:Nat}{rows:List (List V)}{row:List V}{v:Value}(h:z9m m w B (.dsl e k rows) v)(hj:rows[j]? = some row):
  ∃b off cap arr bl,v=.slice (some ⟨b,off,none⟩) rows.length cap/\B b/\(∀p,¬bl p b)/\Bls B bl/\w.heap[b]? = some (.cells arr e (0,0))/\arr.size=off+cap*k/\rows.length<=cap/\cap<=maxLen/\(∀row,row∈rows->row.length=k)/\
   ∀(i o:Nat) (row:List V) (c:V),rows[i]? = some row->row[o]? = some c->∃u,arr[off+(i*k+o)]? = some u/\z9m m w (bl (i*k+o)) c u/\u.oneCell'=true:=by
 cases h with
 |imm h=>cases h
 |nil=>simp at hj
 | @sl _ _ b cap off _ _ arr bl f hb hbb hB hw hs hr hcap hk hf h=>
  exact⟨b,off,cap,arr,bl,rfl,hb,hbb,hB,hw,hs,hr,hcap,hk,fun i o row c h1 h2=>⟨_,(hf i o row c h1 h2).1,h i o row c h1 h2,(hf i o row c h1 h2).2⟩⟩
theorem q5t{α:Type}{d id E i e k:Nat}{x:Operand}{T:TypeId}{ls:Nat->Option Value}{enc:α->List V}{xs:List (List α)}{y:List α}{v:Value}(hT:tyC K.P T=true)
  (hw:q1h ops S ⟨some d,.load T x,ty,pos,after,g⟩ true) (hx:evl K S x=.ptr id 1 i 0) (ho:q1e S.hp id=.arr E 1 (q1g ls e k enc xs)) (hi:xs[i]? = some y) (hv:ls i=some v) (hN:Nat.blt d K.N=true)
  (kk:q7g K ops rest Q (S.put d (.con v))):q7g K ops (⟨some d,.load T x,ty,pos,after,g⟩::rest) Q S:=
 q9g _ hw hN (fun m β w a r=>by
  have h:=r.reads x;rw[hx] at h;obtain⟨b,cap,hb,hv'⟩:=h.ptr_inv;obtain⟨b2,cap2,arr,bl,q1,q2,q3,q4,q5,q6⟩:=r.rowX ho hi hv;rw[hb] at q1;simp only[bc8,Prod.mk.injEq] at q1;obtain⟨rfl,rfl⟩:=q1;exact⟨v,by simp only[execOp,hv'];exact q1f (q6q hT (by rw[q7i q2];simpa using q4)),.imm (.con _)⟩) kk
theorem z2q{α:Type}{d id E i e k:Nat}{x:Operand}{T:TypeId}{ls:Nat->Option Value}{enc:α->List V}{xs:List (List α)}{y:List α}{v:Value}(hT:q3l K.P T=true)
  (hw:q1h ops S ⟨some d,.call ⟨.builtin .len,#[x],#[T]⟩,ty,pos,after,g⟩ true) (hx:evl K S x=.con v) (ho:q1e S.hp id=.arr E 1 (q1g ls e k enc xs)) (hi:xs[i]? = some y) (hv:ls i=some v) (hN:Nat.blt d K.N=true)
  (kk:q7g K ops rest Q (S.put d (.con (.int .i64 y.length)))):q7g K ops (⟨some d,.call ⟨.builtin .len,#[x],#[T]⟩,ty,pos,after,g⟩::rest) Q S:=
 q9g _ hw hN (fun m β w a r=>by
  obtain⟨e',hu⟩:=j0c hT;obtain⟨b,cap,arr,bl,q1,q2,q3,q4,q5,q6⟩:=r.rowX ho hi hv;obtain⟨ad,c,he⟩:=w6e q5;rw[br9] at he;refine⟨.int .i64 y.length,q7u rfl ?_,.imm (.con _)⟩;simp only[builtin];refine q1f ?_;simp only[Builtin.len_,bv8,bw9,av9,r.con hx,he];simp[run_underlying hu,goInt,pure,Sem.run]) kk
theorem z4e{α:Type}{d id E i e k:Nat}{x y:Operand}{T:TypeId}{ik:IntKind}{n:Int}{ls:Nat->Option Value}{enc:α->List V}{xs:List (List α)}{l:List α}{z:α}{v:Value}(hT:z1s K.P T k=true)
  (hw:q1h ops S ⟨some d,.indexAddr T x y,ty,pos,after,g⟩ true) (hx:evl K S x=.con v) (hy:evl K S y=.con (.int ik n)) (ho:q1e S.hp id=.arr E 1 (q1g ls e k enc xs)) (hi:xs[i]? = some l) (hv:ls i=some v)
  (h0:0<=n) (hj:l[n.toNat]? = some z) (hN:Nat.blt d K.N=true) (kk:q7g K ops rest Q (S.put d (.con (q6t v (n.toNat*k))))):
  q7g K ops (⟨some d,.indexAddr T x y,ty,pos,after,g⟩::rest) Q S:=
 q9g _ hw hN (fun m β w a r=>by
  obtain⟨b,cap,arr,bl,q1,q2,q3,q4,q5,q6⟩:=r.rowX ho hi hv;have hj':(l.map enc)[n.toNat]? = some (enc z):=by rw[bf9,hj];rfl
  obtain⟨b2,off,c2,arr2,bl2,rfl,_⟩:=z2t q5 hj';have hlt:n.toNat<(l.map enc).length:=(bi8.1 hj').1;refine⟨_,by simp only[execOp,r.con hx,r.con hy];exact q1f (q3z hT h0 hlt),?_⟩;rw[q4u];exact .imm (.con _)) kk
theorem w0a{α:Type}{e k j:Nat}{B:Nat->Prop}{enc:α->List V}{l:List α}{z:α}{v:Value}(h:z9m m w B (.dsl e k (l.map enc)) v)(hj:l[j]? = some z)(o:Nat):∃b off,q6t v o=.pointer (some ⟨b,off+o,none⟩):=by
 have hj':(l.map enc)[j]? = some (enc z):=by rw[bf9,hj];rfl
 obtain⟨b2,off,c2,arr2,bl2,rfl,_⟩:=z2t h hj';exact⟨b2,off,rfl⟩
theorem q5l{α:Type}{d id E i e k j o:Nat}{x:Operand}{ls:Nat->Option Value}{enc:α->List V}{xs:List (List α)}{l:List α}{z:α}{v:Value}(hw:q1h ops S ⟨some d,.nilCheck x,ty,pos,after,g⟩ true)(hx:evl K S x=.con (q6t v o))
  (ho:q1e S.hp id=.arr E 1 (q1g ls e k enc xs)) (hi:xs[i]? = some l) (hv:ls i=some v) (hj:l[j]? = some z) (hN:Nat.blt d K.N=true) (kk:q7g K ops rest Q (S.put d (.con (q6t v o)))):
  q7g K ops (⟨some d,.nilCheck x,ty,pos,after,g⟩::rest) Q S:=
 q9g _ hw hN (fun m β w a r=>by
  obtain⟨b,cap,arr,bl,q1,q2,q3,q4,q5,q6⟩:=r.rowX ho hi hv;obtain⟨b2,off,he⟩:=w0a q5 hj o;exact⟨q6t v o,by simp only[execOp,r.con hx,he];rfl,.imm (.con _)⟩) kk
theorem q3n{α:Type}{d id E i e k j o f off:Nat}{x:Operand}{T:TypeId}{ls:Nat->Option Value}{enc:α->List V}{xs:List (List α)}{l:List α}{z:α}{v:Value}(hF:tyF K.P T f off=true)(hw:q1h ops S ⟨some d,.fieldAddr T x f,ty,pos,after,g⟩ true)(hx:evl K S x=.con (q6t v o))
  (ho:q1e S.hp id=.arr E 1 (q1g ls e k enc xs)) (hi:xs[i]? = some l) (hv:ls i=some v) (hj:l[j]? = some z) (hN:Nat.blt d K.N=true) (kk:q7g K ops rest Q (S.put d (.con (q6t v (o+off))))):
  q7g K ops (⟨some d,.fieldAddr T x f,ty,pos,after,g⟩::rest) Q S:=
 q9g _ hw hN (fun m β w a r=>by
  obtain⟨b,cap,arr,bl,q1,q2,q3,q4,q5,q6⟩:=r.rowX ho hi hv;have hj':(l.map enc)[j]? = some (enc z):=by rw[bf9,hj];rfl
  obtain⟨b2,off2,c2,arr2,bl2,rfl,_⟩:=z2t q5 hj';refine⟨.pointer (some ⟨b2,(off2+o)+off,none⟩),by simp only[execOp,r.con hx];exact q1f (v6i hF w b2 (off2+o)),?_⟩;rw[ah8];exact .imm (.con _)) kk
theorem q9o{α:Type}{d id E i e k j o f:Nat}{x:Operand}{T:TypeId}{ls:Nat->Option Value}{enc:α->List V}{xs:List (List α)}{l:List α}{z:α}{v:Value}(c:V)(hT:tyC K.P T=true)(hw:q1h ops S ⟨some d,.load T x,ty,pos,after,g⟩ true)(hx:evl K S x=.con (q6t v o))
  (ho:q1e S.hp id=.arr E 1 (q1g ls e k enc xs)) (hi:xs[i]? = some l) (hv:ls i=some v) (hj:l[j]? = some z) (ho':o=j*k+f) (hc:(enc z)[f]? = some c) (hd:c.deep=false) (hN:Nat.blt d K.N=true) (kk:q7g K ops rest Q (S.put d c)):
  q7g K ops (⟨some d,.load T x,ty,pos,after,g⟩::rest) Q S:=
 q9g _ hw hN (fun m β w a r=>by
  obtain⟨b,cap,arr,bl,q1,q2,q3,q4,q5,q6⟩:=r.rowX ho hi hv;have hj':(l.map enc)[j]? = some (enc z):=by rw[bf9,hj];rfl
  obtain⟨b2,off2,c2,arr2,bl2,rfl,p1,p2,p3,p4,p5,p6,p7,p8,p9⟩:=z2t q5 hj';obtain⟨u,u1,u2,u3⟩:=p9 j f _ c hj' hc;subst ho';exact⟨u,by simp only[execOp,r.con hx];exact q1f (q6q hT (by rw[q7i p4];exact u1)),z1z.v (.inr u2) hd⟩) kk
theorem v6b{α:Type}{d id E i e k j n:Nat}{x:Operand}{T:TypeId}{ls:Nat->Option Value}{enc:α->List V}{xs:List (List α)}{l:List α}{z:α}{v:Value}{cs:List V}(hT:tyA K.P T n=true)(hw:q1h ops S ⟨some d,.load T x,ty,pos,after,g⟩ true)(hx:evl K S x=.con (q6t v (j*k)))
  (ho:q1e S.hp id=.arr E 1 (q1g ls e k enc xs)) (hi:xs[i]? = some l) (hv:ls i=some v) (hj:l[j]? = some z) (hc:enc z=cs) (hn:cs.length=n) (hnd:ndB cs=true) (hN:Nat.blt d K.N=true) (kk:q7g K ops rest Q (S.put d (.agg cs))):
  q7g K ops (⟨some d,.load T x,ty,pos,after,g⟩::rest) Q S:=
 q9g _ hw hN (fun m β w a r=>by
  subst hc;obtain⟨b,cap,arr,bl,q1,q2,q3,q4,q5,q6⟩:=r.rowX ho hi hv;have hj':(l.map enc)[j]? = some (enc z):=by rw[bf9,hj];rfl
  obtain⟨b2,off2,c2,arr2,bl2,rfl,p1,p2,p3,p4,p5,p6,p7,p8,p9⟩:=z2t q5 hj'
  have hcell:∀o c,(enc z)[o]? = some c->∃u,arr2[off2+j*k+o]? = some u/\q8n m β c u:=fun o c hc=>by
   obtain⟨u,u1,u2,_⟩:=p9 j o _ c hj' hc;exact⟨u,by rw[ah8];exact u1,z1z.v (.inr u2) (z6u hnd hc)⟩
  have hrun:=q2w (P:=K.P) (w:=w) (b:=b2) (o:=off2+j*k) (fun o=>arr2.getD (off2+j*k+o) undef) hT (fun o ho=>by
   rw[q7i p4];obtain⟨u,a1,_⟩:=hcell o (enc z)[o] (by simp[hn,ho]);rw[a1];simp[bw8,a1])
  refine⟨_,by simp only[execOp,r.con hx];exact q1f hrun,?_⟩;refine .agg (by simp[hn]) (fun o c u ho hu=>?_);obtain⟨u',a1,a2⟩:=hcell o c ho;simp only[bo8,bf9] at hu;have ho':o<n:=by rw[<-hn];exact(bi8.1 ho).1
  rw[bf8 ho'] at hu;simp only[bg9,bc8] at hu;rw[<-hu];simp[bw8,a1];exact a2) kk
theorem Rel.updateH(r:Rel K m β w a S){id x:Nat}(hl:q1e S.hp id≠.dead)(hx:β.hid id x)(w':World)(ob:Ob)
  (hw:∀b',b'≠x->w'.heap[b']? = w.heap[b']?) (hs:w'.heap.size=w.heap.size) (hsame:w2i w w') (hok:q4l m β w' (β.hid id) (β id) ob):Rel K m β w' a ⟨S.env,(id,ob)::S.hp,S.nx⟩:=by
 have hp:=r.hid id x hl hx
 have live:∀i,q1e ((id,ob)::S.hp) i≠.dead->q1e S.hp i≠.dead:=by
  intro i hi;rw[q5d] at hi;by_cases h:id=i
  ·subst h;exact hl
  ·rw[if_neg h] at hi;exact hi
 constructor
 ·intro b' o' h;have:b'≠x:=by intro e;subst e;rw[hp.m] at h;simp at h
  rw[hw _ this];exact r.imm b' o' h
 ·exact r.ext
 ·exact r.mold
 ·intro b' hb' ho;have:b'≠x:=by intro e;subst e;exact hp.old hb' ho
  rw[hw _ this];exact r.frame b' hb' ho
 ·rw[hs];exact r.size
 ·exact r.same.trans hsame
 ·exact r.tn
 ·exact r.df
 ·exact r.env
 ·intro id';simp only[q5d];by_cases h:id=id'
  ·subst h;rw[if_pos rfl];exact hok
  ·rw[if_neg h];by_cases hd:q1e S.hp id'=.dead
   ·rw[hd];exact q4l.dead' _
   ·refine q4l.congr (fun b' cap' hbi=>hw b' fun e=>?_) (fun y hy=>hw y fun e=>?_) (r.own id')
    ·subst e;exact hp.ne id' b' cap' hd hbi rfl
    ·subst e;exact h (hp.un id' hd hy).symm
 ·intro id' b' c' hl' hb';exact r.priv _ _ _ (live _ hl') hb'
 ·exact fun i i' b' c c' h1 h2=>r.inj i i' b' c c' (live i h1) (live i' h2)
 ·intro i y hi hy;have h:=r.hid i y (live i hi) hy;exact⟨by rw[hs];exact h.lt,h.m,h.old,fun i' b' c' hi'=>h.ne i' b' c' (live i' hi'),fun i' hi'=>h.un i' (live i' hi')⟩
 ·exact r.nx
 ·exact r.pin
end
section
variable{K:Ctx}{Q:q5q}{S:St}
variable{m:Mem}{β:q4m}{w:World}{a:Act}
variable{ops:Array Oper}{rest:List Oper}{ty:TypeId}{pos:String}{after:Array Edge}{g:Option (Nat×Bool)}
theorem q9y.cellX{v:Option Value}{e k:Nat}{r:List (List V)}:q9y (cellX v e k r):=by
 cases v with
 |none=>exact q9y.dsl _ _ _
 |some v=>exact q9y.plc _ _
instance {α:Type} {ls:Nat->Option Value} {e k:Nat} {enc:α->List V} {xs:List (List α)}:RK (q1g ls e k enc xs):=⟨fun row hr c hc=>by
 simp only[q1g,List.mem_mapIdx] at hr;obtain⟨i,_,rfl⟩:=hr;simp only[bx9] at hc;subst hc;exact q9y.cellX⟩
theorem z2v{α:Type}{id E i e k j o f:Nat}{x y:Operand}{T:TypeId}{ls:Nat->Option Value}{enc:α->List V}{xs:List (List α)}{l:List α}{z:α}{v:Value}{c:V}(z':α)(xs':List (List α))(hT:tyS K.P T 1=true)(hw:q1h ops S ⟨none,.store T x y,ty,pos,after,g⟩ true)
  (hx:evl K S x=.con (q6t v o)) (hy:evl K S y=c) (hcs:q9p c=[c]) (h1:z3c c=true) (hkc:q9y c)
  (ho:q1e S.hp id=.arr E 1 (q1g ls e k enc xs)) (hi:xs[i]? = some l) (hv:ls i=some v) (hj:l[j]? = some z) (ho':o=j*k+f) (hz:enc z'=(enc z).set f c) (hf:f<(enc z).length) (hxs:xs.set i (l.set j z')=xs')
  (kk:q7g K ops rest Q ⟨S.env,(id,.arr E 1 (q1g ls e k enc xs'))::S.hp,S.nx⟩):
  q7g K ops (⟨none,.store T x y,ty,pos,after,g⟩::rest) Q S:=by
 subst hxs ho';refine q3k hw (fun m β w a r=>?_) kk;have hl0:q1e S.hp id≠.dead:=by rw[ho];simp
 have hyv:=r.reads y;rw[hy] at hyv;obtain⟨c1,c2,c3⟩:=hyv.cells (by rw[hcs];simpa using h1);rw[hcs] at c1 c2;have hr:=q4w (ls:=ls) (e:=e) (k:=k) (enc:=enc) hi;obtain⟨b,cap,hb⟩:=r.blk ho hr;obtain⟨arr,bl,a1,a2,a3,a4,a5,aB,a6⟩:=r.obj hb ho;obtain⟨u,u1,u2,u3⟩:=a6 i 0 _ _ hr rfl;rw[hv] at u2;simp only[bv9,bl8] at u1 u2;have hd:=z8c rfl u2;unfold cellX at hd
 have hd:u=v/\z9m m w (bl i) (.dsl e k (l.map enc)) v:=by
  cases hd with
  |imm h=>cases h
  |dx hd=>exact⟨rfl,hd⟩
 obtain⟨rfl,hd⟩:=hd;have hj':(l.map enc)[j]? = some (enc z):=by rw[bf9,hj];rfl
 obtain⟨b2,off,c0,arr2,bl2,rfl,p1,p2,p3,p4,p5,p6,p7,p8,p9⟩:=z2t hd hj';have hjl:j<(l.map enc).length:=(bi8.1 hj').1
 have hik:off+(j*k+k)<=arr2.size:=by
  have:j*k+k<=c0*k:=by
   calc j*k+k=(j+1)*k:=by rw[ap8,as9]
    _<=c0*k:=bk8 _ (by omega)
  rw[p5];omega
 have hfk:f<k:=by rw[<-p8 _ (bd8 hj')];exact hf
 have c1':(a.eval y).cells.size=1:=by simpa using c1.symm
 have hlen:(a.eval y).cells.toList.length=1:=by simpa using c1'
 have hrun:=run_storeCells_at (P:=K.P) b2 (off+(j*k+f)) e (a.eval y).cells.toList 0 arr2 w p4 (by rw[hlen];omega) c3;simp only[bl8] at hrun;have hbb:β.hid id b2:=aB.1 i b2 p1;have hne:b≠b2:=fun h=>(r.hid id b2 hl0 hbb).ne id b cap hl0 hb h.symm;refine⟨undef,w.setRow b2 (arr2.toList.take (off+(j*k+f))++(a.eval y).cells.toList++arr2.toList.drop (off+(j*k+f)+(a.eval y).cells.toList.length)).toArray,m,β,.inr ⟨rfl,?_⟩,?_⟩;rotate_left
 ·have hoth:∀x,x≠b2->(w.setRow b2 (arr2.toList.take (off+(j*k+f))++(a.eval y).cells.toList++arr2.toList.drop (off+(j*k+f)+(a.eval y).cells.toList.length)).toArray).heap[x]? = w.heap[x]?:=fun x hx=>z9l hx;refine r.updateH hl0 hbb _ (.arr E 1 (q1g ls e k enc (xs.set i (l.set j z')))) hoth (by simp[World.setRow]) ⟨rfl,rfl,rfl,ae8 _⟩ ?_;rw[hb]
  have hnew:∀p,(arr2.toList.take (off+(j*k+f))++(a.eval y).cells.toList++arr2.toList.drop (off+(j*k+f)+(a.eval y).cells.toList.length)).toArray[p]? = if off+(j*k+f)<=p/\p<off+(j*k+f)+1 then (a.eval y).cells[p - (off+(j*k+f))]? else arr2[p]?:=by
   intro p;rw[bo8,z8b _ _ _ (by rw[hlen];simp;omega),hlen];split<;>simp
  have hsz:(arr2.toList.take (off+(j*k+f))++(a.eval y).cells.toList++arr2.toList.drop (off+(j*k+f)+(a.eval y).cells.toList.length)).toArray.size=arr2.size:=by
   rw[bx8];simp only[bp8,bs9,aq9,bs8,hlen];omega
  generalize hnn:(arr2.toList.take (off+(j*k+f))++(a.eval y).cells.toList++arr2.toList.drop (off+(j*k+f)+(a.eval y).cells.toList.length)).toArray=arr3 at hoth hnew hsz;refine⟨arr,bl,by rw[hoth b hne];exact a1,a2,by rw[q3w,ar9,<-q3w (ls:=ls) (e:=e) (k:=k) (enc:=enc)];exact a3,a4,?_,aB,?_⟩
  ·intro row hrow;simp only[q1g,List.mem_mapIdx] at hrow;obtain⟨i2,_,rfl⟩:=hrow;rfl
  ·intro i2 j2 row2 c' hi2 hj2;by_cases hii:i=i2
   ·subst hii;rw[q4w (bu8 (bi8.1 hi).1),bc8] at hi2;subst hi2
    match j2,hj2 with
    |j2+1,hj2=>simp at hj2
    |0,hj2=>
     simp only[by9,bc8] at hj2;subst hj2;refine⟨_,by simpa using u1,.inr ?_,u3⟩;rw[hv];simp only[bv9,bl8]
     show z9m _ _ _ (.dsx _ e k _) _
     refine .dx ?_;have hlm:(l.map enc).length=((l.set j z').map enc).length:=by simp
     rw[hlm];have hlz:(enc z').length=k:=by rw[hz,ar9];exact p8 _ (bd8 hj')
     have hcell:∀(i' o':Nat) (row:List V) (c'':V),((l.set j z').map enc)[i']? = some row->row[o']? = some c''->∃q,arr3[off+(i'*k+o')]? = some q/\q.oneCell'=true/\z9m m (w.setRow b2 arr3) (bl2 (i'*k+o')) c'' q:=by
      intro i' o' row c'' hi' ho';rw[bf9,bt8] at hi';by_cases e1:j=i'
      ·subst e1;rw[if_pos rfl,if_pos (by simpa using hjl)] at hi';simp only[bg9,bc8] at hi';subst hi';rw[hz,bt8] at ho';by_cases e2:f=o'
       ·subst e2;rw[if_pos rfl,if_pos hf,bc8] at ho';subst ho';have h0:0<(a.eval y).cells.size:=by rw[<-c1];exact Nat.one_pos
        refine⟨(a.eval y).cells[0],?_,c3 _ (by simp),.imm (hkc _ _ _ (c2 0 _ _ rfl (by simp[h0])))⟩;rw[hnew,if_pos (by omega),Nat.sub_self];simp[h0]
       ·rw[if_neg e2] at ho';obtain⟨q,q1,q2,q3⟩:=p9 j o' _ c'' hj' ho';refine⟨q,?_,q3,q2.mono (Mem.le_refl _) (fun _ h=>h) (fun x hx=>hoth x (fun e=>p2 _ (e ▸ hx)))⟩;rw[hnew,if_neg (by omega)];exact q1
      ·rw[if_neg e1] at hi';have hi'':(l.map enc)[i']? = some row:=by rw[bf9];exact hi'
       obtain⟨q,q1,q2,q3⟩:=p9 i' o' _ c'' hi'' ho';have hk':o'<k:=by rw[<-p8 row (bd8 hi'')];exact(bi8.1 ho').1
       refine⟨q,?_,q3,q2.mono (Mem.le_refl _) (fun _ h=>h) (fun x hx=>hoth x (fun e=>p2 _ (e ▸ hx)))⟩;rw[hnew,if_neg]
       ·exact q1
       ·intro hc;rcases Nat.lt_or_gt_of_ne e1 with h|h
        ·have:(j+1)*k<=i'*k:=bk8 _ h;rw[ap8,as9] at this;omega
        ·have:(i'+1)*k<=j*k:=bk8 _ h;rw[ap8,as9] at this;omega
     refine .sl bl2 (fun p=>arr3.getD (off+p) undef) p1 p2 p3 (q4x p4) (by rw[hsz];exact p5) (by rw[<-hlm];exact p6) p7 ?_ (fun i' o' row c'' h1 h2=>?_) (fun i' o' row c'' h1 h2=>?_)
     ·intro row hrow;obtain⟨q,hq,rfl⟩:=bk9.1 hrow;rcases aq8 hq with h|h
      ·exact p8 _ (List.mem_map_of_mem h)
      ·rw[h];exact hlz
     ·obtain⟨q,q1,q2,_⟩:=hcell i' o' row c'' h1 h2;have:arr3.getD (off+(i'*k+o')) undef=q:=by simp[bw8,q1]
      simp only[this];exact⟨q1,q2⟩
     ·obtain⟨q,q1,_,q3⟩:=hcell i' o' row c'' h1 h2;have:arr3.getD (off+(i'*k+o')) undef=q:=by simp[bw8,q1]
      simp only[this];exact q3
   ·have hi3:(q1g ls e k enc xs)[i2]? = some row2:=by
     simp only[q1g,bu9,bt8,if_neg hii] at hi2 ⊢;exact hi2
    obtain⟨q,q1,q2,q3⟩:=a6 i2 j2 row2 c' hi3 hj2;refine⟨q,q1,q2.mono (Mem.le_refl _) (q4m.le_refl _) (fun _ h=>h) (fun x hx=>hoth x (fun e=>?_)),q3⟩;subst e
    have h0:j2=0:=by
     have:=(bi8.1 hj2).1;rw[a5 row2 (bd8 hi3)] at this;omega
    subst h0;have:=aB.2 _ _ x p1 hx;omega
 ·simp only[execOp,r.con hx,q6t,Instr.storeAt,Instr.sureAddr,storeVar];simp only[Sem.run_bind,pure,Sem.run,Result.andThen_ok,v6x hT w];rw[if_neg (by simp[c1']),hrun];rfl
theorem Rel.pinX{α:Type}(r:Rel K m β w a S){id E e k:Nat}{ls:Nat->Option Value}{enc:α->List V}{xs:List (List α)}(ho:q1e S.hp id=.arr E 1 (q1g ls e k enc xs)):
  ∃l:Nat->Value,Rel K m β w a ⟨S.env,(id,.arr E 1 (q1g (fun i=>some (l i)) e k enc xs))::S.hp,S.nx⟩:=by
 have hown:=r.own id;rw[ho] at hown
 have hlive:∀(ob:Ob) i,q1e ((id,ob)::S.hp) i≠.dead->q1e S.hp i≠.dead:=by
  intro ob i hi;rw[q5d] at hi;by_cases h:id=i
  ·subst h;rw[ho];simp
  ·rw[if_neg h] at hi;exact hi
 have key:∀(l:Nat->Value),q4l m β w (β.hid id) (β id) (.arr E 1 (q1g (fun i=>some (l i)) e k enc xs))->Rel K m β w a ⟨S.env,(id,.arr E 1 (q1g (fun i=>some (l i)) e k enc xs))::S.hp,S.nx⟩:=fun l hok=>
  ⟨r.imm,r.ext,r.mold,r.frame,r.size,r.same,r.tn,r.df,r.env,fun i=>by
   rw[q5d];split
   ·rename_i h;subst h;exact hok
   ·exact r.own i,fun i b c h=>r.priv i b c (hlive _ i h),fun i i' b c c' h h'=>r.inj i i' b c c' (hlive _ i h) (hlive _ i' h'),fun i x h hx=>(r.hid i x (hlive _ i h) hx).weak (hlive _),r.nx,r.pin⟩
 match hh:β id,hown with
 |none,hown=>simp[q4l] at hown
 |some none,hown=>
  have hown:q1g ls e k enc xs=[]:=hown
  have hx:xs=[]:=by
   have:=congrArg List.length hown;rw[q3w] at this;exact be9.1 this
  refine⟨fun _=>undef,key _ ?_⟩;rw[hh];subst hx;rfl
 |some (some (b,cap)),hown=>
  obtain⟨arr,bl,a1,a2,a3,a4,a5,aB,a6⟩:=hown;refine⟨fun i=>arr.getD (cap.off+i) undef,key _ ?_⟩;rw[hh];refine⟨arr,bl,a1,a2,by rw[q3w] at a3 ⊢;exact a3,a4,fun row hrow=>?_,aB,fun i j row c hi hj=>?_⟩
  ·simp only[q1g,List.mem_mapIdx] at hrow;obtain⟨i2,_,rfl⟩:=hrow;rfl
  ·have hil:i<xs.length:=by
    have:=(bi8.1 hi).1
    rwa [q3w] at this
   rw[q4w (be8 hil),bc8] at hi;subst hi
   match j,hj with
   |j+1,hj=>simp at hj
   |0,hj=>
    simp only[by9,bc8] at hj;subst hj;obtain⟨u,u1,u2,u3⟩:=a6 i 0 _ _ (q4w (be8 hil)) rfl;refine⟨u,u1,.inr ?_,u3⟩;have hd:=z8c (by cases ls i<;>rfl) u2
    have hu:arr.getD (cap.off+i) undef=u:=by
     simp only[bv9,bl8] at u1;simp[bw8,u1]
    show z9m _ _ _ (.dsx _ e k _) _
    rw[hu];refine .dx ?_;unfold cellX at hd;cases hl:ls i with
    |none=>rw[hl] at hd;exact hd
    |some v0=>
     rw[hl] at hd;cases hd with
     |imm h=>cases h
     |dx hd=>exact hd
theorem v2r{α:Type}{c:Code}(id:Nat){E e k:Nat}{ls:Nat->Option Value}{enc:α->List V}{xs:List (List α)}(ho:q1e S.hp id=.arr E 1 (q1g ls e k enc xs))
  (h:∀l:Nat->Value,AWP K c Q ⟨S.env,(id,.arr E 1 (q1g (fun i=>some (l i)) e k enc xs))::S.hp,S.nx⟩):AWP K c Q S:=fun m β w a r=>
 let ⟨l,r'⟩:=r.pinX ho
 h l m β w a r'
theorem z1m{α:Type}(id:Nat){E e k:Nat}{ls:Nat->Option Value}{enc:α->List V}{xs:List (List α)}(ho:q1e S.hp id=.arr E 1 (q1g ls e k enc xs)):
  q6h K S ⟨S.env,(id,.arr E 1 (xs.map (z0a e k enc)))::S.hp,S.nx⟩:=
 z2m id _ ho ⟨rfl,rfl,by rw[q3w,br9],fun i r1 r2 h1 h2=>by
  rw[bf9] at h1;cases hx:xs[i]? with
  |none=>rw[hx] at h1;simp at h1
  |some x=>
   rw[hx] at h1;rw[q4w hx,bc8] at h2;simp only[bg9,bc8] at h1;subst h1 h2;refine⟨rfl,fun j c c' hc hc'=>?_⟩
   match j,hc,hc' with
   |j+1,hc,_=>simp[z0a] at hc
   |0,hc,hc'=>
    simp only[z0a,by9,bc8] at hc hc';subst hc hc';intro m β m' β' w B u hy hu;obtain⟨rfl,rfl⟩:=hy;refine .inr ?_;have hd:=z8c (by cases ls i<;>rfl) hu;unfold cellX at hd;cases hl:ls i with
    |none=>rw[hl] at hd;exact hd
    |some v0=>
     rw[hl] at hd;cases hd with
     |imm h=>cases h
     |dx hd=>exact hd⟩
end
end Go.Pv
namespace Go.Pv
open Go
section
variable{K:Ctx}{Q:q5q}{S:St}
variable{m:Mem}{β:q4m}{w:World}{a:Act}
variable{ops:Array Oper}{rest:List Oper}{ty:TypeId}{pos:String}{after:Array Edge}
def w9u(ls:Nat->Option Value)(i:Nat):Nat->Option Value:=fun j=>if j=i then none else ls j
theorem Rel.tellT(r:Rel K m β w a S){t:Nat}{dv:V}(h:q8n m β dv (a.tmps.getD t undef)):Rel K m β w a ⟨(t,dv)::S.env,S.hp,S.nx⟩:=
 ⟨r.imm,r.ext,r.mold,r.frame,r.size,r.same,r.tn,r.df,fun t'=>by
  rw[q9u];split
  ·rename_i e;subst e;exact h
  ·exact r.env t',r.own,r.priv,r.inj,r.hid,r.nx,r.pin⟩
theorem Rel.takeX{α:Type}(r:Rel K m β w a S){id E i e k nid:Nat}{ls:Nat->Option Value}{enc:α->List V}{xs:List (List α)}{x:List α}{v:Value}(hfree:β nid=none)(hpid:∀q,q<K.pins->q≠nid)(hidn:nid<S.nx)
  (ho:q1e S.hp id=.arr E 1 (q1g ls e k enc xs)) (hi:xs[i]? = some x) (hv:ls i=some v):
  ∃β':q4m,Rel K m β' w a ⟨S.env,(id,.arr E 1 ((q1g ls e k enc xs).set i [.own nid x.length]))::(nid,.arr e k (x.map enc))::S.hp,S.nx⟩/\q8n m β' (.own nid x.length) v:=by
 have hl0:q1e S.hp id≠.dead:=by rw[ho];simp
 have hr:=q4w (ls:=ls) (e:=e) (k:=k) (enc:=enc) hi;obtain⟨b,cap,hb⟩:=r.blk ho hr;obtain⟨arr,bl,q1,q2,q3,q4,q5,q6,q7⟩:=r.obj hb ho;obtain⟨u,u1,u2,u3⟩:=q7 i 0 _ _ hr rfl;have hd:=z8c (by rw[hv];rfl) u2;rw[hv] at hd
 have hd:u=v/\z9m m w (bl (i*1+0)) (.dsl e k (x.map enc)) v:=by
  cases hd with
  |imm h=>cases h
  |dx hd=>exact⟨rfl,hd⟩
 obtain⟨rfl,hd⟩:=hd;have hnid:id≠nid:=fun h=>by rw[h,hfree] at hb;simp at hb
 obtain⟨loc,Bn,hvv,hBn,hloc,hobj⟩:=v1b (id0:=nid) hd rfl
 obtain⟨β',rr,hle,en⟩:=r.takeGx nid S.nx hfree hpid hidn (ae8 _) hl0 hnid (bl (i*1+0)) Bn loc (.arr E 1 ((q1g ls e k enc xs).set i [.own nid x.length])) (.arr e k (x.map enc)) (fun x hx=>q6.1 _ x hx) hBn hloc hobj (fun β' hle en=>by
  rw[hb];refine⟨arr,fun p=>if p=i*1+0 then (fun _=>False) else bl p,q1,q2,by rw[ar9];exact q3,q4,fun row hrow=>?_,⟨fun p x hx=>?_,fun p p' x hx hx'=>?_⟩,fun i2 j2 row2 c2 h1 h2=>?_⟩
  ·rcases aq8 hrow with h|h
   ·exact q5 _ h
   ·subst h;rfl
  ·dsimp only at hx;split at hx
   ·exact hx.elim
   ·rename_i hne;exact q6.1 p x hx |> fun h=>⟨h,fun h'=>hne (q6.2 _ _ x hx h')⟩
  ·dsimp only at hx hx';split at hx
   ·exact hx.elim
   ·split at hx'
    ·exact hx'.elim
    ·exact q6.2 _ _ x hx hx'
  ·rw[bt8] at h1;by_cases e1:i=i2
   ·subst e1;rw[if_pos rfl,if_pos (bi8.1 hr).1,bc8] at h1;subst h1
    match j2,h2 with
    |j2+1,h2=>simp at h2
    |0,h2=>
     simp only[by9,bc8] at h2;subst h2;have:=hvv β' en;rw[br9] at this;exact⟨_,u1,.inl this,u3⟩
   ·rw[if_neg e1] at h1;obtain⟨y,y1,y2,y3⟩:=q7 i2 j2 row2 c2 h1 h2;refine⟨y,y1,?_,y3⟩
    have hj0:j2=0:=by
     have:=(bi8.1 h2).1;rw[q5 row2 (bd8 h1)] at this;omega
    show z1z _ _ _ (if _ then _ else _) _ _
    rw[if_neg (by omega)];exact y2.mono (Mem.le_refl _) hle (fun _ h=>h) (fun _ _=>rfl))
 refine⟨β',rr,?_⟩;have:=hvv β' en
 rwa [br9] at this
theorem z4h{α:Type}{d t t2 id E i e k nx nid idn e2 id2 T T' bytes n':Nat}{ls:Nat->Option Value}{enc:α->List V}{xs:List (List α)}{x:List α}{z:α}{v:Value}(hT:z6j K.P T e k bytes=true)(hT':q3l K.P T'=true)(hpos:Nat.blt 0 bytes=true)(hkp:Nat.blt 0 k=true)
    (hid:(Nat.blt nid nx&&Nat.ble K.pins nid&&(Nat.blt idn nx&&Nat.ble K.pins idn))=true) (hnxx:S.nx=nx) (hn1:q1e S.hp nid=.res) (hn2:q1e S.hp idn=.res) (hne:(!Nat.beq t t2&&!Nat.beq d t&&!Nat.beq id id2&&!Nat.beq nid idn)=true)
    (hs:get S.env t=.con v) (hx:get S.env t2=.own id2 1) (ho2:q1e S.hp id2=.arr e2 k [enc z]) (hnd:ndB (enc z)=true)
    (ho:q1e S.hp id=.arr E 1 (q1g ls e k enc xs)) (hi:xs[i]? = some x) (hv:ls i=some v) (hn':(x++[z]).length=n') (hb:n'*bytes<=140737488355328) (hN:Nat.blt d K.N=true)
    (kk:q7g K ops rest Q ⟨(d,.own idn n')::(t,.any)::S.env,(idn,.arr e k ((x++[z]).map enc))::(nid,.dead)::(id,.arr E 1 ((q1g ls e k enc xs).set i [.any]))::S.hp,S.nx⟩):
    q7g K ops (⟨some d,.call ⟨.builtin .append,#[.tmp t,.tmp t2],#[T,T']⟩,ty,pos,after,none⟩::rest) Q S:=by
  intro m β w a r;simp only[av8,aw8] at hid hne;obtain⟨⟨hA,hB⟩,hC,hD⟩:=hid;obtain⟨⟨⟨hE,hF⟩,hG⟩,hH⟩:=hne;have e1:t≠t2:=da9 hE;have e2':d≠t:=da9 hF;have e3:id≠id2:=da9 hG;have e4:nid≠idn:=da9 hH;have e5:id≠idn:=fun h=>by rw[h,hn2] at ho;simp at ho
  have e6:id≠nid:=fun h=>by rw[h,hn1] at ho;simp at ho
  have e7:nid≠id2:=fun h=>by rw[<-h,hn1] at ho2;simp at ho2
  obtain⟨β1,r1,hv1⟩:=r.takeX (r.free hn1) (fun q hq=>by have:=bd9 hB;omega) (by rw[hnxx];exact bd9 hA) ho hi hv
  have hev:a.tmps.getD t undef=v:=by
    have:=r.env t;rw[hs] at this;exact this.of_con
  have r2:=r1.tellT (t:=t) (dv:=.own nid x.length) (by rw[hev];exact hv1)
  have key:q7g K ops (⟨some d,.call ⟨.builtin .append,#[.tmp t,.tmp t2],#[T,T']⟩,ty,pos,after,none⟩::rest) Q ⟨(t,.own nid x.length)::S.env,(id,.arr E 1 ((q1g ls e k enc xs).set i [.own nid x.length]))::(nid,.arr e k (x.map enc))::S.hp,S.nx⟩:=by
   refine q6l (nx:=nx) idn (by rw[hC,hD];rfl) hnxx (by simp only[q5d];rw[if_neg e5,if_neg e4];exact hn2) [enc z] ((x++[z]).map enc) hT hT' hpos hkp rfl (id:=nid) (n:=x.length) (rows:=x.map enc) (by simp[evl,q9u]) (by simp only[q5d];rw[if_neg e6];simp) (by simp)
    (sv:=.own id2 1) (by simp only[evl,q9u];rw[if_neg e1];exact hx) (.own (by simp only[q5d];rw[if_neg e3,if_neg e7];exact ho2) rfl (fun row hr c hc=>by
      simp only[bx9] at hr;subst hr;obtain⟨j,hj⟩:=bi9 hc;exact z6u hnd hj)) (by simp) (by rw[br9];exact hn') hb hN ?_
   refine q2h (q5p t .any rfl Sub.any) (q2h (z2m id (.arr E 1 ((q1g ls e k enc xs).set i [.any])) (ob0:=.arr E 1 ((q1g ls e k enc xs).set i [.own nid x.length])) (by simp only[q5d];rw[if_neg (Ne.symm e5),if_neg (Ne.symm e6)];simp) ?_) (q2h (fun m β w a r=>⟨m,β,r.congr (S':=⟨(d,.own idn n')::(t,.any)::S.env,(idn,.arr e k ((x++[z]).map enc))::(nid,.dead)::(id,.arr E 1 ((q1g ls e k enc xs).set i [.any]))::S.hp,S.nx⟩) (fun q=>?_) (fun q=>?_) rfl⟩) kk))
   · refine⟨rfl,rfl,by simp,fun i2 ra rb h1 h2=>?_⟩
     rw[bt8] at h1 h2;by_cases e1:i=i2
     · rw[if_pos e1] at h1 h2
       split at h1
       · rename_i hlt
         rw[if_pos hlt] at h2;simp only[bc8] at h1 h2;subst h1 h2;refine⟨rfl,fun j c c' hc hc'=>?_⟩
         match j,hc,hc' with
         |j+1,hc,_=>simp at hc
         |0,hc,hc'=>
           simp only[by9,bc8] at hc hc';subst hc;exact j7v.any
       · simp at h1
     · rw[if_neg e1] at h1 h2
       rw[h1,bc8] at h2;subst h2;exact⟨rfl,fun j c c' hc hc'=>by rw[hc,bc8] at hc';subst hc';exact w8e c⟩
   · simp only[q9u]
     repeat' split
     all_goals first|rfl|omega
   · simp only[q5d]
     repeat' split
     all_goals first|rfl|omega
  exact key m β1 w a r2
theorem z8e{α:Type}{id E i e k id2 n2:Nat}{x y:Operand}{T:TypeId}{g:Option (Nat×Bool)}{ls:Nat->Option Value}{enc:α->List V}{xs xs':List (List α)}{ys:List α}(hkp:∀z,z2u (enc z))(hT:tyS K.P T 1=true)
  (hw:q1h ops S ⟨none,.store T x y,ty,pos,after,g⟩ true) (hx:evl K S x=.ptr id 1 i 0) (hy:evl K S y=.own id2 n2) (ho:q1e S.hp id=.arr E 1 ((q1g ls e k enc xs).set i [.any])) (hi:i<xs.length)
  (ho2:q1e S.hp id2=.arr e k (ys.map enc)) (hn:n2=ys.length) (hne:Nat.beq id id2=false) (hxs:xs.set i ys=xs')
  (kk:q7g K ops rest Q ⟨S.env,(id,.arr E 1 (q1g (w9u ls i) e k enc xs'))::(id2,.dead)::S.hp,S.nx⟩):
  q7g K ops (⟨none,.store T x y,ty,pos,after,g⟩::rest) Q S:=by
 subst hxs;have hid:id≠id2:=da9 hne;have hlr:i<(q1g ls e k enc xs).length:=by rw[q3w];exact hi
 have hr1:((q1g ls e k enc xs).set i [.any])[i]? = some [.any]:=bu8 hlr;refine z3j [.own id2 n2] ((q1g ls e k enc xs).set i [.own id2 n2]) hT hw hx hy rfl rfl ho hr1 (by simp) (by rw[v1z];rfl) ?_;have h1:q1e ((id,Ob.arr E 1 ((q1g ls e k enc xs).set i [.own id2 n2]))::S.hp) id2=.arr e k (ys.map enc):=by rw[q5d,if_neg hid];exact ho2
 have hg:=j9z (K:=K) (S:=⟨S.env,(id,.arr E 1 ((q1g ls e k enc xs).set i [.own id2 n2]))::S.hp,S.nx⟩) id i 0 id2 j8z (bu8 hlr) (show([.own id2 n2]:List V)[0]? = some (.own id2 n2) from rfl)
  h1 (by rw[hn,br9]) hne (fun r hr=>by obtain⟨z,_,rfl⟩:=bk9.1 hr;exact hkp z)
 have he:w6j ((q1g ls e k enc xs).set i [.own id2 n2]) i [.own id2 n2] 0 (.dsl e k (ys.map enc))=q1g (w9u ls i) e k enc (xs.set i ys):=by
  unfold w6j;rw[v1z];exact v3z (fun j hj=>by simp[w9u,hj]) hi (by simp[w9u,cellX]) rfl
 rw[he] at hg;refine q2h hg (q2h (v2a ((id,.arr E 1 (q1g (w9u ls i) e k enc (xs.set i ys)))::(id2,.dead)::S.hp) fun q=>?_) kk);simp only[q5d]
 repeat' split
 all_goals rfl
end
end Go.Pv
namespace Go.Pv
open Go
theorem j4u{K:Ctx}{Q:q5q}{S:St}{α:Type}{c:Code}(id:Nat){E e k:Nat}{enc:α->List V}{xs:List (List α)}(ho:q1e S.hp id=.arr E 1 (xs.map (z0a e k enc)))
  (h:∀l:Nat->Value,AWP K c Q ⟨S.env,(id,.arr E 1 (q1g (fun i=>some (l i)) e k enc xs))::S.hp,S.nx⟩):AWP K c Q S:=
 v2r id (by rw[ho,<-v8t]) h
end Go.Pv
namespace Go.Pv
open Go
section
variable{K:Ctx}{Q:q5q}{S S':St}
variable{ops:Array Oper}{rest:List Oper}{ty:TypeId}{pos:String}{after:Array Edge}{g:Option (Nat×Bool)}
def w7g:List V->Bool
 |[]=>true
 | .con _::l=>w7g l
 |_::_=>false
theorem v2c:∀{l:List V} {i:Nat} {c:V},w7g l=true->l[i]? = some c->∃v,c=.con v
 | .con v::l,0,c,_,hc=>by simp at hc;exact⟨v,hc.symm⟩
 | .con v::l,i+1,c,h,hc=>v2c (l:=l) (i:=i) h (by simpa using hc)
 |[],_,c,_,hc=>by simp at hc
inductive v2i:V->Prop
 |con (v:Value):v2i (.con v)
 |agg {cs:List V} (h:w7g cs=true):v2i (.agg cs)
theorem v2i.free{d:V}(h:v2i d){m m':Mem}{β:q4m}{w:World}{B:Nat->Prop}{v:Value}(hv:z1z m β w B d v):q2p m' d v:=by
 cases h with
 |con x=>rw[(hv.v rfl).of_con];exact .con _
 | @agg cs h=>
  have hv:=hv.v rfl
  have key:∀(i:Nat) (c:V) (u:Value),cs[i]? = some c->q8n m β c u->q2p m' c u:=fun i c u hc hu=>by
   obtain⟨x,rfl⟩:=v2c h hc;rw[hu.of_con];exact .con _
  cases hv with
  |imm hi=>
   cases hi with
   |agg hl hi=>exact .agg hl (fun i c u hc hu=>key i c u hc (.imm (hi i c u hc hu)))
  |agg hl hi=>exact .agg hl (fun i c u hc hu=>key i c u hc (hi i c u hc hu))
theorem v5v{o:Oper}{d:Nat}{f:FuncId}{avs:List V}{k':Nat}{hp':q0m}{es:List (Value×V)}(nx:Nat)(hw:q1h ops S o true)(hd:o.dst=some d)(hN:Nat.blt d K.N=true)(hg:q6h K S S')
  (hrun:∀m β w a,Rel K m β w a S'->∃vs:Array Value,(execOp a.eval o).run K.P w=.ok (.enter f vs) w/\v9m m avs vs)
  (hc:j4v K.gl K.P f avs 0 [] (.map 0) k' hp') (h0:q1e hp' 0=.map es) (hes:∀p,p∈es->v2i p.2) (hnx:S.nx=nx)
  (kk:q7g K ops rest Q ⟨(d,.map nx)::S.env,(nx,.map es)::S.hp,nx+1⟩):q7g K ops (o::rest) Q S:=by
 subst hnx;intro m β w a r;unfold wpList;rw[if_pos (hw.at r)]
 left
 obtain⟨m1,β1,r1⟩:=hg m β w a r;obtain⟨vs,h1,h2⟩:=hrun m1 β1 w a r1;unfold Oper.wp;rw[h1];refine(hc m1 ⟨fun _=>none,fun _ _=>False⟩ w vs r1.imm (K.glok.mono r1.ext) ⟨h2.len,fun i c v a b=>.imm (h2.at' i c v a b)⟩ (fun id=>q4l.dead' _) (fun id b cap hl=>absurd rfl hl) (fun id id' b c c' hl=>absurd rfl hl) (fun id x hl=>absurd rfl hl) (fun _ _=>rfl)).mono ?_
 rintro ex w' ⟨v,m',β',rfl,hv,A⟩
 simp only[hd];have hF:∀b,q5v [] ⟨fun _=>none,fun _ _=>False⟩ b:=fun b id hl=>absurd rfl hl;have hheap:∀b,b<w.heap.size->w'.heap[b]? = w.heap[b]?:=fun b hb=>(A.old b hb (hF b)).2;have hg:w5u m m w w':=⟨Mem.le_refl _,fun b o h=>by have:=r.imm b o h;rw[hheap b (q9h this)];exact this,fun _ _=>rfl,hheap,A.size,A.same⟩;have r2:=r.grow hg;have h0l:q1e hp' 0≠.dead:=by rw[h0];simp
 have hown:=A.own 0;rw[h0] at hown
 obtain⟨b0,cap0,hloc⟩:∃b cap,β' 0=some (some (b,cap)):=by
  match hb:β' 0,hown with
  |none,hown=>simp[q4l] at hown
  |some none,hown=>simp[q4l] at hown
  |some (some (b,cap)),_=>exact⟨b,cap,rfl⟩
 have hbig:w.heap.size<=b0:=by
  rcases cb8 b0 w.heap.size with h|h
  ·exact absurd (hF b0) ((A.priv 0 b0 cap0 h0l hloc).2 h)
  ·exact h
 obtain⟨β2,hle,hβ2,r3⟩:=r2.adopt S.nx (S.nx+1) (r.nx _ (ae8 _)) (fun q hq=>an8 (r.pin q hq).1) (ao9 _) (ao8 _) (some (b0,cap0)) (.map es) (by
  intro b c hb;simp only[bc8,Prod.mk.injEq] at hb;obtain⟨rfl,rfl⟩:=hb;refine⟨?_,fun hlt=>?_,fun i c' hl h=>?_,fun i hl h=>?_⟩
  ·cases hm:m b0 with
   |none=>rfl
   |some o'=>exact absurd (q9h (r.imm b0 o' hm)) (by omega)
  ·have:=r.size;omega
  ·exact absurd (q3x hl h (r.own i)) (by omega)
  ·exact absurd (r.hid i b0 hl h).lt (by omega)) (by
  intro β'' _;rw[hloc] at hown;obtain⟨ents,clock,bl,q1,q2,_,q3⟩:=hown;refine⟨ents,clock,fun _ _=>False,q1,q2,z2j,fun i p e hp he=>?_⟩;obtain⟨p1,p2⟩:=q3 i p e hp he;exact⟨p1,.inl (.imm ((hes p (bd8 hp)).free p2))⟩)
 refine kk m β2 w' _ (r3.put hN ?_);cases hv with
 |imm h=>cases h
 |map h=>
  rw[hloc] at h;simp only[bc8,Prod.mk.injEq] at h;obtain⟨rfl,rfl⟩:=h;exact .map hβ2
theorem v7a{α:Type}{enc:α->Value×V}(h:∀x,v2i (enc x).2){l:List α}:∀p,p∈l.map enc->v2i p.2:=by
 intro p hp;obtain⟨x,_,rfl⟩:=bk9.1 hp;exact h x
end
section
variable{K:Ctx}{Q:q5q}{env:Env}{hpS:q0m}{S':St}
variable{ops:Array Oper}{rest:List Oper}{ty:TypeId}{pos:String}{after:Array Edge}{g:Option (Nat×Bool)}
theorem z9e{d:Nat}{f:FuncId}{args:Array Operand}{at':Array TypeId}{k':Nat}{hp':q0m}{es:List (Value×V)}(avs:List V)(nx:Nat)(hf:q9m K.P f=true)(hg:q6h K ⟨env,hpS,nx⟩ S')
  (hw:q1h ops ⟨env,hpS,nx⟩ ⟨some d,.call ⟨.value (.func f),args,at'⟩,ty,pos,after,g⟩ true)
  (ha:args.toList.map (evl K S')=avs) (hi:q1t avs) (hc:j4v K.gl K.P f avs 0 [] (.map 0) k' hp') (h0:q1e hp' 0=.map es) (hes:∀p,p∈es->v2i p.2)
  (hN:Nat.blt d K.N=true) (kk:q7g K ops rest Q ⟨(d,.map nx)::env,(nx,.map es)::hpS,nx+1⟩):
  q7g K ops (⟨some d,.call ⟨.value (.func f),args,at'⟩,ty,pos,after,g⟩::rest) Q ⟨env,hpS,nx⟩:=
 v5v nx hw rfl hN hg (j2u hf ha hi) hc h0 hes rfl kk
end
section
variable{K:Ctx}{Q:q5q}{S S':St}{ops:Array Oper}{rest:List Oper}{t:TT}{ty:TypeId}{pos:String}{after:Array Edge}{g:Option (Nat×Bool)}
theorem v6t{P:Program}{w:World}{T:TypeId}{x y:Operand}(neg:Bool)(hT:y1f P T=true)(b:Option Nat):
      (do eqGuard (if neg then .neq else .eql) T x y (.map b) (.map none);binOp (if neg then .neq else .eql) T (.map b) (.map none):Sem Value).run P w=.ok (.bool (if neg then !b.isNone else b.isNone)) w:=by
  obtain⟨k,e,hu⟩:∃k e,P.underlying T=some (.map k e):=by
    unfold y1f at hT;split at hT
    · exact⟨_,_,‹_›⟩
    · simp at hT
  have hd:(10000:Nat)=9999+1:=rfl
  have hg:∀op:BinOp,(eqGuard op T x y (.map b) (.map none)).run P w=.ok () w:=by
    intro op;unfold eqGuard;cases op<;>simp[pure]
  have hq:(Op.equal T (.map b) (.map none)).run P w=.ok b.isNone w:=by
    rw[Op.equal,Op.maxDepth,hd,Op.equalIn];simp only[Sem.run_bind,run_underlying hu,Result.andThen_ok];cases b<;>rfl
  rw[Sem.run_bind,hg,Result.andThen_ok];cases neg
  · simp only[cy8,if_false,binOp,Sem.run_bind,hq,Result.andThen_ok];rfl
  · simp only[if_true,binOp,Sem.run_bind,hq,Result.andThen_ok];rfl
def w9r:V->Option Bool
 | .con (.map none)=>some true
 | .map _=>some false
 |_=>none
theorem z5e{d:Nat}{x y:Operand}{T T':TypeId}{v:V}{b:Bool}(neg:Bool)(hT:y1f K.P T=true)(hw:q1h ops S ⟨some d,.binOp (if neg then .neq else .eql) T x y T',ty,pos,after,g⟩ true)
  (hx:evl K S x=v) (hv:w9r v=some b) (hy:evl K S y=.con (.map none)) (hN:Nat.blt d K.N=true)
  (k:q7g K ops rest Q (S.put d (.con (.bool (if neg then !b else b))))):q7g K ops (⟨some d,.binOp (if neg then .neq else .eql) T x y T',ty,pos,after,g⟩::rest) Q S:=
 q9g _ hw hN (fun m β w a r=>by
  have h:=r.reads x;rw[hx] at h
  have key:∃o,a.eval x=.map o/\o.isNone=b:=by
   generalize a.eval x=u at h;unfold w9r at hv;split at hv
   ·simp at hv;subst hv;exact⟨none,h.of_con,rfl⟩
   ·simp at hv;subst hv;cases h with
    |imm h=>cases h
    |map hb=>exact⟨_,rfl,rfl⟩
   ·simp at hv
  obtain⟨o,ho,hb⟩:=key;have hr:=v6t (P:=K.P) (w:=w) (x:=x) (y:=y) neg hT o;refine⟨.bool (if neg then !b else b),?_,.imm (.con _)⟩;simp only[execOp,ho,r.con hy];rw[<-hb];exact q1f hr) k
end
end Go.Pv
