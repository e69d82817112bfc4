/- Part of the proof: YJ, YH, YS, C9T. -/
import Derived.Test.YtelmfadihfcgnaaGreatDoorXPvJ
import Derived.Test.YtelmfadihfcgnaaGreatDoorXPvS
import Derived.Test.YtelmfadihfcgnaaGreatDoorXDK
import Derived.Test.YtelmfadihfcgnaaGreatDoorXYG
import Derived.Shelf.SlIter.Sorted
import Derived.Test.YtelmfadihfcgnaaGreatDoorXPvT
import Derived.Test.YtelmfadihfcgnaaGreatDoorXWA
import Derived.Test.YtelmfadihfcgnaaGreatDoorXDN
import Derived.Test.YtelmfadihfcgnaaGreatDoorProg
import Derived.KernelRfl
set_option linter.unusedSimpArgs false
set_option linter.unusedVariables false
namespace Go.Pv
open Go
section
variable{K:Ctx}{Q:q5l}{S:St}
variable{m:Mem}{β:q4h}{w:World}{a:Act}
variable{ops:Array Oper}{rest:List Oper}{ty:TypeId}{pos:String}{after:Array Edge}{g:Option (Nat×Bool)}
theorem Rel.nilO(r:Rel K m β w a S)(e:TypeId)(k:Nat):∃β':q4h,Rel K m β' w a ⟨S.env,(S.nx,.arr e k [])::S.hp,S.nx+1⟩/\β' S.nx=some none:=by
 have henv:∀t,Sub (Nil S.nx) (get S.env t) (get S.env t):=fun _=>Sub.keepNil;have hhp:∀i,q5a (Nil S.nx) (q7b S.hp i) (q7b S.hp i):=fun _=>q5a.keep (fun _=>Sub.keepNil) _
 let β':q4h:=⟨fun i=>if i=S.nx then some none else β i,fun i=>if i=S.nx then fun _=>False else β.hid i⟩
 have en:β' S.nx=some none:=by show(if _ then _ else _)=_;rw[if_pos rfl]
 have eo:∀i,i≠S.nx->β' i=β i:=fun i h=>by show(if _ then _ else _)=_;rw[if_neg h]
 have hn:β'.hid S.nx=fun _=>False:=by show(if _ then _ else _)=_;rw[if_pos rfl]
 have hho:∀i,i≠S.nx->β'.hid i=β.hid i:=fun i h=>by show(if _ then _ else _)=_;rw[if_neg h]
 have hle:β.le β':=by
  intro i l h;rw[eo i]
  ·exact h
  ·intro e;rw[e,r.nx _ (ae8 _)] at h;simp at h
 have hy:Nil S.nx m β m β':=⟨rfl,hle,en⟩;have hdead:∀i,q7b S.hp i≠.dead->q7b S.hp i≠.dead:=fun _ h=>h
 have hlive:∀i b c,q7b ((S.nx,.arr e k [])::S.hp) i≠.dead->β' i=some (some (b,c))->q7b S.hp i≠.dead/\β i=some (some (b,c)):=by
  intro i b c h hb;rw[q0b] at h;by_cases hi:S.nx=i
  ·subst hi;rw[en] at hb;simp at hb
  ·rw[if_neg hi] at h;exact⟨hdead i h,by rw[eo i (Ne.symm hi)] at hb;exact hb⟩
 refine⟨β',⟨r.imm,r.ext,r.mold,r.frame,r.size,r.same,r.tn,r.df,fun t=>henv t _ _ _ _ _ hy (r.env t),fun i=>?_,fun i b c h hb=>?_,fun i i' b c c' h h' hb hb'=>?_,fun i x h hx=>?_,fun i hi=>?_,fun q hq=>?_⟩,en⟩
 ·show q9h m β' w (β'.hid i) (β' i) (q7b ((S.nx,.arr e k [])::S.hp) i)
  rw[q0b];by_cases hi:S.nx=i
  ·subst hi;rw[if_pos rfl,en];simp[q9h]
  ·rw[if_neg hi];have h2:=hhp i;rw[eo i (Ne.symm hi),hho i (Ne.symm hi)];exact h2.ok hy (r.own i)
 ·obtain⟨h1,h2⟩:=hlive i b c h hb;exact r.priv i b c h1 h2
 ·obtain⟨h1,h2⟩:=hlive i b c h hb;obtain⟨h1',h2'⟩:=hlive i' b c' h' hb';exact r.inj i i' b c c' h1 h1' h2 h2'
 ·have h0:q7b ((S.nx,.arr e k [])::S.hp) i≠.dead:=h;rw[q0b] at h0;by_cases hi:S.nx=i
  ·subst hi;rw[hn] at hx;exact hx.elim
  ·rw[if_neg hi] at h0;rw[hho i (Ne.symm hi)] at hx;have q:=r.hid i x (hdead i h0) hx;refine⟨q.lt,q.m,q.old,fun i' b c h' hb'=>?_,fun i' h' hx'=>?_⟩
   ·obtain⟨h1,h2⟩:=hlive i' b c h' hb';exact q.ne i' b c h1 h2
   ·have h0':q7b ((S.nx,.arr e k [])::S.hp) i'≠.dead:=h';rw[q0b] at h0';by_cases hi':S.nx=i'
    ·subst hi';rw[hn] at hx';exact hx'.elim
    ·rw[if_neg hi'] at h0';rw[hho i' (Ne.symm hi')] at hx';exact q.un i' (hdead i' h0') hx'
 ·have hi':S.nx+1<=i:=hi;rw[eo i (by omega)];exact r.nx i (by omega)
 ·obtain⟨h1,h2⟩:=r.pin q hq;exact⟨ch9 h1,by rw[<-h2];exact eo q (by omega)⟩
theorem j0q{S0:St}{d T T' e k bytes n n' id:Nat}{s x:Operand}{sv:V}{rows:List (List V)}(idn nx':Nat)(hfree:∀m β w a,Rel K m β w a S->β idn=none/\∀q,q<K.pins->q≠idn)(hidn:idn<nx')(hnn:S.nx<=nx')(rows2 rows':List (List V))(hT:z0i K.P T e k bytes=true)(hT':w5r K.P T'=true)
  (hpos:Nat.blt 0 bytes=true) (hkp:Nat.blt 0 k=true)
  (hw:q2d ops S0 ⟨some d,.call ⟨.builtin .append,#[s,x],#[T,T']⟩,ty,pos,after,g⟩ true)
  (hs:∀m β w a,Rel K m β w a S0->∃β1,Rel K m β1 w a S/\q8i m β1 (.own id n) (a.eval s)) (ho:q7b S.hp id=.arr e k rows) (hn:rows.length=n) (hx:evl K S x=sv) (hsrc:Src S k sv rows2)
  (hr:rows++rows2=rows') (hn':rows'.length=n') (hb:n'*bytes<=140737488355328\/(rows2.length=1/\n'*bytes<=211106232532992/\bytes<=1000000)) (hN:Nat.blt d K.N=true)
  (kk:q1d K ops rest Q ⟨(d,.own idn n')::S.env,(idn,.arr e k rows')::(id,.dead)::S.hp,nx'⟩):
  q1d K ops (⟨some d,.call ⟨.builtin .append,#[s,x],#[T,T']⟩,ty,pos,after,g⟩::rest) Q S0:=by
 refine q8h hw (fun m β00 w a r00=>?_) kk;obtain⟨β,r,hsv⟩:=hs m β00 w a r00;have hpos:=az8 hpos;have hkp:0<k:=az8 hkp;obtain⟨news,n1,n2,n3,n4,n5⟩:=hsrc.read hkp r (by rw[<-hx];exact r.reads x);have hlen:n'=n+rows2.length:=by rw[<-hn',<-hr,bj8,hn]
 have hop:∀(v:Value) (w':World),(Builtin.append_ #[T,T'] ty #[a.eval s,a.eval x]).run K.P w=.ok v w'->
   (execOp a.eval ⟨some d,.call ⟨.builtin .append,#[s,x],#[T,T']⟩,ty,pos,after,g⟩).run K.P w=.ok (.value v) w':=by
  intro v w' h;refine q3n rfl ?_;simp only[builtin,bn8,bo9,ar8,Sem.run_bind,h,Result.andThen_ok];rfl
 -- rows of the result
 have hrows':∀row,row∈rows'->(∀row,row∈rows->row.length=k)->row.length=k:=by
  intro row h h5;rw[<-hr] at h;rcases cc8.1 h with h|h
  ·exact h5 row h
  ·exact n4 row h
 have hcells:∀(β':q4h) (w':World) (bl:Nat->Nat->Prop) (off:Nat) (old:Nat->Option Value) (arr':Array Value),β.le β'->(∀p x,bl p x->w'.heap[x]? = w.heap[x]?)->(∀row,row∈rows->row.length=k)->
   (∀(i j:Nat) (row:List V) (c:V),rows[i]? = some row->row[j]? = some c->∃v,old (i*k+j)=some v/\z7i m β w (bl (i*k+j)) c v/\v.oneCell'=true)->
   (∀p,p<n*k->arr'[off+p]? = old p)->(∀p,p<rows2.length*k->arr'[off+(n*k+p)]? = news[p]?)->
   ∀(i j:Nat) (row:List V) (c:V),rows'[i]? = some row->row[j]? = some c->∃v,arr'[off+(i*k+j)]? = some v/\z7i m β' w' (bl (i*k+j)) c v/\v.oneCell'=true:=by
  intro β' w' bl off old arr' hle hbl h5 h6 ha hb' i j row c hi hj;have hrk:=hrows' row (ba9 hi) h5;have hjk:j<k:=by rw[<-hrk];exact(bf9.1 hj).1
  rw[<-hr,bv8] at hi
  have hmul:∀p q:Nat,p<q->p*k+j<q*k:=by
   intro p q hpq
   calc p*k+j<p*k+k:=by omega
    _=(p+1)*k:=by rw[an8,ap8]
    _<=q*k:=bh9 _ hpq
  split at hi
  ·rename_i hlt;obtain⟨v,a1,a2,a3⟩:=h6 i j row c hi hj;exact⟨v,by rw[ha _ (by rw[<-hn];exact hmul _ _ hlt)];exact a1,a2.mono (Mem.le_refl _) hle (fun _ h=>h) (fun x hx=>hbl _ x hx),a3⟩
  ·rename_i hlt;obtain⟨v,a1,a2,a3⟩:=n5 (i - rows.length) j row c hi hj;have hi2:=(bf9.1 hi).1
   have e1:i*k+j=n*k+((i - rows.length)*k+j):=by
    rw[<-ag8,<-an8];congr 2;omega
   refine⟨v,?_,.inl (a2.mono (Mem.le_refl _) hle),a3⟩;rw[e1,hb' _ (hmul _ _ hi2)];exact a1
 -- a new block
 have hlid:q7b S.hp id≠.dead:=by rw[ho];simp
 have grows:∀(bl:Nat->Nat->Prop) (hBl:Bls (β.hid id) bl) (olds:List Value) (base:Option Addr) (cap:Nat),a.eval s=.slice base n cap->(∀w':World,w'.heap=w.heap->(Builtin.firstCells k n (.slice base n cap)).run K.P w'=.ok olds.toArray w')->olds.length=n*k->
   n<=cap->¬n+rows2.length<=cap->(∀row,row∈rows->row.length=k)->
   (∀(i j:Nat) (row:List V) (c:V),rows[i]? = some row->row[j]? = some c->∃v,olds[i*k+j]? = some v/\z7i m β w (bl (i*k+j)) c v/\v.oneCell'=true)->
   ∃v w' m' β',((execOp a.eval ⟨some d,.call ⟨.builtin .append,#[s,x],#[T,T']⟩,ty,pos,after,g⟩).run K.P w=.ok (.value v) w'\/v=undef/\(execOp a.eval ⟨some d,.call ⟨.builtin .append,#[s,x],#[T,T']⟩,ty,pos,after,g⟩).run K.P w=.ok .skip w')/\
    Rel K m' β' w' (a.put (some d) v) ⟨(d,.own idn n')::S.env,(idn,.arr e k rows')::(id,.dead)::S.hp,nx'⟩:=by
  intro bl hBl olds base cap hsx hold hol hcap hfit h5 h6;obtain⟨q1,_,q3⟩:=v5v (mm:=rows2.length) hpos hcap hfit (by rw[<-hlen];exact hb);obtain⟨cap',arr',b1,b2,b3,b4,b5⟩:=z8b (ty:=ty) hT hT' rfl (hold { w with drawn:=w.drawn+1 } rfl) (n1 w rfl).1 (n1 { w with drawn:=w.drawn+1 } rfl).2 hol n2 hfit q1 q3;have r1:=(r.drawn (w.drawn+1) (am8 _)).kill id
  have hdd:∀i,q7b ((id,.dead)::S.hp) i≠.dead->q7b S.hp i≠.dead/\i≠id:=by
   intro i hi;rw[q0b] at hi;split at hi
   ·exact absurd rfl hi
   ·rename_i h;exact⟨hi,Ne.symm h⟩
  obtain⟨β',hle,hnx,r2⟩:=r1.allocG idn nx' (hfree m β w a r).1 (hfree m β w a r).2 hidn hnn (.cells arr' e (0,0)) (.arr e k rows') ⟨cap',0⟩ _ rfl (β.hid id)
   (fun x hx=>let q:=r.hid id x hlid hx;⟨q.lt,q.m,q.old,fun i b c hi hb=>q.ne i b c (hdd i hi).1 hb,fun i hi hx'=>(hdd i hi).2 (q.un i (hdd i hi).1 hx')⟩) (fun β' hle=>by
   refine z9g (vs:=arr') bl hBl (by simp) (by simpa using b4) (by rw[hn',hlen];exact b2) b3 (fun row h=>hrows' row h h5) ?_;refine hcells β' _ bl 0 (fun p=>olds[p]?) arr' hle (fun p x hx=>?_) h5 h6 ?_ ?_
   ·have:=(r.hid id x hlid (hBl.1 p x hx)).lt;simp only[br8];rw[if_neg (by omega)]
   ·intro p hp;rw[ch8,b5 p (cq8 hp (bh9 _ (by omega))),bv8,if_pos (by rw[hol];exact hp)]
   ·intro p hp;rw[ch8,b5 _ (by rw[an8];omega),bv8,if_neg (by rw[hol];omega),hol,bi9])
  refine⟨.slice (some ⟨w.heap.size,0,none⟩) n' cap',{ w with drawn:=w.drawn+1,heap:=w.heap.push (.cells arr' e (0,0)) },m,β',.inl ?_,?_⟩
  ·refine hop _ _ ?_;rw[hsx,b1,hlen]
  ·exact Rel.put r2 hN (.own hnx)
 generalize hsx:a.eval s=sx at hsv;cases hsv with
 |imm h=>cases h
 | @ownNil _ ad hbn=>
  have h0:=r.own id;rw[hbn,ho] at h0;have h0:rows=[]:=h0;subst h0;by_cases hfit:0+rows2.length<=0
  ·have h2:rows2=[]:=ba8.1 (by omega);subst h2;have h3:rows'=[]:=by rw[<-hr];rfl
   subst h3;have hn0:n'=0:=by simpa using hn'.symm
   subst hn0;obtain⟨β',hle,hnx,r2⟩:=r.moveG id idn nx' (hfree m β w a r).1 (hfree m β w a r).2 hidn hnn ho (by simp) (by simp);refine⟨.slice ad 0 0,w,m,β',.inl ?_,Rel.put r2 hN (.ownNil (by rw[hnx];exact hbn))⟩;refine hop _ _ ?_;rw[hsx];obtain⟨i,z,hu,hi,hs',hby,hz,hzk⟩:=q0r hT;have hk:K.P.cellsOf e=k:=by simp[Program.cellsOf,hi,hs']
   obtain⟨q1,q2⟩:=n1 w rfl;have hnews:news=[]:=ba8.1 (by simpa using n2);subst hnews;simp only[bt8] at q2;rcases z8x hT' with ⟨e',hu'⟩|hu'
   all_goals
    simp only[Builtin.append_,bi8,bq9,bu8,Sem.run_bind,run_underlying hu,Result.andThen_ok,run_sizeOf w hi,hk,run_underlying hu',pure,Sem.run,
     cp8,if_false,q1,bt8,bh8,ae8,if_true,bz8]
    cases ad<;>simp[q2,storeCells,pure,Sem.run]
  ·exact grows _ z6h [] ad 0 hsx (fun w' _=>by cases ad<;>simp[Builtin.firstCells,loadCells,loadCellsFrom,pure]) (by simp) (ak9 _) hfit (by simp) (by simp)
 | @own _ _ b cap hbb=>
  obtain⟨arr,bl,h1,h2,h3,h4,h5,hBl,h6⟩:=r.obj hbb ho;have hnk:cap.off+n*k<=arr.size:=by rw[h2,<-hn];have:=bh9 k h3;omega
  by_cases hfit:n+rows2.length<=cap.n
  ·have hrun:=z6d (ty:=ty) hT hT' h1 h2 (n1 w rfl).1 (n1 w rfl).2 n2 n3 hfit
   have hle2:cap.off+n*k+news.length<=arr.size:=by
    have:n*k+rows2.length*k<=cap.n*k:=by rw[<-an8];exact bh9 _ hfit
    rw[n2,h2];omega
   have hgt:∀p,(arr.toList.take (cap.off+n*k)++news++arr.toList.drop (cap.off+n*k+news.length)).toArray[p]? = if cap.off+n*k<=p/\p<cap.off+n*k+news.length then news[p - (cap.off+n*k)]? else arr[p]?:=by
    intro p;rw[bi8,q9x _ _ _ (by simpa using hle2)];split<;>simp
   have r1:=r.update (id:=id) (ob:=.arr e k rows') (by rw[ho];simp) hbb (w.setRow b (arr.toList.take (cap.off+n*k)++news++arr.toList.drop (cap.off+n*k+news.length)).toArray) (fun b' hb'=>z3k hb') (by simp[World.setRow]) ⟨rfl,rfl,rfl,trivial⟩ (fun hkeep=>by
    refine z9g bl hBl (q3s h1) ?_ (by rw[hn',hlen];exact hfit) h4 (fun row h=>hrows' row h h5) ?_
    ·have:(arr.toList.take (cap.off+n*k)++news++arr.toList.drop (cap.off+n*k+news.length)).length=arr.size:=by
      simp only[bj8,bl8,ao9,bm9];omega
     rw[bp8,this,h2]
    ·refine hcells β _ bl cap.off (fun p=>arr[cap.off+p]?) _ (q4h.le_refl _) (fun p x hx=>hkeep x (hBl.1 p x hx)) h5 h6 ?_ ?_
     ·intro p hp;rw[hgt,if_neg (by omega)]
     ·intro p hp;rw[hgt,if_pos (by rw[n2];omega)];congr 1;omega)
   obtain⟨β',hle,hnx,r2⟩:=r1.moveG id idn nx' (hfree m β w a r).1 (hfree m β w a r).2 hidn hnn (ob:=.arr e k rows') (by rw[q0b];simp) (by simp) (by simp)
   have r3:Rel K m β' (w.setRow b (arr.toList.take (cap.off+n*k)++news++arr.toList.drop (cap.off+n*k+news.length)).toArray) a ⟨S.env,(idn,.arr e k rows')::(id,.dead)::S.hp,nx'⟩:=by
    have hsame:∀i,q7b ((idn,Ob.arr e k rows')::(id,.dead)::(id,.arr e k rows')::S.hp) i=q7b ((idn,Ob.arr e k rows')::(id,.dead)::S.hp) i:=by
     intro i;simp only[q0b];by_cases q1:idn=i
     ·rw[if_pos q1,if_pos q1]
     ·rw[if_neg q1,if_neg q1];by_cases q2:id=i
      ·rw[if_pos q2,if_pos q2]
      ·rw[if_neg q2,if_neg q2,if_neg q2]
    exact⟨r2.imm,r2.ext,r2.mold,r2.frame,r2.size,r2.same,r2.tn,r2.df,r2.env,fun i=>by have:=r2.own i;simp only[hsame] at this;exact this,
     fun i b c h=>r2.priv i b c (by simp only[hsame];exact h),fun i i' b c c' h h'=>r2.inj i i' b c c' (by simp only[hsame];exact h) (by simp only[hsame];exact h'),
     fun i x h hx=>let q:=r2.hid i x (by simp only[hsame];exact h) hx;⟨q.lt,q.m,q.old,fun i' b c h'=>q.ne i' b c (by simp only[hsame];exact h'),fun i' h'=>q.un i' (by simp only[hsame];exact h')⟩,r2.nx,r2.pin⟩
   refine⟨.slice (some ⟨b,cap.off,none⟩) n' cap.n,w.setRow b (arr.toList.take (cap.off+n*k)++news++arr.toList.drop (cap.off+n*k+news.length)).toArray,m,β',.inl ?_,Rel.put r3 hN (.own (by rw[hnx];exact hbb))⟩;refine hop _ _ ?_;rw[hsx,hrun,hlen]
  ·refine grows bl hBl ((arr.toList.drop cap.off).take (n*k)) (some ⟨b,cap.off,none⟩) cap.n hsx (fun w' hw'=>?_) (by simp;omega) (by omega) hfit h5 ?_
   ·have:=q4w (P:=K.P) (w:=w') (ad:=⟨b,cap.off,none⟩) (n:=n) (c:=cap.n) (k:=k) (fun j=>arr.getD (cap.off+j) undef) (fun j hj=>by
     rw[q6o,q0i (arr:=arr) (T:=e) (fr:=(0,0)) (by rw[hw'];exact h1)];have:cap.off+j<arr.size:=by omega
     simp[bo8,this])
    rw[this]
    congr 2
    apply au8;intro j;rw[bb8,bj9];by_cases hj:j<n*k
    ·rw[bc9 hj,if_pos hj,aw8];have:cap.off+j<arr.size:=by omega
     simp[bo8,this]
    ·rw[if_neg hj,ax9 (by simp;omega)];rfl
   ·intro i j row c hi hj;obtain⟨v,a1,a2,a3⟩:=h6 i j row c hi hj;refine⟨v,?_,a2,a3⟩;rw[bj9,if_pos]
    ·rw[aw8];simpa using a1
    ·have hrk:=h5 row (ba9 hi);have hjk:j<k:=by rw[<-hrk];exact(bf9.1 hj).1
     calc i*k+j<i*k+k:=by omega
      _=(i+1)*k:=by rw[an8,ap8]
      _<=n*k:=bh9 _ (by rw[<-hn];exact(bf9.1 hi).1)
theorem z7u{d T T' e k bytes n':Nat}{x:Operand}{sv:V}(rows':List (List V))(hT:z0i K.P T e k bytes=true)(hT':q3k K.P T'=true)
  (hpos:Nat.blt 0 bytes=true) (hkp:Nat.blt 0 k=true)
  (hw:q2d ops S ⟨some d,.call ⟨.builtin .append,#[.const (.slice none 0 0),x],#[T,T']⟩,ty,pos,after,g⟩ true)
  (hx:evl K S x=sv) (hsrc:Src ⟨S.env,(S.nx,.arr e k [])::S.hp,S.nx+1⟩ k sv rows') (hn':rows'.length=n') (hb:n'*bytes<=140737488355328) (hN:Nat.blt d K.N=true)
  (kk:q1d K ops rest Q ⟨(d,.own (S.nx+1) n')::S.env,(S.nx+1,.arr e k rows')::(S.nx,.dead)::(S.nx,.arr e k [])::S.hp,S.nx+2⟩):
  q1d K ops (⟨some d,.call ⟨.builtin .append,#[.const (.slice none 0 0),x],#[T,T']⟩,ty,pos,after,g⟩::rest) Q S:=
 j0q (S:=⟨S.env,(S.nx,.arr e k [])::S.hp,S.nx+1⟩) (id:=S.nx) (n:=0) (rows:=[]) (S.nx+1) (S.nx+2) (fun _ _ _ _ r=>⟨r.nx _ (ae8 _),fun q hq=>al8 (r.pin q hq).1⟩) (am9 _) (am8 _) rows' rows' hT (z8q hT') hpos hkp hw
  (fun m β w a r=>by
   obtain⟨β',h1,h2⟩:=r.nilO e k;exact⟨β',h1,.ownNil h2⟩) z5o rfl (by cases x<;>exact hx) hsrc (by simp) hn' (.inl hb) hN kk
end
theorem w7h{τ:Type}{D E:τ->List V}(e:Nat)(hu:UndE D E):∀o:Option τ,Und (v7s e D o) (w3j E o)
 |none=>.imm rfl
 |some x=>.pt (hu x).1 (fun j c c' h1 h2=>((hu x).2 j c c' h1 h2).1)
theorem j5w{τ:Type}{D:τ->List V}(e:Nat):∀o:Option τ,q5x (v7s e D o)
 |none=>(Imm.con _).2
 |some x=>q5x.dpt _ _
theorem q5a.holePT{κ τ:Type}[DecidableEq κ]{E:κ×Option τ->Value×V}[i:EMK E]{k0:κ}{k k' j i':Nat}{τi:Nat->Nat}{xs:List (κ×Option τ)}(hn:Nat.blt j k'=true)(hj:τi j=i'):
  q5a (To k' τi) (.map (Go.Pv.holeP E (.ptr i' k 0 0) k0 xs)) (.map (Go.Pv.holeP E (.ptr j k 0 0) k0 xs)):=
 q5a.holeP E k0 (j1f.sub (Sub.ptrT hn hj) rfl) (fun p=>j1f.same j2r.h (Sub.kpT (i.h p))) xs
section
variable{K:Ctx}{Q:q5l}{S S':St}
variable{ops:Array Oper}{rest:List Oper}{ty:TypeId}{pos:String}{after:Array Edge}{g:Option (Nat×Bool)}
theorem w9c{d f:Nat}{k:KV}{x:Operand}{name:String}{args:Array Operand}{at':Array TypeId}{avs:List V}(hm:∀(v:Value) (args:Array Value) (w:World),(callMethod (.iface k.t v) name args).run K.P w=.ok (.enter f (#[v]++args)) w)
  (hx:evl K S x=.fn (.method name) [.ifc k.t k.d] []) (ha:args.toList.map (evl K S)=avs) (hi:q1o avs):
  ∀m β w a,Rel K m β w a S->∃vs:Array Value,(execOp a.eval ⟨some d,.call ⟨.value x,args,at'⟩,ty,pos,after,g⟩).run K.P w=.ok (.enter f vs) w/\v3b m (k.d::avs) vs:=by
 intro m β w a r;have hr:=r.reads x;rw[hx] at hr
 obtain⟨v,hv,hd⟩:∃v,a.eval x=.func (.method name) #[.iface k.t v] #[]/\q1l m k.d v:=by
  generalize a.eval x=u at hr
  have key:∀(fs cs:Array Value),1=fs.size->0=cs.size->(∀(i:Nat) (c:V) (v:Value),[V.ifc k.t k.d][i]? = some c->fs[i]? = some v->q8i m β c v)->∃v,(Value.func (.method name) fs cs)=.func (.method name) #[.iface k.t v] #[]/\q1l m k.d v:=by
   intro fs cs h1 h2 h3;obtain⟨l⟩:=fs;obtain⟨l2⟩:=cs
   match l,l2,h1,h2 with
   |[y],[],_,_=>
    have:=h3 0 _ y rfl rfl;cases this with
    |imm h=>cases h with|ifc h=>exact⟨_,rfl,h⟩
  cases hr with
  |imm h=>cases h with|fn h1 h2 h3 h4=>exact key _ _ h1 h2 (fun i c v a b=>.imm (h3 i c v a b))
  |fn h1 h2 h3 h4=>exact key _ _ h1 h2 h3
 refine⟨#[v]++args.map a.eval,?_,?_⟩
 ·have:(execOp a.eval ⟨some d,.call ⟨.value x,args,at'⟩,ty,pos,after,g⟩)=callMethod (.iface k.t v) name (args.map a.eval):=by
   simp only[execOp,resolve,hv,Deferred.ofValue,pure_bind]
   show invoke (.fn (.method name) #[]) (#[Value.iface k.t v]++args.map a.eval)=_
   simp only[invoke];rw[show(#[Value.iface k.t v]++args.map a.eval)[0]? = some (Value.iface k.t v) by rw[ay9 (by simp)];rfl];simp only
   congr 1
   apply au9;simp;exact List.take_of_length_le (by simp)
  rw[this];exact hm v (args.map a.eval) w
 ·refine⟨by simp[<-ha];omega,fun i c u h1 h2=>?_⟩;cases i with
  |zero=>
   rw[ay9 (by simp)] at h2;simp at h1 h2;subst h1;subst h2;exact hd
  |succ i=>
   rw[bu8] at h1;have h1':=h1;rw[<-ha,bb8,af8] at h1;rw[ay8 (by simp)] at h2;simp only[bp8,ca9,bt8,ch8,by9,ce8] at h2;cases ho:args[i]? with
   |none=>rw[ho] at h1;simp at h1
   |some y=>
    rw[ho] at h1 h2;simp at h1 h2;subst h2;exact(hi.get h1').2 m β _ (h1 ▸ r.reads y)
theorem j7c{d:Nat}{k:KV}{x:Operand}{name:String}{args:Array Operand}{at':Array TypeId}(dr:V)(avs:List V)(hg:q4e K S S')(hfl:j2s dr)
  (hw:q2d ops S ⟨some d,.call ⟨.value x,args,at'⟩,ty,pos,after,g⟩ true) (hx:evl K S' x=.fn (.method name) [.ifc k.t k.d] []) (ha:args.toList.map (evl K S')=avs) (hi:q1o avs) (hc:j4r K.gl K.P name k avs dr) (hN:Nat.blt d K.N=true)
  (kk:q1d K ops rest Q (S.put d dr)):q1d K ops (⟨some d,.call ⟨.value x,args,at'⟩,ty,pos,after,g⟩::rest) Q S:=by
 obtain⟨f,hm,hc⟩:=hc;exact j8c hw rfl hN hg hfl (w9c hm hx ha hi) hc kk
theorem j0h{d:Nat}{x:Operand}{T:TypeId}{dv:V}(hw:q2d ops S ⟨some d,.nilCheck x,ty,pos,after,g⟩ true)(hx:evl K S x=.ifc T dv)(hN:Nat.blt d K.N=true)
  (k:q1d K ops rest Q (S.put d (.ifc T dv))):q1d K ops (⟨some d,.nilCheck x,ty,pos,after,g⟩::rest) Q S:=
 q8c _ hw hN (fun m β w a r=>by
  have hr:=r.reads x;rw[hx] at hr;have hr2:=hr
  obtain⟨v,hv⟩:∃v,a.eval x=.iface T v:=by
   generalize a.eval x=u at hr;cases hr with
   |imm h=>cases h with|ifc h=>exact⟨_,rfl⟩
  refine⟨.iface T v,?_,by rw[<-hv];exact hr2⟩;simp only[execOp,hv];simp[Sem.run_bind,Result.andThen,pure]) k
end
section
variable{K:Ctx}{Q:q5l}{S S':St}{s:List It}
variable{ops:Array Oper}{rest:List Oper}{ty:TypeId}{pos:String}{after:Array Edge}{g:Option (Nat×Bool)}
theorem j1h{d f:Nat}{first:Array Operand}(fs:List V)(hw:q2d ops S ⟨some d,.makeFunc (.func f) first #[],ty,pos,after,g⟩ true)
  (hc:first.toList.map (evl K S)=fs) (hN:Nat.blt d K.N=true) (kk:q1d K ops rest Q (S.put d (.fn (.func f) fs []))):
  q1d K ops (⟨some d,.makeFunc (.func f) first #[],ty,pos,after,g⟩::rest) Q S:=
 q8c _ hw hN (fun m β w a r=>by
  refine⟨.func (.func f) (first.map a.eval) #[],by simp only[execOp];exact q4c (by simp[Instr.makeFunc,pure]),.fn (by simp[<-hc]) rfl (fun i c v h1 h2=>?_) (by simp)⟩;rw[<-hc,bb8] at h1;rw[ce8] at h2;cases hx:first[i]? with
  |none=>simp[hx] at h2
  |some x=>
   simp[hx] at h1 h2;subst h1;subst h2;exact r.reads x) kk
theorem rfC{c:Code}(h:AWP K c (post K Q s) S):WG K Q (.c c::s) S:=h
theorem wP(h:post K Q s .normal S):WG K Q s S:=h
end
def y3a{τ:Type}(enc:τ->List V)[i:EI enc](y:τ):q6e:=⟨enc y,i.h y,i.o y⟩
theorem w9b{τ:Type}{enc:τ->List V}:∀o:Option τ,(w3j enc o).deep=false
 |none=>rfl
 |some _=>rfl
end Go.Pv
namespace Go.Pv
open Go Go.RowKit Go.Maps Go.Sort Go.Proofs
def j0u{τ:Type}(xs:List (B8×τ)):Option (List B8):=
 if xs.length*16<=140737488355328/\(∀p,p∈xs->p.1.length<=140737488355328) then some (q1s (xs.map (·.1))) else none
def j7h(v:Value):Option (DataW Unit×List MemPlace):=some (.lit (.bool true),[])
theorem w5m{P:Program}{m:Mem}{w:World}{k:TypeId}{xs:List B8}{es:List (Value×V)}{v:Value}(hk:P.underlying k=some .string)(himm:∀(b:Nat) o,m b=some o->w.heap[b]? = some o)(he:es.map (·.1)=xs.map str)
  (hn:xs.length<=maxLen) (hl:∀x,x∈xs->x.length<=maxLen) (h:q1l m (.imap es) v):
  ∃b D,v=.map (some b)/\b<w.heap.size/\w.ownsMap P k j7h b xs.length D/\(strKeys D).Perm xs/\Maps.size D=xs.length:=by
 cases h with
 | @imap es b ents clock hm hln hkk h=>
 obtain⟨E,h1,h2,h3⟩:=hm
 have hkeys:ents.toList.map (·.key)=xs.map str:=by
  rw[<-he];apply au8;intro i;rw[bb8,bb8];cases hi:es[i]? with
  |none=>
   have:ents.toList[i]? = none:=by
    rw[List.getElem?_eq_none_iff] at hi ⊢
    simpa[<-hln] using hi
   rw[this];rfl
  |some p=>
   have hlt:i<ents.size:=by rw[<-hln];exact(bf9.1 hi).1
   have hx:ents[i]? = some ents[i]:=bd8 hlt;have:=hkk i p _ hi hx;rw[af8,hx];simp[this]
 have hsz:E.size=xs.length:=by
  have a1:=h2.length_eq;have a2:=congrArg List.length hkeys;simp at a1 a2;omega
 have hread:∀e∈E.toList,∃x,x∈xs/\e.key=str x:=by
  intro e hE;have:e∈ents.toList:=h2.mem_iff.2 hE;have:e.key∈ents.toList.map (·.key):=bq8 this;rw[hkeys] at this;obtain⟨x,hx,e2⟩:=bg9.1 this;exact⟨x,hx,e2.symm⟩
 have hrd:∀e∈E.toList,∀x,x.length<=maxLen->e.key=str x->WideElems.rd P k j7h e=some (.string x,.lit (.bool true)):=by
  intro e _ x hx hex
  have:keyOf P k e.key=some (.string x):=by
   rw[hex];unfold keyOf;rw[hk];simp only[mapKey,hk];simp[ByteArray.size,hx]
  unfold WideElems.rd;rw[this];rfl
 refine⟨b,.map ((E.toList.map (WideElems.rg P k j7h)).foldr DataW.insert []),rfl,q3e (himm _ _ h1),⟨E,clock,himm _ _ h1,⟨by omega,⟨fun x hx=>h3.lt x hx,h3.born,h3.key⟩,fun x hx=>?_⟩,by omega,rfl⟩,?_,?_⟩
 ·obtain⟨y,hy,e⟩:=hread x hx;exact⟨_,hrd x hx y (hl y hy) e⟩
 ·have p1:=Go.WideShapes.sorted_perm (E.toList.map (WideElems.rg P k j7h));have p2:(strKeys (DataW.map ((E.toList.map (WideElems.rg P k j7h)).foldr DataW.insert []))).Perm ((E.toList.map (WideElems.rg P k j7h)).map fun p=>strOf p.1):=p1.map _;refine p2.trans ?_;rw[bg8];have p3:(E.toList.map ((fun p=>strOf p.1) ∘ WideElems.rg P k j7h)).Perm (ents.toList.map ((fun p=>strOf p.1) ∘ WideElems.rg P k j7h)):=(h2.symm).map _;refine p3.trans (List.Perm.of_eq ?_);apply au8;intro i;have hk2:=congrArg (fun l=>l[i]?) hkeys;simp only[bb8] at hk2 ⊢;cases hi:xs[i]? with
  |none=>rw[hi] at hk2;simp at hk2;simp[hk2]
  |some x=>
   rw[hi] at hk2;cases hx:ents.toList[i]? with
   |none=>rw[hx] at hk2;simp at hk2
   |some e=>
    rw[hx] at hk2;simp only[bc8,az9] at hk2 ⊢;have hmem:e∈E.toList:=h2.mem_iff.1 (ba9 hx);have:=hrd e hmem x (hl x (ba9 hi)) hk2;simp only[Function.comp,WideElems.rg,this,ca8,strOf]
 ·rw[size_eq];rw[(Go.WideShapes.sorted_perm _).length_eq,bk8]
  simpa using hsz
section
variable{K:Ctx}{Q:q5l}{S:St}
variable{ops:Array Oper}{rest:List Oper}{ty ty2:TypeId}{pos pos2:String}{after after2:Array Edge}{g g2:Option (Nat×Bool)}
theorem j0c{ρ6 ρ7 ρ10:Go.Shelf.Ren}(L6:Go.Proofs.SlLaysZ.n6 K.P ρ6)(L7:Go.Proofs.SlLaysZ.n7 K.P ρ7)(L10:Go.Proofs.SlLaysZ.n10 K.P ρ10){f6 f7 f10 f9:Nat}{d1 d2:Nat}{x:Operand}{at1 at2:Array TypeId}{es:List (Value×V)}(xs:List B8)
  (e6:ρ6.f 6=f6) (e9:ρ6.f 9=f9) (e7:ρ7.f 7=f7) (e10:ρ7.f 10=f10) (e10':ρ10.f 10=f10) (et:ρ10.t 26=ρ6.t 26)
  (hs1:∀(blk off cap:Nat) (zs:List B8) (w:World),Holds str w blk off zs.toArray->blk<w.heap.size->zs.length<4611686018427387904->Calls K.P f9 #[.slice (some ⟨blk,off,none⟩) zs.length cap] w fun e w'=>
   e=.returned (.tuple #[])/\∃n os,w'=grow (putRow str (Sort.ahead w n) blk off (zs.mergeSort fun x y=>decide (x<=y)).toArray) os)
  (hs2:∀(p:Option Addr) (cap:Nat) (w:World),Calls K.P f9 #[.slice p 0 cap] w fun e w'=>e=.returned (.tuple #[])/\w'=w)
  (ef7:q7o K.P f7=true) (ef6:q7o K.P f6=true) (ef9:∀args w,(callFunc f9 args).run K.P w=.ok (.enter f9 args) w)
  (hc:xs.length*16<=140737488355328/\∀x,x∈xs->x.length<=140737488355328) (he:es.map (·.1)=xs.map str)
  (hw1:q2d ops S ⟨some d1,.call ⟨.value (.func f7),#[x],at1⟩,ty,pos,after,g⟩ true) (hw2:q2d ops (S.put d1 .any) ⟨some d2,.call ⟨.value (.func f6),#[.tmp d1],at2⟩,ty2,pos2,after2,g2⟩ true)
  (hx:evl K S x=.imap es) (hN1:Nat.blt d1 K.N=true) (hN2:Nat.blt d2 K.N=true)
  (kk:q1d K ops rest Q ((S.put d1 .any).put d2 (.lst 1 ((q1s xs).map fun s=>[sV s])))):
  q1d K ops (⟨some d1,.call ⟨.value (.func f7),#[x],at1⟩,ty,pos,after,g⟩::⟨some d2,.call ⟨.value (.func f6),#[.tmp d1],at2⟩,ty2,pos2,after2,g2⟩::rest) Q S:=by
 subst e6 e9 e7 e10;have hml:(140737488355328:Nat)<=maxLen:=by unfold maxLen;decide
 intro m β w a r;unfold wpListIn;rw[if_pos (hw1.at r)];obtain⟨vs,h1,h2⟩:=j3p (d:=some d1) (at':=at1) (ty:=ty) (pos:=pos) (after:=after) (g:=g) ef7 (args:=#[x]) (avs:=[.imap es]) (by simp[hx]) (.cons (Imm.imap _) .nil) m β w a r
 have hvs:∃v,vs=#[v]/\q1l m (.imap es) v:=by
  have hl:=h2.len;obtain⟨l⟩:=vs
  match l,hl with
  |[v],_=>exact⟨v,rfl,h2.at' 0 _ _ rfl rfl⟩
 obtain⟨v,rfl,hv⟩:=hvs;obtain⟨b,D,rfl,hb,hown,hperm,hsize⟩:=w5m L10.t26 r.imm he (bz9 (by omega) hml) (fun y hy=>bz9 (hc.2 y hy) hml) hv;refine j6f (.inr (z8n h1 (fun d e=>by cases e))) ?_;unfold Oper.wp;rw[h1];refine(callsIn_wide.1 (AnyZ.keys_in L7 Fence.wide 1 trivial rfl (some b) w)).mono ?_
 rintro e w1 ⟨rfl,rfl⟩
 simp only[]
 have g1:w0h m m w (w.alloc (.cells #[.map (some b)] (ρ7.t 23))):=⟨Mem.le_refl _,fun c o h=>by
   have hh:=r.imm c o h;have:=q3e hh
   show((w.heap.push _))[c]? = _
   rw[br8,if_neg (by omega)];exact hh,fun _ _=>rfl,fun c hc=>by
   show((w.heap.push _))[c]? = _
   rw[br8,if_neg (by omega)],by simp,⟨rfl,rfl,rfl,trivial⟩⟩
 have r1:=(r.grow g1).put hN1 (dv:=.any) (v:=.func (.func (ρ7.f 10)) #[] #[.pointer (some ⟨w.heap.size,0,none⟩)]) (.imm (.any _))
 show wpListIn _ _ _ _ _ _ _ _
 unfold wpListIn;rw[if_pos (hw2.at r1)]
 have hev:(a.put (some d1) (.func (.func (ρ7.f 10)) #[] #[.pointer (some ⟨w.heap.size,0,none⟩)])).eval (.tmp d1)=.func (.func (ρ7.f 10)) #[] #[.pointer (some ⟨w.heap.size,0,none⟩)]:=by
  have hlt:d1<a.tmps.size:=by rw[r.tn];exact az8 hN1
  simp[Act.put,Act.eval,hlt]
 have h3:(execOp (a.put (some d1) (.func (.func (ρ7.f 10)) #[] #[.pointer (some ⟨w.heap.size,0,none⟩)])).eval ⟨some d2,.call ⟨.value (.func (ρ6.f 6)),#[.tmp d1],at2⟩,ty2,pos2,after2,g2⟩).run K.P (w.alloc (.cells #[.map (some b)] (ρ7.t 23)))=.ok (.enter (ρ6.f 6) #[.func (.func (ρ7.f 10)) #[] #[.pointer (some ⟨w.heap.size,0,none⟩)]]) (w.alloc (.cells #[.map (some b)] (ρ7.t 23))):=by
  have hef:(a.put (some d1) (.func (.func (ρ7.f 10)) #[] #[.pointer (some ⟨w.heap.size,0,none⟩)])).eval (.func (ρ6.f 6))=.func (.func (ρ6.f 6)) #[] #[]:=rfl;simp only[execOp,resolve,bn8,bo9,ar8,hev,hef,Deferred.ofValue,invoke,Sem.run_bind,pure,Sem.run,Result.andThen_ok];simp[q4r ef6]
 refine j6f (.inr (z8n h3 (fun d e=>by cases e))) ?_;unfold Oper.wp;rw[h3];have e10f:∀args w,(callFunc (ρ7.f 10) args).run K.P w=.ok (.enter (ρ7.f 10) args) w:=fun args w=>by rw[<-e10'];exact L10.f10.enters rfl args w
 have hown1:(w.alloc (.cells #[.map (some b)] (ρ7.t 23))).ownsMap K.P (ρ10.t 26) j7h b xs.length D:=by
  obtain⟨es',clock,q1,q2⟩:=hown;exact⟨es',clock,by rw[<-q1];exact g1.heap b hb,q2⟩
 have hbx:(w.alloc (.cells #[.map (some b)] (ρ7.t 23))).heap[w.heap.size]? = some (.cells #[.map (some b)] (ρ7.t 23)):=by
  show(w.heap.push _)[_]? = _
  simp
 have hcb:(w.alloc (.cells #[.map (some b)] (ρ7.t 23))).cell? ⟨w.heap.size,0,none⟩=some (.map (some b)):=by
  simp only[World.cell?,hbx];rfl
 have hg:=AnyZ.keys_gives L10 Fence.wide 1 trivial rfl (ae8 _) w.heap.size b xs.length D (R:=j7h) (w.alloc (.cells #[.map (some b)] (ρ7.t 23))) (by simp) hcb hown1;rw[e10'] at hg;refine(callsIn_wide.1 (AnyZ.sorted_in L6 Fence.wide 4 trivial trivial trivial trivial rfl (ae8 _) ⟨fun blk off cap ss W q1 q2 q3=>callsIn_wide.2 (hs1 blk off cap ss W q1 q2 q3),fun p cap W=>callsIn_wide.2 (hs2 p cap W)⟩ ef9 (ρ7.f 10) _ trivial e10f _ (Maps.size D) (by rw[hsize];omega) (by rw[hsize];exact hc.1) _ hg)).mono ?_
 rintro e w2 ⟨v2,ss,rfl,hss,hrow,hnil,hbel⟩
 have hts:ss.mergeSort (fun x y=>decide (x<=y))=q1s xs:=mergeSort_of_perm (hss.trans hperm);rw[hts] at hrow;have hsl:ss.length=xs.length:=by rw[(hss.trans hperm).length_eq]
 have htl:(q1s xs).length=xs.length:=List.length_mergeSort _;simp only[];rcases hrow.2 with ⟨rfl,hz⟩|⟨gb,cap,cur,rfl,hbase,hgb,q1,q2,q3,q4⟩
 ·have hx0:xs=[]:=ba8.1 (by omega);subst hx0;refine kk m β w2 _ ((r1.grow (j9j r1.imm hbel trivial)).put hN2 (.imm ?_))
  show q1l m (.lst 1 ((q1s []).map _)) _
  rw[show q1s []=[] from ba8.1 htl];exact .nil _ _ _
 ·let m':Mem:=fun c=>if c=gb then some (.cells cur (ρ6.t 26) (0,0)) else m c
  have hnone:m gb=none:=by
   cases hm:m gb with
   |none=>rfl
   |some o=>have:=q3e (r1.imm _ _ hm);omega
  have hle:m.le m':=by
   intro c o h;have:c≠gb:=by intro e;rw[e,hnone] at h;cases h
   show(if _ then _ else _)=_
   rw[if_neg this];exact h
  have gr:w0h m m' (w.alloc (.cells #[.map (some b)] (ρ7.t 23))) w2:=by
   refine⟨hle,fun c o h=>?_,fun c hc=>?_,hbel.block,hbel.size,⟨hbel.os,hbel.tape,hbel.output,trivial⟩⟩
   ·by_cases ec:c=gb
    ·subst ec;have:m' c=some (.cells cur (ρ6.t 26) (0,0)):=by show(if _ then _ else _)=_;rw[if_pos rfl]
     rw[this] at h;cases h;exact hgb
    ·have:m' c=m c:=by show(if _ then _ else _)=_;rw[if_neg ec]
     rw[this] at h;rw[hbel.block c (q3e (r1.imm c o h))];exact r1.imm c o h
   ·show(if _ then _ else _)=_
    rw[if_neg (by omega)]
  refine kk m' β w2 _ ((r1.grow gr).put hN2 (.imm ?_))
  have hcur:∀(i:Nat) (y:B8),(q1s xs)[i]? = some y->cur[i]? = some (str y):=by
   intro i y hy;have h5:=congrArg (fun l=>l[i]?) q4;simp only[bn9,bb8,hy,bc8,bj9] at h5;split at h5
   ·rw[af8] at h5;exact h5
   ·cases h5
  refine .lst (arr:=cur) (T:=ρ6.t 26) (fr:=(0,0)) (fun i=>(cur[i]?).getD undef) (show(if _ then _ else _)=_ by rw[if_pos rfl]) rfl (by simp[htl,hsl]) q1 (bz9 q1 q2) ?_ ?_ ?_
  ·intro row hr;obtain⟨y,_,rfl⟩:=bg9.1 hr;rfl
  ·intro i hi;rw[bk8,bn9] at hi;have:=hcur i _ (bb9 hi);simp[this]
  ·intro i j row c hi hj;rw[bb8] at hi;cases hy:(q1s xs)[i]? with
   |none=>rw[hy] at hi;cases hi
   |some y=>
    rw[hy] at hi;simp only[bc8,az9] at hi;subst hi;cases j with
    |succ j=>simp at hj
    |zero=>
     simp only[bq9,az9] at hj;subst hj;rw[bn9,bh8,hcur i y hy];exact .con _
end
end Go.Pv
namespace Go.Pv
open Go Go.RowKit Go.Maps Go.Sort Go.Proofs
theorem v3o{τ:Type}{xs:List (B8×τ)}{l:List B8}(h:j0u xs=some l):(xs.length*16<=140737488355328/\∀p,p∈xs->p.1.length<=140737488355328)/\l=q1s (xs.map (·.1)):=by
 unfold j0u at h;split at h
 ·rename_i hc;exact⟨hc,(aj9 h).symm⟩
 ·cases h
section
variable{K:Ctx}{Q:q5l}{S:St}
variable{ops:Array Oper}{rest:List Oper}{ty ty2:TypeId}{pos pos2:String}{after after2:Array Edge}{g g2:Option (Nat×Bool)}
theorem z3u{τ:Type}{enc:B8->List V}{E:B8×τ->Value×V}{xs:List (B8×τ)}{l:List B8}(hl:j0u xs=some l)(henc:∀s,enc s=[sV s])(hE:∀p,(E p).1=str p.1)
  {ρ6 ρ7 ρ10:Go.Shelf.Ren} (L6:Go.Proofs.SlLaysZ.n6 K.P ρ6) (L7:Go.Proofs.SlLaysZ.n7 K.P ρ7) (L10:Go.Proofs.SlLaysZ.n10 K.P ρ10) {f6 f7 f10 f9:Nat} {d1 d2:Nat} {x:Operand} {at1 at2:Array TypeId}
  (e6:ρ6.f 6=f6) (e9:ρ6.f 9=f9) (e7:ρ7.f 7=f7) (e10:ρ7.f 10=f10) (e10':ρ10.f 10=f10) (et:ρ10.t 26=ρ6.t 26)
  (hs1:∀(blk off cap:Nat) (zs:List B8) (w:World),Holds str w blk off zs.toArray->blk<w.heap.size->zs.length<4611686018427387904->Calls K.P f9 #[.slice (some ⟨blk,off,none⟩) zs.length cap] w fun e w'=>
   e=.returned (.tuple #[])/\∃n os,w'=grow (putRow str (Sort.ahead w n) blk off (zs.mergeSort fun x y=>decide (x<=y)).toArray) os)
  (hs2:∀(p:Option Addr) (cap:Nat) (w:World),Calls K.P f9 #[.slice p 0 cap] w fun e w'=>e=.returned (.tuple #[])/\w'=w)
  (ef7:q7o K.P f7=true) (ef6:q7o K.P f6=true) (ef9:q7o K.P f9=true)
  (hw1:q2d ops S ⟨some d1,.call ⟨.value (.func f7),#[x],at1⟩,ty,pos,after,g⟩ true) (hw2:q2d ops (S.put d1 .any) ⟨some d2,.call ⟨.value (.func f6),#[.tmp d1],at2⟩,ty2,pos2,after2,g2⟩ true)
  (hx:evl K S x=.imap (xs.map E)) (hN1:Nat.blt d1 K.N=true) (hN2:Nat.blt d2 K.N=true)
  (kk:q1d K ops rest Q ⟨(d2,.lst 1 (l.map enc))::(d1,.any)::S.env,S.hp,S.nx⟩):
  q1d K ops (⟨some d1,.call ⟨.value (.func f7),#[x],at1⟩,ty,pos,after,g⟩::⟨some d2,.call ⟨.value (.func f6),#[.tmp d1],at2⟩,ty2,pos2,after2,g2⟩::rest) Q S:=by
 obtain⟨⟨h1,h2⟩,rfl⟩:=v3o hl;refine j0c L6 L7 L10 (xs.map (·.1)) e6 e9 e7 e10 e10' et hs1 hs2 ef7 ef6 (fun args w=>q4r ef9 args) ⟨by simpa using h1,fun y hy=>?_⟩ ?_ hw1 hw2 hx hN1 hN2 ?_
 ·obtain⟨p,hp,rfl⟩:=bg9.1 hy;exact h2 p hp
 ·rw[bg8,bg8];exact List.map_congr_left fun p _=>hE p
 ·have:enc=fun s=>[sV s]:=funext henc;rw[this] at kk;exact kk
end
end Go.Pv
namespace Go.Proofs.YtelmfadihfcgnaaGreatDoor
open Go Go.Pv
set_option maxRecDepth 100000
theorem mixed:Tryz.prog.follows .mixedOrders=true:=by kernel_rfl
structure q0c where
 Kind:Int
 Name:B8
 Texts:(List B8)
 Op:Int
 N:Int
 Kids:(List q6e)
structure q1h where
 Name:B8
 Value:B8
 deriving DecidableEq
structure q6c where
 Name:B8
 N:Int
 deriving DecidableEq
structure q4j where
 Kind:B8
 Subject:B8
 Texts:(List q1h)
 Numbers:(List q6c)
 deriving DecidableEq
structure q2g where
 name:Bool
 texts:Bool
 number:Bool
 kids:Int
 deriving DecidableEq
structure q7k where
 name:B8
 texts:(List B8)
 deriving DecidableEq
structure q2i where
 name:B8
 texts:(List B8)
 deriving DecidableEq
structure q8j where
 name:B8
 deriving DecidableEq
structure q1i where
 name:B8
 op:Int
 n:Int
 deriving DecidableEq
structure q7j where
 kid:KV
structure q0k where
 kids:(List KV)
structure q9j where
 kids:(List KV)
structure q3j where
 deriving DecidableEq
structure q4a where
 is:(List B8)
 begins:(List B8)
 numbers:(List Int)
 asText:Bool
 asNo:Bool
 has:Bool
 weight:Int
 deriving DecidableEq
structure q0a where
 hasText:Bool
 hasNumber:Bool
 text:B8
 number:Int
 deriving DecidableEq
structure q1b where
 by_:(List (B8×q0a))
 known:(Option (List (B8×Bool)))
 deriving DecidableEq
structure q2a where
 isText:Bool
 isNumber:Bool
 text:B8
 number:Int
 deriving DecidableEq
structure q4b where
 t:q0c
 names:(List B8)
 can:(List (List q2a))
 settled:(List Bool)
 is:(List q2a)
def q2b(x:Int):List V:=[(iV x)]
theorem q1e(x:Int):q1o (q2b x):=(.cons (Imm.con _) .nil)
theorem q5v(x:Int):(q2b x).all q4x=true:=rfl
instance:EI q2b:=⟨q1e,q5v⟩
def z0d(x:Bool):List V:=[(bV x)]
theorem q6n(x:Bool):q1o (z0d x):=(.cons (Imm.con _) .nil)
theorem w7j(x:Bool):(z0d x).all q4x=true:=rfl
instance:EI z0d:=⟨q6n,w7j⟩
def q5c(x:B8):List V:=[(sV x)]
theorem q7c(x:B8):q1o (q5c x):=(.cons (Imm.con _) .nil)
theorem q4v(x:B8):(q5c x).all q4x=true:=rfl
instance:EI q5c:=⟨q7c,q4v⟩
def q7a(x:q0c):List V:=[(iV x.Kind),(sV x.Name),(V.lst 1 (x.Texts.map q5c)),(iV x.Op),(iV x.N),(V.lst 6 (x.Kids.map q6e.row))]
theorem q7h(x:q0c):q1o (q7a x):=(.cons (Imm.con _) (.cons (Imm.con _) (.cons (Imm.lst _ _) (.cons (Imm.con _) (.cons (Imm.con _) (.cons (Imm.lst _ _) .nil))))))
theorem q3v(x:q0c):(q7a x).all q4x=true:=rfl
instance:EI q7a:=⟨q7h,q3v⟩
@[simp] theorem w6u(x:q0c):(q7a x).length=6:=rfl
def q9g(x:q1h):List V:=[(sV x.Name),(sV x.Value)]
theorem q3p(x:q1h):q1o (q9g x):=(.cons (Imm.con _) (.cons (Imm.con _) .nil))
theorem z8t(x:q1h):(q9g x).all q4x=true:=rfl
instance:EI q9g:=⟨q3p,z8t⟩
@[simp] theorem w7u(x:q1h):(q9g x).length=2:=rfl
def q8e(x:q6c):List V:=[(sV x.Name),(iV x.N)]
theorem q5n(x:q6c):q1o (q8e x):=(.cons (Imm.con _) (.cons (Imm.con _) .nil))
theorem z1j(x:q6c):(q8e x).all q4x=true:=rfl
instance:EI q8e:=⟨q5n,z1j⟩
@[simp] theorem w5g(x:q6c):(q8e x).length=2:=rfl
def q3h(x:q4j):List V:=[(sV x.Kind),(sV x.Subject),(V.lst 2 (x.Texts.map q9g)),(V.lst 2 (x.Numbers.map q8e))]
theorem j1o(x:q4j):q1o (q3h x):=(.cons (Imm.con _) (.cons (Imm.con _) (.cons (Imm.lst _ _) (.cons (Imm.lst _ _) .nil))))
theorem j0v(x:q4j):(q3h x).all q4x=true:=rfl
instance:EI q3h:=⟨j1o,j0v⟩
@[simp] theorem w8u(x:q4j):(q3h x).length=4:=rfl
theorem eqp4{d:Nat}:v8b Tryz.prog (d+1) 4 1 false (fun l=>∃n,l=[.bool n]):=w7b (show Tryz.prog.underlying 4=some (.bool) by kernel_rfl) (show tyC Tryz.prog 4=true by kernel_rfl)
theorem eqp9{d:Nat}:v8b Tryz.prog (d+1) 9 1 false (fun l=>∃n,l=[.string n]):=w5n (show Tryz.prog.underlying 9=some (.string) by kernel_rfl) (show tyC Tryz.prog 9=true by kernel_rfl)
theorem eqp3{d:Nat}:v8b Tryz.prog (d+1) 3 1 false (fun l=>∃n,l=[.int .i64 n]):=w6n (show Tryz.prog.underlying 3=some (.int .i64) by kernel_rfl) (show tyC Tryz.prog 3=true by kernel_rfl)
def v8l(x:q0a):List Value:=[.bool x.hasText]++([.bool x.hasNumber]++([str x.text]++([.int .i64 x.number]++[])))
theorem w3m(x y:q0a)(h:v8l x=v8l y):x=y:=by
 obtain⟨h0,h⟩:=ah9 h rfl;obtain⟨h1,h⟩:=ah9 h rfl;obtain⟨h2,h⟩:=ah9 h rfl;obtain⟨h3,h⟩:=ah9 h rfl;obtain⟨a0,a1,a2,a3⟩:=x;obtain⟨b0,b1,b2,b3⟩:=y;obtain rfl:a0=b0:=v4k _ _ (ah8 h0).1;obtain rfl:a1=b1:=v4k _ _ (ah8 h1).1;obtain rfl:a2=b2:=q2p _ _ (ah8 h2).1;obtain rfl:a3=b3:=y8b _ _ (ah8 h3).1;rfl
def v4z(v:Value):Prop:=∃x:q0a,v=.agg (v8l x).toArray
theorem j6w:∀a b:q0a,(Value.agg (v8l a).toArray)=.agg (v8l b).toArray->a=b:=fun a b h=>w3m a b (by simpa using congrArg Array.toList (Value.agg.inj h))
theorem eqp98 {d:Nat}:v8b Tryz.prog (d+2) 98 4 true (fun l=>∃x:q0a,l=v8l x):=(v6f (d:=d+1) (fs:=[(Field.mk "hasText" 4 0 false "" "provender/policy" 0),(Field.mk "hasNumber" 4 1 false "" "provender/policy" 1),(Field.mk "text" 9 2 false "" "provender/policy" 8),(Field.mk "number" 3 3 false "" "provender/policy" 24)]) (by kernel_rfl) (by kernel_rfl) (by kernel_rfl) (by kernel_rfl) (z6y eqp4 (by simp) rfl (by simp) (z6y eqp4 (by simp) rfl (by simp) (z6y eqp9 (by simp) rfl (by simp) (z6y eqp3 (by simp) rfl (by simp) y8c))))).weaken (fun l ⟨x,hx⟩=>by subst hx;exact⟨_,_,rfl,⟨_,rfl⟩,⟨_,_,rfl,⟨_,rfl⟩,⟨_,_,rfl,⟨_,rfl⟩,⟨_,_,rfl,⟨_,rfl⟩,rfl⟩⟩⟩⟩)
theorem eqk98:v8b Tryz.prog 10000 98 4 true (fun l=>∃x:q0a,l=v8l x):=eqp98 (d:=9998)
def q9c(p:B8×q0a):Value×V:=(str p.1,(V.agg [(bV p.2.hasText),(bV p.2.hasNumber),(sV p.2.text),(iV p.2.number)]))
abbrev q6k(v:q0a):V:=(V.agg [(bV v.hasText),(bV v.hasNumber),(sV v.text),(iV v.number)])
theorem z1a(xs:List (B8×q0a))(k:B8)(v:q0a):j8h (str k) (q6k v) (xs.map q9c) ((q0m xs k v).map q9c):=j9m (kv:=fun k=>str k) (ev:=q6k) q2p xs k v
theorem j8o(xs:List (B8×q0a))(k:B8):v0t (str k) (xs.map q9c) ((z4m xs k).map q9c):=v7l (kv:=fun k=>str k) (ev:=q6k) q2p xs k
theorem q5p(xs:List (B8×q0a))(k:B8):j0f (str k) (xs.map q9c) ((q7f xs k).map q6k):=z1o (kv:=fun k=>str k) (ev:=q6k) q2p xs k
theorem q0f{xs:List (B8×q0a)}:∀p,p∈xs.map q9c->Imm p.2:=by
 intro p hp;obtain⟨x,_,rfl⟩:=bg9.1 hp;exact(Imm.agg (.cons (Imm.con _) (.cons (Imm.con _) (.cons (Imm.con _) (.cons (Imm.con _) .nil)))))
instance:EM q9c:=⟨fun _=>(Imm.agg (.cons (Imm.con _) (.cons (Imm.con _) (.cons (Imm.con _) (.cons (Imm.con _) .nil)))))⟩
theorem q5k{xs:List (B8×q0a)}:∀p,p∈xs.map q9c->j1g p.1:=by
 intro p hp;obtain⟨x,_,rfl⟩:=bg9.1 hp;exact⟨_,rfl⟩
def q5e(p:B8×Bool):Value×V:=(str p.1,(bV p.2))
abbrev q4q(v:Bool):V:=(bV v)
theorem j5x(xs:List (B8×Bool))(k:B8)(v:Bool):j8h (str k) (q4q v) (xs.map q5e) ((q0m xs k v).map q5e):=j9m (kv:=fun k=>str k) (ev:=q4q) q2p xs k v
theorem j7x(xs:List (B8×Bool))(k:B8):v0t (str k) (xs.map q5e) ((z4m xs k).map q5e):=v7l (kv:=fun k=>str k) (ev:=q4q) q2p xs k
theorem j6x(xs:List (B8×Bool))(k:B8):j0f (str k) (xs.map q5e) ((q7f xs k).map q4q):=z1o (kv:=fun k=>str k) (ev:=q4q) q2p xs k
theorem q3g{xs:List (B8×Bool)}:∀p,p∈xs.map q5e->Imm p.2:=by
 intro p hp;obtain⟨x,_,rfl⟩:=bg9.1 hp;exact(Imm.con _)
instance:EM q5e:=⟨fun _=>(Imm.con _)⟩
theorem z3e{xs:List (B8×Bool)}:∀p,p∈xs.map q5e->j1g p.1:=by
 intro p hp;obtain⟨x,_,rfl⟩:=bg9.1 hp;exact⟨_,rfl⟩
def q8a(x:q1b):List V:=[(V.imap (x.by_.map q9c)),(v3d q5e x.known)]
theorem q4f(x:q1b):q1o (q8a x):=(.cons (Imm.imap _) (.cons (q5t _) .nil))
theorem q1f(x:q1b):(q8a x).all q4x=true:=by unfold q8a;simp only[ai9,List.all_nil,w6j,ai8];rfl
instance:EI q8a:=⟨q4f,q1f⟩
theorem q3d(x:q1b):ndB (q8a x)=true:=by unfold q8a;cases x.known<;>rfl
@[simp] theorem j2w(x:q1b):(q8a x).length=2:=rfl
def q6a(x:q0a):List V:=[(bV x.hasText),(bV x.hasNumber),(sV x.text),(iV x.number)]
theorem q2f(x:q0a):q1o (q6a x):=(.cons (Imm.con _) (.cons (Imm.con _) (.cons (Imm.con _) (.cons (Imm.con _) .nil))))
theorem q6s(x:q0a):(q6a x).all q4x=true:=rfl
instance:EI q6a:=⟨q2f,q6s⟩
@[simp] theorem v7b(x:q0a):(q6a x).length=4:=rfl
def q1a(x:q2a):List V:=[(bV x.isText),(bV x.isNumber),(sV x.text),(iV x.number)]
theorem q3b(x:q2a):q1o (q1a x):=(.cons (Imm.con _) (.cons (Imm.con _) (.cons (Imm.con _) (.cons (Imm.con _) .nil))))
theorem q4n(x:q2a):(q1a x).all q4x=true:=rfl
instance:EI q1a:=⟨q3b,q4n⟩
@[simp] theorem j5a(x:q2a):(q1a x).length=4:=rfl
def q6g(x:(List q2a)):List V:=[V.lst 4 (x.map q1a)]
theorem q2j(x:(List q2a)):q1o (q6g x):=(.cons (Imm.lst _ _) .nil)
theorem j0a(x:(List q2a)):(q6g x).all q4x=true:=rfl
instance:EI q6g:=⟨q2j,j0a⟩
def q6b(x:q4b):List V:=[(iV x.t.Kind),(sV x.t.Name),(V.lst 1 (x.t.Texts.map q5c)),(iV x.t.Op),(iV x.t.N),(V.lst 6 (x.t.Kids.map q6e.row)),(V.lst 1 (x.names.map q5c)),(V.lst 1 (x.can.map q6g)),(V.lst 1 (x.settled.map z0d)),(V.lst 4 (x.is.map q1a))]
theorem q2s(x:q4b):q1o (q6b x):=(.cons (Imm.con _) (.cons (Imm.con _) (.cons (Imm.lst _ _) (.cons (Imm.con _) (.cons (Imm.con _) (.cons (Imm.lst _ _) (.cons (Imm.lst _ _) (.cons (Imm.lst _ _) (.cons (Imm.lst _ _) (.cons (Imm.lst _ _) .nil))))))))))
theorem q4t(x:q4b):(q6b x).all q4x=true:=rfl
instance:EI q6b:=⟨q2s,q4t⟩
@[simp] theorem z1y(x:q4b):(q6b x).length=10:=rfl
def q8f(x:q7k):List V:=[(sV x.name),(V.lst 1 (x.texts.map q5c))]
theorem z9c(x:q7k):q1o (q8f x):=(.cons (Imm.con _) (.cons (Imm.lst _ _) .nil))
theorem z7d(x:q7k):(q8f x).all q4x=true:=rfl
instance:EI q8f:=⟨z9c,z7d⟩
@[simp] theorem j3w(x:q7k):(q8f x).length=2:=rfl
def q0e(x:q2i):List V:=[(sV x.name),(V.lst 1 (x.texts.map q5c))]
theorem q1v(x:q2i):q1o (q0e x):=(.cons (Imm.con _) (.cons (Imm.lst _ _) .nil))
theorem q6w(x:q2i):(q0e x).all q4x=true:=rfl
instance:EI q0e:=⟨q1v,q6w⟩
@[simp] theorem j9f(x:q2i):(q0e x).length=2:=rfl
def q9f(x:q8j):List V:=[(sV x.name)]
theorem q8z(x:q8j):q1o (q9f x):=(.cons (Imm.con _) .nil)
theorem z5c(x:q8j):(q9f x).all q4x=true:=rfl
instance:EI q9f:=⟨q8z,z5c⟩
@[simp] theorem j7r(x:q8j):(q9f x).length=1:=rfl
def q9d(x:q1i):List V:=[(sV x.name),(iV x.op),(iV x.n)]
theorem q0v(x:q1i):q1o (q9d x):=(.cons (Imm.con _) (.cons (Imm.con _) (.cons (Imm.con _) .nil)))
theorem q5w(x:q1i):(q9d x).all q4x=true:=rfl
instance:EI q9d:=⟨q0v,q5w⟩
@[simp] theorem j8f(x:q1i):(q9d x).length=3:=rfl
def q7g(x:q7j):List V:=[(V.ifc x.kid.t x.kid.d)]
theorem q7z(x:q7j):q1o (q7g x):=(.cons (Imm.ifc _ _) .nil)
theorem z4c(x:q7j):(q7g x).all q4x=true:=rfl
instance:EI q7g:=⟨q7z,z4c⟩
@[simp] theorem j6r(x:q7j):(q7g x).length=1:=rfl
def q1g(x:q0k):List V:=[(V.lst 1 (x.kids.map KV.enc))]
theorem z0a(x:q0k):q1o (q1g x):=(.cons (Imm.lst _ _) .nil)
theorem z7c(x:q0k):(q1g x).all q4x=true:=rfl
instance:EI q1g:=⟨z0a,z7c⟩
@[simp] theorem j9r(x:q0k):(q1g x).length=1:=rfl
def q0g(x:q9j):List V:=[(V.lst 1 (x.kids.map KV.enc))]
theorem q9z(x:q9j):q1o (q0g x):=(.cons (Imm.lst _ _) .nil)
theorem z6c(x:q9j):(q0g x).all q4x=true:=rfl
instance:EI q0g:=⟨q9z,z6c⟩
@[simp] theorem j8r(x:q9j):(q0g x).length=1:=rfl
def q8g(x:q3j):List V:=[]
theorem q4y(x:q3j):q1o (q8g x):=.nil
theorem q3z(x:q3j):(q8g x).all q4x=true:=rfl
instance:EI q8g:=⟨q4y,q3z⟩
@[simp] theorem j7n(x:q3j):(q8g x).length=0:=rfl
def q2e(x:q4a):List V:=[(V.lst 1 (x.is.map q5c)),(V.lst 1 (x.begins.map q5c)),(V.lst 1 (x.numbers.map q2b)),(bV x.asText),(bV x.asNo),(bV x.has),(iV x.weight)]
theorem q6z(x:q4a):q1o (q2e x):=(.cons (Imm.lst _ _) (.cons (Imm.lst _ _) (.cons (Imm.lst _ _) (.cons (Imm.con _) (.cons (Imm.con _) (.cons (Imm.con _) (.cons (Imm.con _) .nil)))))))
theorem z3c(x:q4a):(q2e x).all q4x=true:=rfl
instance:EI q2e:=⟨q6z,z3c⟩
@[simp] theorem j5r(x:q4a):(q2e x).length=7:=rfl
def q4i(x:q2g):List V:=[(bV x.name),(bV x.texts),(bV x.number),(iV x.kids)]
theorem z4i(x:q2g):q1o (q4i x):=(.cons (Imm.con _) (.cons (Imm.con _) (.cons (Imm.con _) (.cons (Imm.con _) .nil))))
theorem z0k(x:q2g):(q4i x).all q4x=true:=rfl
instance:EI q4i:=⟨z4i,z0k⟩
@[simp] theorem v1e(x:q2g):(q4i x).length=4:=rfl
def q9e(x:q4a):List V:=[(V.dsl 9 1 (x.is.map q5c)),(V.dsl 9 1 (x.begins.map q5c)),(V.dsl 3 1 (x.numbers.map q2b)),(bV x.asText),(bV x.asNo),(bV x.has),(iV x.weight)]
theorem q8l:UndE q9e q2e:=fun x=>(.cons (v3c _ _ q7c _) (.cons (v3c _ _ q7c _) (.cons (v3c _ _ q1e _) (.cons (j0m _) (.cons (j0m _) (.cons (j0m _) (.cons (j0m _) .nil)))))))
@[simp] theorem j8n(x:q4a):(q9e x).length=7:=rfl
instance:EK q9e:=⟨fun x c hc=>by
 obtain⟨j,hj⟩:=be8 hc;have hl:=(bf9.1 hj).1;rw[(q8l x).1] at hl;exact((q8l x).2 j c _ hj (bb9 hl)).2⟩
def q0l(p:B8×(Option q4a)):Value×V:=(str p.1,(w3j q2e p.2))
abbrev z4a(v:(Option q4a)):V:=(w3j q2e v)
theorem j7g(xs:List (B8×(Option q4a)))(k:B8):j0f (str k) (xs.map q0l) ((q7f xs k).map z4a):=z1o (kv:=fun k=>str k) (ev:=z4a) q2p xs k
instance:EM q0l:=⟨fun _=>(w4m _)⟩
theorem j8g{xs:List (B8×(Option q4a))}:∀p,p∈xs.map q0l->j1g p.1:=by
 intro p hp;obtain⟨x,_,rfl⟩:=bg9.1 hp;exact⟨_,rfl⟩
def q5d(p:B8×(Option q4a)):Value×V:=(str p.1,(v7s 161 q9e p.2))
theorem z2a(p:B8×(Option q4a)):(q5d p).1=(q0l p).1/\Und (q5d p).2 (q0l p).2/\q5x (q5d p).2:=⟨rfl,w7h 161 q8l p.2,j5w 161 p.2⟩
instance:EMK q5d:=⟨fun p=>(z2a p).2.2⟩
theorem z3j{xs:List (B8×(Option q4a))}:∀p,p∈xs.map q5d->j1g p.1:=by
 intro p hp;obtain⟨x,_,rfl⟩:=bg9.1 hp;exact⟨_,rfl⟩
def q5f(p:q0a×Bool):Value×V:=(.agg (v8l p.1).toArray,(bV p.2))
abbrev q7r(v:Bool):V:=(bV v)
theorem j9o(xs:List (q0a×Bool))(k:q0a)(v:Bool):j8h (.agg (v8l k).toArray) (q7r v) (xs.map q5f) ((q0m xs k v).map q5f):=j9m (kv:=fun k=>.agg (v8l k).toArray) (ev:=q7r) j6w xs k v
theorem j0p(xs:List (q0a×Bool))(k:q0a):j0f (.agg (v8l k).toArray) (xs.map q5f) ((q7f xs k).map q7r):=z1o (kv:=fun k=>.agg (v8l k).toArray) (ev:=q7r) j6w xs k
theorem q6i{xs:List (q0a×Bool)}:∀p,p∈xs.map q5f->Imm p.2:=by
 intro p hp;obtain⟨x,_,rfl⟩:=bg9.1 hp;exact(Imm.con _)
instance:EM q5f:=⟨fun _=>(Imm.con _)⟩
theorem z3p{xs:List (q0a×Bool)}:∀p,p∈xs.map q5f->(v4z) p.1:=by
 intro p hp;obtain⟨x,_,rfl⟩:=bg9.1 hp;exact⟨_,rfl⟩
def q2h(p:B8×(List q0a)):Value×V:=(str p.1,(V.lst 4 (p.2.map q6a)))
abbrev z3a(v:(List q0a)):V:=(V.lst 4 (v.map q6a))
theorem j5g(xs:List (B8×(List q0a)))(k:B8):j0f (str k) (xs.map q2h) ((q7f xs k).map z3a):=z1o (kv:=fun k=>str k) (ev:=z3a) q2p xs k
instance:EM q2h:=⟨fun _=>(Imm.lst _ _)⟩
theorem j6g{xs:List (B8×(List q0a))}:∀p,p∈xs.map q2h->j1g p.1:=by
 intro p hp;obtain⟨x,_,rfl⟩:=bg9.1 hp;exact⟨_,rfl⟩
def q4d(p:B8×(List q0a)):Value×V:=(str p.1,(V.dsl 98 4 (p.2.map q6a)))
theorem z2p(p:B8×(List q0a)):(q4d p).1=(q2h p).1/\Und (q4d p).2 (q2h p).2/\q5x (q4d p).2:=⟨rfl,v0i q2f _,q5x.dsl _ _ _⟩
instance:EMK q4d:=⟨fun p=>(z2p p).2.2⟩
theorem j4g{xs:List (B8×(List q0a))}:∀p,p∈xs.map q4d->j1g p.1:=by
 intro p hp;obtain⟨x,_,rfl⟩:=bg9.1 hp;exact⟨_,rfl⟩
theorem tZ25:zeroCells Tryz.prog 25=some [.int .i64 0,.string ⟨#[]⟩,.slice none 0 0,.int .i64 0,.int .i64 0,.slice none 0 0]:=by kernel_rfl
theorem tZ208:zeroCells Tryz.prog 208=some [.bool false,.bool false,.bool false,.int .i64 0,.bool false,.bool false,.bool false,.int .i64 0,.bool false,.bool false,.bool false,.int .i64 0,.bool false,.bool false,.bool false,.int .i64 0,.bool false,.bool false,.bool false,.int .i64 0,.bool false,.bool false,.bool false,.int .i64 0,.bool false,.bool false,.bool false,.int .i64 0,.bool false,.bool false,.bool false,.int .i64 0,.bool false,.bool false,.bool false,.int .i64 0]:=by kernel_rfl
theorem y3m:zeroCells Tryz.prog 207=some [.bool false,.bool false,.bool false,.int .i64 0]:=by kernel_rfl
theorem w6z:j5f Tryz.prog 208 9 4=true:=by kernel_rfl
theorem w0t:z3z Tryz.prog 208 9 4 207=true:=by kernel_rfl
theorem tC9:tyC Tryz.prog 9=true:=by kernel_rfl
theorem z2d:q3k Tryz.prog 22=true:=by kernel_rfl
theorem w2i:z7q Tryz.prog 9=true:=by kernel_rfl
theorem w1z:v5c Tryz.prog 22 1=true:=by kernel_rfl
theorem y8m:z0i Tryz.prog 109 75 1 16=true:=by kernel_rfl
theorem tZ75:zeroCells Tryz.prog 75=some [.nilIface]:=by kernel_rfl
theorem y6n:Program.concrete Tryz.prog 147=true:=by kernel_rfl
theorem y5n:Program.concrete Tryz.prog 148=true:=by kernel_rfl
theorem y4n:Program.concrete Tryz.prog 150=true:=by kernel_rfl
theorem y3n:Program.concrete Tryz.prog 152=true:=by kernel_rfl
theorem y2n:Program.concrete Tryz.prog 154=true:=by kernel_rfl
theorem y1n:Program.concrete Tryz.prog 156=true:=by kernel_rfl
theorem y0n:Program.concrete Tryz.prog 157=true:=by kernel_rfl
theorem y9m:Program.concrete Tryz.prog 159=true:=by kernel_rfl
theorem w7s:v7n Tryz.prog 147=true:=by kernel_rfl
theorem w3n:q7o Tryz.prog 89=true:=by kernel_rfl
theorem tS4:tyS Tryz.prog 4 1=true:=by kernel_rfl
theorem z4d:z0i Tryz.prog 22 9 1 16=true:=by kernel_rfl
theorem y1m:(Tryz.prog.info? 147).bind (·.zero)=some (.agg #[.string ⟨#[]⟩,.slice none 0 0]):=by kernel_rfl
theorem w6s:v7n Tryz.prog 148=true:=by kernel_rfl
theorem y0m:(Tryz.prog.info? 148).bind (·.zero)=some (.agg #[.string ⟨#[]⟩,.slice none 0 0]):=by kernel_rfl
theorem w5s:v7n Tryz.prog 150=true:=by kernel_rfl
theorem y9l:(Tryz.prog.info? 150).bind (·.zero)=some (.agg #[.string ⟨#[]⟩]):=by kernel_rfl
theorem w4s:v7n Tryz.prog 152=true:=by kernel_rfl
theorem z3d:z0i Tryz.prog 51 3 1 8=true:=by kernel_rfl
theorem tZ3:zeroCells Tryz.prog 3=some [.int .i64 0]:=by kernel_rfl
theorem v9c:q3k Tryz.prog 51=true:=by kernel_rfl
theorem y8l:(Tryz.prog.info? 152).bind (·.zero)=some (.agg #[.string ⟨#[]⟩,.int .i64 0,.int .i64 0]):=by kernel_rfl
theorem w3s:v7n Tryz.prog 154=true:=by kernel_rfl
theorem y7l:(Tryz.prog.info? 154).bind (·.zero)=some (.agg #[.nilIface]):=by kernel_rfl
theorem w2s:v7n Tryz.prog 156=true:=by kernel_rfl
theorem y6l:(Tryz.prog.info? 156).bind (·.zero)=some (.agg #[.slice none 0 0]):=by kernel_rfl
theorem w1s:v7n Tryz.prog 157=true:=by kernel_rfl
theorem y5l:(Tryz.prog.info? 157).bind (·.zero)=some (.agg #[.slice none 0 0]):=by kernel_rfl
theorem w4n:q7o Tryz.prog 33=true:=by kernel_rfl
theorem z5z:q8u Tryz.prog 77 9 103=true:=by kernel_rfl
theorem fOk34:q7o Tryz.prog 34=true:=by kernel_rfl
theorem fOk48:q7o Tryz.prog 48=true:=by kernel_rfl
theorem y0r:q7o Tryz.prog 47=true:=by kernel_rfl
theorem w6b:q7o Tryz.prog 109=true:=by kernel_rfl
theorem tZ9:zeroCells Tryz.prog 9=some [.string ⟨#[]⟩]:=by kernel_rfl
theorem z8i:q8u Tryz.prog 91 9 98=true:=by kernel_rfl
theorem q9u:j7l Tryz.prog 9 j1g:=j0o (by kernel_rfl)
theorem v0o:(Tryz.prog.info? 98).bind (·.zero)=some (.agg #[.bool false,.bool false,.string ⟨#[]⟩,.int .i64 0]):=by kernel_rfl
theorem y1y:zeroCells Tryz.prog 98=some [.bool false,.bool false,.string ⟨#[]⟩,.int .i64 0]:=by kernel_rfl
theorem y2m:(Tryz.prog.info? 103).bind (·.zero)=some (.pointer none):=by kernel_rfl
theorem v4u:q8u Tryz.prog 167 98 4=true:=by kernel_rfl
theorem w8s:j7l Tryz.prog 98 v4z:=w9l eqk98 (by kernel_rfl) (fun v ⟨x,hx⟩=>⟨_,⟨x,rfl⟩,hx⟩)
theorem tZo4:(Tryz.prog.info? 4).bind (·.zero)=some (.bool false):=by kernel_rfl
theorem v8c:q8u Tryz.prog 163 9 169=true:=by kernel_rfl
theorem w9r:(Tryz.prog.info? 169).bind (·.zero)=some (.slice none 0 0):=by kernel_rfl
theorem j6t:z0i Tryz.prog 169 98 4 32=true:=by kernel_rfl
theorem w3i:q3k Tryz.prog 169=true:=by kernel_rfl
theorem tSl51:v5c Tryz.prog 51 1=true:=by kernel_rfl
theorem fOk59:q7o Tryz.prog 59=true:=by kernel_rfl
theorem y3r:q7o Tryz.prog 186=true:=by kernel_rfl
theorem fOk29:q7o Tryz.prog 29=true:=by kernel_rfl
theorem tU21:Tryz.prog.underlying 21=some (.int .i32):=by kernel_rfl
theorem w4v:q7o Tryz.prog 237=true:=by kernel_rfl
theorem y2r:q7o Tryz.prog 188=true:=by kernel_rfl
theorem fOk90:q7o Tryz.prog 90=true:=by kernel_rfl
theorem fOk35:q7o Tryz.prog 35=true:=by kernel_rfl
theorem w7z:tyA Tryz.prog 94 2=true:=by kernel_rfl
theorem tC92:tyC Tryz.prog 92=true:=by kernel_rfl
theorem v5u:w6r Tryz.prog 92=true:=by kernel_rfl
theorem v3u:q8u Tryz.prog 92 9 4=true:=by kernel_rfl
theorem v5l:q7o Tryz.prog 281=true:=by kernel_rfl
theorem j5t:∀(v:Value) (args:Array Value) (w:World),(callMethod (.iface 147 v) "provender/policy.holds" args).run Tryz.prog w=.ok (.enter 282 (#[v]++args)) w:=fun v args w=>by kernel_rfl
theorem j4t:∀(v:Value) (args:Array Value) (w:World),(callMethod (.iface 148 v) "provender/policy.holds" args).run Tryz.prog w=.ok (.enter 283 (#[v]++args)) w:=fun v args w=>by kernel_rfl
theorem j3t:∀(v:Value) (args:Array Value) (w:World),(callMethod (.iface 150 v) "provender/policy.holds" args).run Tryz.prog w=.ok (.enter 285 (#[v]++args)) w:=fun v args w=>by kernel_rfl
theorem j2t:∀(v:Value) (args:Array Value) (w:World),(callMethod (.iface 152 v) "provender/policy.holds" args).run Tryz.prog w=.ok (.enter 286 (#[v]++args)) w:=fun v args w=>by kernel_rfl
theorem j1t:∀(v:Value) (args:Array Value) (w:World),(callMethod (.iface 154 v) "provender/policy.holds" args).run Tryz.prog w=.ok (.enter 288 (#[v]++args)) w:=fun v args w=>by kernel_rfl
theorem j0t:∀(v:Value) (args:Array Value) (w:World),(callMethod (.iface 156 v) "provender/policy.holds" args).run Tryz.prog w=.ok (.enter 289 (#[v]++args)) w:=fun v args w=>by kernel_rfl
theorem j9s:∀(v:Value) (args:Array Value) (w:World),(callMethod (.iface 157 v) "provender/policy.holds" args).run Tryz.prog w=.ok (.enter 290 (#[v]++args)) w:=fun v args w=>by kernel_rfl
theorem j8s:∀(v:Value) (args:Array Value) (w:World),(callMethod (.iface 159 v) "provender/policy.holds" args).run Tryz.prog w=.ok (.enter 291 (#[v]++args)) w:=fun v args w=>by kernel_rfl
theorem y1r:q7o Tryz.prog 36=true:=by kernel_rfl
theorem fOk91:q7o Tryz.prog 91=true:=by kernel_rfl
theorem tZ39:zeroCells Tryz.prog 39=some [.string ⟨#[]⟩,.string ⟨#[]⟩]:=by kernel_rfl
theorem w5z:z0i Tryz.prog 26 39 2 32=true:=by kernel_rfl
theorem w3z:q3k Tryz.prog 26=true:=by kernel_rfl
theorem tZ41:zeroCells Tryz.prog 41=some [.string ⟨#[]⟩,.int .i64 0]:=by kernel_rfl
theorem w4z:z0i Tryz.prog 27 41 2 24=true:=by kernel_rfl
theorem w2z:q3k Tryz.prog 27=true:=by kernel_rfl
theorem fOk37:q7o Tryz.prog 37=true:=by kernel_rfl
theorem tZ214:zeroCells Tryz.prog 214=some [.string ⟨#[]⟩,.string ⟨#[]⟩,.string ⟨#[]⟩,.string ⟨#[]⟩,.string ⟨#[]⟩,.string ⟨#[]⟩,.string ⟨#[]⟩,.string ⟨#[]⟩,.string ⟨#[]⟩,.string ⟨#[]⟩,.string ⟨#[]⟩,.string ⟨#[]⟩,.string ⟨#[]⟩,.string ⟨#[]⟩,.string ⟨#[]⟩,.string ⟨#[]⟩,.string ⟨#[]⟩,.string ⟨#[]⟩,.string ⟨#[]⟩,.string ⟨#[]⟩]:=by kernel_rfl
theorem v6u:j5f Tryz.prog 214 20 1=true:=by kernel_rfl
theorem y9q:q7o Tryz.prog 51=true:=by kernel_rfl
theorem y6m:z0i Tryz.prog 23 25 6 88=true:=by kernel_rfl
theorem w2n:q7o Tryz.prog 97=true:=by kernel_rfl
theorem z4z:zeroCells Tryz.prog 142=some [.bool false,.bool false,.string ⟨#[]⟩,.int .i64 0]:=by kernel_rfl
theorem z7b:z0i Tryz.prog 138 142 4 32=true:=by kernel_rfl
theorem y5m:z0i Tryz.prog 257 5 1 1=true:=by kernel_rfl
theorem tZ5:zeroCells Tryz.prog 5=some [.int .u8 0]:=by kernel_rfl
theorem y7n:j2m Tryz.prog 257=true:=by kernel_rfl
theorem w4i:q3k Tryz.prog 138=true:=by kernel_rfl
theorem y7r:q7o Tryz.prog 124=true:=by kernel_rfl
theorem w9s:z0i Tryz.prog 136 138 1 24=true:=by kernel_rfl
theorem tZ138:zeroCells Tryz.prog 138=some [.slice none 0 0]:=by kernel_rfl
theorem w5i:q3k Tryz.prog 136=true:=by kernel_rfl
theorem y7m:z0i Tryz.prog 137 4 1 1=true:=by kernel_rfl
theorem tZ4:zeroCells Tryz.prog 4=some [.bool false]:=by kernel_rfl
theorem fOk82:q7o Tryz.prog 82=true:=by kernel_rfl
theorem y6r:q7o Tryz.prog 126=true:=by kernel_rfl
theorem y4m:tyS Tryz.prog 142 4=true:=by kernel_rfl
theorem y5r:q7o Tryz.prog 127=true:=by kernel_rfl
theorem y8q:q7o Tryz.prog 85=true:=by kernel_rfl
theorem fOk99:q7o Tryz.prog 99=true:=by kernel_rfl
theorem v1o:∀T,T∈([147,148,150,152,154,156,157,159]:List Nat)->∀(v:Value) (w:World),(nilAhead (Tryz.prog.types.size+Made.depth) T v "provender/policy.holds").run Tryz.prog w=.ok (some false) w:=fun T h=>by
 simp only[at8,List.not_mem_nil,or_false] at h;rcases h with rfl|rfl|rfl|rfl|rfl|rfl|rfl|rfl
 all_goals exact fun v w=>by kernel_rfl
theorem fOk45:q7o Tryz.prog 45=true:=by kernel_rfl
theorem y4r:q7o Tryz.prog 13=true:=by kernel_rfl
def tt:TT:=[(3,[.C,.S 1]),(4,[.C,.S 1,.B]),(5,[.U]),(9,[.C,.Str,.Z 1 [.string ⟨#[]⟩],.S 1,.Fn]),(10,[.Fn]),(11,[.Fn]),(12,[.Fn]),(14,[.Fn]),(21,[.I .i32]),(22,[.C,.Sn,.Sl 1,.S 1,.El 9 1 16]),(23,[.C,.Sn,.Sl 6,.El 25 6 88]),(25,[.S 6,.A 6,.F 5 5,.Z 6 [.int .i64 0,.string ⟨#[]⟩,.slice none 0 0,.int .i64 0,.int .i64 0,.slice none 0 0],.F 0 0,.F 1 1,.F 2 2,.F 3 3,.F 4 4]),(26,[.C,.El 39 2 32,.Sn,.S 1,.Sl 2]),(27,[.C,.El 41 2 24,.Sn,.S 1,.Sl 2]),(29,[.Z 4 [.string ⟨#[]⟩,.string ⟨#[]⟩,.slice none 0 0,.slice none 0 0],.Pl [(0,1),(1,1),(2,1),(3,1)],.S 4,.A 4,.F 2 2,.F 3 3,.F 0 0,.F 1 1]),(30,[.Fn]),(31,[.Fn]),(32,[.Fn]),(38,[.Fn]),(39,[.Z 2 [.string ⟨#[]⟩,.string ⟨#[]⟩],.Pl [(0,1),(1,1)],.Fn,.A 2,.S 2,.F 0 0,.F 1 1]),(40,[.Fn]),(41,[.Z 2 [.string ⟨#[]⟩,.int .i64 0],.Pl [(0,1),(1,1)],.Fn,.A 2,.S 2,.F 0 0,.F 1 1]),(43,[.Fn]),(44,[.Fn]),(46,[.Fn]),(50,[.Fn]),(51,[.C,.S 1,.Sn,.Sl 1,.El 3 1 8,.Fn]),(72,[.Fn]),(74,[.Fn]),(75,[.C]),(77,[.S 1,.C]),(79,[.Fn]),(80,[.Z 1 [.pointer none],.S 1,.C,.Fn]),(82,[.C]),(83,[.Fn]),(86,[.Fn]),(87,[.Fn]),(88,[.Fn]),(91,[.C]),(92,[.C,.Fn]),(93,[.Fn]),(94,[.Z 2 [.map none,.map none],.Pl [(0,1),(1,1)],.A 2,.F 0 0,.F 1 1,.Fn,.S 2]),(95,[.Fn]),(96,[.Fn]),(98,[.Z 4 [.bool false,.bool false,.string ⟨#[]⟩,.int .i64 0],.S 4,.A 4,.Pl [(0,1),(1,1),(2,1),(3,1)],.F 0 0,.F 2 2,.F 1 1,.F 3 3,.Fn]),(105,[.Fn]),(106,[.Fn]),(107,[.Fn]),(109,[.El 75 1 16,.Sn,.Sl 1,.C]),(111,[.Fn]),(112,[.Fn]),(121,[.Fn]),(124,[.Fn]),(125,[.Fn]),(126,[.Fn]),(128,[.Fn]),(129,[.Fn]),(130,[.Fn]),(131,[.Fn]),(132,[.Fn]),(134,[.Fn]),(136,[.C,.S 1,.Sl 1]),(137,[.S 1,.C,.Sl 1]),(138,[.Fn,.El 142 4 32,.Sn,.S 1,.C,.Sl 4]),(140,[.Z 10 [.int .i64 0,.string ⟨#[]⟩,.slice none 0 0,.int .i64 0,.int .i64 0,.slice none 0 0,.slice none 0 0,.slice none 0 0,.slice none 0 0,.slice none 0 0],.Pl [(0,6),(6,1),(7,1),(8,1),(9,1)],.S 10,.F 1 6,.F 2 7,.F 3 8,.F 4 9,.F 0 0]),(142,[.Z 4 [.bool false,.bool false,.string ⟨#[]⟩,.int .i64 0],.Pl [(0,1),(1,1),(2,1),(3,1)],.A 4,.S 4,.F 0 0,.F 1 1,.F 3 3,.F 2 2]),(147,[.Z 2 [.string ⟨#[]⟩,.slice none 0 0],.Pl [(0,1),(1,1)],.S 2,.F 0 0,.F 1 1,.Fn]),(148,[.Z 2 [.string ⟨#[]⟩,.slice none 0 0],.Pl [(0,1),(1,1)],.S 2,.F 0 0,.F 1 1,.Fn]),(150,[.Z 1 [.string ⟨#[]⟩],.Pl [(0,1)],.S 1,.F 0 0]),(152,[.Z 3 [.string ⟨#[]⟩,.int .i64 0,.int .i64 0],.Pl [(0,1),(1,1),(2,1)],.S 3,.F 0 0,.F 2 2,.F 1 1]),(154,[.Z 1 [.nilIface],.Pl [(0,1)],.S 1,.F 0 0]),(156,[.Z 1 [.slice none 0 0],.Pl [(0,1)],.S 1,.F 0 0]),(157,[.Z 1 [.slice none 0 0],.Pl [(0,1)],.S 1,.F 0 0]),(159,[.Z 0 [],.Pl [],.S 0]),(161,[.Z 7 [.slice none 0 0,.slice none 0 0,.slice none 0 0,.bool false,.bool false,.bool false,.int .i64 0],.Pl [(0,1),(1,1),(2,1),(3,1),(4,1),(5,1),(6,1)],.S 7,.F 0 0,.F 6 6,.F 3 3,.F 1 1,.F 5 5,.F 2 2,.F 4 4]),(163,[.C]),(165,[.Z 5 [.slice none 0 0,.map none,.map none,.map none,.nilFunc],.Pl [(0,1),(1,1),(2,2),(4,1)],.S 5,.F 0 0,.F 1 1,.F 3 4,.F 2 2]),(167,[.Z 1 [.map none],.S 1,.C]),(169,[.El 98 4 32,.Sn,.Sl 4]),(183,[.Fn]),(184,[.Fn]),(185,[.Fn]),(187,[.Fn]),(189,[.Fn]),(190,[.Fn]),(207,[.Z 4 [.bool false,.bool false,.bool false,.int .i64 0],.Pl [(0,1),(1,1),(2,1),(3,1)],.S 4,.F 0 0,.F 1 1,.F 2 2,.F 3 3]),(208,[.Z 36 [.bool false,.bool false,.bool false,.int .i64 0,.bool false,.bool false,.bool false,.int .i64 0,.bool false,.bool false,.bool false,.int .i64 0,.bool false,.bool false,.bool false,.int .i64 0,.bool false,.bool false,.bool false,.int .i64 0,.bool false,.bool false,.bool false,.int .i64 0,.bool false,.bool false,.bool false,.int .i64 0,.bool false,.bool false,.bool false,.int .i64 0,.bool false,.bool false,.bool false,.int .i64 0],.S 36,.A 36]),(214,[.Z 20 [.string ⟨#[]⟩,.string ⟨#[]⟩,.string ⟨#[]⟩,.string ⟨#[]⟩,.string ⟨#[]⟩,.string ⟨#[]⟩,.string ⟨#[]⟩,.string ⟨#[]⟩,.string ⟨#[]⟩,.string ⟨#[]⟩,.string ⟨#[]⟩,.string ⟨#[]⟩,.string ⟨#[]⟩,.string ⟨#[]⟩,.string ⟨#[]⟩,.string ⟨#[]⟩,.string ⟨#[]⟩,.string ⟨#[]⟩,.string ⟨#[]⟩,.string ⟨#[]⟩],.S 20,.Arr 20 1]),(221,[.Fn]),(222,[.Fn]),(223,[.Fn]),(238,[.Fn]),(247,[.Fn]),(284,[.Fn]),(287,[.Fn])]
theorem ok:q7p Tryz.prog tt:=tt_b (by kernel_rfl) (by kernel_rfl) trivial
instance {N:Nat} {w:World} {m:Mem} {o:Nat->Prop} {p:Nat} {l:Nat->Option (Option (Nat×Cap))} {g:Gl} {h:z6t g m} {q:Option Nat}:TC ⟨Tryz.prog,N,w,m,o,p,l,g,h,q⟩ tt:=⟨ok⟩
end Go.Proofs.YtelmfadihfcgnaaGreatDoor
