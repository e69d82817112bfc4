/- Part of the proof: I, J, L. -/
import Derived.Test.YtcihpgamojpcnaaGreatCutPvH
import Derived.Room.Entries
set_option linter.unusedSimpArgs false
namespace Go.Pv
open Go
section
variable{K:Ctx}{Q:q5q}{S S':St}{ops:Array Oper}{rest:List Oper}{op:Op}{ty:TypeId}{pos:String}{after:Array Edge}{g:Option (Nat×Bool)}
variable{m:Mem}{β:q4m}{w:World}{a:Act}
def z6j(P:Program)(T e k bytes:Nat):Bool:=
 match P.underlying T with
 |some (.slice e')=>e'==e&&(match P.info? e with|some i=>i.size==k&&i.bytes==bytes&&(match i.zero with|some z=>z.cells.size==k|none=>false)|none=>false)
 |_=>false
theorem z6a{P:Program}{T e k bytes:Nat}(h:z6j P T e k bytes=true):∃i z,P.underlying T=some (.slice e)/\P.info? e=some i/\i.size=k/\i.bytes=bytes/\i.zero=some z/\z.cells.size=k:=by
 unfold z6j at h;cases hu:P.underlying T with
 |none=>simp[hu] at h
 |some d=>
  rw[hu] at h;cases d<;>simp only[cy8] at h;rename_i e';simp only[av8,beq_iff_eq] at h;obtain⟨rfl,h⟩:=h;cases hi:P.info? e' with
  |none=>rw[hi] at h;simp at h
  |some i=>
   rw[hi] at h;cases hz:i.zero with
   |none=>simp[hz] at h
   |some z=>
    simp only[hz,av8,beq_iff_eq] at h;obtain⟨⟨h1,h2⟩,h3⟩:=h;exact⟨i,z,rfl,rfl,h1,h2,hz,h3⟩
theorem z0k{P:Program}{w:World}{ad:Addr}{n c k:Nat}(f:Nat->Value)(h:∀j,j<n*k->w.cell? (ad.add j)=some (f j)):
  (Builtin.firstCells k n (.slice (some ad) n c)).run P w=.ok ((List.range (n*k)).map f).toArray w:=by
 simp only[Builtin.firstCells];exact run_loadCells w ad (n*k) f h
theorem j1l(z:Array Value)(n:Nat):(Builtin.zeroCells z n).size=n*z.size:=by simp[Builtin.zeroCells]
theorem j1d{P:Program}{w:World}{T T' e k bytes b n cap off mm:Nat}{arr:Array Value}{x:Value}{news:List Value}(hT:z6j P T e k bytes=true)(hT':w1v P T'=true)
  (hb:w.heap[b]? = some (.cells arr e (0,0))) (hsz:arr.size=off+cap*k)
  (hlen:(Builtin.lenOf x).run P w=.ok mm w) (hfc:(Builtin.firstCells k mm x).run P w=.ok news.toArray w) (hnl:news.length=mm*k) (h1:∀v,v∈news->v.oneCell'=true)
  (hfit:n+mm<=cap):
  (Builtin.append_ #[T,T'] ty #[.slice (some ⟨b,off,none⟩) n cap,x]).run P w =
   .ok (.slice (some ⟨b,off,none⟩) (n+mm) cap) (w.setRow b (arr.toList.take (off+n*k)++news++arr.toList.drop (off+n*k+news.length)).toArray):=by
 obtain⟨i,z,hu,hi,hs,hby,hz,hzk⟩:=z6a hT
 have hle:off+n*k+news.length<=arr.size:=by
  have:n*k+mm*k<=cap*k:=by rw[<-ap8];exact bk8 _ hfit
  rw[hnl,hsz];omega
 have hst:=run_storeCells_at (P:=P) b (off+n*k) e news 0 arr w hb (by omega) h1;simp only[bl8] at hst;have hk:P.cellsOf e=k:=by simp[Program.cellsOf,hi,hs]
 rcases j1r hT' with ⟨e',hu'⟩|hu' <;>
 simp only[Builtin.append_,bo8,by9,cc8,Sem.run_bind,run_underlying hu,Result.andThen_ok,run_sizeOf w hi,hk,run_underlying hu',pure,Sem.run,
  cy8,if_false,hlen,if_pos hfit,Bool.not_false,if_true,hfc,q4u,hst]
theorem w9z{n mm cap bytes:Nat}(hpos:0<bytes)(hcap:n<=cap)(hfit:¬n+mm<=cap)(hb:(n+mm)*bytes<=140737488355328\/(mm=1/\(n+mm)*bytes<=211106232532992/\bytes<=1000000)):
  n+mm<=281474976710656/\(n+mm)*bytes<=2 ^ 48/\Builtin.nextslicecap (n+mm) cap*bytes<=2 ^ 48:=by
 have h0:n+mm<=(n+mm)*bytes:=cq8 _ hpos;rcases hb with hb|⟨h1,hb,h2⟩
 ·refine⟨by omega,by omega,?_⟩;have:=Room.nextslicecap_le' (need:=n+mm) (old:=cap) (by omega)
  calc Builtin.nextslicecap (n+mm) cap*bytes<=(2*(n+mm))*bytes:=bk8 _ this
   _=2*((n+mm)*bytes):=by rw[Nat.mul_assoc]
   _<=2 ^ 48:=by omega
 ·subst h1;have hc:cap=n:=by omega
  subst hc;refine⟨by omega,by omega,?_⟩
  have hn:Builtin.nextslicecap (cap+1) cap<=cap+cap / 4+512:=by
   unfold Builtin.nextslicecap;split
   ·omega
   ·split
    ·omega
    ·rw[Room.growBy_four']
     repeat' split
     all_goals omega
  have h3:cap*bytes<=211106232532992:=cj9 (bk8 _ (ao8 _)) hb
  have h4:cap / 4*bytes<=52776558133248:=by
   have:cap / 4*4<=cap:=Nat.div_mul_le_self cap 4;have h5:=bk8 bytes this;rw[Nat.mul_right_comm] at h5;omega
  calc Builtin.nextslicecap (cap+1) cap*bytes<=(cap+cap / 4+512)*bytes:=bk8 _ hn
   _=cap*bytes+cap / 4*bytes+512*bytes:=by rw[ap8,ap8]
   _<=2 ^ 48:=by omega
theorem z3z{P:Program}{w:World}{T T' e k bytes n cap mm:Nat}{s x:Value}{base:Option Addr}{olds news:List Value}(hT:z6j P T e k bytes=true)(hT':w1v P T'=true)(hs:s=.slice base n cap)
  (hold:(Builtin.firstCells k n s).run P { w with drawn:=w.drawn+1 }=.ok olds.toArray { w with drawn:=w.drawn+1 })
  (hlen:(Builtin.lenOf x).run P w=.ok mm w) (hfc:(Builtin.firstCells k mm x).run P { w with drawn:=w.drawn+1 }=.ok news.toArray { w with drawn:=w.drawn+1 })
  (hol:olds.length=n*k) (hnl:news.length=mm*k)
  (hfit:¬n+mm<=cap) (hneed:n+mm<=281474976710656) (hnext:Builtin.nextslicecap (n+mm) cap*bytes<=2 ^ 48):
  ∃cap' arr',(Builtin.append_ #[T,T'] ty #[s,x]).run P w=.ok (.slice (some ⟨w.heap.size,0,none⟩) (n+mm) cap') { w with drawn:=w.drawn+1,heap:=w.heap.push (.cells arr' e (0,0)) }/\
   n+mm<=cap'/\cap'<=maxLen/\arr'.size=cap'*k/\∀j,j<(n+mm)*k->arr'[j]? = (olds++news)[j]?:=by
 subst hs;obtain⟨i,z,hu,hi,hs,hby,hz,hzk⟩:=z6a hT;have hk:P.cellsOf e=k:=by simp[Program.cellsOf,hi,hs]
 have hmax:IntKind.i64.max=9223372036854775807:=by decide
 let c':=(n+mm)+w.tape w.drawn (.appendCap (n+mm) cap e) % (2 ^ 63 - (n+mm))
 let w1:World:={ w with drawn:=w.drawn+1 }
 have hc':n+mm<=c'/\c'<=maxLen:=by
  have:w.tape w.drawn (.appendCap (n+mm) cap e) % (2 ^ 63 - (n+mm))<2 ^ 63 - (n+mm):=at9 _ (by omega);simp only[c',maxLen];omega
 refine⟨c',olds.toArray++news.toArray++Builtin.zeroCells z.cells (c' - (n+mm)),?_,hc'.1,hc'.2,?_,?_⟩
 ·have hask:∀(w:World),(askRoom (c'*bytes)).run P w=.ok () w:=by
   intro w;unfold askRoom;split<;>rfl
  have hch:(choose (.appendCap (n+mm) cap e)).run P w=.ok c' w1:=by simp[choose,Sem.run,Question.forced,Question.cut,c',w1]
  have hzr:(zeroValue e).run P w1=.ok z w1:=by
   simp only[zeroValue,Sem.run_bind,run_typeInfo w1 hi,Result.andThen_ok,hz];rfl
  rcases j1r hT' with ⟨e',hu'⟩|hu'
  all_goals
   simp only[Builtin.append_,bo8,by9,cc8,Sem.run_bind,run_underlying hu,Result.andThen_ok,run_sizeOf w hi,hk,run_underlying hu',pure,Sem.run,
    cy8,if_false,hlen,if_neg hfit,Bool.not_false,if_true,run_typeInfo w hi,hby,false_or]
   rw[if_neg (by omega)];simp only[Sem.run_bind,run_typeInfo w hi,Result.andThen_ok,hby];rw[if_neg (by omega)];simp only[Sem.run_bind,Sem.run,Result.andThen_ok,hch,run_typeInfo w1 hi,hby,hask,hold,hfc,hzr,w1,newRow,newObj,pure]
 ·simp only[cp9,bx8,hol,hnl,j1l,hzk];rw[<-ap8,<-ap8];congr 1;omega
 ·intro j hj;rw[cp8,if_pos (by simp only[cp9,bx8,hol,hnl];rw[<-ap8];exact hj)];simp
theorem Rel.drawn(r:Rel K m β w a S)(n:Nat)(hn:w.drawn<=n):Rel K m β { w with drawn:=n } a S:=
 ⟨r.imm,r.ext,r.mold,r.frame,r.size,⟨r.same.os,r.same.tape,r.same.output,cj9 r.same.drawn hn⟩,r.tn,r.df,r.env,fun id=>q4l.congr (w:=w) (fun _ _ _=>rfl) (fun _ _=>rfl) (r.own id),r.priv,r.inj,fun id x hl hx=>⟨(r.hid id x hl hx).lt,(r.hid id x hl hx).m,(r.hid id x hl hx).old,(r.hid id x hl hx).ne,(r.hid id x hl hx).un⟩,r.nx,r.pin⟩
theorem Rel.kill(r:Rel K m β w a S)(id:Nat):Rel K m β w a ⟨S.env,(id,.dead)::S.hp,S.nx⟩:=by
 have live:∀i,q1e ((id,.dead)::S.hp) i≠.dead->q1e S.hp i≠.dead:=by
  intro i hi;rw[q5d] at hi;split at hi
  ·exact absurd rfl hi
  ·exact hi
 refine⟨r.imm,r.ext,r.mold,r.frame,r.size,r.same,r.tn,r.df,r.env,fun i=>?_,fun i b c h=>r.priv i b c (live i h),fun i i' b c c' h h'=>r.inj i i' b c c' (live i h) (live i' h'),fun i x h hx=>⟨(r.hid i x (live i h) hx).lt,(r.hid i x (live i h) hx).m,(r.hid i x (live i h) hx).old,fun i' b c h'=>(r.hid i x (live i h) hx).ne i' b c (live i' h'),fun i' h'=>(r.hid i x (live i h) hx).un i' (live i' h')⟩,r.nx,r.pin⟩
 show q4l m β w (β.hid i) (β i) (q1e ((id,.dead)::S.hp) i)
 rw[q5d];split
 ·exact q4l.dead' _
 ·exact r.own i
theorem Rel.moveG(r:Rel K m β w a S)(id idn nx':Nat)(hfree:β idn=none)(hpid:∀q,q<K.pins->q≠idn)(hidn:idn<nx')(hnn:S.nx<=nx'){ob:Ob}(ho:q1e S.hp id=ob)(hl:ob≠.dead)(hl2:ob≠.res):∃β':q4m,β.le β'/\β' idn=β id/\Rel K m β' w a ⟨S.env,(idn,ob)::(id,.dead)::S.hp,nx'⟩:=by
 let β':q4m:=⟨fun i=>if i=idn then β id else β i,fun i=>if i=idn then β.hid id else β.hid i⟩
 have en:β' idn=β id:=by show(if _ then _ else _)=_;rw[if_pos rfl]
 have eo:∀i,i≠idn->β' i=β i:=fun i h=>by show(if _ then _ else _)=_;rw[if_neg h]
 have hn:β'.hid idn=β.hid id:=by show(if _ then _ else _)=_;rw[if_pos rfl]
 have hho:∀i,i≠idn->β'.hid i=β.hid i:=fun i h=>by show(if _ then _ else _)=_;rw[if_neg h]
 have hle:β.le β':=by
  intro i l h;rw[eo i]
  ·exact h
  ·intro e;rw[e,hfree] at h;simp at h
 have hne:id≠idn:=by
  intro e;have:=r.own id;rw[ho,e,hfree] at this;cases ob<;>simp[q4l] at this hl hl2
 -- the object at a number, and where it was
 have key:∀i,q1e ((idn,ob)::(id,.dead)::S.hp) i≠.dead->∃j,(i=idn/\j=id\/i≠idn/\i≠id/\j=i)/\β' i=β j/\β'.hid i=β.hid j/\q1e ((idn,ob)::(id,.dead)::S.hp) i=q1e S.hp j:=by
  intro i hi;rw[q5d] at hi ⊢;by_cases h:idn=i
  ·subst h;exact⟨id,.inl ⟨rfl,rfl⟩,en,hn,by simp[ho]⟩
  ·rw[if_neg h] at hi ⊢;rw[q5d] at hi ⊢;by_cases h2:id=i
   ·rw[if_pos h2] at hi;exact absurd rfl hi
   ·rw[if_neg h2];exact⟨i,.inr ⟨Ne.symm h,Ne.symm h2,rfl⟩,eo i (Ne.symm h),hho i (Ne.symm h),rfl⟩
 have back:∀i j i' j',(i=idn/\j=id\/i≠idn/\i≠id/\j=i)->(i'=idn/\j'=id\/i'≠idn/\i'≠id/\j'=i')->j=j'->i=i':=by
  intro i j i' j' h1 h1' this;rcases h1 with ⟨e1,e2⟩|⟨e1,e2,e3⟩<;>rcases h1' with ⟨f1,f2⟩|⟨f1,f2,f3⟩
  ·rw[e1,f1]
  ·exfalso;apply f2;rw[<-f3,<-this,e2]
  ·exfalso;apply e2;rw[<-e3,this,f2]
  ·rw[<-e3,<-f3,this]
 refine⟨β',hle,en,?_⟩;refine⟨r.imm,r.ext,r.mold,r.frame,r.size,r.same,r.tn,r.df,fun t=>(r.env t).mono (Mem.le_refl _) hle,fun i=>?_,fun i b c h hb=>?_,fun i i' b c c' h h' hb hb'=>?_,fun i x h hx=>?_,fun i hi=>?_,fun q hq=>?_⟩
 ·by_cases hd:q1e ((idn,ob)::(id,.dead)::S.hp) i=.dead
  ·show q4l m β' w _ _ (q1e ((idn,ob)::(id,.dead)::S.hp) i);rw[hd];exact q4l.dead' _
  ·obtain⟨j,_,h2,h2',h3⟩:=key i hd
   show q4l m β' w _ _ (q1e ((idn,ob)::(id,.dead)::S.hp) i)
   rw[h2,h2',h3];exact q4l.mono (Mem.le_refl _) hle (fun _ _ h=>h) (fun _ _=>rfl) (r.own j)
 ·obtain⟨j,_,h2,_,h3⟩:=key i h;rw[h2] at hb;exact r.priv j b c (by rw[<-h3];exact h) hb
 ·obtain⟨j,h1,h2,_,h3⟩:=key i h;obtain⟨j',h1',h2',_,h3'⟩:=key i' h';rw[h2] at hb;rw[h2'] at hb';exact back _ _ _ _ h1 h1' (r.inj j j' b c c' (by rw[<-h3];exact h) (by rw[<-h3'];exact h') hb hb')
 ·obtain⟨j,h1,h2,h2h,h3⟩:=key i h;rw[h2h] at hx;have q:=r.hid j x (by rw[<-h3];exact h) hx;refine⟨q.lt,q.m,q.old,fun i' b c h' hb'=>?_,fun i' h' hx'=>?_⟩
  ·obtain⟨j',h1',h2',_,h3'⟩:=key i' h';rw[h2'] at hb';exact q.ne j' b c (by rw[<-h3'];exact h') hb'
  ·obtain⟨j',h1',h2',h2h',h3'⟩:=key i' h';rw[h2h'] at hx';exact back _ _ _ _ h1' h1 (q.un j' (by rw[<-h3'];exact h') hx')
 ·have hi':nx'<=i:=hi;rw[eo i (by omega)];exact r.nx i (by omega)
 ·obtain⟨h1,h2⟩:=r.pin q hq;exact⟨cz8 h1 hnn,by rw[<-h2];exact eo q (hpid q hq)⟩
theorem Rel.move(r:Rel K m β w a S)(id:Nat){ob:Ob}(ho:q1e S.hp id=ob)(hl:ob≠.dead)(hl2:ob≠.res):∃β':q4m,β.le β'/\β' S.nx=β id/\Rel K m β' w a ⟨S.env,(S.nx,ob)::(id,.dead)::S.hp,S.nx+1⟩:=
 r.moveG id S.nx (S.nx+1) (r.nx _ (ae8 _)) (fun q hq=>an8 (r.pin q hq).1) (ao9 _) (ao8 _) ho hl hl2
def Nil(n:Nat):Hy:=fun m β m' β'=>m'=m/\β.le β'/\β' n=some none
instance {n:Nat}:j3v (Nil n):=⟨fun m β m' β' hy=>by rw[hy.1];exact Mem.le_refl _⟩
theorem Sub.keepNil{n:Nat}{v:V}:Sub (Nil n) v v:=fun _ _ _ _ _ hy hx=>by
 obtain⟨rfl,h,_⟩:=hy;exact hx.mono (Mem.le_refl _) h
theorem Sub.mkNil{n:Nat}:Sub (Nil n) (.own n 0) (.con (.slice none 0 0)):=fun _ _ _ _ _ hy hx=>by
 rw[hx.of_con];exact .ownNil hy.2.2
theorem v0a(e:TypeId)(k:Nat)(env:Env)(hp:q0m)(henv:∀t,Sub (Nil S.nx) (get env t) (get S.env t))(hhp:∀i,q4b (Nil S.nx) (q1e hp i) (q1e S.hp i)):
  q6h K S ⟨env,(S.nx,.arr e k [])::hp,S.nx+1⟩:=by
 intro m β w a r
 let β':q4m:=⟨fun i=>if i=S.nx then some none else β i,fun i=>if i=S.nx then fun _=>False else β.hid i⟩
 have en:β' S.nx=some none:=by show(if _ then _ else _)=_;rw[if_pos rfl]
 have eo:∀i,i≠S.nx->β' i=β i:=fun i h=>by show(if _ then _ else _)=_;rw[if_neg h]
 have hn:β'.hid S.nx=fun _=>False:=by show(if _ then _ else _)=_;rw[if_pos rfl]
 have hho:∀i,i≠S.nx->β'.hid i=β.hid i:=fun i h=>by show(if _ then _ else _)=_;rw[if_neg h]
 have hle:β.le β':=by
  intro i l h;rw[eo i]
  ·exact h
  ·intro e;rw[e,r.nx _ (ae8 _)] at h;simp at h
 have hy:Nil S.nx m β m β':=⟨rfl,hle,en⟩
 have hdead:∀i,q1e hp i≠.dead->q1e S.hp i≠.dead:=by
  intro i h hd;have h2:=hhp i;rw[hd] at h2;cases ho':q1e hp i with
  |dead=>exact h ho'
  |arr=>rw[ho'] at h2;simp[q4b] at h2
  |res=>rw[ho'] at h2;simp[q4b] at h2
  |map=>rw[ho'] at h2;simp[q4b] at h2
  |iter=>rw[ho'] at h2;simp[q4b] at h2
  |bld=>rw[ho'] at h2;simp[q4b] at h2
 have hlive:∀i b c,q1e ((S.nx,.arr e k [])::hp) i≠.dead->β' i=some (some (b,c))->q1e S.hp i≠.dead/\β i=some (some (b,c)):=by
  intro i b c h hb;rw[q5d] at h;by_cases hi:S.nx=i
  ·subst hi;rw[en] at hb;simp at hb
  ·rw[if_neg hi] at h;exact⟨hdead i h,by rw[eo i (Ne.symm hi)] at hb;exact hb⟩
 refine⟨m,β',r.imm,r.ext,r.mold,r.frame,r.size,r.same,r.tn,r.df,fun t=>henv t _ _ _ _ _ hy (r.env t),fun i=>?_,fun i b c h hb=>?_,fun i i' b c c' h h' hb hb'=>?_,fun i x h hx=>?_,fun i hi=>?_,fun q hq=>?_⟩
 ·show q4l m β' w (β'.hid i) (β' i) (q1e ((S.nx,.arr e k [])::hp) i)
  rw[q5d];by_cases hi:S.nx=i
  ·subst hi;rw[if_pos rfl,en];simp[q4l]
  ·rw[if_neg hi];have h2:=hhp i;rw[eo i (Ne.symm hi),hho i (Ne.symm hi)];exact h2.ok hy (r.own i)
 ·obtain⟨h1,h2⟩:=hlive i b c h hb;exact r.priv i b c h1 h2
 ·obtain⟨h1,h2⟩:=hlive i b c h hb;obtain⟨h1',h2'⟩:=hlive i' b c' h' hb';exact r.inj i i' b c c' h1 h1' h2 h2'
 ·have h0:q1e ((S.nx,.arr e k [])::hp) i≠.dead:=h;rw[q5d] at h0;by_cases hi:S.nx=i
  ·subst hi;rw[hn] at hx;exact hx.elim
  ·rw[if_neg hi] at h0;rw[hho i (Ne.symm hi)] at hx;have q:=r.hid i x (hdead i h0) hx;refine⟨q.lt,q.m,q.old,fun i' b c h' hb'=>?_,fun i' h' hx'=>?_⟩
   ·obtain⟨h1,h2⟩:=hlive i' b c h' hb';exact q.ne i' b c h1 h2
   ·have h0':q1e ((S.nx,.arr e k [])::hp) i'≠.dead:=h';rw[q5d] at h0';by_cases hi':S.nx=i'
    ·subst hi';rw[hn] at hx';exact hx'.elim
    ·rw[if_neg hi'] at h0';rw[hho i' (Ne.symm hi')] at hx';exact q.un i' (hdead i' h0') hx'
 ·have hi':S.nx+1<=i:=hi;rw[eo i (by omega)];exact r.nx i (by omega)
 ·obtain⟨h1,h2⟩:=r.pin q hq;exact⟨Nat.lt_succ_of_lt h1,by rw[<-h2];exact eo q (by omega)⟩
end
section
variable{K:Ctx}{Q:q5q}{S S':St}{ops:Array Oper}{rest:List Oper}{op:Op}{ty:TypeId}{pos:String}{after:Array Edge}{g:Option (Nat×Bool)}
variable{m:Mem}{β:q4m}{w:World}{a:Act}
inductive Src(S:St)(k:Nat):V->List (List V)->Prop
 |own {id:Nat} {e:TypeId} {rows:List (List V)} {n:Nat} (ho:q1e S.hp id=.arr e k rows) (hn:rows.length=n) (hd:∀row,row∈rows->∀c,c∈row->c.deep=false):Src S k (.own id n) rows
 |lst {rows:List (List V)} (h:∀row,row∈rows->row.all z3c=true):Src S k (.lst k rows) rows
 |nil:Src S k (.con (.slice none 0 0)) []
 |str {s:B8} {rows:List (List V)} (hk:k=1) (hr:rows=s.map fun c=>[V.con (.int .u8 (c.toNat:Int))]):Src S k (.con (.string ⟨s.toArray⟩)) rows
theorem v4z{k p n:Nat}(hk:0<k)(h:p<n*k):p / k<n/\p % k<k/\p / k*k+p % k=p:=
 ⟨(Nat.div_lt_iff_lt_mul hk).2 h,at9 _ hk,Nat.div_add_mod' p k⟩
theorem Src.read{k:Nat}{sv:V}{rows:List (List V)}(hk:0<k)(h:Src S k sv rows)(r:Rel K m β w a S){x:Value}(hx:q8n m β sv x):
  ∃news:List Value,(∀w':World,w'.heap=w.heap->(Builtin.lenOf x).run K.P w'=.ok rows.length w'/\(Builtin.firstCells k rows.length x).run K.P w'=.ok news.toArray w')/\news.length=rows.length*k/\
   (∀v,v∈news->v.oneCell'=true)/\(∀row,row∈rows->row.length=k)/\
   ∀(i j:Nat) (row:List V) (c:V),rows[i]? = some row->row[j]? = some c->∃v,news[i*k+j]? = some v/\q8n m β c v/\v.oneCell'=true:=by
 -- from cells to the list
 have mk:∀(ad:Addr) (n cap:Nat) (arr:Array Value) (T:TypeId) (fr:Nat×Nat) (f:Nat->Value),ad.spot=none->w.heap[ad.block]? = some (.cells arr T fr)->rows.length=n->(∀row,row∈rows->row.length=k)->
   (∀i,i<rows.length*k->arr[ad.off+i]? = some (f i))->
   (∀(i j:Nat) (row:List V) (c:V),rows[i]? = some row->row[j]? = some c->q8n m β c (f (i*k+j))/\(f (i*k+j)).oneCell'=true)->
   ∃news:List Value,(∀w':World,w'.heap=w.heap->(Builtin.lenOf (.slice (some ad) n cap)).run K.P w'=.ok rows.length w'/\(Builtin.firstCells k rows.length (.slice (some ad) n cap)).run K.P w'=.ok news.toArray w')/\news.length=rows.length*k/\
   (∀v,v∈news->v.oneCell'=true)/\(∀row,row∈rows->row.length=k)/\
   ∀(i j:Nat) (row:List V) (c:V),rows[i]? = some row->row[j]? = some c->∃v,news[i*k+j]? = some v/\q8n m β c v/\v.oneCell'=true:=by
  intro ad n cap arr T fr f hs hh hn hr hf hc;subst hn;refine⟨(List.range (rows.length*k)).map f,fun w' hw'=>⟨rfl,?_⟩,by simp,?_,hr,?_⟩
  ·refine z0k f fun j hj=>?_;rw[z5j hs,q4u,q7i (arr:=arr) (T:=T) (fr:=fr) (by rw[hw'];exact hh)];exact hf j hj
  ·intro v hv;simp only[bk9,da8] at hv;obtain⟨p,hp,rfl⟩:=hv;obtain⟨h1,h2,h3⟩:=v4z hk hp;have hrow:=hr _ (bh8 h1);have:=(hc (p / k) (p % k) _ _ (be8 h1) (be8 (by rw[hrow];exact h2))).2;rw[h3] at this;exact this
  ·intro i j row c hi hj;have hrow:=hr _ (bd8 hi);have hj':j<k:=by rw[<-hrow];exact(bi8.1 hj).1
   have hi':=(bi8.1 hi).1
   have hlt:i*k+j<rows.length*k:=by
    calc i*k+j<i*k+k:=by omega
     _=(i+1)*k:=by rw[ap8,as9]
     _<=rows.length*k:=bk8 _ hi'
   exact⟨f (i*k+j),by rw[bf9,bf8 hlt];rfl,hc i j row c hi hj⟩
 have empty:∀(ad:Option Addr) (cap:Nat),rows=[]->∃news:List Value,(∀w':World,w'.heap=w.heap->(Builtin.lenOf (.slice ad 0 cap)).run K.P w'=.ok rows.length w'/\(Builtin.firstCells k rows.length (.slice ad 0 cap)).run K.P w'=.ok news.toArray w')/\news.length=rows.length*k/\
   (∀v,v∈news->v.oneCell'=true)/\(∀row,row∈rows->row.length=k)/\
   ∀(i j:Nat) (row:List V) (c:V),rows[i]? = some row->row[j]? = some c->∃v,news[i*k+j]? = some v/\q8n m β c v/\v.oneCell'=true:=by
  rintro ad cap rfl
  refine⟨[],fun w' _=>⟨rfl,?_⟩,by simp,by simp,by simp,by simp⟩;cases ad<;>simp[Builtin.firstCells,loadCells,loadCellsFrom,pure]
 cases h with
 | @own id e _ n ho hn hd=>
  subst hn;generalize hlen:rows.length=n at hx;cases hx with
  |imm h=>cases h
  |ownNil h=>have h0:=be9.1 hlen;subst h0;exact empty _ _ rfl
  | @own _ _ b cap hb=>
   obtain⟨arr,bl,h1,h2,h3,h4,h5,_,h6⟩:=r.obj hb ho;subst hlen;refine mk ⟨b,cap.off,none⟩ _ cap.n arr e (0,0) (fun i=>arr.getD (cap.off+i) undef) rfl h1 rfl h5 ?_ ?_
   ·intro i hi;have:cap.off+i<arr.size:=by rw[h2];have:=cz8 hi (bk8 k h3);omega
    simp[bw8,this]
   ·intro i j row c hi hj;obtain⟨v,a1,a2,a3⟩:=h6 i j row c hi hj;simp only[bw8,a1,ck9];exact⟨a2.v (hd row (bd8 hi) c (bd8 hj)),a3⟩
 |lst hone=>
  cases hx with
  |imm h=>
   cases h with
   |nil=>exact empty _ _ rfl
   | @lst _ _ ad n cap arr T fr f hm hs hn hcap hbd hkk hf h=>
    refine mk ad n cap arr T fr f hs (r.imm _ _ hm) hn hkk hf ?_;intro i j row c hi hj;have h1:=q8n.imm (β:=β) (h i j row c hi hj);exact⟨h1,h1.one (aw9.1 (hone row (bd8 hi)) c (bd8 hj))⟩
 |nil=>rw[hx.of_con];exact empty _ _ rfl
 | @str s _ hk1 hr=>
  subst hk1 hr;rw[hx.of_con];refine⟨s.map fun c=>.int .u8 (c.toNat:Int),fun w' _=>⟨by simp[Builtin.lenOf,ByteArray.size,pure],?_⟩,by simp,by simp[Value.oneCell'],by simp,?_⟩
  ·have hl:(s.map fun c=>[V.con (.int .u8 (c.toNat:Int))]).length=(⟨s.toArray⟩:ByteArray).size:=by simp[ByteArray.size]
   rw[hl];simp only[Builtin.firstCells,pure,Sem.run,ByteArray.extract_zero_size]
   congr 1
   apply ay9;simp
  ·intro i j row c hi hj;rw[bf9] at hi;cases hs:s[i]? with
   |none=>rw[hs] at hi;cases hi
   |some u=>
    rw[hs] at hi;cases hi;cases j with
    |zero=>cases hj;exact⟨.int .u8 (u.toNat:Int),by simp[hs],.imm (.con _),rfl⟩
    |succ j=>simp at hj
theorem z3v{d T T' e k bytes n n' id:Nat}{s x:Operand}{sv:V}{rows:List (List V)}(idn nx':Nat)(hfree:∀m β w a,Rel K m β w a S->β idn=none/\∀q,q<K.pins->q≠idn)(hidn:idn<nx')(hnn:S.nx<=nx')(rows2 rows':List (List V))(hT:z6j K.P T e k bytes=true)(hT':w1v K.P T'=true)
  (hpos:Nat.blt 0 bytes=true) (hkp:Nat.blt 0 k=true)
  (hw:q1h ops S ⟨some d,.call ⟨.builtin .append,#[s,x],#[T,T']⟩,ty,pos,after,g⟩ true)
  (hs:evl K S s=.own id n) (ho:q1e S.hp id=.arr e k rows) (hn:rows.length=n) (hx:evl K S x=sv) (hsrc:Src S k sv rows2)
  (hr:rows++rows2=rows') (hn':rows'.length=n') (hb:n'*bytes<=140737488355328\/(rows2.length=1/\n'*bytes<=211106232532992/\bytes<=1000000)) (hN:Nat.blt d K.N=true)
  (kk:q7g K ops rest Q ⟨(d,.own idn n')::S.env,(idn,.arr e k rows')::(id,.dead)::S.hp,nx'⟩):
  q7g K ops (⟨some d,.call ⟨.builtin .append,#[s,x],#[T,T']⟩,ty,pos,after,g⟩::rest) Q S:=by
 refine q3k hw (fun m β w a r=>?_) kk;have hpos:=bd9 hpos;have hkp:0<k:=bd9 hkp;obtain⟨news,n1,n2,n3,n4,n5⟩:=hsrc.read hkp r (by rw[<-hx];exact r.reads x);have hlen:n'=n+rows2.length:=by rw[<-hn',<-hr,bp8,hn]
 have hsv:=r.reads s;rw[hs] at hsv
 have hop:∀(v:Value) (w':World),(Builtin.append_ #[T,T'] ty #[a.eval s,a.eval x]).run K.P w=.ok v w'->
   (execOp a.eval ⟨some d,.call ⟨.builtin .append,#[s,x],#[T,T']⟩,ty,pos,after,g⟩).run K.P w=.ok (.value v) w':=by
  intro v w' h;refine q7u rfl ?_;simp only[builtin,bv8,bw9,av9,Sem.run_bind,h,Result.andThen_ok];rfl
 -- rows of the result
 have hrows':∀row,row∈rows'->(∀row,row∈rows->row.length=k)->row.length=k:=by
  intro row h h5;rw[<-hr] at h;rcases cm8.1 h with h|h
  ·exact h5 row h
  ·exact n4 row h
 have hcells:∀(β':q4m) (w':World) (bl:Nat->Nat->Prop) (off:Nat) (old:Nat->Option Value) (arr':Array Value),β.le β'->(∀p x,bl p x->w'.heap[x]? = w.heap[x]?)->(∀row,row∈rows->row.length=k)->
   (∀(i j:Nat) (row:List V) (c:V),rows[i]? = some row->row[j]? = some c->∃v,old (i*k+j)=some v/\z1z m β w (bl (i*k+j)) c v/\v.oneCell'=true)->
   (∀p,p<n*k->arr'[off+p]? = old p)->(∀p,p<rows2.length*k->arr'[off+(n*k+p)]? = news[p]?)->
   ∀(i j:Nat) (row:List V) (c:V),rows'[i]? = some row->row[j]? = some c->∃v,arr'[off+(i*k+j)]? = some v/\z1z m β' w' (bl (i*k+j)) c v/\v.oneCell'=true:=by
  intro β' w' bl off old arr' hle hbl h5 h6 ha hb' i j row c hi hj;have hrk:=hrows' row (bd8 hi) h5;have hjk:j<k:=by rw[<-hrk];exact(bi8.1 hj).1
  rw[<-hr,ce9] at hi
  have hmul:∀p q:Nat,p<q->p*k+j<q*k:=by
   intro p q hpq
   calc p*k+j<p*k+k:=by omega
    _=(p+1)*k:=by rw[ap8,as9]
    _<=q*k:=bk8 _ hpq
  split at hi
  ·rename_i hlt;obtain⟨v,a1,a2,a3⟩:=h6 i j row c hi hj;exact⟨v,by rw[ha _ (by rw[<-hn];exact hmul _ _ hlt)];exact a1,a2.mono (Mem.le_refl _) hle (fun _ h=>h) (fun x hx=>hbl _ x hx),a3⟩
  ·rename_i hlt;obtain⟨v,a1,a2,a3⟩:=n5 (i - rows.length) j row c hi hj;have hi2:=(bi8.1 hi).1
   have e1:i*k+j=n*k+((i - rows.length)*k+j):=by
    rw[<-ah8,<-ap8];congr 2;omega
   refine⟨v,?_,.inl (a2.mono (Mem.le_refl _) hle),a3⟩;rw[e1,hb' _ (hmul _ _ hi2)];exact a1
 -- a new block
 have hlid:q1e S.hp id≠.dead:=by rw[ho];simp
 have grows:∀(bl:Nat->Nat->Prop) (hBl:Bls (β.hid id) bl) (olds:List Value) (base:Option Addr) (cap:Nat),a.eval s=.slice base n cap->(∀w':World,w'.heap=w.heap->(Builtin.firstCells k n (.slice base n cap)).run K.P w'=.ok olds.toArray w')->olds.length=n*k->
   n<=cap->¬n+rows2.length<=cap->(∀row,row∈rows->row.length=k)->
   (∀(i j:Nat) (row:List V) (c:V),rows[i]? = some row->row[j]? = some c->∃v,olds[i*k+j]? = some v/\z1z m β w (bl (i*k+j)) c v/\v.oneCell'=true)->
   ∃v w' m' β',((execOp a.eval ⟨some d,.call ⟨.builtin .append,#[s,x],#[T,T']⟩,ty,pos,after,g⟩).run K.P w=.ok (.value v) w'\/v=undef/\(execOp a.eval ⟨some d,.call ⟨.builtin .append,#[s,x],#[T,T']⟩,ty,pos,after,g⟩).run K.P w=.ok .skip w')/\
    Rel K m' β' w' (a.put (some d) v) ⟨(d,.own idn n')::S.env,(idn,.arr e k rows')::(id,.dead)::S.hp,nx'⟩:=by
  intro bl hBl olds base cap hsx hold hol hcap hfit h5 h6;obtain⟨q1,_,q3⟩:=w9z (mm:=rows2.length) hpos hcap hfit (by rw[<-hlen];exact hb);obtain⟨cap',arr',b1,b2,b3,b4,b5⟩:=z3z (ty:=ty) hT hT' rfl (hold { w with drawn:=w.drawn+1 } rfl) (n1 w rfl).1 (n1 { w with drawn:=w.drawn+1 } rfl).2 hol n2 hfit q1 q3;have r1:=(r.drawn (w.drawn+1) (ao8 _)).kill id
  have hdd:∀i,q1e ((id,.dead)::S.hp) i≠.dead->q1e S.hp i≠.dead/\i≠id:=by
   intro i hi;rw[q5d] at hi;split at hi
   ·exact absurd rfl hi
   ·rename_i h;exact⟨hi,Ne.symm h⟩
  obtain⟨β',hle,hnx,r2⟩:=r1.allocG idn nx' (hfree m β w a r).1 (hfree m β w a r).2 hidn hnn (.cells arr' e (0,0)) (.arr e k rows') ⟨cap',0⟩ _ rfl (β.hid id)
   (fun x hx=>let q:=r.hid id x hlid hx;⟨q.lt,q.m,q.old,fun i b c hi hb=>q.ne i b c (hdd i hi).1 hb,fun i hi hx'=>(hdd i hi).2 (q.un i (hdd i hi).1 hx')⟩) (fun β' hle=>by
   refine j4a (vs:=arr') bl hBl (by simp) (by simpa using b4) (by rw[hn',hlen];exact b2) b3 (fun row h=>hrows' row h h5) ?_;refine hcells β' _ bl 0 (fun p=>olds[p]?) arr' hle (fun p x hx=>?_) h5 h6 ?_ ?_
   ·have:=(r.hid id x hlid (hBl.1 p x hx)).lt;simp only[bz9];rw[if_neg (by omega)]
   ·intro p hp;rw[cr9,b5 p (cz8 hp (bk8 _ (by omega))),ce9,if_pos (by rw[hol];exact hp)]
   ·intro p hp;rw[cr9,b5 _ (by rw[ap8];omega),ce9,if_neg (by rw[hol];omega),hol,bm8])
  refine⟨.slice (some ⟨w.heap.size,0,none⟩) n' cap',{ w with drawn:=w.drawn+1,heap:=w.heap.push (.cells arr' e (0,0)) },m,β',.inl ?_,?_⟩
  ·refine hop _ _ ?_;rw[hsx,b1,hlen]
  ·exact Rel.put r2 hN (.own hnx)
 generalize hsx:a.eval s=sx at hsv;cases hsv with
 |imm h=>cases h
 | @ownNil _ ad hbn=>
  have h0:=r.own id;rw[hbn,ho] at h0;have h0:rows=[]:=h0;subst h0;by_cases hfit:0+rows2.length<=0
  ·have h2:rows2=[]:=be9.1 (by omega);subst h2;have h3:rows'=[]:=by rw[<-hr];rfl
   subst h3;have hn0:n'=0:=by simpa using hn'.symm
   subst hn0;obtain⟨β',hle,hnx,r2⟩:=r.moveG id idn nx' (hfree m β w a r).1 (hfree m β w a r).2 hidn hnn ho (by simp) (by simp);refine⟨.slice ad 0 0,w,m,β',.inl ?_,Rel.put r2 hN (.ownNil (by rw[hnx];exact hbn))⟩;refine hop _ _ ?_;rw[hsx];obtain⟨i,z,hu,hi,hs',hby,hz,hzk⟩:=z6a hT;have hk:K.P.cellsOf e=k:=by simp[Program.cellsOf,hi,hs']
   obtain⟨q1,q2⟩:=n1 w rfl;have hnews:news=[]:=be9.1 (by simpa using n2);subst hnews;simp only[cb9] at q2;rcases j1r hT' with ⟨e',hu'⟩|hu'
   all_goals
    simp only[Builtin.append_,bo8,by9,cc8,Sem.run_bind,run_underlying hu,Result.andThen_ok,run_sizeOf w hi,hk,run_underlying hu',pure,Sem.run,
     cy8,if_false,q1,cb9,bl8,ae8,if_true,Bool.not_false]
    cases ad<;>simp[q2,storeCells,pure,Sem.run]
  ·exact grows _ z2j [] ad 0 hsx (fun w' _=>by cases ad<;>simp[Builtin.firstCells,loadCells,loadCellsFrom,pure]) (by simp) (al8 _) hfit (by simp) (by simp)
 | @own _ _ b cap hbb=>
  obtain⟨arr,bl,h1,h2,h3,h4,h5,hBl,h6⟩:=r.obj hbb ho;have hnk:cap.off+n*k<=arr.size:=by rw[h2,<-hn];have:=bk8 k h3;omega
  by_cases hfit:n+rows2.length<=cap.n
  ·have hrun:=j1d (ty:=ty) hT hT' h1 h2 (n1 w rfl).1 (n1 w rfl).2 n2 n3 hfit
   have hle2:cap.off+n*k+news.length<=arr.size:=by
    have:n*k+rows2.length*k<=cap.n*k:=by rw[<-ap8];exact bk8 _ hfit
    rw[n2,h2];omega
   have hgt:∀p,(arr.toList.take (cap.off+n*k)++news++arr.toList.drop (cap.off+n*k+news.length)).toArray[p]? = if cap.off+n*k<=p/\p<cap.off+n*k+news.length then news[p - (cap.off+n*k)]? else arr[p]?:=by
    intro p;rw[bo8,z8b _ _ _ (by simpa using hle2)];split<;>simp
   have r1:=r.update (id:=id) (ob:=.arr e k rows') (by rw[ho];simp) hbb (w.setRow b (arr.toList.take (cap.off+n*k)++news++arr.toList.drop (cap.off+n*k+news.length)).toArray) (fun b' hb'=>z9l hb') (by simp[World.setRow]) ⟨rfl,rfl,rfl,ae8 _⟩ (fun hkeep=>by
    refine j4a bl hBl (q4x h1) ?_ (by rw[hn',hlen];exact hfit) h4 (fun row h=>hrows' row h h5) ?_
    ·have:(arr.toList.take (cap.off+n*k)++news++arr.toList.drop (cap.off+n*k+news.length)).length=arr.size:=by
      simp only[bp8,bs9,aq9,bs8];omega
     rw[bx8,this,h2]
    ·refine hcells β _ bl cap.off (fun p=>arr[cap.off+p]?) _ (q4m.le_refl _) (fun p x hx=>hkeep x (hBl.1 p x hx)) h5 h6 ?_ ?_
     ·intro p hp;rw[hgt,if_neg (by omega)]
     ·intro p hp;rw[hgt,if_pos (by rw[n2];omega)];congr 1;omega)
   obtain⟨β',hle,hnx,r2⟩:=r1.moveG id idn nx' (hfree m β w a r).1 (hfree m β w a r).2 hidn hnn (ob:=.arr e k rows') (by rw[q5d];simp) (by simp) (by simp)
   have r3:Rel K m β' (w.setRow b (arr.toList.take (cap.off+n*k)++news++arr.toList.drop (cap.off+n*k+news.length)).toArray) a ⟨S.env,(idn,.arr e k rows')::(id,.dead)::S.hp,nx'⟩:=by
    have hsame:∀i,q1e ((idn,Ob.arr e k rows')::(id,.dead)::(id,.arr e k rows')::S.hp) i=q1e ((idn,Ob.arr e k rows')::(id,.dead)::S.hp) i:=by
     intro i;simp only[q5d];by_cases q1:idn=i
     ·rw[if_pos q1,if_pos q1]
     ·rw[if_neg q1,if_neg q1];by_cases q2:id=i
      ·rw[if_pos q2,if_pos q2]
      ·rw[if_neg q2,if_neg q2,if_neg q2]
    exact⟨r2.imm,r2.ext,r2.mold,r2.frame,r2.size,r2.same,r2.tn,r2.df,r2.env,fun i=>by have:=r2.own i;simp only[hsame] at this;exact this,
     fun i b c h=>r2.priv i b c (by simp only[hsame];exact h),fun i i' b c c' h h'=>r2.inj i i' b c c' (by simp only[hsame];exact h) (by simp only[hsame];exact h'),
     fun i x h hx=>let q:=r2.hid i x (by simp only[hsame];exact h) hx;⟨q.lt,q.m,q.old,fun i' b c h'=>q.ne i' b c (by simp only[hsame];exact h'),fun i' h'=>q.un i' (by simp only[hsame];exact h')⟩,r2.nx,r2.pin⟩
   refine⟨.slice (some ⟨b,cap.off,none⟩) n' cap.n,w.setRow b (arr.toList.take (cap.off+n*k)++news++arr.toList.drop (cap.off+n*k+news.length)).toArray,m,β',.inl ?_,Rel.put r3 hN (.own (by rw[hnx];exact hbb))⟩;refine hop _ _ ?_;rw[hsx,hrun,hlen]
  ·refine grows bl hBl ((arr.toList.drop cap.off).take (n*k)) (some ⟨b,cap.off,none⟩) cap.n hsx (fun w' hw'=>?_) (by simp;omega) (by omega) hfit h5 ?_
   ·have:=z0k (P:=K.P) (w:=w') (ad:=⟨b,cap.off,none⟩) (n:=n) (c:=cap.n) (k:=k) (fun j=>arr.getD (cap.off+j) undef) (fun j hj=>by
     rw[q4u,q7i (arr:=arr) (T:=e) (fr:=(0,0)) (by rw[hw'];exact h1)];have:cap.off+j<arr.size:=by omega
     simp[bw8,this])
    rw[this]
    congr 2
    apply ay8;intro j;rw[bf9,bp9];by_cases hj:j<n*k
    ·rw[bf8 hj,if_pos hj,ba8];have:cap.off+j<arr.size:=by omega
     simp[bw8,this]
    ·rw[if_neg hj,bb9 (by simp;omega)];rfl
   ·intro i j row c hi hj;obtain⟨v,a1,a2,a3⟩:=h6 i j row c hi hj;refine⟨v,?_,a2,a3⟩;rw[bp9,if_pos]
    ·rw[ba8];simpa using a1
    ·have hrk:=h5 row (bd8 hi);have hjk:j<k:=by rw[<-hrk];exact(bi8.1 hj).1
     calc i*k+j<i*k+k:=by omega
      _=(i+1)*k:=by rw[ap8,as9]
      _<=n*k:=bk8 _ (by rw[<-hn];exact(bi8.1 hi).1)
theorem v0c{d T T' e k bytes n n' id:Nat}{s x:Operand}{sv:V}{rows:List (List V)}(rows2 rows':List (List V))(hT:z6j K.P T e k bytes=true)(hT':q3l K.P T'=true)
  (hpos:Nat.blt 0 bytes=true) (hkp:Nat.blt 0 k=true)
  (hw:q1h ops S ⟨some d,.call ⟨.builtin .append,#[s,x],#[T,T']⟩,ty,pos,after,g⟩ true)
  (hs:evl K S s=.own id n) (ho:q1e S.hp id=.arr e k rows) (hn:rows.length=n) (hx:evl K S x=sv) (hsrc:Src S k sv rows2)
  (hr:rows++rows2=rows') (hn':rows'.length=n') (hb:n'*bytes<=140737488355328\/(rows2.length=1/\n'*bytes<=211106232532992/\bytes<=1000000)) (hN:Nat.blt d K.N=true)
  (kk:q7g K ops rest Q ⟨(d,.own S.nx n')::S.env,(S.nx,.arr e k rows')::(id,.dead)::S.hp,S.nx+1⟩):
  q7g K ops (⟨some d,.call ⟨.builtin .append,#[s,x],#[T,T']⟩,ty,pos,after,g⟩::rest) Q S:=
 z3v S.nx (S.nx+1) (fun _ _ _ _ r=>⟨r.nx _ (ae8 _),fun q hq=>an8 (r.pin q hq).1⟩) (ao9 _) (ao8 _) rows2 rows' hT (j6n hT') hpos hkp hw hs ho hn hx hsrc hr hn' hb hN kk
end
section
variable{K:Ctx}{Q:q5q}{S S':St}{ops:Array Oper}{rest:List Oper}{op:Op}{ty:TypeId}{pos:String}{after:Array Edge}{g:Option (Nat×Bool)}
variable{m:Mem}{β:q4m}{w:World}{a:Act}
theorem v2q(off:Nat):∀(l:List Value) (s:Nat) (cells:Array Value),off+s+l.length<=cells.size->
  ((l.zipIdx s).foldl (fun(cs:Array Value) (x:Value×Nat)=>cs.setIfInBounds (off+x.2) x.1) cells).size=cells.size/\
  ∀p,((l.zipIdx s).foldl (fun(cs:Array Value) (x:Value×Nat)=>cs.setIfInBounds (off+x.2) x.1) cells)[p]? = if off+s<=p/\p<off+s+l.length then l[p - (off+s)]? else cells[p]?
 |[],s,cells,_=>by
  refine⟨rfl,fun p=>?_⟩;rw[if_neg]
  ·simp
  ·simp only[cb9];omega
 |v::l,s,cells,h=>by
  simp only[cj8] at h;obtain⟨h1,h2⟩:=v2q off l (s+1) (cells.setIfInBounds (off+s) v) (by simp;omega);simp only[List.zipIdx_cons,List.foldl_cons];refine⟨by rw[h1];simp,fun p=>?_⟩;rw[h2];simp only[cj8,bz8];by_cases hp:p=off+s
  ·subst hp;rw[if_neg (by omega),if_pos rfl,if_pos (by omega),if_pos (by omega)];simp
  ·by_cases hp2:off+s<=p/\p<off+s+(l.length+1)
   ·rw[if_pos (by omega),if_pos hp2];have:p - (off+s)=(p - (off+(s+1)))+1:=by omega
    rw[this,cc8]
   ·rw[if_neg (by omega),if_neg (Ne.symm hp),if_neg hp2]
def j9l(pl:Nat->Option (Nat×Nat)):List V->List (Nat×V)->Option (List V)
 |cs,[]=>some cs
 |cs,(i,v)::rest=>
  match pl i with
  |none=>none
  |some (off,size)=>bif Nat.beq (q9p v).length size&&Nat.ble (off+(q9p v).length) cs.length&&(q9p v).all z3c then j9l pl (cs.take off++q9p v++cs.drop (off+(q9p v).length)) rest else none
def y8d(m:Mem)(β:q4m)(cs:List V)(vs:Array Value):Prop:=
 cs.length=vs.size/\∀(i:Nat) (c:V) (u:Value),cs[i]? = some c->vs[i]? = some u->q8n m β c u/\u.oneCell'=true
theorem j8a{pl:Nat->Option (Nat×Nat)}:∀(parts:List (Nat×V)) (vals:List (Nat×Value)) (cs cs':List V) (cells:Array Value),j9l pl cs parts=some cs'->y8d m β cs cells->
  parts.length=vals.length->(∀(i:Nat) (p:Nat×V) (q:Nat×Value),parts[i]? = some p->vals[i]? = some q->p.1=q.1/\q8n m β p.2 q.2)->
  ∃cells',Instr.fill pl cells vals=some cells'/\y8d m β cs' cells'
 |[],[],cs,cs',cells,h,hc,_,_=>by
  simp only[j9l,bc8] at h;subst h;exact⟨cells,rfl,hc⟩
 |(i,v)::parts,(i',u)::vals,cs,cs',cells,h,hc,hl,hr=>by
  obtain⟨e1,e2⟩:=hr 0 _ _ rfl rfl;simp only at e1 e2;subst e1;simp only[j9l] at h;cases hp:pl i with
  |none=>simp[hp] at h
  |some p=>
   obtain⟨off,size⟩:=p;simp only[hp,cond_eq_ite,av8] at h;split at h
   ·rename_i hcond;obtain⟨⟨q1,q2⟩,q3⟩:=hcond;have q1:=cx9 q1;have q2:=bd9 q2;obtain⟨c1,c2,c3⟩:=e2.cells q3;obtain⟨f1,f2⟩:=v2q off u.cells.toList 0 cells (by simp only[bl8,bs8,<-c1,<-hc.1];exact q2);simp only[bl8,bs8] at f2
    obtain⟨cells',g1,g2⟩:=j8a parts vals _ cs' ((u.cells.toList.zipIdx 0).foldl (fun(cs:Array Value) (x:Value×Nat)=>cs.setIfInBounds (off+x.2) x.1) cells) h (by
     refine⟨by rw[f1];simp only[bp8,bs9,aq9,<-hc.1];omega,fun j c x hj hx=>?_⟩;rw[z8b _ _ _ q2] at hj;rw[f2] at hx;by_cases hjj:off<=j/\j<off+(q9p v).length
     ·rw[if_pos hjj] at hj;rw[if_pos (by rw[<-c1];exact hjj)] at hx;have hx':u.cells[j - off]? = some x:=by simpa using hx
      exact⟨c2 _ _ _ hj hx',c3 x (by have:=Array.mem_of_getElem? hx';simpa using this)⟩
     ·rw[if_neg hjj] at hj;rw[if_neg (by rw[<-c1];exact hjj)] at hx;exact hc.2 j c x hj hx) (by simpa using hl) (fun i p q h1 h2=>hr (i+1) p q (by simpa using h1) (by simpa using h2))
    refine⟨cells',?_,g2⟩;unfold Instr.fill;simp only[hp];rw[if_neg]
    ·rw[<-g1]
     congr 1
     rw[<-Array.foldl_toList,Array.toList_zipIdx]
    ·simp only[ne_eq,ax9,decide_eq_true_eq,not_or,Decidable.not_not,Nat.not_lt];exact⟨by rw[<-c1];exact q1,by rw[<-c1,<-hc.1];exact q2⟩
   ·simp at h
 |[],q::vals,_,_,_,_,_,hl,_=>by simp at hl
 |p::parts,[],_,_,_,_,_,hl,_=>by simp at hl
def q1m(P:Program)(T:TypeId):Option (List (Nat×Nat)):=
 match P.underlying T with
 |some (.struct fs)=>fs.toList.mapM fun f=>(P.info? f.type).map fun i=>(f.offset,i.size)
 |_=>none
theorem j3d(r:Rel K m β w a S)(parts:Array (Nat×Operand))(ps:List (Nat×V))(h:parts.toList.map (fun p=>(p.1,evl K S p.2))=ps):
  ps.length=(parts.map fun(i,x)=>(i,a.eval x)).toList.length/\
  ∀(i:Nat) (p:Nat×V) (q:Nat×Value),ps[i]? = some p->(parts.map fun(i,x)=>(i,a.eval x)).toList[i]? = some q->p.1=q.1/\q8n m β p.2 q.2:=by
 subst h;refine⟨by simp,fun i p q h1 h2=>?_⟩;simp only[bn9,bf9] at h1 h2;cases hx:parts.toList[i]? with
 |none=>simp[hx] at h1
 |some x=>
  simp[hx] at h1 h2;subst h1;subst h2;exact⟨rfl,r.reads x.2⟩
theorem z9r{zs:List Value}(h1:zs.all (·.oneCell')=true)(m:Mem)(β:q4m):y8d m β (zs.map .con) zs.toArray:=by
 refine⟨by simp,fun i c u hc hu=>?_⟩;simp only[bf9,bo8] at hc hu;rw[hu] at hc;simp at hc;subst hc;exact⟨.imm (.con u),aw9.1 h1 u (bd8 hu)⟩
theorem v7v{d:Nat}{T:TypeId}{parts:Array (Nat×Operand)}{zs:List Value}{pls:List (Nat×Nat)}(ps:List (Nat×V))(cs:List V)(hz:zeroCells K.P T=some zs)(hp:q1m K.P T=some pls)
  (h1:zs.all (·.oneCell')=true) (hw:q1h ops S ⟨some d,.build T parts,ty,pos,after,g⟩ true)
  (hps:parts.toList.map (fun p=>(p.1,evl K S p.2))=ps) (hf:j9l (fun i=>pls[i]?) (zs.map .con) ps=some cs) (hN:Nat.blt d K.N=true)
  (kk:q7g K ops rest Q (S.put d (.agg cs))):q7g K ops (⟨some d,.build T parts,ty,pos,after,g⟩::rest) Q S:=
 q9g _ hw hN (fun m β w a r=>by
  obtain⟨hl,hr⟩:=j3d r parts ps hps;obtain⟨cells',f1,f2⟩:=j8a ps _ _ cs zs.toArray hf (z9r h1 m β) hl hr
  have hb:K.P.built T (parts.map fun(i,x)=>(i,a.eval x)).toList=some cells':=by
   unfold zeroCells at hz;unfold q1m at hp;cases hi:K.P.info? T with
   |none=>simp[hi] at hz
   |some i=>
    cases hzz:i.zero with
    |none=>simp[hi,hzz] at hz
    |some z=>
     simp[hi,hzz] at hz;cases hu:K.P.underlying T with
     |none=>simp[hu] at hp
     |some dd=>
      cases dd<;>simp only[hu,reduceCtorEq] at hp;rename_i fs;simp only[Program.built,hi,hu,hzz,hp];rw[<-f1,<-hz];simp
  refine⟨.agg cells',by simp only[execOp];exact q1f (run_build w T _ cells' hb),.agg f2.1 fun i c v hc hv=>(f2.2 i c v hc hv).1⟩) kk
def v6w:List (List V)->List V
 |[]=>[]
 |r::rs=>r++v6w rs
theorem z3m{k:Nat}:∀(rows:List (List V)),(∀row,row∈rows->row.length=k)->(v6w rows).length=rows.length*k
 |[],_=>by simp[v6w]
 |r::rs,h=>by
  simp only[v6w,bp8,cj8,ap8,as9,h r (by simp),z3m rs (fun row hr=>h row (by simp[hr]))];omega
theorem j3t{k:Nat}:∀(rows:List (List V)),(∀row,row∈rows->row.length=k)->∀(i j:Nat) row c,rows[i]? = some row->row[j]? = some c->(v6w rows)[i*k+j]? = some c
 |[],_,i,j,row,c,hi,_=>by simp at hi
 |r::rs,h,i,j,row,c,hi,hj=>by
  simp only[v6w];have hrk:=h r (by simp);have hj1:=(bi8.1 hj).1;cases i with
  |zero=>
   simp at hi;subst hi;rw[az9 (by omega)]
   simpa using hj
  |succ i=>
   simp at hi;rw[az8 (by rw[hrk,ap8,as9];omega)];have:(i+1)*k+j - r.length=i*k+j:=by rw[hrk,ap8,as9];omega
   rw[this];exact j3t rs (fun row hr=>h row (by simp[hr])) i j row c hi hj
theorem q2e{d T e k bytes n:Nat}{parts:Array (Nat×Operand)}{zs:List Value}(ps:List (Nat×V))(rows:List (List V))(hT:z6j K.P T e k bytes=true)(hz:zeroCells K.P e=some zs)
  (h1:zs.all (·.oneCell')=true) (hk:Nat.blt 0 k=true) (hnn:Nat.blt 0 n=true) (hbig:Nat.ble (n*k) 16777216=true) (hw:q1h ops S ⟨some d,.buildSlice T n parts,ty,pos,after,g⟩ true)
  (hps:parts.toList.map (fun p=>(p.1,evl K S p.2))=ps) (hf:j9l (fun i=>some (i*k,k)) (((List.range (n*k)).map fun i=>zs.getD (i % k) undef).map .con) ps=some (v6w rows))
  (hrl:rows.length=n) (hrk:∀row,row∈rows->row.length=k) (hN:Nat.blt d K.N=true)
  (kk:q7g K ops rest Q ⟨(d,.own S.nx n)::S.env,(S.nx,.arr e k rows)::S.hp,S.nx+1⟩):
  q7g K ops (⟨some d,.buildSlice T n parts,ty,pos,after,g⟩::rest) Q S:=by
 refine q3k hw (fun m β w a r=>?_) kk;have hk:=bd9 hk;have hnn:=bd9 hnn;have hbig:=bd9 hbig;obtain⟨hl,hr⟩:=j3d r parts ps hps;obtain⟨i,z,hu,hi,hs,hby,hzz,hzk⟩:=z6a hT;obtain⟨z',hz1,hz2⟩:=z7z hz w
 have hzl:zs.length=k:=by
  have:zeroCells K.P e=some z.cells.toList:=by simp[zeroCells,hi,hzz]
  rw[hz] at this;simp only[bc8] at this;rw[this];simp[hzk]
 have hkk:K.P.cellsOf e=k:=by simp[Program.cellsOf,hi,hs]
 have hrows:0<n*k:=Nat.mul_pos hnn hk;have hall:∀v,v∈zs->v.oneCell'=true:=fun v hv=>aw9.1 h1 v hv
 have hzc:(Array.range (n*k)).map (fun x=>(z'.cells)[x % z'.cells.size]!)=(((List.range (n*k)).map fun i=>zs.getD (i % k) undef)).toArray:=by
  apply ay9;simp only[bn9,Array.toList_range,hz2,bx8,hzl];apply List.map_congr_left;intro x _;have:x % k<zs.length:=by rw[hzl];exact at9 _ hk
  simp[this]
 obtain⟨cells',f1,f2⟩:=j8a ps _ _ (v6w rows) (((List.range (n*k)).map fun i=>zs.getD (i % k) undef)).toArray hf (z9r (by
  rw[aw9];intro v hv;simp only[bk9,da8] at hv;obtain⟨p,_,rfl⟩:=hv;have:p % k<zs.length:=by rw[hzl];exact at9 _ hk
  simp only[db8,be8 this,ck9];exact hall _ (bh8 _)) m β) hl hr
 have hsize:cells'.size=n*k:=by rw[<-f2.1,z3m rows hrk,hrl]
 obtain⟨β',hle,hnx,r2⟩:=r.alloc (.cells cells' e (0,0)) (.arr e k rows) ⟨n,0⟩ _ rfl (fun β' hle=>by
  refine q8t (vs:=cells') (by simp) hsize (by omega) (by unfold maxLen;have:=cq8 n hk;omega) hrk ?_;intro i j row c hi hj;have hg:=j3t rows hrk i j row c hi hj;have hlt:i*k+j<cells'.size:=by rw[<-f2.1];exact(bi8.1 hg).1
  obtain⟨a1,a2⟩:=f2.2 _ c cells'[i*k+j] hg (by simp[hlt]);exact⟨cells'[i*k+j],by simp[hlt],a1.mono (Mem.le_refl _) hle,a2⟩)
 refine⟨.slice (some ⟨w.heap.size,0,none⟩) n n,{ w with heap:=w.heap.push (.cells cells' e (0,0)) },m,β',.inl ?_,Rel.put r2 hN (.own hnx)⟩;simp only[execOp];rw[Sem.run_bind]
 have:(Instr.buildSlice T n (parts.map fun(i,x)=>(i,a.eval x))).run K.P w=.ok (.slice (some ⟨w.heap.size,0,none⟩) n n) { w with heap:=w.heap.push (.cells cells' e (0,0)) }:=by
  simp only[Instr.buildSlice,Sem.run_bind,run_underlying hu,Result.andThen_ok,run_sizeOf w hi,hkk];rw[if_neg (by omega),if_neg (by omega)];simp only[Sem.run_bind,hz1,Result.andThen_ok,pure,Sem.run,hzc,f1,newRow,newObj]
 rw[this];rfl
theorem j6u{d f:Nat}{captured:Array Operand}(cs:List V)(hw:q1h ops S ⟨some d,.makeFunc (.func f) #[] captured,ty,pos,after,g⟩ true)
  (hc:captured.toList.map (evl K S)=cs) (hN:Nat.blt d K.N=true) (kk:q7g K ops rest Q (S.put d (.fn (.func f) [] cs))):
  q7g K ops (⟨some d,.makeFunc (.func f) #[] captured,ty,pos,after,g⟩::rest) Q S:=
 q9g _ hw hN (fun m β w a r=>by
  refine⟨.func (.func f) #[] (captured.map a.eval),by simp only[execOp];exact q1f (by simp[Instr.makeFunc,pure]),.fn rfl (by simp[<-hc]) (by simp) fun i c v h1 h2=>?_⟩;rw[<-hc,bf9] at h1;rw[co8] at h2;cases hx:captured[i]? with
  |none=>simp[hx] at h2
  |some x=>
   simp[hx] at h1 h2;subst h1;subst h2;exact r.reads x) kk
inductive w2q:V->Prop
 |con (v:Value):w2q (.con v)
 |any:w2q .any
 |tup {ds:List V} (h:∀d,d∈ds->∃v,d=.con v):w2q (.tup ds)
theorem w2q.free{d:V}(h:w2q d){m m':Mem}{v:Value}(hv:q2p m d v):q2p m' d v:=by
 cases h with
 |con=>cases hv;exact .con _
 |any=>exact .any _
 |tup h=>
  cases hv with
  |tup hl hh=>
   refine .tup hl fun i c v hi hv=>?_;obtain⟨u,rfl⟩:=h c (bd8 hi);have:=hh i _ v hi hv;cases this;exact .con _
theorem w3g{o:Oper}{d:Nat}{f:FuncId}{dv:V}{avs:List V}(hw:q1h ops S o true)(hd:o.dst=some d)(hN:Nat.blt d K.N=true)(hg:q6h K S S')(hfl:w2q dv)
  (hrun:∀m β w a,Rel K m β w a S'->∃vs:Array Value,(execOp a.eval o).run K.P w=.ok (.enter f vs) w/\v9m m avs vs)
  (hc:z6q K.gl K.P f avs dv) (kk:q7g K ops rest Q (S.put d dv)):q7g K ops (o::rest) Q S:=by
 intro m β w a r;unfold wpList;rw[if_pos (hw.at r)]
 left
 obtain⟨m1,β1,r1⟩:=hg m β w a r;obtain⟨vs,h1,h2⟩:=hrun m1 β1 w a r1;unfold Oper.wp;rw[h1];refine(hc m1 w vs r1.imm (K.glok.mono r1.ext) h2).mono ?_
 rintro e w' ⟨v,m',rfl,h3,h4⟩
 simp only[hd];have hg:w5u m m w w':=⟨Mem.le_refl _,fun b o h=>by have:=r.imm b o h;rw[h4.heap b (q9h this)];exact this,fun _ _=>rfl,h4.heap,h4.size,h4.same⟩;exact kk m β w' _ ((r.grow hg).put hN (.imm (hfl.free h3)))
theorem z9k{d:Nat}{f:FuncId}{args:Array Operand}{at':Array TypeId}(dv:V)(avs:List V)(hf:q9m K.P f=true)(hg:q6h K S S')(hfl:w2q dv)
  (hw:q1h ops S ⟨some d,.call ⟨.value (.func f),args,at'⟩,ty,pos,after,g⟩ true)
  (ha:args.toList.map (evl K S')=avs) (hi:q1t avs) (hc:z6q K.gl K.P f avs dv) (hN:Nat.blt d K.N=true) (kk:q7g K ops rest Q (S.put d dv)):
  q7g K ops (⟨some d,.call ⟨.value (.func f),args,at'⟩,ty,pos,after,g⟩::rest) Q S:=
 w3g hw rfl hN hg hfl (j2u hf ha hi) hc kk
end
end Go.Pv
