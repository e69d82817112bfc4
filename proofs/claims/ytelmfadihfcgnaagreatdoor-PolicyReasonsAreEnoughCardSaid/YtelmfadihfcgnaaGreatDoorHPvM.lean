/- Part of the proof. -/
import Derived.Test.YtelmfadihfcgnaaGreatDoorHPvH
import Derived.Room.Entries
set_option linter.unusedSimpArgs false
set_option linter.unusedVariables false
namespace Go.Pv
open Go
section
variable{K:cR}{Q:ca}{S S':St}{ops:Array Oper}{rest:List Oper}{op:Op}{ty:TypeId}{pos:String}{after:Array Edge}{g:Option (Nat×Bool)}
variable{m:bB}{β:ba}{w:World}{a:Act}
def eQ(P:Program)(T e k bytes:Nat):Bool:=
 match P.underlying T with
 |some (.slice e')=>e'==e&&(match P.info? e with|some i=>i.size==k&&i.bytes==bytes&&(match i.zero with|some z=>z.cells.size==k|none=>false)|none=>false)
 |_=>false
theorem eX{P:Program}{T e k bytes:Nat}(h:eQ P T e k bytes=true):∃i z,P.underlying T=some (.slice e)/\P.info? e=some i/\i.size=k/\i.bytes=bytes/\i.zero=some z/\z.cells.size=k:=by
 unfold eQ at h
 grind
theorem iH{P:Program}{w:World}{ad:Addr}{n c k:Nat}(f:Nat->Value)(h:∀j,j<n*k->w.cell? (ad.add j)=some (f j)):
  (Builtin.firstCells k n (.slice (some ad) n c)).run P w=.ok ((List.range (n*k)).map f).toArray w:=by
 simp_all[Builtin.firstCells,run_loadCells]
theorem rJ(z:Array Value)(n:Nat):(Builtin.zeroCells z n).size=n*z.size:=by simp[Builtin.zeroCells]
theorem kU{P:Program}{w:World}{T T' e k bytes b n cap off mm:Nat}{arr:Array Value}{x:Value}{news:List Value}(hT:eQ P T e k bytes=true)(hT':xM P T'=true)
  (hb:w.heap[b]? = some (.cells arr e (0,0))) (hsz:arr.size=off+cap*k)
  (hlen:(Builtin.lenOf x).run P w=.ok mm w) (hfc:(Builtin.firstCells k mm x).run P w=.ok news.toArray w) (hnl:news.length=mm*k) (h1:∀v,v∈news->v.oneCell'=true)
  (hfit:n+mm<=cap):
  (Builtin.append_ #[T,T'] ty #[.slice (some ⟨b,off,none⟩) n cap,x]).run P w =
   .ok (.slice (some ⟨b,off,none⟩) (n+mm) cap) (w.setRow b (arr.toList.take (off+n*k)++news++arr.toList.drop (off+n*k+news.length)).toArray):=by
 obtain⟨i,z,hu,hi,hs,hby,hz,hzk⟩:=eX hT
 have hle:off+n*k+news.length<=arr.size:=by
  have:n*k+mm*k<=cap*k:=by rw[<-am9];exact bg9 _ hfit
  rw[hnl,hsz];omega
 have hst:=run_storeCells_at (P:=P) b (off+n*k) e news 0 arr w hb (by omega) h1;simp only[bg8] at hst;have hk:P.cellsOf e=k:=by simp[Program.cellsOf,hi,hs]
 rcases oq hT' with ⟨e',hu'⟩|hu' <;>
 simp only[Builtin.append_,bh8,bo9,bt9,Sem.run_bind,run_underlying hu,Result.andThen_ok,run_sizeOf w hi,hk,run_underlying hu',pure,Sem.run,
  cj8,if_false,hlen,if_pos hfit,bw8,if_true,hfc,dX,hst]
theorem Bv{n mm cap bytes:Nat}(hpos:0<bytes)(hcap:n<=cap)(hfit:¬n+mm<=cap)(hb:(n+mm)*bytes<=140737488355328\/(mm=1/\(n+mm)*bytes<=211106232532992/\bytes<=1000000)):
  n+mm<=281474976710656/\(n+mm)*bytes<=2 ^ 48/\Builtin.nextslicecap (n+mm) cap*bytes<=2 ^ 48:=by
 have h0:n+mm<=(n+mm)*bytes:=cd8 _ hpos;rcases hb with hb|⟨h1,hb,h2⟩
 ·refine⟨by omega,by omega,?_⟩;have:=Room.nextslicecap_le' (need:=n+mm) (old:=cap) (by omega)
  calc Builtin.nextslicecap (n+mm) cap*bytes<=(2*(n+mm))*bytes:=bg9 _ this
   _=2*((n+mm)*bytes):=by grind
   _<=2 ^ 48:=by omega
 ·subst h1;have hc:cap=n:=by omega
  subst hc;refine⟨by omega,by omega,?_⟩
  have hn:Builtin.nextslicecap (cap+1) cap<=cap+cap / 4+512:=by
   unfold Builtin.nextslicecap;split
   ·omega
   ·grind [Room.growBy_four']
  have h3:cap*bytes<=211106232532992:=bw9 (bg9 _ (al9 _)) hb
  have h4:cap / 4*bytes<=52776558133248:=by
   have:cap / 4*4<=cap:=Nat.div_mul_le_self cap 4;have h5:=bg9 bytes this;rw[Nat.mul_right_comm] at h5;omega
  calc Builtin.nextslicecap (cap+1) cap*bytes<=(cap+cap / 4+512)*bytes:=bg9 _ hn
   _=cap*bytes+cap / 4*bytes+512*bytes:=by grind
   _<=2 ^ 48:=by omega
theorem jQ{P:Program}{w:World}{T T' e k bytes n cap mm:Nat}{s x:Value}{base:Option Addr}{olds news:List Value}(hT:eQ P T e k bytes=true)(hT':xM P T'=true)(hs:s=.slice base n cap)
  (hold:(Builtin.firstCells k n s).run P { w with drawn:=w.drawn+1 }=.ok olds.toArray { w with drawn:=w.drawn+1 })
  (hlen:(Builtin.lenOf x).run P w=.ok mm w) (hfc:(Builtin.firstCells k mm x).run P { w with drawn:=w.drawn+1 }=.ok news.toArray { w with drawn:=w.drawn+1 })
  (hol:olds.length=n*k) (hnl:news.length=mm*k)
  (hfit:¬n+mm<=cap) (hneed:n+mm<=281474976710656) (hnext:Builtin.nextslicecap (n+mm) cap*bytes<=2 ^ 48):
  ∃cap' arr',(Builtin.append_ #[T,T'] ty #[s,x]).run P w=.ok (.slice (some ⟨w.heap.size,0,none⟩) (n+mm) cap') { w with drawn:=w.drawn+1,heap:=w.heap.push (.cells arr' e (0,0)) }/\
   n+mm<=cap'/\cap'<=maxLen/\arr'.size=cap'*k/\∀j,j<(n+mm)*k->arr'[j]? = (olds++news)[j]?:=by
 subst hs;obtain⟨i,z,hu,hi,hs,hby,hz,hzk⟩:=eX hT;have hk:P.cellsOf e=k:=by simp[Program.cellsOf,hi,hs]
 have hmax:IntKind.i64.max=9223372036854775807:=by decide
 let c':=(n+mm)+w.tape w.drawn (.appendCap (n+mm) cap e) % (2 ^ 63 - (n+mm))
 let w1:World:={ w with drawn:=w.drawn+1 }
 have hc':n+mm<=c'/\c'<=maxLen:=by
  have:w.tape w.drawn (.appendCap (n+mm) cap e) % (2 ^ 63 - (n+mm))<2 ^ 63 - (n+mm):=an8 _ (by omega);simp only[c',maxLen];omega
 refine⟨c',olds.toArray++news.toArray++Builtin.zeroCells z.cells (c' - (n+mm)),?_,hc'.1,hc'.2,?_,?_⟩
 ·have hask:∀(w:World),(askRoom (c'*bytes)).run P w=.ok () w:=by
   intro w;unfold askRoom;split<;>rfl
  have hch:(choose (.appendCap (n+mm) cap e)).run P w=.ok c' w1:=by simp[choose,Sem.run,Question.forced,Question.cut,c',w1]
  have hzr:(zeroValue e).run P w1=.ok z w1:=by
   simp only[zeroValue,Sem.run_bind,run_typeInfo w1 hi,Result.andThen_ok,hz];rfl
  rcases oq hT' with ⟨e',hu'⟩|hu'
  all_goals
   simp only[Builtin.append_,bh8,bo9,bt9,Sem.run_bind,run_underlying hu,Result.andThen_ok,run_sizeOf w hi,hk,run_underlying hu',pure,Sem.run,
    cj8,if_false,hlen,if_neg hfit,bw8,if_true,run_typeInfo w hi,hby,false_or]
   rw[if_neg (by omega)];simp only[Sem.run_bind,run_typeInfo w hi,Result.andThen_ok,hby];rw[if_neg (by omega)];simp only[Sem.run_bind,Sem.run,Result.andThen_ok,hch,run_typeInfo w1 hi,hby,hask,hold,hfc,hzr,w1,newRow,newObj,pure]
 ·simp only[cc9,bn8,hol,hnl,rJ,hzk]
  grind
 grind
theorem bX.drawn(r:bX K m β w a S)(n:Nat)(hn:w.drawn<=n):bX K m β { w with drawn:=n } a S:=
 ⟨r.imm,r.ext,r.mold,r.frame,r.size,⟨r.same.os,r.same.tape,r.same.output,trivial⟩,r.tn,r.df,r.env,fun id=>bn.congr (w:=w) (fun _ _ _=>rfl) (fun _ _=>rfl) (r.own id),r.priv,r.inj,fun id x hl hx=>⟨(r.hid id x hl hx).lt,(r.hid id x hl hx).m,(r.hid id x hl hx).old,(r.hid id x hl hx).ne,(r.hid id x hl hx).un⟩,r.nx,r.pin⟩
theorem bX.kill(r:bX K m β w a S)(id:Nat):bX K m β w a ⟨S.env,(id,.dead)::S.hp,S.nx⟩:=by
 have live:∀i,ak ((id,.dead)::S.hp) i≠.dead->ak S.hp i≠.dead:=by
  intro i hi;rw[av] at hi;split at hi
  ·grind
  ·exact hi
 refine⟨r.imm,r.ext,r.mold,r.frame,r.size,r.same,r.tn,r.df,r.env,fun i=>?_,fun i b c h=>r.priv i b c (live i h),fun i i' b c c' h h'=>r.inj i i' b c c' (live i h) (live i' h'),fun i x h hx=>⟨(r.hid i x (live i h) hx).lt,(r.hid i x (live i h) hx).m,(r.hid i x (live i h) hx).old,fun i' b c h'=>(r.hid i x (live i h) hx).ne i' b c (live i' h'),fun i' h'=>(r.hid i x (live i h) hx).un i' (live i' h')⟩,r.nx,r.pin⟩
 show bn m β w (β.hid i) (β i) (ak ((id,.dead)::S.hp) i)
 rw[av];split
 ·exact bn.dead' _
 ·exact r.own i
theorem bX.moveG(r:bX K m β w a S)(id idn nx':Nat)(hfree:β idn=none)(hpid:∀q,q<K.pins->q≠idn)(hidn:idn<nx')(hnn:S.nx<=nx'){ob:Ob}(ho:ak S.hp id=ob)(hl:ob≠.dead)(hl2:ob≠.res):∃β':ba,β.le β'/\β' idn=β id/\bX K m β' w a ⟨S.env,(idn,ob)::(id,.dead)::S.hp,nx'⟩:=by
 let β':ba:=⟨fun i=>if i=idn then β id else β i,fun i=>if i=idn then β.hid id else β.hid i⟩
 have en:β' idn=β id:=by show(if _ then _ else _)=_;grind
 have eo:∀i,i≠idn->β' i=β i:=fun i h=>by grind
 have hn:β'.hid idn=β.hid id:=by show(if _ then _ else _)=_;grind
 have hho:∀i,i≠idn->β'.hid i=β.hid i:=fun i h=>by grind
 have hle:β.le β':=by
  intro i l h;rw[eo i]
  ·exact h
  ·grind
 have hne:id≠idn:=by
  intro e;have:=r.own id;rw[ho,e,hfree] at this
  simp_all[bn]
 -- the object at a number, and where it was
 have key:∀i,ak ((idn,ob)::(id,.dead)::S.hp) i≠.dead->∃j,(i=idn/\j=id\/i≠idn/\i≠id/\j=i)/\β' i=β j/\β'.hid i=β.hid j/\ak ((idn,ob)::(id,.dead)::S.hp) i=ak S.hp j:=by
  intro i hi;rw[av] at hi ⊢;by_cases h:idn=i
  ·grind
  ·rw[if_neg h] at hi ⊢;rw[av] at hi ⊢
   grind
 have back:∀i j i' j',(i=idn/\j=id\/i≠idn/\i≠id/\j=i)->(i'=idn/\j'=id\/i'≠idn/\i'≠id/\j'=i')->j=j'->i=i':=by
  intro i j i' j' h1 h1' this;rcases h1 with ⟨e1,e2⟩|⟨e1,e2,e3⟩<;>rcases h1' with ⟨f1,f2⟩|⟨f1,f2,f3⟩
  ·rw[e1,f1]
  ·grind
  ·grind
  ·grind
 refine⟨β',hle,en,?_⟩;refine⟨r.imm,r.ext,r.mold,r.frame,r.size,r.same,r.tn,r.df,fun t=>(r.env t).mono (bB.le_refl _) hle,fun i=>?_,fun i b c h hb=>?_,fun i i' b c c' h h' hb hb'=>?_,fun i x h hx=>?_,fun i hi=>?_,fun q hq=>?_⟩
 ·by_cases hd:ak ((idn,ob)::(id,.dead)::S.hp) i=.dead
  ·grind [bn.dead']
  ·obtain⟨j,_,h2,h2',h3⟩:=key i hd
   show bn m β' w _ _ (ak ((idn,ob)::(id,.dead)::S.hp) i)
   rw[h2,h2',h3];exact bn.mono (bB.le_refl _) hle (fun _ _ h=>h) (fun _ _=>Y) (r.own j)
 ·obtain⟨j,_,h2,_,h3⟩:=key i h;rw[h2] at hb;exact r.priv j b c (by grind) hb
 ·obtain⟨j,h1,h2,_,h3⟩:=key i h;obtain⟨j',h1',h2',_,h3'⟩:=key i' h';rw[h2] at hb;rw[h2'] at hb';exact back _ _ _ _ h1 h1' (r.inj j j' b c c' (by grind) (by grind) hb hb')
 ·obtain⟨j,h1,h2,h2h,h3⟩:=key i h;rw[h2h] at hx;have q:=r.hid j x (by grind) hx;refine⟨q.lt,q.m,q.old,fun i' b c h' hb'=>?_,fun i' h' hx'=>?_⟩
  ·obtain⟨j',h1',h2',_,h3'⟩:=key i' h';rw[h2'] at hb';exact q.ne j' b c (by grind) hb'
  ·obtain⟨j',h1',h2',h2h',h3'⟩:=key i' h';rw[h2h'] at hx';exact back _ _ _ _ h1' h1 (q.un j' (by grind) hx')
 ·have hi':nx'<=i:=hi;rw[eo i (by omega)];exact r.nx i (by omega)
 ·obtain⟨h1,h2⟩:=r.pin q hq<;>grind
theorem bX.move(r:bX K m β w a S)(id:Nat){ob:Ob}(ho:ak S.hp id=ob)(hl:ob≠.dead)(hl2:ob≠.res):∃β':ba,β.le β'/\β' S.nx=β id/\bX K m β' w a ⟨S.env,(S.nx,ob)::(id,.dead)::S.hp,S.nx+1⟩:=
 r.moveG id S.nx (S.nx+1) (r.nx _ (ae9 _)) (fun q hq=>ak9 (r.pin q hq).1) (ak8 _) (al9 _) ho hl hl2
def HB(n:Nat):Hy:=fun m β m' β'=>m'=m/\β.le β'/\β' n=some none
instance {n:Nat}:jI (HB n):=⟨fun m β m' β' hy=>by rw[hy.1];exact bB.le_refl _⟩
theorem ai.keepNil{n:Nat}{v:V}:ai (HB n) v v:=fun _ _ _ _ _ hy hx=>by
 obtain⟨rfl,h,_⟩:=hy;exact hx.mono (bB.le_refl _) h
theorem ai.mkNil{n:Nat}:ai (HB n) (.own n 0) (.con (.slice none 0 0)):=fun _ _ _ _ _ hy hx=>by
 rw[hx.of_con];exact .ownNil hy.2.2
theorem va(e:TypeId)(k:Nat)(env:cc)(hp:aC)(henv:∀t,ai (HB S.nx) (get env t) (get S.env t))(hhp:∀i,ag (HB S.nx) (ak hp i) (ak S.hp i)):
  aY K S ⟨env,(S.nx,.arr e k [])::hp,S.nx+1⟩:=by
 intro m β w a r
 let β':ba:=⟨fun i=>if i=S.nx then some none else β i,fun i=>if i=S.nx then fun _=>False else β.hid i⟩
 have en:β' S.nx=some none:=by show(if _ then _ else _)=_;grind
 have eo:∀i,i≠S.nx->β' i=β i:=fun i h=>by grind
 have hn:β'.hid S.nx=fun _=>False:=by show(if _ then _ else _)=_;grind
 have hho:∀i,i≠S.nx->β'.hid i=β.hid i:=fun i h=>by grind
 have hle:β.le β':=by
  intro i l h;rw[eo i]
  ·exact h
  ·intro e;rw[e,r.nx _ (ae9 _)] at h;simp at h
 have hy:HB S.nx m β m β':=⟨rfl,hle,en⟩
 have hdead:∀i,ak hp i≠.dead->ak S.hp i≠.dead:=by
  intro i h hd;have h2:=hhp i;rw[hd] at h2;cases ho':ak hp i with
  |dead=>exact h ho'
  |arr=>simp_all[ag]
  |res=>simp_all[ag]
  |map=>simp_all[ag]
  |iter=>simp_all[ag]
  |bld=>simp_all[ag]
 have hlive:∀i b c,ak ((S.nx,.arr e k [])::hp) i≠.dead->β' i=some (some (b,c))->ak S.hp i≠.dead/\β i=some (some (b,c)):=by
  intro i b c h hb;rw[av] at h;by_cases hi:S.nx=i
  ·grind
  ·grind
 refine⟨m,β',r.imm,r.ext,r.mold,r.frame,r.size,r.same,r.tn,r.df,fun t=>henv t _ _ _ _ _ hy (r.env t),fun i=>?_,fun i b c h hb=>?_,fun i i' b c c' h h' hb hb'=>?_,fun i x h hx=>?_,fun i hi=>?_,fun q hq=>?_⟩
 ·show bn m β' w (β'.hid i) (β' i) (ak ((S.nx,.arr e k [])::hp) i)
  rw[av];by_cases hi:S.nx=i
  ·simp_all[bn]
  ·rw[if_neg hi];have h2:=hhp i;rw[eo i (Ne.symm hi),hho i (Ne.symm hi)];exact h2.ok hy (r.own i)
 ·obtain⟨h1,h2⟩:=hlive i b c h hb;exact r.priv i b c h1 h2
 ·obtain⟨h1,h2⟩:=hlive i b c h hb;obtain⟨h1',h2'⟩:=hlive i' b c' h' hb';exact r.inj i i' b c c' h1 h1' h2 h2'
 ·have h0:ak ((S.nx,.arr e k [])::hp) i≠.dead:=h;rw[av] at h0;by_cases hi:S.nx=i
  ·grind
  ·rw[if_neg hi] at h0;rw[hho i (Ne.symm hi)] at hx;have q:=r.hid i x (hdead i h0) hx;refine⟨q.lt,q.m,q.old,fun i' b c h' hb'=>?_,fun i' h' hx'=>?_⟩
   ·obtain⟨h1,h2⟩:=hlive i' b c h' hb';exact q.ne i' b c h1 h2
   ·have h0':ak ((S.nx,.arr e k [])::hp) i'≠.dead:=h';rw[av] at h0';by_cases hi':S.nx=i'
    ·grind
    ·rw[if_neg hi'] at h0';rw[hho i' (Ne.symm hi')] at hx';exact q.un i' (hdead i' h0') hx'
 ·have hi':S.nx+1<=i:=hi;rw[eo i (by omega)];exact r.nx i (by omega)
 ·obtain⟨h1,h2⟩:=r.pin q hq<;>grind
end
section
variable{K:cR}{Q:ca}{S S':St}{ops:Array Oper}{rest:List Oper}{op:Op}{ty:TypeId}{pos:String}{after:Array Edge}{g:Option (Nat×Bool)}
variable{m:bB}{β:ba}{w:World}{a:Act}
inductive xE(S:St)(k:Nat):V->List (List V)->Prop
 |own {id:Nat} {e:TypeId} {rows:List (List V)} {n:Nat} (ho:ak S.hp id=.arr e k rows) (hn:rows.length=n) (hd:∀row,row∈rows->∀c,c∈row->c.deep=false):xE S k (.own id n) rows
 |lst {rows:List (List V)} (h:∀row,row∈rows->row.all dF=true):xE S k (.lst k rows) rows
 |nil:xE S k (.con (.slice none 0 0)) []
 |str {s:B8} {rows:List (List V)} (hk:k=1) (hr:rows=s.map fun c=>[V.con (.int .u8 (c.toNat:Int))]):xE S k (.con (.string ⟨s.toArray⟩)) rows
theorem CC{k p n:Nat}(hk:0<k)(h:p<n*k):p / k<n/\p % k<k/\p / k*k+p % k=p:=
 ⟨(Nat.div_lt_iff_lt_mul hk).2 h,an8 _ hk,Nat.div_add_mod' p k⟩
theorem xE.read{k:Nat}{sv:V}{rows:List (List V)}(hk:0<k)(h:xE S k sv rows)(r:bX K m β w a S){x:Value}(hx:br m β sv x):
  ∃news:List Value,(∀w':World,w'.heap=w.heap->(Builtin.lenOf x).run K.P w'=.ok rows.length w'/\(Builtin.firstCells k rows.length x).run K.P w'=.ok news.toArray w')/\news.length=rows.length*k/\
   (∀v,v∈news->v.oneCell'=true)/\(∀row,row∈rows->row.length=k)/\
   ∀(i j:Nat) (row:List V) (c:V),rows[i]? = some row->row[j]? = some c->∃v,news[i*k+j]? = some v/\br m β c v/\v.oneCell'=true:=by
 -- from cells to the list
 have mk:∀(ad:Addr) (n cap:Nat) (arr:Array Value) (T:TypeId) (fr:Nat×Nat) (f:Nat->Value),ad.spot=none->w.heap[ad.block]? = some (.cells arr T fr)->rows.length=n->(∀row,row∈rows->row.length=k)->
   (∀i,i<rows.length*k->arr[ad.off+i]? = some (f i))->
   (∀(i j:Nat) (row:List V) (c:V),rows[i]? = some row->row[j]? = some c->br m β c (f (i*k+j))/\(f (i*k+j)).oneCell'=true)->
   ∃news:List Value,(∀w':World,w'.heap=w.heap->(Builtin.lenOf (.slice (some ad) n cap)).run K.P w'=.ok rows.length w'/\(Builtin.firstCells k rows.length (.slice (some ad) n cap)).run K.P w'=.ok news.toArray w')/\news.length=rows.length*k/\
   (∀v,v∈news->v.oneCell'=true)/\(∀row,row∈rows->row.length=k)/\
   ∀(i j:Nat) (row:List V) (c:V),rows[i]? = some row->row[j]? = some c->∃v,news[i*k+j]? = some v/\br m β c v/\v.oneCell'=true:=by
  intro ad n cap arr T fr f hs hh hn hr hf hc;subst hn;refine⟨(List.range (rows.length*k)).map f,fun w' hw'=>⟨rfl,?_⟩,by simp,?_,hr,?_⟩
  ·refine iH f fun j hj=>?_;rw[iX hs,dX,bW (arr:=arr) (T:=T) (fr:=fr) (by rw[hw'];exact hh)];exact hf j hj
  ·intro v hv;simp only[bf9,cl8] at hv;obtain⟨p,hp,rfl⟩:=hv;obtain⟨h1,h2,h3⟩:=CC hk hp;have hrow:=hr _ (bc9 h1);have:=(hc (p / k) (p % k) _ _ (az9 h1) (az9 (by rw[hrow];exact h2))).2;rw[h3] at this;exact this
  ·intro i j row c hi hj;have hrow:=hr _ (ay9 hi);have hj':j<k:=by rw[<-hrow];exact(bd9.1 hj).1
   have hi':=(bd9.1 hi).1
   have hlt:i*k+j<rows.length*k:=by
    calc i*k+j<i*k+k:=by omega
     _=(i+1)*k:=by rw[am9,Nat.one_mul]
     _<=rows.length*k:=bg9 _ hi'
   exact⟨f (i*k+j),by rw[az8,ba9 hlt];rfl,hc i j row c hi hj⟩
 have empty:∀(ad:Option Addr) (cap:Nat),rows=[]->∃news:List Value,(∀w':World,w'.heap=w.heap->(Builtin.lenOf (.slice ad 0 cap)).run K.P w'=.ok rows.length w'/\(Builtin.firstCells k rows.length (.slice ad 0 cap)).run K.P w'=.ok news.toArray w')/\news.length=rows.length*k/\
   (∀v,v∈news->v.oneCell'=true)/\(∀row,row∈rows->row.length=k)/\
   ∀(i j:Nat) (row:List V) (c:V),rows[i]? = some row->row[j]? = some c->∃v,news[i*k+j]? = some v/\br m β c v/\v.oneCell'=true:=by
  rintro ad cap rfl
  refine⟨[],fun w' _=>⟨rfl,?_⟩,by simp,by simp,by simp,by simp⟩;cases ad<;>simp[Builtin.firstCells,loadCells,loadCellsFrom,pure]
 cases h with
 | @own id e _ n ho hn hd=>
  subst hn;generalize hlen:rows.length=n at hx;cases hx with
  |imm h=>cases h
  |ownNil h=>have h0:=ay8.1 hlen;subst h0;exact empty _ _ Y
  | @own _ _ b cap hb=>
   obtain⟨arr,bl,h1,h2,h3,h4,h5,_,h6⟩:=r.obj hb ho;subst hlen;refine mk ⟨b,cap.off,none⟩ _ cap.n arr e (0,0) (fun i=>arr.getD (cap.off+i) undef) Y h1 Y h5 ?_ ?_
   ·intro i hi;have:cap.off+i<arr.size:=by rw[h2];have:=ck8 hi (bg9 k h3);omega
    simp[bm8,this]
   ·intro i j row c hi hj;obtain⟨v,a1,a2,a3⟩:=h6 i j row c hi hj;simp only[bm8,a1,bx8];exact⟨a2.v (hd row (ay9 hi) c (ay9 hj)),a3⟩
 |lst hone=>
  cases hx with
  |imm h=>
   cases h with
   |nil=>exact empty _ _ rfl
   | @lst _ _ ad n cap arr T fr f hm hs hn hcap hbd hkk hf h=>
    refine mk ad n cap arr T fr f hs (r.imm _ _ hm) hn hkk hf ?_;intro i j row c hi hj;have h1:=br.imm (β:=β) (h i j row c hi hj);exact⟨h1,h1.one (aq8.1 (hone row (ay9 hi)) c (ay9 hj))⟩
 |nil=>rw[hx.of_con];exact empty _ _ Y
 | @str s _ hk1 hr=>
  subst hk1 hr;rw[hx.of_con];refine⟨s.map fun c=>.int .u8 (c.toNat:Int),fun w' _=>⟨by simp[Builtin.lenOf,ByteArray.size,pure],?_⟩,by simp,by simp[Value.oneCell'],by simp,?_⟩
  ·have hl:(s.map fun c=>[V.con (.int .u8 (c.toNat:Int))]).length=(⟨s.toArray⟩:ByteArray).size:=by simp[ByteArray.size]
   rw[hl];simp only[Builtin.firstCells,pure,Sem.run,ByteArray.extract_zero_size]
   congr 1
   apply as8;simp
  ·intro i j row c hi hj;rw[az8] at hi;cases hs:s[i]? with
   |none=>rw[hs] at hi;cases hi
   |some u=>
    rw[hs] at hi;cases hi;cases j with
    |zero=>cases hj;exact⟨.int .u8 (u.toNat:Int),by simp[hs],.imm (.con _),Y⟩
    |succ j=>simp at hj
theorem oY{d T T' e k bytes n n' id:Nat}{s x:Operand}{sv:V}{rows:List (List V)}(idn nx':Nat)(hfree:∀m β w a,bX K m β w a S->β idn=none/\∀q,q<K.pins->q≠idn)(hidn:idn<nx')(hnn:S.nx<=nx')(rows2 rows':List (List V))(hT:eQ K.P T e k bytes=true)(hT':xM K.P T'=true)
  (hpos:Nat.blt 0 bytes=true) (hkp:Nat.blt 0 k=true)
  (hw:aN ops S ⟨some d,.call ⟨.builtin .append,#[s,x],#[T,T']⟩,ty,pos,after,g⟩ true)
  (hs:evl K S s=.own id n) (ho:ak S.hp id=.arr e k rows) (hn:rows.length=n) (hx:evl K S x=sv) (hsrc:xE S k sv rows2)
  (hr:rows++rows2=rows') (hn':rows'.length=n') (hb:n'*bytes<=140737488355328\/(rows2.length=1/\n'*bytes<=211106232532992/\bytes<=1000000)) (hN:Nat.blt d K.N=true)
  (kk:ay K ops rest Q ⟨(d,.own idn n')::S.env,(idn,.arr e k rows')::(id,.dead)::S.hp,nx'⟩):
  ay K ops (⟨some d,.call ⟨.builtin .append,#[s,x],#[T,T']⟩,ty,pos,after,g⟩::rest) Q S:=by
 refine cm hw (fun m β w a r=>?_) kk;have hpos:=ax8 hpos;have hkp:0<k:=ax8 hkp;obtain⟨news,n1,n2,n3,n4,n5⟩:=hsrc.read hkp r (by rw[<-hx];exact r.reads x);have hlen:n'=n+rows2.length:=by grind
 have hsv:=r.reads s;rw[hs] at hsv
 have hop:∀(v:Value) (w':World),(Builtin.append_ #[T,T'] ty #[a.eval s,a.eval x]).run K.P w=.ok v w'->
   (execOp a.eval ⟨some d,.call ⟨.builtin .append,#[s,x],#[T,T']⟩,ty,pos,after,g⟩).run K.P w=.ok (.value v) w':=by
  intro v w' h;refine dK Y ?_;simp only[builtin,bl8,bm9,ap8,Sem.run_bind,h,Result.andThen_ok];rfl
 -- rows of the result
 have hrows':∀row,row∈rows'->(∀row,row∈rows->row.length=k)->row.length=k:=by
  intro row h h5;rw[<-hr] at h;rcases bz8.1 h with h|h
  ·grind
  ·grind
 have hcells:∀(β':ba) (w':World) (bl:Nat->Nat->Prop) (off:Nat) (old:Nat->Option Value) (arr':Array Value),β.le β'->(∀p x,bl p x->w'.heap[x]? = w.heap[x]?)->(∀row,row∈rows->row.length=k)->
   (∀(i j:Nat) (row:List V) (c:V),rows[i]? = some row->row[j]? = some c->∃v,old (i*k+j)=some v/\eU m β w (bl (i*k+j)) c v/\v.oneCell'=true)->
   (∀p,p<n*k->arr'[off+p]? = old p)->(∀p,p<rows2.length*k->arr'[off+(n*k+p)]? = news[p]?)->
   ∀(i j:Nat) (row:List V) (c:V),rows'[i]? = some row->row[j]? = some c->∃v,arr'[off+(i*k+j)]? = some v/\eU m β' w' (bl (i*k+j)) c v/\v.oneCell'=true:=by
  intro β' w' bl off old arr' hle hbl h5 h6 ha hb' i j row c hi hj;have hrk:=hrows' row (ay9 hi) h5;have hjk:j<k:=by rw[<-hrk];exact(bd9.1 hj).1
  rw[<-hr,bu9] at hi
  have hmul:∀p q:Nat,p<q->p*k+j<q*k:=by
   intro p q hpq
   calc p*k+j<p*k+k:=by omega
    _=(p+1)*k:=by grind
    _<=q*k:=bg9 _ hpq
  split at hi
  ·rename_i hlt;obtain⟨v,a1,a2,a3⟩:=h6 i j row c hi hj;exact⟨v,by grind,a2.mono (bB.le_refl _) hle (fun _ h=>h) (fun x hx=>hbl _ x hx),a3⟩
  ·rename_i hlt;obtain⟨v,a1,a2,a3⟩:=n5 (i - rows.length) j row c hi hj;have hi2:=(bd9.1 hi).1
   have e1:i*k+j=n*k+((i - rows.length)*k+j):=by
    rw[<-af9,<-am9];congr 2;omega
   refine⟨v,?_,.inl (a2.mono (bB.le_refl _) hle),a3⟩
   simp_all
 -- a new block
 have hlid:ak S.hp id≠.dead:=by rw[ho];simp
 have grows:∀(bl:Nat->Nat->Prop) (hBl:HE (β.hid id) bl) (olds:List Value) (base:Option Addr) (cap:Nat),a.eval s=.slice base n cap->(∀w':World,w'.heap=w.heap->(Builtin.firstCells k n (.slice base n cap)).run K.P w'=.ok olds.toArray w')->olds.length=n*k->
   n<=cap->¬n+rows2.length<=cap->(∀row,row∈rows->row.length=k)->
   (∀(i j:Nat) (row:List V) (c:V),rows[i]? = some row->row[j]? = some c->∃v,olds[i*k+j]? = some v/\eU m β w (bl (i*k+j)) c v/\v.oneCell'=true)->
   ∃v w' m' β',((execOp a.eval ⟨some d,.call ⟨.builtin .append,#[s,x],#[T,T']⟩,ty,pos,after,g⟩).run K.P w=.ok (.value v) w'\/v=undef/\(execOp a.eval ⟨some d,.call ⟨.builtin .append,#[s,x],#[T,T']⟩,ty,pos,after,g⟩).run K.P w=.ok .skip w')/\
    bX K m' β' w' (a.put (some d) v) ⟨(d,.own idn n')::S.env,(idn,.arr e k rows')::(id,.dead)::S.hp,nx'⟩:=by
  intro bl hBl olds base cap hsx hold hol hcap hfit h5 h6;obtain⟨q1,_,q3⟩:=Bv (mm:=rows2.length) hpos hcap hfit (by grind);obtain⟨cap',arr',b1,b2,b3,b4,b5⟩:=jQ (ty:=ty) hT hT' rfl (hold { w with drawn:=w.drawn+1 } rfl) (n1 w rfl).1 (n1 { w with drawn:=w.drawn+1 } rfl).2 hol n2 hfit q1 q3;have r1:=(r.drawn (w.drawn+1) (al9 _)).kill id
  have hdd:∀i,ak ((id,.dead)::S.hp) i≠.dead->ak S.hp i≠.dead/\i≠id:=by
   intro i hi;rw[av] at hi;split at hi
   ·grind
   ·grind
  obtain⟨β',hle,hnx,r2⟩:=r1.allocG idn nx' (hfree m β w a r).1 (hfree m β w a r).2 hidn hnn (.cells arr' e (0,0)) (.arr e k rows') ⟨cap',0⟩ _ rfl (β.hid id)
   (fun x hx=>let q:=r.hid id x hlid hx;⟨q.lt,q.m,q.old,fun i b c hi hb=>q.ne i b c (hdd i hi).1 hb,fun i hi hx'=>(hdd i hi).2 (q.un i (hdd i hi).1 hx')⟩) (fun β' hle=>by
   refine jU (vs:=arr') bl hBl (by simp) (by grind) (by grind) b3 (fun row h=>hrows' row h h5) ?_;refine hcells β' _ bl 0 (fun p=>olds[p]?) arr' hle (fun p x hx=>?_) h5 h6 ?_ ?_
   ·have:=(r.hid id x hlid (hBl.1 p x hx)).lt
    grind
   ·grind
   grind)
  refine⟨.slice (some ⟨w.heap.size,0,none⟩) n' cap',{ w with drawn:=w.drawn+1,heap:=w.heap.push (.cells arr' e (0,0)) },m,β',.inl ?_,?_⟩
  ·grind
  ·exact bX.put r2 hN (.own hnx)
 generalize hsx:a.eval s=sx at hsv;cases hsv with
 |imm h=>cases h
 | @ownNil _ ad hbn=>
  have h0:=r.own id;rw[hbn,ho] at h0;have h0:rows=[]:=h0;subst h0;by_cases hfit:0+rows2.length<=0
  ·have h2:rows2=[]:=ay8.1 (by omega);subst h2;have h3:rows'=[]:=by rw[<-hr];rfl
   subst h3;have hn0:n'=0:=by simpa using hn'.symm
   subst hn0;obtain⟨β',hle,hnx,r2⟩:=r.moveG id idn nx' (hfree m β w a r).1 (hfree m β w a r).2 hidn hnn ho (by simp) (by simp);refine⟨.slice ad 0 0,w,m,β',.inl ?_,bX.put r2 hN (.ownNil (by grind))⟩;refine hop _ _ ?_;rw[hsx];obtain⟨i,z,hu,hi,hs',hby,hz,hzk⟩:=eX hT;have hk:K.P.cellsOf e=k:=by simp[Program.cellsOf,hi,hs']
   obtain⟨q1,q2⟩:=n1 w rfl;have hnews:news=[]:=ay8.1 (by grind);subst hnews;simp only[bs9] at q2;rcases oq hT' with ⟨e',hu'⟩|hu'
   all_goals
    simp only[Builtin.append_,bh8,bo9,bt9,Sem.run_bind,run_underlying hu,Result.andThen_ok,run_sizeOf w hi,hk,run_underlying hu',pure,Sem.run,
     cj8,if_false,q1,bs9,bg8,ae9,if_true,bw8]
    cases ad<;>simp[q2,storeCells,pure,Sem.run]
  ·exact grows _ j7 [] ad 0 hsx (fun w' _=>by cases ad<;>simp[Builtin.firstCells,loadCells,loadCellsFrom,pure]) (by simp) (ai8 _) hfit (by simp) (by simp)
 | @own _ _ b cap hbb=>
  obtain⟨arr,bl,h1,h2,h3,h4,h5,hBl,h6⟩:=r.obj hbb ho;have hnk:cap.off+n*k<=arr.size:=by rw[h2,<-hn];have:=bg9 k h3;omega
  by_cases hfit:n+rows2.length<=cap.n
  ·have hrun:=kU (ty:=ty) hT hT' h1 h2 (n1 w rfl).1 (n1 w rfl).2 n2 n3 hfit
   have hle2:cap.off+n*k+news.length<=arr.size:=by
    have:n*k+rows2.length*k<=cap.n*k:=by rw[<-am9];exact bg9 _ hfit
    rw[n2,h2];omega
   have hgt:∀p,(arr.toList.take (cap.off+n*k)++news++arr.toList.drop (cap.off+n*k+news.length)).toArray[p]? = if cap.off+n*k<=p/\p<cap.off+n*k+news.length then news[p - (cap.off+n*k)]? else arr[p]?:=by
    intro p;rw[bh8,iG _ _ _ (by grind)]
    grind
   have r1:=r.update (id:=id) (ob:=.arr e k rows') (by grind) hbb (w.setRow b (arr.toList.take (cap.off+n*k)++news++arr.toList.drop (cap.off+n*k+news.length)).toArray) (fun b' hb'=>lM hb') (by simp[World.setRow]) ⟨rfl,rfl,rfl,trivial⟩ (fun hkeep=>by
    refine jU bl hBl (gj h1) ?_ (by grind) h4 (fun row h=>hrows' row h h5) ?_
    ·grind
    ·refine hcells β _ bl cap.off (fun p=>arr[cap.off+p]?) _ (ba.le_refl _) (fun p x hx=>hkeep x (hBl.1 p x hx)) h5 h6 ?_ ?_
     ·grind
     grind)
   obtain⟨β',hle,hnx,r2⟩:=r1.moveG id idn nx' (hfree m β w a r).1 (hfree m β w a r).2 hidn hnn (ob:=.arr e k rows') (by rw[av];simp) (by simp) (by simp)
   have r3:bX K m β' (w.setRow b (arr.toList.take (cap.off+n*k)++news++arr.toList.drop (cap.off+n*k+news.length)).toArray) a ⟨S.env,(idn,.arr e k rows')::(id,.dead)::S.hp,nx'⟩:=by
    have hsame:∀i,ak ((idn,Ob.arr e k rows')::(id,.dead)::(id,.arr e k rows')::S.hp) i=ak ((idn,Ob.arr e k rows')::(id,.dead)::S.hp) i:=by
     intro i;simp only[av];by_cases q1:idn=i
     ·grind
     ·grind
    exact⟨r2.imm,r2.ext,r2.mold,r2.frame,r2.size,r2.same,r2.tn,r2.df,r2.env,fun i=>by have:=r2.own i;grind,
     fun i b c h=>r2.priv i b c (by grind),fun i i' b c c' h h'=>r2.inj i i' b c c' (by grind) (by grind),
     fun i x h hx=>let q:=r2.hid i x (by grind) hx;⟨q.lt,q.m,q.old,fun i' b c h'=>q.ne i' b c (by grind),fun i' h'=>q.un i' (by grind)⟩,r2.nx,r2.pin⟩
   refine⟨.slice (some ⟨b,cap.off,none⟩) n' cap.n,w.setRow b (arr.toList.take (cap.off+n*k)++news++arr.toList.drop (cap.off+n*k+news.length)).toArray,m,β',.inl ?_,bX.put r3 hN (.own (by grind))⟩
   grind
  ·refine grows bl hBl ((arr.toList.drop cap.off).take (n*k)) (some ⟨b,cap.off,none⟩) cap.n hsx (fun w' hw'=>?_) (by simp;omega) (by omega) hfit h5 ?_
   ·have:=iH (P:=K.P) (w:=w') (ad:=⟨b,cap.off,none⟩) (n:=n) (c:=cap.n) (k:=k) (fun j=>arr.getD (cap.off+j) undef) (fun j hj=>by
     rw[dX,bW (arr:=arr) (T:=e) (fr:=(0,0)) (by grind)];have:cap.off+j<arr.size:=by omega
     simp_all)
    rw[this]
    congr 2
    apply at9;intro j;rw[az8,bi9];by_cases hj:j<n*k
    ·rw[ba9 hj,if_pos hj,av9];have:cap.off+j<arr.size:=by omega
     simp_all
    grind
   ·intro i j row c hi hj;obtain⟨v,a1,a2,a3⟩:=h6 i j row c hi hj;refine⟨v,?_,a2,a3⟩;rw[bi9,if_pos]
    ·grind
    ·have hrk:=h5 row (ay9 hi);have hjk:j<k:=by rw[<-hrk];exact(bd9.1 hj).1
     calc i*k+j<i*k+k:=by omega
      _=(i+1)*k:=by grind
      _<=n*k:=bg9 _ (by grind)
theorem oW{d T T' e k bytes n n' id:Nat}{s x:Operand}{sv:V}{rows:List (List V)}(rows2 rows':List (List V))(hT:eQ K.P T e k bytes=true)(hT':cQ K.P T'=true)
  (hpos:Nat.blt 0 bytes=true) (hkp:Nat.blt 0 k=true)
  (hw:aN ops S ⟨some d,.call ⟨.builtin .append,#[s,x],#[T,T']⟩,ty,pos,after,g⟩ true)
  (hs:evl K S s=.own id n) (ho:ak S.hp id=.arr e k rows) (hn:rows.length=n) (hx:evl K S x=sv) (hsrc:xE S k sv rows2)
  (hr:rows++rows2=rows') (hn':rows'.length=n') (hb:n'*bytes<=140737488355328\/(rows2.length=1/\n'*bytes<=211106232532992/\bytes<=1000000)) (hN:Nat.blt d K.N=true)
  (kk:ay K ops rest Q ⟨(d,.own S.nx n')::S.env,(S.nx,.arr e k rows')::(id,.dead)::S.hp,S.nx+1⟩):
  ay K ops (⟨some d,.call ⟨.builtin .append,#[s,x],#[T,T']⟩,ty,pos,after,g⟩::rest) Q S:=
 oY S.nx (S.nx+1) (fun _ _ _ _ r=>⟨r.nx _ (ae9 _),fun q hq=>ak9 (r.pin q hq).1⟩) (ak8 _) (al9 _) rows2 rows' hT (nB hT') hpos hkp hw hs ho hn hx hsrc hr hn' hb hN kk
theorem mc{d T T' e k bytes n n' id:Nat}{s x:Operand}{sv:V}{rows:List (List V)}(rows2 rows':List (List V))(hT:eQ K.P T e k bytes=true)(hT':cQ K.P T'=true)
  (hpos:Nat.blt 0 bytes=true) (hkp:Nat.blt 0 k=true)
  (hw:aN ops S ⟨some d,.call ⟨.builtin .append,#[s,x],#[T,T']⟩,ty,pos,after,g⟩ true)
  (hs:evl K S s=.own id n) (ho:ak S.hp id=.arr e k rows) (hn:rows.length=n) (hx:evl K S x=sv) (hsrc:xE S k sv rows2)
  (hr:rows++rows2=rows') (hn':rows'.length=n') (hb:n'*bytes<=140737488355328) (hN:Nat.blt d K.N=true)
  (kk:ay K ops rest Q ⟨(d,.own S.nx n')::S.env,(S.nx,.arr e k rows')::(id,.dead)::S.hp,S.nx+1⟩):
  ay K ops (⟨some d,.call ⟨.builtin .append,#[s,x],#[T,T']⟩,ty,pos,after,g⟩::rest) Q S:=
 oW rows2 rows' hT hT' hpos hkp hw hs ho hn hx hsrc hr hn' (.inl hb) hN kk
end
section
variable{K:cR}{Q:ca}{S S':St}{ops:Array Oper}{rest:List Oper}{op:Op}{ty:TypeId}{pos:String}{after:Array Edge}{g:Option (Nat×Bool)}
variable{m:bB}{β:ba}{w:World}{a:Act}
theorem yM(off:Nat):∀(l:List Value) (s:Nat) (cells:Array Value),off+s+l.length<=cells.size->
  ((l.zipIdx s).foldl (fun(cs:Array Value) (x:Value×Nat)=>cs.setIfInBounds (off+x.2) x.1) cells).size=cells.size/\
  ∀p,((l.zipIdx s).foldl (fun(cs:Array Value) (x:Value×Nat)=>cs.setIfInBounds (off+x.2) x.1) cells)[p]? = if off+s<=p/\p<off+s+l.length then l[p - (off+s)]? else cells[p]?
 |[],s,cells,_=>by
  simp_all[if_neg]
 |v::l,s,cells,h=>by
  simp only[bx9] at h;obtain⟨h1,h2⟩:=yM off l (s+1) (cells.setIfInBounds (off+s) v) (by simp;omega);simp only[List.zipIdx_cons,List.foldl_cons]
  grind
def ji(pl:Nat->Option (Nat×Nat)):List V->List (Nat×V)->Option (List V)
 |cs,[]=>some cs
 |cs,(i,v)::rest=>
  match pl i with
  |none=>none
  |some (off,size)=>bif Nat.beq (dl v).length size&&Nat.ble (off+(dl v).length) cs.length&&(dl v).all dF then ji pl (cs.take off++dl v++cs.drop (off+(dl v).length)) rest else none
def Ht(m:bB)(β:ba)(cs:List V)(vs:Array Value):Prop:=
 cs.length=vs.size/\∀(i:Nat) (c:V) (u:Value),cs[i]? = some c->vs[i]? = some u->br m β c u/\u.oneCell'=true
theorem lR{pl:Nat->Option (Nat×Nat)}:∀(parts:List (Nat×V)) (eV:List (Nat×Value)) (cs cs':List V) (cells:Array Value),ji pl cs parts=some cs'->Ht m β cs cells->
  parts.length=eV.length->(∀(i:Nat) (p:Nat×V) (q:Nat×Value),parts[i]? = some p->eV[i]? = some q->p.1=q.1/\br m β p.2 q.2)->
  ∃cells',Instr.fill pl cells eV=some cells'/\Ht m β cs' cells'
 |[],[],cs,cs',cells,h,hc,_,_=>by
  simp only[ji,ax9] at h;subst h;exact⟨cells,Y,hc⟩
 |(i,v)::parts,(i',u)::eV,cs,cs',cells,h,hc,hl,hr=>by
  obtain⟨e1,e2⟩:=hr 0 _ _ rfl rfl;simp only at e1 e2;subst e1;simp only[ji] at h;cases hp:pl i with
  |none=>grind
  |some p=>
   obtain⟨off,size⟩:=p;simp only[hp,cond_eq_ite,aq9] at h;split at h
   ·rename_i hcond;obtain⟨⟨q1,q2⟩,q3⟩:=hcond;have q1:=ci9 q1;have q2:=ax8 q2;obtain⟨c1,c2,c3⟩:=e2.cells q3;obtain⟨f1,f2⟩:=yM off u.cells.toList 0 cells (by simp only[bg8,bk8,<-c1,<-hc.1];exact q2);simp only[bg8,bk8] at f2
    obtain⟨cells',g1,g2⟩:=lR parts eV _ cs' ((u.cells.toList.zipIdx 0).foldl (fun(cs:Array Value) (x:Value×Nat)=>cs.setIfInBounds (off+x.2) x.1) cells) h (by
     refine⟨by rw[f1];simp only[bi8,bk9,am8,<-hc.1];omega,fun j c x hj hx=>?_⟩;rw[iG _ _ _ q2] at hj;rw[f2] at hx;by_cases hjj:off<=j/\j<off+(dl v).length
     ·grind
     ·rw[if_neg hjj] at hj;rw[if_neg (by grind)] at hx;exact hc.2 j c x hj hx) (by grind) (fun i p q h1 h2=>hr (i+1) p q (by grind) (by grind))
    refine⟨cells',?_,g2⟩;unfold Instr.fill;simp only[hp];rw[if_neg]
    ·rw[<-g1]
     congr 1
     grind [Array.toList_zipIdx]
    ·simp only[ne_eq,ar8,decide_eq_true_eq,not_or,Decidable.not_not,Nat.not_lt];exact⟨by grind,by rw[<-c1,<-hc.1];exact q2⟩
   grind
 |[],q::eV,_,_,_,_,_,hl,_=>by simp at hl
 |p::parts,[],_,_,_,_,_,hl,_=>by simp at hl
def jP(P:Program)(T:TypeId):Option (List (Nat×Nat)):=
 match P.underlying T with
 |some (.struct fs)=>fs.toList.mapM fun f=>(P.info? f.type).map fun i=>(f.offset,i.size)
 |_=>none
theorem mD(r:bX K m β w a S)(parts:Array (Nat×Operand))(ps:List (Nat×V))(h:parts.toList.map (fun p=>(p.1,evl K S p.2))=ps):
  ps.length=(parts.map fun(i,x)=>(i,a.eval x)).toList.length/\
  ∀(i:Nat) (p:Nat×V) (q:Nat×Value),ps[i]? = some p->(parts.map fun(i,x)=>(i,a.eval x)).toList[i]? = some q->p.1=q.1/\br m β p.2 q.2:=by
 subst h;refine⟨by simp,fun i p q h1 h2=>?_⟩;simp only[Array.toList_map,az8] at h1 h2;cases hx:parts.toList[i]? with
 |none=>grind
 |some x=>
  simp[hx] at h1 h2;subst h1;subst h2;exact⟨Y,r.reads x.2⟩
theorem kb{zs:List Value}(h1:zs.all (·.oneCell')=true)(m:bB)(β:ba):Ht m β (zs.map .con) zs.toArray:=by
 refine⟨by simp,fun i c u hc hu=>?_⟩;simp only[az8,bh8] at hc hu;rw[hu] at hc;simp at hc;subst hc;exact⟨.imm (.con u),aq8.1 h1 u (ay9 hu)⟩
theorem AR{d:Nat}{T:TypeId}{parts:Array (Nat×Operand)}{zs:List Value}{pls:List (Nat×Nat)}(ps:List (Nat×V))(cs:List V)(hz:zeroCells K.P T=some zs)(hp:jP K.P T=some pls)
  (h1:zs.all (·.oneCell')=true) (hw:aN ops S ⟨some d,.build T parts,ty,pos,after,g⟩ true)
  (hps:parts.toList.map (fun p=>(p.1,evl K S p.2))=ps) (hf:ji (fun i=>pls[i]?) (zs.map .con) ps=some cs) (hN:Nat.blt d K.N=true)
  (kk:ay K ops rest Q (S.put d (.agg cs))):ay K ops (⟨some d,.build T parts,ty,pos,after,g⟩::rest) Q S:=
 aX _ hw hN (fun m β w a r=>by
  obtain⟨hl,hr⟩:=mD r parts ps hps;obtain⟨cells',f1,f2⟩:=lR ps _ _ cs zs.toArray hf (kb h1 m β) hl hr
  have hb:K.P.built T (parts.map fun(i,x)=>(i,a.eval x)).toList=some cells':=by
   unfold zeroCells at hz;unfold jP at hp;cases hi:K.P.info? T with
   |none=>grind
   |some i=>
    cases hzz:i.zero with
    |none=>grind
    |some z=>
     simp[hi,hzz] at hz;cases hu:K.P.underlying T with
     |none=>grind
     |some dd=>
      cases dd<;>simp only[hu,reduceCtorEq] at hp;rename_i fs;simp only[Program.built,hi,hu,hzz,hp];rw[<-f1,<-hz];simp
  refine⟨.agg cells',by simp_all[execOp,run_build],.agg f2.1 fun i c v hc hv=>(f2.2 i c v hc hv).1⟩) kk
def oG:List (List V)->List V
 |[]=>[]
 |r::rs=>r++oG rs
theorem lQ{k:Nat}:∀(rows:List (List V)),(∀row,row∈rows->row.length=k)->(oG rows).length=rows.length*k
 |[],_=>by simp[oG]
 |r::rs,h=>by
  simp only[oG,bi8,bx9,am9,Nat.one_mul,h r (by simp),lQ rs (fun row hr=>h row (by simp[hr]))];omega
theorem sQ{k:Nat}:∀(rows:List (List V)),(∀row,row∈rows->row.length=k)->∀(i j:Nat) row c,rows[i]? = some row->row[j]? = some c->(oG rows)[i*k+j]? = some c
 |[],_,i,j,row,c,hi,_=>by simp at hi
 |r::rs,h,i,j,row,c,hi,hj=>by
  simp only[oG];have hrk:=h r (by simp);have hj1:=(bd9.1 hj).1;cases i with
  |zero=>
   grind
  |succ i=>
   simp at hi;rw[au9 (by grind)];have:(i+1)*k+j - r.length=i*k+j:=by rw[hrk,am9,Nat.one_mul];omega
   simp_all[sQ]
theorem ax{d T e k bytes n:Nat}{parts:Array (Nat×Operand)}{zs:List Value}(ps:List (Nat×V))(rows:List (List V))(hT:eQ K.P T e k bytes=true)(hz:zeroCells K.P e=some zs)
  (h1:zs.all (·.oneCell')=true) (hk:Nat.blt 0 k=true) (hnn:Nat.blt 0 n=true) (hbig:Nat.ble (n*k) 16777216=true) (hw:aN ops S ⟨some d,.buildSlice T n parts,ty,pos,after,g⟩ true)
  (hps:parts.toList.map (fun p=>(p.1,evl K S p.2))=ps) (hf:ji (fun i=>some (i*k,k)) (((List.range (n*k)).map fun i=>zs.getD (i % k) undef).map .con) ps=some (oG rows))
  (hrl:rows.length=n) (hrk:∀row,row∈rows->row.length=k) (hN:Nat.blt d K.N=true)
  (kk:ay K ops rest Q ⟨(d,.own S.nx n)::S.env,(S.nx,.arr e k rows)::S.hp,S.nx+1⟩):
  ay K ops (⟨some d,.buildSlice T n parts,ty,pos,after,g⟩::rest) Q S:=by
 refine cm hw (fun m β w a r=>?_) kk;have hk:=ax8 hk;have hnn:=ax8 hnn;have hbig:=ax8 hbig;obtain⟨hl,hr⟩:=mD r parts ps hps;obtain⟨i,z,hu,hi,hs,hby,hzz,hzk⟩:=eX hT;obtain⟨z',hz1,hz2⟩:=oo hz w
 have hzl:zs.length=k:=by
  have:zeroCells K.P e=some z.cells.toList:=by simp[zeroCells,hi,hzz]
  rw[hz] at this;simp only[ax9] at this;rw[this];simp[hzk]
 have hkk:K.P.cellsOf e=k:=by simp[Program.cellsOf,hi,hs]
 have hrows:0<n*k:=Nat.mul_pos hnn hk;have hall:∀v,v∈zs->v.oneCell'=true:=fun v hv=>aq8.1 h1 v hv
 have hzc:(Array.range (n*k)).map (fun x=>(z'.cells)[x % z'.cells.size]!)=(((List.range (n*k)).map fun i=>zs.getD (i % k) undef)).toArray:=by
  apply as8;simp only[Array.toList_map,Array.toList_range,hz2,bn8,hzl];apply List.map_congr_left;intro x _;have:x % k<zs.length:=by rw[hzl];exact an8 _ hk
  simp[this]
 obtain⟨cells',f1,f2⟩:=lR ps _ _ (oG rows) (((List.range (n*k)).map fun i=>zs.getD (i % k) undef)).toArray hf (kb (by
  simp_all[an8]) m β) hl hr
 have hsize:cells'.size=n*k:=by rw[<-f2.1,lQ rows hrk,hrl]
 obtain⟨β',hle,hnx,r2⟩:=r.alloc (.cells cells' e (0,0)) (.arr e k rows) ⟨n,0⟩ _ rfl (fun β' hle=>by
  refine dZ (vs:=cells') (by simp) hsize (by omega) (by unfold maxLen;have:=cd8 n hk;omega) hrk ?_;intro i j row c hi hj;have hg:=sQ rows hrk i j row c hi hj;have hlt:i*k+j<cells'.size:=by rw[<-f2.1];exact(bd9.1 hg).1
  obtain⟨a1,a2⟩:=f2.2 _ c cells'[i*k+j] hg (by simp[hlt]);exact⟨cells'[i*k+j],by simp[hlt],a1.mono (bB.le_refl _) hle,a2⟩)
 refine⟨.slice (some ⟨w.heap.size,0,none⟩) n n,{ w with heap:=w.heap.push (.cells cells' e (0,0)) },m,β',.inl ?_,bX.put r2 hN (.own hnx)⟩;simp only[execOp];rw[Sem.run_bind]
 have:(Instr.buildSlice T n (parts.map fun(i,x)=>(i,a.eval x))).run K.P w=.ok (.slice (some ⟨w.heap.size,0,none⟩) n n) { w with heap:=w.heap.push (.cells cells' e (0,0)) }:=by
  simp only[Instr.buildSlice,Sem.run_bind,run_underlying hu,Result.andThen_ok,run_sizeOf w hi,hkk];rw[if_neg (by omega),if_neg (by omega)];simp only[Sem.run_bind,hz1,Result.andThen_ok,pure,Sem.run,hzc,f1,newRow,newObj]
 simp_all
theorem ug{d f:Nat}{captured:Array Operand}(cs:List V)(hw:aN ops S ⟨some d,.makeFunc (.func f) #[] captured,ty,pos,after,g⟩ true)
  (hc:captured.toList.map (evl K S)=cs) (hN:Nat.blt d K.N=true) (kk:ay K ops rest Q (S.put d (.fn (.func f) [] cs))):
  ay K ops (⟨some d,.makeFunc (.func f) #[] captured,ty,pos,after,g⟩::rest) Q S:=
 aX _ hw hN (fun m β w a r=>by
  refine⟨.func (.func f) #[] (captured.map a.eval),by simp_all[execOp,Instr.makeFunc],.fn Y (by grind) (by simp) fun i c v h1 h2=>?_⟩;rw[<-hc,az8] at h1;rw[cb8] at h2;cases hx:captured[i]? with
  |none=>grind
  |some x=>
   simp[hx] at h1 h2;subst h1;subst h2;exact r.reads x) kk
inductive pc:V->Prop
 |con (v:Value):pc (.con v)
 |any:pc .any
 |tup {ds:List V} (h:∀d,d∈ds->∃v,d=.con v):pc (.tup ds)
theorem pc.free{d:V}(h:pc d){m m':bB}{v:Value}(hv:bN m d v):bN m' d v:=by
 cases h with
 |con=>cases hv;exact .con _
 |any=>exact .any _
 |tup h=>
  cases hv with
  |tup hl hh=>
   refine .tup hl fun i c v hi hv=>?_;obtain⟨u,rfl⟩:=h c (ay9 hi);have:=hh i _ v hi hv;cases this;exact .con _
theorem vf{o:Oper}{d:Nat}{f:FuncId}{dv:V}{avs:List V}(hw:aN ops S o true)(hd:o.dst=some d)(hN:Nat.blt d K.N=true)(hg:aY K S S')(hfl:pc dv)
  (hrun:∀m β w a,bX K m β w a S'->∃vs:Array Value,(execOp a.eval o).run K.P w=.ok (.enter f vs) w/\nA m avs vs)
  (hc:dY K.gl K.P f avs dv) (kk:ay K ops rest Q (S.put d dv)):ay K ops (o::rest) Q S:=by
 intro m β w a r;unfold wpListIn;rw[if_pos (hw.at r)];obtain⟨m1,β1,r1⟩:=hg m β w a r;obtain⟨vs,h1,h2⟩:=hrun m1 β1 w a r1;refine fY (.inr (kr h1 (fun d e=>by cases e))) ?_;unfold Oper.wp;rw[h1];refine(hc m1 w vs r1.imm (K.glok.mono r1.ext) h2).mono ?_
 rintro e w' ⟨v,m',rfl,h3,h4⟩
 simp only[hd];have hg:ur m m w w':=⟨bB.le_refl _,fun b o h=>by have:=r.imm b o h;rw[h4.heap b (bD this)];exact this,fun _ _=>rfl,h4.heap,h4.size,h4.same⟩;exact kk m β w' _ ((r.grow hg).put hN (.imm (hfl.free h3)))
theorem eF{d:Nat}{f:FuncId}{args:Array Operand}{at':Array TypeId}(dv:V)(avs:List V)(hf:cE K.P f=true)(hg:aY K S S')(hfl:pc dv)
  (hw:aN ops S ⟨some d,.call ⟨.value (.func f),args,at'⟩,ty,pos,after,g⟩ true)
  (ha:args.toList.map (evl K S')=avs) (hi:cv avs) (hc:dY K.gl K.P f avs dv) (hN:Nat.blt d K.N=true) (kk:ay K ops rest Q (S.put d dv)):
  ay K ops (⟨some d,.call ⟨.value (.func f),args,at'⟩,ty,pos,after,g⟩::rest) Q S:=
 vf hw rfl hN hg hfl (te hf ha hi) hc kk
theorem qV{d:Nat}{f:FuncId}{fx:Operand}{first captured:List V}{args:Array Operand}{at':Array TypeId}(dv:V)(avs:List V)(hf:cE K.P f=true)(hg:aY K S S')(hfl:pc dv)
  (hw:aN ops S ⟨some d,.call ⟨.value fx,args,at'⟩,ty,pos,after,g⟩ true) (hfx:evl K S' fx=.fn (.func f) first captured)
  (ha:first++args.toList.map (evl K S')++captured=avs) (hi:cv avs) (hc:dY K.gl K.P f avs dv) (hN:Nat.blt d K.N=true) (kk:ay K ops rest Q (S.put d dv)):
  ay K ops (⟨some d,.call ⟨.value fx,args,at'⟩,ty,pos,after,g⟩::rest) Q S:=
 vf hw rfl hN hg hfl (De hf hfx ha hi) hc kk
end
section
variable{K:cR}{Q:ca}{S S':St}{ops:Array Oper}{rest:List Oper}{op:Op}{ty:TypeId}{pos:String}{after:Array Edge}{g:Option (Nat×Bool)}
variable{m:bB}{β:ba}{w:World}{a:Act}
structure ja(P:Program)(T:TypeId)(good:Value->Prop):Prop where
 check:∀(b:Bool) (w:World) (v:Value),good v->(Instr.checkKey b 10000 T v).run P w=.ok () w
 find:∀(w:World) (x:Value),good x->∀es:List MapEntry,(∀e,e∈es->good e.key)->
  ((Instr.findKey T x es).run P w=.ok none w/\∀e,e∈es->e.key≠x) ∨
  ∃j e,(Instr.findKey T x es).run P w=.ok (some (j,e.val)) w/\es[j]? = some e/\e.key=x/\∀i e',i<j->es[i]? = some e'->e'.key≠x
 stays:∀(w:World) (v:Value),good v->(Instr.keyThatStays v v).run P w=.ok v w
theorem yN{kind:TypeDesc}{good:Value->Prop}{x:Value}(h:∀v,good v->(v=x/\Instr.sameNow kind x v=some true)\/(v≠x/\Instr.sameNow kind x v=some false)):
  ∀(es:List MapEntry) (n:Nat),(∀e,e∈es->good e.key)->
  (Instr.findNow kind x es n=some none/\∀e,e∈es->e.key≠x) ∨
  ∃j e,Instr.findNow kind x es n=some (some (n+j,e.val))/\es[j]? = some e/\e.key=x/\∀i e',i<j->es[i]? = some e'->e'.key≠x
 |[],n,_=>.inl ⟨rfl,by simp⟩
 |e::es,n,hg=>by
  rcases h e.key (hg e (by simp)) with ⟨h1,h2⟩|⟨h1,h2⟩
  ·exact .inr ⟨0,e,by simp[Instr.findNow,h2],rfl,h1,by simp⟩
  ·rcases yN h es (n+1) (fun e' he'=>hg e' (by simp[he'])) with ⟨a1,a2⟩|⟨j,e',a1,a2,a3,a4⟩
   ·simp_all[Instr.findNow]
   ·refine .inr ⟨j+1,e',by grind [Instr.findNow],by grind,a3,fun i e'' hi he''=>?_⟩
    grind
theorem yt{P:Program}{T:TypeId}{kind:TypeDesc}{good:Value->Prop}(hu:P.underlying T=some kind)
  (hc:∀(b:Bool) (w:World) (v:Value),good v->(Instr.checkKey b 10000 T v).run P w=.ok () w)
  (h:∀x,good x->∀v,good v->(v=x/\Instr.sameNow kind x v=some true)\/(v≠x/\Instr.sameNow kind x v=some false))
  (hs:∀v,good v->Instr.sameBits 10000 v v=true):ja P T good where
 check:=hc
 find:=by
  intro w x hx es hes;rcases yN (h x hx) es 0 hes with ⟨a1,a2⟩|⟨j,e,a1,a2,a3,a4⟩
  ·simp_all[Instr.findKey,run_underlying]
  ·exact .inr ⟨j,e,by simp_all[Instr.findKey,run_underlying],a2,a3,a4⟩
 stays:=by
  simp_all[Instr.keyThatStays]
def Nl(k:IntKind)(v:Value):Prop:=∃n,v=.int k n
def ng(v:Value):Prop:=∃s,v=.string s
theorem mQ(a b:ByteArray):(a==b)=decide (a=b):=by
 obtain⟨a⟩:=a;obtain⟨b⟩:=b
 show(a==b)=_
 grind
theorem sD{P:Program}{T:TypeId}(hu:P.underlying T=some .string):ja P T ng:=by
 refine yt hu ?_ ?_ ?_
 ·rintro b w v ⟨n,rfl⟩
  have:(10000:Nat)=9999+1:=rfl;rw[this,Instr.checkKey]
  simp_all[run_underlying]
 ·rintro x ⟨n,rfl⟩ v ⟨n',rfl⟩
  grind [Instr.sameNow,mQ]
 ·rintro v ⟨n,rfl⟩;simp[Instr.sameBits,mQ]
inductive i4(x:Value):List (Value×V)->Option V->Prop
 |nil:i4 x [] none
 |here {v:V} {es:List (Value×V)}:i4 x ((x,v)::es) (some v)
 |there {k:Value} {v:V} {es:List (Value×V)} {r:Option V} (h:k≠x) (h':i4 x es r):i4 x ((k,v)::es) r
theorem i4.none_of{x:Value}{es:List (Value×V)}{r:Option V}(h:i4 x es r)(hn:∀p,p∈es->p.1≠x):r=none:=by
 induction h<;>simp_all
theorem i4.some_of{x:Value}{es:List (Value×V)}{r:Option V}(h:i4 x es r):∀(j:Nat) (v:V),es[j]? = some (x,v)->(∀i p,i<j->es[i]? = some p->p.1≠x)->r=some v:=by
 induction h with
 |nil=>grind
 |here=>
  intro j v hj hi;cases j with
  |zero=>grind
  |succ j=>exact absurd rfl (hi 0 _ (by omega) rfl)
 |there h _ ih=>
  intro j v hj hi;cases j<;>grind
inductive ic(x:Value)(v:V):List (Value×V)->List (Value×V)->Prop
 |nil:ic x v [] [(x,v)]
 |here {v':V} {es:List (Value×V)}:ic x v ((x,v')::es) ((x,v)::es)
 |there {k:Value} {v':V} {es es':List (Value×V)} (h:k≠x) (h':ic x v es es'):ic x v ((k,v')::es) ((k,v')::es')
theorem ic.none_of{x:Value}{v:V}{es es':List (Value×V)}(h:ic x v es es')(hn:∀p,p∈es->p.1≠x):es'=es++[(x,v)]:=by
 induction h<;>simp_all
theorem ic.some_of{x:Value}{v:V}{es es':List (Value×V)}(h:ic x v es es'):∀(j:Nat) (v':V),es[j]? = some (x,v')->(∀i p,i<j->es[i]? = some p->p.1≠x)->es'=es.set j (x,v):=by
 induction h with
 |nil=>grind
 |here=>
  intro j v' hj hi;cases j with
  |zero=>rfl
  |succ j=>exact absurd rfl (hi 0 _ (by omega) rfl)
 |there h _ ih=>
  intro j v' hj hi;cases j<;>grind
def eh(P:Program)(T k e:TypeId):Bool:=match P.underlying T with|some (.map k' e')=>k'==k&&e'==e|_=>false
theorem cU{P:Program}{T k e:TypeId}(h:eh P T k e=true):P.underlying T=some (.map k e):=by
 unfold eh at h
 grind
theorem lE{α:Type}(f:α->α)(e:α):∀(l:List α) (j:Nat),l[j]? = some e->(l.modify j f).Perm (f e::l.eraseIdx j)
 |[],j,h=>by simp at h
 |x::l,0,h=>by simp_all
 |x::l,j+1,h=>by
  simp only[List.modify_succ_cons,List.eraseIdx_cons_succ];exact((lE f e l j (by simpa using h)).cons x).trans (List.Perm.swap _ _ _)
theorem fw{α:Type}(e:α):∀(l:List α) (j:Nat),l[j]? = some e->l.Perm (e::l.eraseIdx j)
 |[],j,h=>by simp at h
 |x::l,0,h=>by simp_all
 |x::l,j+1,h=>by
  simp only[List.eraseIdx_cons_succ];exact((fw e l j (by simpa using h)).cons x).trans (List.Perm.swap _ _ _)
theorem qg{α:Type}(f:α->α){e:α}{l L:List α}{j k:Nat}(h:l.Perm L)(h1:l[j]? = some e)(h2:L[k]? = some e):(l.modify j f).Perm (L.modify k f):=
 (lE f e l j h1).trans ((((((fw e l j h1).symm.trans h).trans (fw e L k h2)).cons_inv).cons (f e)).trans (lE f e L k h2).symm)
theorem nF{α β:Type}(f:α->α)(g:α->β):∀(l:List α) (k:Nat),(∀e,l[k]? = some e->g (f e)=g e)->(l.modify k f).map g=l.map g
 |[],k,_=>by simp
 |x::l,0,h=>by grind
 |x::l,k+1,h=>by simp_all[nF]
theorem AW.push{E:Array MapEntry}{clock:Nat}(q:AW E clock)(k v:Value)(hk:∀e,e∈E.toList->e.key≠k):AW (E.push { key:=k,val:=v,born:=clock }) (clock+1) where
 born:=by
  rw[br9,cm8,ca9];refine⟨q.born,by simp,fun a ha b hb=>?_⟩;obtain⟨e,he,rfl⟩:=bf9.1 ha;simp at hb;subst hb;have:=q.lt e he;omega
 lt:=fun e he=>by
  rw[br9,bz8] at he;rcases he with he|he
  ·have:=q.lt e he;omega
  grind
 key:=by
  rw[br9,cm8,ca9];refine⟨q.key,by simp,fun a ha b hb=>?_⟩
  grind
theorem AW.modify{E:Array MapEntry}{clock j:Nat}(q:AW E clock)(f:MapEntry->MapEntry)(hb:∀e,(f e).born=e.born)(hk:∀e,E[j]? = some e->(f e).key=e.key):AW (E.modify j f) clock:=by
 have e1:(E.modify j f).toList.map (·.born)=E.toList.map (·.born):=by rw[br8];exact nF f _ _ _ (fun e _=>hb e)
 have e2:(E.modify j f).toList.map (·.key)=E.toList.map (·.key):=by rw[br8];exact nF f _ _ _ (fun e he=>hk e (by grind))
 refine⟨by rw[e1];exact q.born,fun e he=>?_,by rw[e2];exact q.key⟩;have:e.born∈(E.modify j f).toList.map (·.born):=bf9.2 ⟨e,he,rfl⟩;rw[e1] at this;obtain⟨e',h1,h2⟩:=bf9.1 this;rw[<-h2];exact q.lt e' h1
theorem AW.nil:AW #[] 0:=⟨by simp,by simp,by simp⟩
theorem uU{o:Option Obj}(h:o=some (.map #[] 0)):ny o #[] 0:=⟨#[],h,.refl _,.nil⟩
theorem wZ{d:Nat}{T:TypeId}(hw:aN ops S ⟨some d,.makeMap T none,ty,pos,after,g⟩ true)(hN:Nat.blt d K.N=true)
  (kk:ay K ops rest Q ⟨(d,.map S.nx)::S.env,(S.nx,.map [])::S.hp,S.nx+1⟩):ay K ops (⟨some d,.makeMap T none,ty,pos,after,g⟩::rest) Q S:=by
 refine cm hw (fun m β w a r=>?_) kk;obtain⟨β',hle,hnx,r2⟩:=r.alloc (.map #[] 0) (.map []) ⟨0,0⟩ _ rfl (fun β' hle=>⟨#[],0,fun _ _=>False,uU (by simp),rfl,j7,by simp⟩);refine⟨.map (some w.heap.size),{ w with heap:=w.heap.push (.map #[] 0) },m,β',.inl ?_,bX.put r2 hN (.map hnx)⟩;simp only[execOp,aj8];rw[Sem.run_bind];rfl
theorem br.conAgg{vs:List Value}{x:Value}(h:br m β (.agg (vs.map .con)) x):x=.agg vs.toArray:=by
 have key:∀us:Array Value,(vs.map V.con).length=us.size->(∀(i:Nat) (c:V) (v:Value),(vs.map V.con)[i]? = some c->us[i]? = some v->br m β c v)->us=vs.toArray:=by
  intro us hl hh;apply as8;apply at9;intro i;simp only[bj9] at hl;cases hv:vs[i]? with
  |none=>
   grind
  |some v=>
   have hi:=(bd9.1 hv).1;have hu:us[i]? = some (us[i]'(by omega)):=bb8 (by omega);have:=(hh i (.con v) _ (by simp[hv]) hu).of_con
   grind
 cases h with
 |imm h=>cases h with|agg hl hh=>rw[key _ hl fun i c v a b=>.imm (hh i c v a b)]
 |agg hl hh=>grind
theorem iK(v:Value):∀m:bB,bN m (.con v) v:=fun _=>.con v
theorem de(xs:List Value):∀m:bB,bN m (.agg (xs.map .con)) (.agg xs.toArray):=fun m=>
 .agg (by simp) fun i c v hc hv=>by
  rw[az8,ad8] at hc;obtain⟨u,hu,rfl⟩:=hc;have:xs[i]? = some v:=by simpa using hv
  rw[hu] at this;cases this;exact .con _
inductive fg(K:cR)(S:St)(y:Operand):Value->Prop
 |con {kv:Value} (h:evl K S y=.con kv):fg K S y kv
 |agg (xs:List Value) (h:evl K S y=.agg (xs.map .con)):fg K S y (.agg xs.toArray)
theorem fg.read{y:Operand}{kv:Value}(h:fg K S y kv)(r:bX K m β w a S):a.eval y=kv:=by
 cases h with
 |con h=>exact r.con h
 |agg xs h=>
  have:=r.reads y;rw[h] at this;exact this.conAgg
inductive o8(S:St):V->List (Value×V)->Prop
 |own {id:Nat} {es:List (Value×V)} (h:ak S.hp id=.map es):o8 S (.map id) es
 |imm {es:List (Value×V)}:o8 S (.imap es) es
theorem o8.read{x:V}{es:List (Value×V)}(h:o8 S x es)(r:bX K m β w a S){v:Value}(hv:br m β x v):
  ∃b ents clock,v=.map (some b)/\ny (w.heap[b]?) ents clock/\es.length=ents.size/\∀(i:Nat) (p:Value×V) (e:MapEntry),es[i]? = some p->ents[i]? = some e->e.key=p.1/\(p.2.deep=false->br m β p.2 e.val):=by
 cases h with
 | @own id _ ho=>
  cases hv with
  |imm h=>cases h
  | @map _ b cap hb=>
   have:=r.own id;rw[hb,ho] at this;obtain⟨ents,clock,bl,h1,h2,_,h3⟩:=this;exact⟨b,ents,clock,Y,h1,h2,fun i p e a b=>⟨(h3 i p e a b).1,fun hd=>(h3 i p e a b).2.v hd⟩⟩
 |imm=>
  cases hv with
  |imm h=>cases h with
   |imap hm hl hk h=>exact⟨_,_,_,rfl,hm.mono (r.imm _),hl,fun i p e a b=>⟨hk i p e a b,fun _=>.imm (h i p e a b)⟩⟩
theorem sO{P:Program}{T:TypeId}{good:Value->Prop}(hK:ja P T good){w:World}{x:Value}(hx:good x){es:List (Value×V)}{ents E:Array MapEntry}{clock:Nat}(hl:es.length=ents.size)
  (hr:∀(i:Nat) (p:Value×V) (e:MapEntry),es[i]? = some p->ents[i]? = some e->e.key=p.1) (hg:∀p,p∈es->good p.1) (hp:ents.toList.Perm E.toList) (hwf:AW E clock):
  ((Instr.findKey T x E.toList).run P w=.ok none w/\(∀p,p∈es->p.1≠x)/\∀e,e∈E.toList->e.key≠x) ∨
  ∃(j:Nat) (p:Value×V) (e:MapEntry) (jE:Nat),(Instr.findKey T x E.toList).run P w=.ok (some (jE,e.val)) w/\ents[j]? = some e/\es[j]? = some p/\p.1=x/\(∀i p',i<j->es[i]? = some p'->p'.1≠x)/\E[jE]? = some e:=by
 have corr:∀(i:Nat) (e:MapEntry),ents[i]? = some e->∃p,es[i]? = some p/\e.key=p.1:=by
  intro i e he;have:i<es.length:=by rw[hl];exact(bb9.1 he).1
  exact⟨es[i],az9 this,hr i _ e (az9 this) he⟩
 have corr':∀(i:Nat) p,es[i]? = some p->∃e,ents[i]? = some e/\e.key=p.1:=by
  intro i p hp;have:i<ents.size:=by rw[<-hl];exact(bd9.1 hp).1
  exact⟨ents[i],bb8 this,hr i p _ hp (bb8 this)⟩
 have hge:∀e,e∈E.toList->good e.key:=by
  intro e he;obtain⟨i,hi⟩:=bc8 (hp.mem_iff.2 he);obtain⟨p,h1,h2⟩:=corr i e (by grind);rw[h2];exact hg p (ay9 h1)
 rcases hK.find w x hx E.toList hge with ⟨a1,a2⟩|⟨jE,e,a1,a2,a3,a4⟩
 ·grind [List.getElem?_of_mem]
 ·obtain⟨j,hj⟩:=bc8 (hp.mem_iff.2 (ay9 a2));have hj:ents[j]? = some e:=by simpa using hj
  obtain⟨p,h1,h2⟩:=corr j e hj;refine .inr ⟨j,p,e,jE,a1,hj,h1,by grind,fun i p' hi hp' hpx=>?_,by grind⟩;obtain⟨e',h3,h4⟩:=corr' i p' hp';have hn:(ents.toList.map (·.key)).Nodup:=(hp.map _).nodup_iff.2 hwf.key;have e1:(ents.toList.map (·.key))[i]? = some x:=by simp[h3,h4,hpx]
  have e2:(ents.toList.map (·.key))[j]? = some x:=by simp[hj,a3]
  grind [List.getElem?_inj]
theorem co{d:Nat}{T k e:TypeId}{x y:Operand}{good:Value->Prop}{kv zv:Value}{mv:V}{es:List (Value×V)}(res:Option V)(zd dv:V)(hT:eh K.P T k e=true)(hK:ja K.P k good)
  (hz:(K.P.info? e).bind (·.zero)=some zv) (hzd:∀m,bN m zd zv)
  (hw:aN ops S ⟨some d,.lookup T x y false,ty,pos,after,g⟩ true) (hx:evl K S x=mv) (hm:o8 S mv es) (hy:fg K S y kv) (hg:good kv) (hges:∀p,p∈es->good p.1)
  (hl:i4 kv es res) (hd:res.getD zd=dv) (hN:Nat.blt d K.N=true)
  (kk:ay K ops rest Q (S.put d dv)) (hdd:dv.deep=false:=by rfl):ay K ops (⟨some d,.lookup T x y false,ty,pos,after,g⟩::rest) Q S:=
 aX _ hw hN (fun m β w a r=>by
  have h:=r.reads x;rw[hx] at h;obtain⟨b,ents,clock,e1,⟨E,e2,eP,eW⟩,e3,e4⟩:=hm.read r h;have hobj:(getObj b).run K.P w=.ok (.map E clock) w:=by simp[getObj,Sem.run,e2]
  have hzr:(zeroValue e).run K.P w=.ok zv w:=by
   cases hi:K.P.info? e with
   |none=>grind
   |some i=>
    simp_all[zeroValue,run_typeInfo]
  rcases sO hK hg e3 (fun i p e a b=>(e4 i p e a b).1) hges eP eW (w:=w) with ⟨a1,a2,_⟩|⟨j,p,en,jE,a1,a2,a3,a4,a5,aE⟩
  ·refine⟨zv,?_,?_⟩
   ·simp only[execOp,e1,hy.read r];refine bk ?_;simp only[Instr.lookup,Sem.run_bind,run_underlying (cU hT),Result.andThen_ok,hobj,pure,Sem.run,hK.check _ w kv hg,a1,hzr];rfl
   ·rw[<-hd,hl.none_of a2];exact .imm (hzd m)
  ·refine⟨en.val,?_,?_⟩
   ·simp only[execOp,e1,hy.read r];refine bk ?_;simp only[Instr.lookup,Sem.run_bind,run_underlying (cU hT),Result.andThen_ok,hobj,pure,Sem.run,hK.check _ w kv hg,a1];rfl
   ·have:p=(kv,p.2):=by rw[<-a4]
    rw[this] at a3;have hr:=hl.some_of j p.2 a3 a5
    grind) kk
theorem tk{d:Nat}{T k e:TypeId}{x y:Operand}{good:Value->Prop}{kv zv:Value}{mv:V}{es:List (Value×V)}(res:Option V)(zd dv:V)(hT:eh K.P T k e=true)(hK:ja K.P k good)
  (hz:(K.P.info? e).bind (·.zero)=some zv) (hzd:∀m,bN m zd zv)
  (hw:aN ops S ⟨some d,.lookup T x y true,ty,pos,after,g⟩ true) (hx:evl K S x=mv) (hm:o8 S mv es) (hy:fg K S y kv) (hg:good kv) (hges:∀p,p∈es->good p.1)
  (hl:i4 kv es res) (hd:res.getD zd=dv) (hN:Nat.blt d K.N=true)
  (kk:ay K ops rest Q (S.put d (.tup [dv,.con (.bool res.isSome)]))) (hdd:dv.deep=false:=by rfl):ay K ops (⟨some d,.lookup T x y true,ty,pos,after,g⟩::rest) Q S:=
 aX _ hw hN (fun m β w a r=>by
  have h:=r.reads x;rw[hx] at h;obtain⟨b,ents,clock,e1,⟨E,e2,eP,eW⟩,e3,e4⟩:=hm.read r h;have hobj:(getObj b).run K.P w=.ok (.map E clock) w:=by simp[getObj,Sem.run,e2]
  have hzr:(zeroValue e).run K.P w=.ok zv w:=by
   cases hi:K.P.info? e with
   |none=>simp[hi] at hz
   |some i=>
    simp[hi] at hz;simp only[zeroValue,Sem.run_bind,run_typeInfo w hi,Result.andThen_ok,hz];rfl
  have tup:∀v b,br m β dv v->res.isSome=b->br m β (.tup [dv,.con (.bool res.isSome)]) (.tuple #[v,.bool b]):=by
   rintro v b hv rfl
   refine .tup Y fun i c u hi hu=>?_
   match i with
   |0=>simp at hi hu;subst hi;subst hu;exact hv
   |1=>simp at hi hu;subst hi;subst hu;exact .imm (.con _)
   |i+2=>simp at hi
  rcases sO hK hg e3 (fun i p e a b=>(e4 i p e a b).1) hges eP eW (w:=w) with ⟨a1,a2,_⟩|⟨j,p,en,jE,a1,a2,a3,a4,a5,aE⟩
  ·have hres:=hl.none_of a2;refine⟨.tuple #[zv,.bool false],?_,tup _ _ (by rw[<-hd,hres];exact .imm (hzd m)) (by rw[hres];rfl)⟩;simp only[execOp,e1,hy.read r];refine bk ?_;simp only[Instr.lookup,Sem.run_bind,run_underlying (cU hT),Result.andThen_ok,hobj,pure,Sem.run,hK.check _ w kv hg,a1,hzr];rfl
  ·have:p=(kv,p.2):=by rw[<-a4]
   rw[this] at a3;have hres:=hl.some_of j p.2 a3 a5;refine⟨.tuple #[en.val,.bool true],?_,tup _ _ (by rw[hres] at hd;have hd:p.2=dv:=hd;rw[<-hd];exact(e4 j _ en a3 a2).2 (by rw[<-hd] at hdd;exact hdd)) (by rw[hres];rfl)⟩;simp only[execOp,e1,hy.read r];refine bk ?_;simp only[Instr.lookup,Sem.run_bind,run_underlying (cU hT),Result.andThen_ok,hobj,pure,Sem.run,hK.check _ w kv hg,a1];rfl) kk
theorem qm{T k e:TypeId}{x y z:Operand}{good:Value->Prop}{kv:Value}{id:Nat}{dv:V}{es:List (Value×V)}{op:Op}(hop:op=.mapUpdate T x y z\/op=.insert T x y z)(es':List (Value×V))(hT:eh K.P T k e=true)(hK:ja K.P k good)
  (hw:aN ops S ⟨none,op,ty,pos,after,g⟩ true) (hx:evl K S x=.map id) (ho:ak S.hp id=.map es) (hy:fg K S y kv) (hg:good kv) (hges:∀p,p∈es->good p.1) (hz:evl K S z=dv)
  (hp:ic kv dv es es') (kk:ay K ops rest Q ⟨S.env,(id,.map es')::S.hp,S.nx⟩):ay K ops (⟨none,op,ty,pos,after,g⟩::rest) Q S:=by
 refine cm hw (fun m β w a r=>?_) kk;have h:=r.reads x;rw[hx] at h;have hzv:=r.reads z;rw[hz] at hzv;generalize hv:a.eval x=v at h;cases h with
 |imm h=>cases h
 | @map _ b cap hb=>
 have h0:=r.own id;rw[hb,ho] at h0;obtain⟨ents,clock,bl,⟨E,e2,eP,eW⟩,e3,eB,e4⟩:=h0;have hobj:(getObj b).run K.P w=.ok (.map E clock) w:=by simp[getObj,Sem.run,e2]
 have hset:∀o,(setObj b o).run K.P w=.ok () { w with heap:=w.heap.setIfInBounds b o }:=by intro o;simp[setObj,Sem.run,e2]
 have hbl:=bD e2
 have heap':∀o b',b'≠b->({ w with heap:=w.heap.setIfInBounds b o }:World).heap[b']? = w.heap[b']?:=by
  intro o b' hne;simp only[bq8];grind
 have self':∀o,({ w with heap:=w.heap.setIfInBounds b o }:World).heap[b]? = some o:=by
  intro o;simp[hbl]
 rcases sO hK hg e3 (fun i p e a b=>(e4 i p e a b).1) hges eP eW (w:=w) with ⟨a1,a2,aK⟩|⟨j,p,en,jE,a1,a2,a3,a4,a5,aE⟩
 ·have hes:=hp.none_of a2
  refine⟨undef,{ w with heap:=w.heap.setIfInBounds b (.map (E.push { key:=kv,val:=a.eval z,born:=clock }) (clock+1)) },m,β,.inr ⟨Y,?_⟩,
   r.update (by grind) hb _ (.map es') (heap' _) (by simp) ⟨rfl,rfl,rfl,trivial⟩ (fun hkeep=>⟨ents.push { key:=kv,val:=a.eval z,born:=clock },_,bl,⟨_,self' _,by rw[br9,br9];exact eP.append_right _,eW.push _ _ aK⟩,by grind,eB,fun i p e hi he=>?_⟩)⟩
  ·rcases hop with rfl|rfl<;>simp only[execOp,hy.read r]<;>rw[Sem.run_bind]
   all_goals
    have:(Instr.mapUpdate T (a.eval x) kv (a.eval z)).run K.P w=.ok () { w with heap:=w.heap.setIfInBounds b (.map (E.push { key:=kv,val:=a.eval z,born:=clock }) (clock+1)) }:=by
     rw[hv];simp only[Instr.mapUpdate,Sem.run_bind,run_underlying (cU hT),Result.andThen_ok,hobj,hK.check _ w kv hg,a1,hset]
    simp_all
  ·rw[hes] at hi;rw[bp8] at he;by_cases hlast:i=ents.size
   ·rw[if_pos hlast] at he;rw[au9 (by omega),hlast,e3] at hi;simp at hi he;subst hi;subst he;exact⟨Y,.inl hzv⟩
   ·rw[if_neg hlast] at he;have:i<es.length:=by rw[e3];exact(bb9.1 he).1
    rw[at8 this] at hi;exact⟨(e4 i p e hi he).1,(e4 i p e hi he).2.mono (bB.le_refl _) (ba.le_refl _) (fun _ h=>h) (fun x hx=>hkeep x (eB.1 _ x hx))⟩
 ·have hpp:p=(kv,p.2):=by rw[<-a4]
  rw[hpp] at a3;have hes:=hp.some_of j p.2 a3 a5;have hek:en.key=kv:=by grind
  refine⟨undef,{ w with heap:=w.heap.setIfInBounds b (.map (E.modify jE fun e=>{ e with key:=kv,val:=a.eval z }) clock) },m,β,.inr ⟨Y,?_⟩,
   r.update (by grind) hb _ (.map es') (heap' _) (by simp) ⟨rfl,rfl,rfl,trivial⟩ (fun hkeep=>⟨ents.modify j fun e=>{ e with key:=kv,val:=a.eval z },_,bl,⟨_,self' _,by grind [qg],eW.modify _ (fun _=>rfl) (fun e he=>by grind)⟩,by grind,eB,fun i p e hi he=>?_⟩)⟩
  ·rcases hop with rfl|rfl<;>simp only[execOp,hy.read r]<;>rw[Sem.run_bind]
   all_goals
    have:(Instr.mapUpdate T (a.eval x) kv (a.eval z)).run K.P w=.ok () { w with heap:=w.heap.setIfInBounds b (.map (E.modify jE fun e=>{ e with key:=kv,val:=a.eval z }) clock) }:=by
     rw[hv];simp only[Instr.mapUpdate,Sem.run_bind,run_underlying (cU hT),Result.andThen_ok,hobj,hK.check _ w kv hg,a1,aE,ba8,bx8,hek,hK.stays w kv hg,hset]
    rw[this];rfl
  ·rw[hes,bl9] at hi;rw[bp9] at he;by_cases hji:j=i
   ·subst hji;rw[if_pos rfl] at he;rw[if_pos rfl,if_pos (by grind)] at hi;rw[a2] at he;simp at hi he;subst hi;subst he;exact⟨Y,.inl hzv⟩
   ·rw[if_neg hji] at hi he;exact⟨(e4 i p e hi he).1,(e4 i p e hi he).2.mono (bB.le_refl _) (ba.le_refl _) (fun _ h=>h) (fun x hx=>hkeep x (eB.1 _ x hx))⟩
theorem cJ{T k e:TypeId}{x y z:Operand}{good:Value->Prop}{kv:Value}{id:Nat}{dv:V}{es:List (Value×V)}(es':List (Value×V))(hT:eh K.P T k e=true)(hK:ja K.P k good)
  (hw:aN ops S ⟨none,.mapUpdate T x y z,ty,pos,after,g⟩ true) (hx:evl K S x=.map id) (ho:ak S.hp id=.map es) (hy:fg K S y kv) (hg:good kv) (hges:∀p,p∈es->good p.1) (hz:evl K S z=dv)
  (hp:ic kv dv es es') (kk:ay K ops rest Q ⟨S.env,(id,.map es')::S.hp,S.nx⟩):ay K ops (⟨none,.mapUpdate T x y z,ty,pos,after,g⟩::rest) Q S:=qm (.inl rfl) es' hT hK hw hx ho hy hg hges hz hp kk
end
end Go.Pv
