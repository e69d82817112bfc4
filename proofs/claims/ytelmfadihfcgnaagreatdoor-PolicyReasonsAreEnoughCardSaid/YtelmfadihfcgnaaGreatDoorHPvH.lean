/- Part of the proof. -/
import Derived.Test.YtelmfadihfcgnaaGreatDoorHPvC
set_option linter.unusedSimpArgs false
set_option linter.unusedVariables false
namespace Go.Pv
open Go
section
variable{K:cR}{Q:ca}{S:St}{ops:Array Oper}{rest:List Oper}{op:Op}{ty:TypeId}{pos:String}{after:Array Edge}{g:Option (Nat×Bool)}
variable{m:bB}{β:ba}{w:World}{a:Act}
theorem bW{w:World}{b o:Nat}{arr:Array Value}{T:TypeId}{fr:Nat×Nat}(h:w.heap[b]? = some (.cells arr T fr)):
  w.cell? ⟨b,o,none⟩=arr[o]?:=by simp[World.cell?,h]
theorem fI{P:Program}{w:World}{T:TypeId}{n b o:Nat}(f:Nat->Value)(hT:zy P T n=true)(h:∀j,j<n->w.cell? ⟨b,o+j,none⟩=some (f j)):
  (Instr.loadAt T (.pointer (some ⟨b,o,none⟩))).run P w=.ok (.agg ((List.range n).map f).toArray) w:=by
 have h1:=vB hT w
 simp_all[run_loadCells,dX,Instr.loadAt,Instr.sureAddr,loadVar]
theorem eY{P:Program}{w:World}{T:TypeId}{b o:Nat}{v:Value}(hT:ri P T=true)(h:w.cell? ⟨b,o,none⟩=some v):
  (Instr.loadAt T (.pointer (some ⟨b,o,none⟩))).run P w=.ok v w:=by
 simp_all[mC,Instr.loadAt,Instr.sureAddr,Sem.run,loadVar]
theorem br.ptr_inv{id k i off:Nat}{v:Value}(h:br m β (.ptr id k i off) v):∃b cap,β id=some (some (b,cap))/\v=.pointer (some ⟨b,cap.off+(i*k+off),none⟩):=by
 cases h with
 |imm h=>cases h
 |ptr h=>grind
theorem br.iptr_inv{row:List V}{off:Nat}{v:Value}(h:br m β (.iptr row off) v):∃(a:Addr) (arr:Array Value) (T:TypeId) (fr:Nat×Nat) (f:Nat->Value) (base:Nat),
  v=.pointer (some a)/\m a.block=some (.cells arr T fr)/\a.spot=none/\a.off=base+off/\(∀i,i<row.length->arr[base+i]? = some (f i))/\∀(j:Nat) (c:V),row[j]? = some c->bN m c (f j):=by
 cases h with
 |imm h=>cases h with|iptr f base h1 h2 h3 h4 h5=>exact⟨_,_,_,_,f,base,rfl,h1,h2,h3,h4,h5⟩
theorem iX{a:Addr}(h:a.spot=none):a=⟨a.block,a.off,none⟩:=by cases a;simp_all
theorem bX.obj(r:bX K m β w a S){id b k:Nat}{cap:ol}{e:TypeId}{rows:List (List V)}(hb:β id=some (some (b,cap)))(ho:ak S.hp id=.arr e k rows):
  ∃arr bl,w.heap[b]? = some (.cells arr e (0,0))/\arr.size=cap.off+cap.n*k/\rows.length<=cap.n/\cap.n<=maxLen/\(∀row,row∈rows->row.length=k)/\HE (β.hid id) bl/\
   ∀(i j:Nat) (row:List V) (c:V),rows[i]? = some row->row[j]? = some c->∃v,arr[cap.off+(i*k+j)]? = some v/\eU m β w (bl (i*k+j)) c v/\v.oneCell'=true:=by
 have h:=r.own id;rw[hb,ho] at h;exact h
def uQ:List V->Bool
 |[]=>true
 |c::l=>match c.deep with|true=>false|false=>uQ l
theorem jv:∀{l:List V} {j:Nat} {c:V},uQ l=true->l[j]? = some c->c.deep=false
 |x::l,0,c,h,hc=>by grind [uQ]
 |x::l,j+1,c,h,hc=>by
  simp only[uQ] at h;split at h
  ·simp at h
  ·exact jv (l:=l) (j:=j) h (by simpa using hc)
 |[],_,c,_,hc=>by simp at hc
theorem cA{d n id k i o:Nat}{x:Operand}{T e:TypeId}{rows:List (List V)}{row cs:List V}(hT:zy K.P T n=true)
  (hw:aN ops S ⟨some d,.load T x,ty,pos,after,g⟩ true) (hx:evl K S x=.ptr id k i o) (ho:ak S.hp id=.arr e k rows) (hr:rows[i]? = some row)
  (hc:(row.drop o).take n=cs) (hn:cs.length=n) (hnd:uQ cs=true) (hN:Nat.blt d K.N=true) (kk:ay K ops rest Q (S.put d (.agg cs))):
  ay K ops (⟨some d,.load T x,ty,pos,after,g⟩::rest) Q S:=
 aX _ hw hN (fun m β w a r=>by
  have h:=r.reads x;rw[hx] at h;obtain⟨b,cap,hb,hv⟩:=h.ptr_inv;obtain⟨arr,bl,h1,h2,h3,h4,h5,_,h6⟩:=r.obj hb ho
  have hcell:∀j c,cs[j]? = some c->∃v,arr[cap.off+(i*k+o)+j]? = some v/\br m β c v:=by
   intro j c hj;have hd:=jv hnd hj;rw[<-hc,bi9] at hj;split at hj
   ·rw[av9] at hj;obtain⟨v,a1,a2,_⟩:=h6 i (o+j) row c hr hj;exact⟨v,by grind,a2.v hd⟩
   ·simp at hj
  have hrun:=fI (P:=K.P) (w:=w) (b:=b) (o:=cap.off+(i*k+o)) (fun j=>arr.getD (cap.off+(i*k+o)+j) undef) hT (fun j hj=>by
   rw[bW h1];obtain⟨v,a1,_⟩:=hcell j cs[j] (by simp[hn,hj])<;>simp_all)
  refine⟨_,by simp only[execOp,hv];exact bk hrun,?_⟩
  ·refine .agg (by simp[hn]) (fun j c v hj hv=>?_);obtain⟨v',a1,a2⟩:=hcell j c hj;simp only[bh8,az8] at hv;have hj':j<n:=by rw[<-hn];exact(bd9.1 hj).1
   simp_all) kk
theorem eD{d id k i o:Nat}{x:Operand}{T e:TypeId}{rows:List (List V)}{row:List V}(c:V)(hT:ri K.P T=true)
  (hw:aN ops S ⟨some d,.load T x,ty,pos,after,g⟩ true) (hx:evl K S x=.ptr id k i o) (ho:ak S.hp id=.arr e k rows) (hr:rows[i]? = some row)
  (hc:row[o]? = some c) (hd:c.deep=false) (hN:Nat.blt d K.N=true) (kk:ay K ops rest Q (S.put d c)):
  ay K ops (⟨some d,.load T x,ty,pos,after,g⟩::rest) Q S:=
 aX _ hw hN (fun m β w a r=>by
  have h:=r.reads x;rw[hx] at h;obtain⟨b,cap,hb,hv⟩:=h.ptr_inv;obtain⟨arr,bl,h1,h2,h3,h4,h5,_,h6⟩:=r.obj hb ho;obtain⟨v,a1,a2,_⟩:=h6 i o row c hr hc;exact⟨v,by grind [execOp,bk,eY,bW],a2.v hd⟩) kk
theorem tq{d n o:Nat}{x:Operand}{T:TypeId}{row cs:List V}(hT:zy K.P T n=true)
  (hw:aN ops S ⟨some d,.load T x,ty,pos,after,g⟩ true) (hx:evl K S x=.iptr row o)
  (hc:(row.drop o).take n=cs) (hn:cs.length=n) (hN:Nat.blt d K.N=true) (kk:ay K ops rest Q (S.put d (.agg cs))):
  ay K ops (⟨some d,.load T x,ty,pos,after,g⟩::rest) Q S:=
 aX _ hw hN (fun m β w a r=>by
  have h:=r.reads x;rw[hx] at h;obtain⟨ad,arr,T',fr,f,base,hv,h1,h2,h3,h4,h5⟩:=h.iptr_inv;have hh:=r.imm _ _ h1
  have hcell:∀j c,cs[j]? = some c->arr[base+o+j]? = some (f (o+j))/\bN m c (f (o+j)):=by
   intro j c hj;rw[<-hc,bi9] at hj;split at hj
   ·grind
   ·simp at hj
  have hrun:=fI (P:=K.P) (w:=w) (b:=ad.block) (o:=ad.off) (fun j=>f (o+j)) hT (fun j hj=>by
   rw[bW hh,h3]
   grind)
  refine⟨_,by simp only[execOp,hv];rw[iX h2];exact bk hrun,?_⟩
  ·refine .agg (by simp[hn]) (fun j c v hj hv=>?_);obtain⟨a1,a2⟩:=hcell j c hj;simp only[bh8,az8] at hv;have hj':j<n:=by rw[<-hn];exact(bd9.1 hj).1
   rw[ba9 hj'] at hv;simp only[ba8,ax9] at hv;rw[<-hv];exact .imm a2) kk
theorem qW{d o:Nat}{x:Operand}{T:TypeId}{row:List V}(c:V)(hT:ri K.P T=true)
  (hw:aN ops S ⟨some d,.load T x,ty,pos,after,g⟩ true) (hx:evl K S x=.iptr row o)
  (hc:row[o]? = some c) (hN:Nat.blt d K.N=true) (kk:ay K ops rest Q (S.put d c)):
  ay K ops (⟨some d,.load T x,ty,pos,after,g⟩::rest) Q S:=
 aX _ hw hN (fun m β w a r=>by
  have h:=r.reads x;rw[hx] at h;obtain⟨ad,arr,T',fr,f,base,hv,h1,h2,h3,h4,h5⟩:=h.iptr_inv;have hh:=r.imm _ _ h1;refine⟨f o,by grind [execOp,iX,bk,eY,bW],.imm (h5 _ _ hc)⟩) kk
theorem tr{d id k i o f off:Nat}{x:Operand}{T:TypeId}(hF:HL K.P T f off=true)
  (hw:aN ops S ⟨some d,.fieldAddr T x f,ty,pos,after,g⟩ true) (hx:evl K S x=.ptr id k i o) (hN:Nat.blt d K.N=true)
  (kk:ay K ops rest Q (S.put d (.ptr id k i (o+off)))):ay K ops (⟨some d,.fieldAddr T x f,ty,pos,after,g⟩::rest) Q S:=
 aX _ hw hN (fun m β w a r=>by
  have h:=r.reads x;rw[hx] at h;obtain⟨b,cap,hb,hv⟩:=h.ptr_inv;exact⟨_,by simp only[execOp,hv];exact bk (Bk hF w b _),by have:=br.ptr (m:=m) (k:=k) (i:=i) (off:=o+off) hb;grind⟩) kk
theorem qX{d o f off:Nat}{row:List V}{x:Operand}{T:TypeId}(hF:HL K.P T f off=true)
  (hw:aN ops S ⟨some d,.fieldAddr T x f,ty,pos,after,g⟩ true) (hx:evl K S x=.iptr row o) (hN:Nat.blt d K.N=true)
  (kk:ay K ops rest Q (S.put d (.iptr row (o+off)))):ay K ops (⟨some d,.fieldAddr T x f,ty,pos,after,g⟩::rest) Q S:=
 aX _ hw hN (fun m β w a r=>by
  have h:=r.reads x;rw[hx] at h;obtain⟨ad,arr,T',fr,f,base,hv,h1,h2,h3,h4,h5⟩:=h.iptr_inv
  exact⟨.pointer (some ⟨ad.block,ad.off+off,none⟩),by grind [execOp,iX,bk,Bk],
   .imm (.iptr (a:=⟨ad.block,ad.off+off,none⟩) f base h1 rfl (by grind) h4 h5)⟩) kk
def dF:V->Bool
 | .con v=>v.oneCell'
 | .any | .agg _ | .tup _=>false
 |_=>true
theorem br.one{c:V}{v:Value}(h:br m β c v)(hc:dF c=true):v.oneCell'=true:=by
 cases h with
 |imm h=>cases h<;>first|exact hc|rfl|simp[dF] at hc
 |_=>first|rfl|simp[dF] at hc
def dl:V->List V
 | .agg cs=>cs
 |v=>[v]
theorem br.cells{d:V}{v:Value}(h:br m β d v)(hd:(dl d).all dF=true):(dl d).length=v.cells.size/\(∀(i:Nat) c u,(dl d)[i]? = some c->v.cells[i]? = some u->br m β c u)/\∀u,u∈v.cells.toList->u.oneCell'=true:=by
 have key:(dl d).length=v.cells.size/\(∀(i:Nat) c u,(dl d)[i]? = some c->v.cells[i]? = some u->br m β c u):=by
  cases d with
  |agg cs=>
   cases h with
   |imm h=>cases h with|agg hl h=>exact⟨hl,fun i c u a b=>.imm (h i c u a b)⟩
   |agg hl h=>exact⟨hl,h⟩
  |any=>simp[dl,dF] at hd
  |tup cs=>simp[dl,dF] at hd
  |_=>
   have h1:=h.one (by simp_all[dl]);have h2:v.cells=#[v]:=by cases v<;>simp[Value.cells]<;>simp[Value.oneCell'] at h1
   grind [dl]
 refine⟨key.1,key.2,fun u hu=>?_⟩;obtain⟨i,hi,rfl⟩:=bj8 hu;have hi':i<(dl d).length:=by rw[key.1];simpa using hi
 have hall:=aq8.1 hd (dl d)[i] (bc9 _);exact(key.2 i _ _ (az9 hi') (by simp)).one hall
theorem bX.allocG(r:bX K m β w a S)(id0 nx':Nat)(hfree:β id0=none)(hpid:∀q,q<K.pins->q≠id0)(hidn:id0<nx')(hnn:S.nx<=nx')(o:Obj)(ob:Ob)(cap:ol)(w':World)(hw':w'={ w with heap:=w.heap.push o })(B:Nat->Prop)
  (hB:∀x,B x->x<w.heap.size/\m x=none/\(x<K.w0.heap.size->¬K.old x)/\(∀i b c,ak S.hp i≠.dead->β i=some (some (b,c))->x≠b)/\∀i,ak S.hp i≠.dead->¬β.hid i x)
  (hok:∀β',β.le β'->bn m β' w' B (some (some (w.heap.size,cap))) ob):
  ∃β':ba,β.le β'/\β' id0=some (some (w.heap.size,cap))/\bX K m β' w' a ⟨S.env,(id0,ob)::S.hp,nx'⟩:=by
 let β':ba:=⟨fun i=>if i=id0 then some (some (w.heap.size,cap)) else β i,fun i=>if i=id0 then B else β.hid i⟩
 have hle:β.le β':=by
  intro i l h
  show(if i=id0 then _ else _)=_
  rw[if_neg]
  ·exact h
  ·grind
 have en:β' id0=some (some (w.heap.size,cap)):=by show(if _ then _ else _)=_;grind
 have eo:∀i,id0≠i->β' i=β i:=fun i h=>by grind
 have hn:β'.hid id0=B:=by show(if _ then _ else _)=_;grind
 have ho:∀i,id0≠i->β'.hid i=β.hid i:=fun i h=>by grind
 have hheap:∀(b:Nat) (o':Obj),w.heap[b]? = some o'->w'.heap[b]? = some o':=by
  intro b o' h;have:=bD h;rw[hw'];simp only[bp8];rw[if_neg (by omega)];exact h
 have hsame:∀b,b<w.heap.size->w'.heap[b]? = w.heap[b]?:=by
  intro b hb;rw[hw'];simp only[bp8];grind
 have hsz:w'.heap.size=w.heap.size+1:=by rw[hw'];simp
 have hm:m w.heap.size=none:=by
  cases hm:m w.heap.size with
  |none=>rfl
  |some o'=>have:=bD (r.imm _ _ hm);omega
 refine⟨β',hle,en,?_⟩;constructor
 ·exact fun b o' h=>hheap _ _ (r.imm b o' h)
 ·exact r.ext
 ·exact r.mold
 ·intro b hb ho;rw[hsame b (ck8 hb r.size)];exact r.frame b hb ho
 ·rw[hsz];have:=r.size;omega
 ·rw[hw'];exact⟨r.same.os,r.same.tape,r.same.output,r.same.drawn⟩
 ·exact r.tn
 ·exact r.df
 ·exact fun t=>(r.env t).mono (bB.le_refl _) hle
 ·intro id;simp only[av];by_cases h:id0=id
  ·grind
  ·rw[if_neg h]
   show bn m β' w' (β'.hid id) (β' id) _
   rw[eo id h,ho id h];by_cases hd:ak S.hp id=.dead
   ·simp_all[bn.dead']
   ·exact bn.mono (bB.le_refl _) hle hheap (fun x hx=>hsame x (r.hid id x hd hx).lt) (r.own id)
 ·intro id b c hl hb;simp only[av] at hl;by_cases h:id0=id
  ·subst h;rw[en] at hb;simp only[ax9,Prod.mk.injEq] at hb;obtain⟨rfl,_⟩:=hb;exact⟨hm,by intro hlt;have:=r.size;omega⟩
  ·rw[if_neg h] at hl;rw[eo id h] at hb;exact r.priv id b c hl hb
 ·intro id id' b c c' hl hl' hb hb';simp only[av] at hl hl';by_cases h:id0=id<;>by_cases h':id0=id'
  ·grind
  ·exfalso;rw[if_neg h'] at hl';rw[eo id' h'] at hb';have:=eL hl' hb' (r.own id')
   grind
  ·exfalso;rw[if_neg h] at hl;rw[eo id h] at hb;have:=eL hl hb (r.own id)
   grind
  ·rw[if_neg h] at hl;rw[if_neg h'] at hl';rw[eo id h] at hb;rw[eo id' h'] at hb';exact r.inj id id' b c c' hl hl' hb hb'
 ·intro id x hl hx;simp only[av] at hl
  have ne:∀i b cap,ak ((id0,ob)::S.hp) i≠.dead->β' i=some (some (b,cap))->x<w.heap.size->(∀i b c,ak S.hp i≠.dead->β i=some (some (b,c))->x≠b)->x≠b:=by
   intro i b c hi hb hx hh;rw[av] at hi;by_cases h:id0=i
   ·grind
   ·grind
  by_cases h:id0=id
  ·subst h;rw[hn] at hx;obtain⟨q1,q2,q3,q4,q5⟩:=hB x hx;refine⟨by grind,q2,q3,fun i b c hi hb=>ne i b c hi hb q1 q4,fun i hi hx'=>?_⟩;rw[av] at hi
   grind
  ·rw[if_neg h] at hl;rw[ho id h] at hx;have hh:=r.hid id x hl hx;refine⟨by rw[hsz];have:=hh.lt;omega,hh.m,hh.old,fun i b c hi hb=>ne i b c hi hb hh.lt hh.ne,fun i hi hx'=>?_⟩;rw[av] at hi;by_cases h':id0=i
   ·grind
   ·rw[if_neg h'] at hi;rw[ho i h'] at hx';exact hh.un i hi hx'
 ·intro id hid;have hid':nx'<=id:=hid;rw[eo id (by omega)];exact r.nx id (by omega)
 ·intro q hq;obtain⟨h1,h2⟩:=r.pin q hq<;>grind
theorem bX.allocB(r:bX K m β w a S)(o:Obj)(ob:Ob)(cap:ol)(w':World)(hw':w'={ w with heap:=w.heap.push o })(B:Nat->Prop)
  (hB:∀x,B x->x<w.heap.size/\m x=none/\(x<K.w0.heap.size->¬K.old x)/\(∀i b c,ak S.hp i≠.dead->β i=some (some (b,c))->x≠b)/\∀i,ak S.hp i≠.dead->¬β.hid i x)
  (hok:∀β',β.le β'->bn m β' w' B (some (some (w.heap.size,cap))) ob):
  ∃β':ba,β.le β'/\β' S.nx=some (some (w.heap.size,cap))/\bX K m β' w' a ⟨S.env,(S.nx,ob)::S.hp,S.nx+1⟩:=
 r.allocG S.nx (S.nx+1) (r.nx _ (ae9 _)) (fun q hq=>ak9 (r.pin q hq).1) (ak8 _) (al9 _) o ob cap w' hw' B hB hok
theorem bX.alloc(r:bX K m β w a S)(o:Obj)(ob:Ob)(cap:ol)(w':World)(hw':w'={ w with heap:=w.heap.push o })
  (hok:∀β',β.le β'->bn m β' w' (fun _=>False) (some (some (w.heap.size,cap))) ob):
  ∃β':ba,β.le β'/\β' S.nx=some (some (w.heap.size,cap))/\bX K m β' w' a ⟨S.env,(S.nx,ob)::S.hp,S.nx+1⟩:=
 r.allocB o ob cap w' hw' (fun _=>False) (fun _ h=>h.elim) hok
theorem bn.congr{w w':World}{B:Nat->Prop}{l:Option (Option (Nat×ol))}{ob:Ob}(hw:∀b cap,l=some (some (b,cap))->w'.heap[b]? = w.heap[b]?)(hB:∀x,B x->w'.heap[x]? = w.heap[x]?)(h:bn m β w B l ob):bn m β w' B l ob:=by
 match l,ob,h with
 |none,.dead,_|some none,.dead,_|some (some (b,c)),.dead,_=>simp[bn]
 |none,.res,_=>trivial
 |some none,.res,h|some (some (b,c)),.res,h=>exact absurd h (by simp[bn])
 |some none,.arr e k rows,h=>exact h
 |some (some (b,cap)),.arr e k rows,h=>
  obtain⟨arr,bl,h1,h2,h3,h4,h5,hBl,h6⟩:=h;exact⟨arr,bl,by rw[hw b cap rfl];exact h1,h2,h3,h4,h5,hBl,fun i j row c hi hj=>let ⟨v,a1,a2,a3⟩:=h6 i j row c hi hj;⟨v,a1,a2.mono (bB.le_refl _) (ba.le_refl _) (fun _ h=>h) (fun x hx=>hB x (hBl.1 _ x hx)),a3⟩⟩
 |some (some (b,cap)),.map es,h=>
  obtain⟨ents,clock,bl,h1,h2,hBl,h3⟩:=h;exact⟨ents,clock,bl,by rw[hw b cap Y];exact h1,h2,hBl,fun i p e hi he=>⟨(h3 i p e hi he).1,(h3 i p e hi he).2.mono (bB.le_refl _) (ba.le_refl _) (fun _ h=>h) (fun x hx=>hB x (hBl.1 _ x hx))⟩⟩
 |some (some (b,cap)),.iter cur left,h=>
  obtain⟨bm,seen,E,clock,v,h0,h1,h2⟩:=h;exact⟨bm,seen,E,clock,v,h0,by rw[hw b cap rfl];exact h1,h2⟩
 |some (some (b,cap)),.bld T e bs _,h=>
  obtain⟨h0,h1,p,v,hf,h2,h3,h4⟩:=h;exact⟨h0,h1,p,v,hf,by rw[hw b cap rfl];exact h2,h3,h4.imp id fun⟨g,c,cur,a1,a2,a3,a4,a5⟩=>⟨g,c,cur,a1,a2,a3,by rw[hB g a2];exact a4,a5⟩⟩
 |none,.arr ..,h|none,.map ..,h|some none,.map ..,h|none,.iter ..,h|some none,.iter ..,h|none,.bld ..,h|some none,.bld ..,h=>exact absurd h (by simp[bn])
theorem bX.update(r:bX K m β w a S){id b:Nat}{cap:ol}(hl:ak S.hp id≠.dead)(hb:β id=some (some (b,cap)))(w':World)(ob:Ob)
  (hw:∀b',b'≠b->w'.heap[b']? = w.heap[b']?) (hs:w'.heap.size=w.heap.size) (hsame:pL w w')
  (hok:(∀x,β.hid id x->w'.heap[x]? = w.heap[x]?)->bn m β w' (β.hid id) (some (some (b,cap))) ob):bX K m β w' a ⟨S.env,(id,ob)::S.hp,S.nx⟩:=by
 have hp:=r.priv id b cap hl hb
 have live:∀i,ak ((id,ob)::S.hp) i≠.dead->ak S.hp i≠.dead:=by
  intro i hi;rw[av] at hi;by_cases h:id=i
  ·grind
  ·grind
 constructor
 ·intro b' o' h;have:b'≠b:=by intro e;subst e;rw[hp.1] at h;simp at h
  rw[hw _ this];exact r.imm b' o' h
 ·exact r.ext
 ·exact r.mold
 ·intro b' hb' ho;have:b'≠b:=by intro e;subst e;exact hp.2 hb' ho
  rw[hw _ this];exact r.frame b' hb' ho
 ·rw[hs];exact r.size
 ·exact r.same.trans hsame
 ·exact r.tn
 ·exact r.df
 ·exact r.env
 ·intro id';simp only[av];by_cases h:id=id'
  ·subst h;rw[if_pos rfl,hb];exact hok (fun x hx=>hw x ((r.hid id x hl hx).ne id b cap hl hb))
  ·rw[if_neg h];by_cases hd:ak S.hp id'=.dead
   ·simp_all[bn.dead']
   ·refine bn.congr (fun b' cap' hbi=>hw b' fun e=>h ?_) (fun x hx=>hw x ((r.hid id' x hd hx).ne id b cap hl hb)) (r.own id');subst e;exact r.inj id id' b' cap cap' hl hd hb hbi
 ·intro id' b' c' hl' hb';exact r.priv _ _ _ (live _ hl') hb'
 ·exact fun i i' b' c c' h1 h2=>r.inj i i' b' c c' (live i h1) (live i' h2)
 ·intro i x hi hx;have h:=r.hid i x (live i hi) hx;exact⟨by rw[hs];exact h.lt,h.m,h.old,fun i' b' c' hi'=>h.ne i' b' c' (live i' hi'),fun i' hi'=>h.un i' (live i' hi')⟩
 ·exact r.nx
 ·exact r.pin
end
section
variable{K:cR}{Q:ca}{S:St}{ops:Array Oper}{rest:List Oper}{op:Op}{ty:TypeId}{pos:String}{after:Array Edge}{g:Option (Nat×Bool)}
variable{m:bB}{β:ba}{w:World}{a:Act}
theorem jU{m:bB}{β:ba}{w':World}{B:Nat->Prop}{T:TypeId}{vs:Array Value}{b k:Nat}{cap:ol}{rows:List (List V)}(bl:Nat->Nat->Prop)(hBl:HE B bl)(hw:w'.heap[b]? = some (.cells vs T (0,0)))
  (hsz:vs.size=cap.off+cap.n*k) (hr:rows.length<=cap.n) (hcap:cap.n<=maxLen) (hk:∀row,row∈rows->row.length=k)
  (hc:∀(i j:Nat) (row:List V) (c:V),rows[i]? = some row->row[j]? = some c->∃v,vs[cap.off+(i*k+j)]? = some v/\eU m β w' (bl (i*k+j)) c v/\v.oneCell'=true):
  bn m β w' B (some (some (b,cap))) (.arr T k rows):=⟨vs,bl,hw,hsz,hr,hcap,hk,hBl,hc⟩
theorem j7{B:Nat->Prop}:HE B (fun _ _=>False):=⟨fun _ _ h=>h.elim,fun _ _ _ h=>h.elim⟩
theorem dZ{m:bB}{β:ba}{w':World}{B:Nat->Prop}{T:TypeId}{vs:Array Value}{b k n:Nat}{rows:List (List V)}(hw:w'.heap[b]? = some (.cells vs T (0,0)))
  (hsz:vs.size=n*k) (hr:rows.length<=n) (hcap:n<=maxLen) (hk:∀row,row∈rows->row.length=k)
  (hc:∀(i j:Nat) (row:List V) (c:V),rows[i]? = some row->row[j]? = some c->∃v,vs[i*k+j]? = some v/\br m β c v/\v.oneCell'=true):
  bn m β w' B (some (some (b,⟨n,0⟩))) (.arr T k rows):=
 jU _ j7 hw (by grind) hr hcap hk (fun i j row c hi hj=>let ⟨v,a1,a2,a3⟩:=hc i j row c hi hj;⟨v,by grind,.inl a2,a3⟩)
theorem eG{d:Nat}{x:Operand}{T:TypeId}{dv:V}(cs:List V)(hw:aN ops S ⟨some d,.box T x,ty,pos,after,g⟩ true)
  (hx:evl K S x=dv) (hcs:dl dv=cs) (h1:cs.all dF=true) (hN:Nat.blt d K.N=true)
  (kk:ay K ops rest Q ⟨(d,.ptr S.nx cs.length 0 0)::S.env,(S.nx,.arr T cs.length [cs])::S.hp,S.nx+1⟩):
  ay K ops (⟨some d,.box T x,ty,pos,after,g⟩::rest) Q S:=by
 refine cm hw (fun m β w a r=>?_) kk;have h:=r.reads x;rw[hx] at h;obtain⟨c1,c2,c3⟩:=h.cells (by grind);rw[hcs] at c1 c2
 obtain⟨β',hle,hn,r'⟩:=r.alloc (.cells (a.eval x).cells T) (.arr T cs.length [cs]) ⟨1,0⟩ _ rfl (fun β' hle=>by
  refine dZ (vs:=(a.eval x).cells) (by simp) (by grind) (by simp) (by grind [maxLen]) (by simp) ?_
  ·intro i j row c hi hj;cases i with
   |succ i=>simp at hi
   |zero=>
    simp at hi;subst hi;have hj':j<(a.eval x).cells.size:=by rw[<-c1];exact(bd9.1 hj).1
    refine⟨(a.eval x).cells[j],by simp[hj'],(c2 j c _ hj (by simp[hj'])).mono (bB.le_refl _) hle,c3 _ (by simp)⟩)
 refine⟨.pointer (some ⟨w.heap.size,0,none⟩),{ w with heap:=w.heap.push (.cells (a.eval x).cells T) },m,β',.inl ?_,?_⟩;rotate_left
 ·exact bX.put r' hN (by have:=br.ptr (m:=m) (k:=cs.length) (i:=0) (off:=0) hn;grind)
 ·simp only[execOp];rfl
def zeroCells(P:Program)(T:TypeId):Option (List Value):=((P.info? T).bind (·.zero)).map (·.cells.toList)
theorem oo{P:Program}{T:TypeId}{zs:List Value}(h:zeroCells P T=some zs)(w:World):∃z,(zeroValue T).run P w=.ok z w/\z.cells=zs.toArray:=by
 unfold zeroCells at h;cases hi:P.info? T with
 |none=>grind
 |some i=>
  cases hz:i.zero with
  |none=>grind
  |some z=>
   simp[hi,hz] at h;refine⟨z,?_,by rw[<-h]⟩
   simp_all[zeroValue,run_typeInfo]
theorem AS{d n:Nat}{T:TypeId}{zs:List Value}(hz:zeroCells K.P T=some zs)(hn:zs.length=n)(h1:zs.all (·.oneCell')=true)(hw:aN ops S ⟨some d,.alloc T,ty,pos,after,g⟩ true)
  (hN:Nat.blt d K.N=true)
  (kk:ay K ops rest Q ⟨(d,.ptr S.nx n 0 0)::S.env,(S.nx,.arr T n [zs.map .con])::S.hp,S.nx+1⟩):
  ay K ops (⟨some d,.alloc T,ty,pos,after,g⟩::rest) Q S:=by
 refine cm hw (fun m β w a r=>?_) kk;subst hn;obtain⟨z,hz1,hz2⟩:=oo hz w
 obtain⟨β',hle,hn,r'⟩:=r.alloc (.cells z.cells T) (.arr T zs.length [zs.map .con]) ⟨1,0⟩ _ rfl (fun β' hle=>by
  refine dZ (vs:=z.cells) (by simp) (by simp[hz2]) (by simp) (by grind [maxLen]) (by simp) ?_
  ·intro i j row c hi hj;cases i with
   |succ i=>simp at hi
   |zero=>
    simp at hi;subst hi;rw[az8] at hj;cases hzj:zs[j]? with
    |none=>grind
    |some v=>
     simp[hzj] at hj;subst hj;refine⟨v,by grind,.imm (.con v),aq8.1 h1 v (ay9 hzj)⟩)
 refine⟨.pointer (some ⟨w.heap.size,0,none⟩),{ w with heap:=w.heap.push (.cells z.cells T) },m,β',.inl ?_,?_⟩;rotate_left
 ·exact bX.put r' hN (by have:=br.ptr (m:=m) (k:=zs.length) (i:=0) (off:=0) hn;grind)
 ·simp only[execOp,Instr.alloc];simp only[Sem.run_bind,hz1,Result.andThen_ok];rfl
def Hx(P:Program)(T:TypeId)(n:Nat):Bool:=match P.info? T with|some i=>i.size==n|none=>false
theorem HJ{P:Program}{T:TypeId}{n:Nat}(h:Hx P T n=true)(w:World):(sizeOf T).run P w=.ok n w:=by
 grind [Hx,run_sizeOf,Program.cellsOf]
theorem iG{α:Type}(row cs:List α)(o:Nat)(h:o+cs.length<=row.length)(j:Nat):
  (row.take o++cs++row.drop (o+cs.length))[j]? = if o<=j/\j<o+cs.length then cs[j - o]? else row[j]?:=by
 rw[cb9,bu9,bk9,Nat.min_eq_left (by omega)]
 grind
theorem lM{w:World}{b b':Nat}{cs:Array Value}(h:b'≠b):(w.setRow b cs).heap[b']? = w.heap[b']?:=by
 simp_all[World.setRow,bp9,Ne.symm]
theorem gj{w:World}{b:Nat}{cs arr:Array Value}{T:TypeId}{fr:Nat×Nat}(h:w.heap[b]? = some (.cells arr T fr)):(w.setRow b cs).heap[b]? = some (.cells cs T fr):=by
 simp_all[World.setRow,bp9]
theorem dB{id k i o:Nat}{x y:Operand}{T e:TypeId}{rows:List (List V)}{row:List V}{dv:V}(cs:List V)(rows':List (List V))(hT:Hx K.P T cs.length=true)
  (hw:aN ops S ⟨none,.store T x y,ty,pos,after,g⟩ true) (hx:evl K S x=.ptr id k i o) (hy:evl K S y=dv) (hcs:dl dv=cs) (h1:cs.all dF=true)
  (ho:ak S.hp id=.arr e k rows) (hr:rows[i]? = some row) (hl:Nat.ble (o+cs.length) row.length=true)
  (hrows:rows.set i (row.take o++cs++row.drop (o+cs.length))=rows')
  (kk:ay K ops rest Q ⟨S.env,(id,.arr e k rows')::S.hp,S.nx⟩):
  ay K ops (⟨none,.store T x y,ty,pos,after,g⟩::rest) Q S:=by
 refine cm hw (fun m β w a r=>?_) kk;have hl:=ax8 hl;have hxv:=r.reads x;rw[hx] at hxv;obtain⟨b,cap,hb,hv⟩:=hxv.ptr_inv;have hyv:=r.reads y;rw[hy] at hyv;obtain⟨c1,c2,c3⟩:=hyv.cells (by grind);rw[hcs] at c1 c2;obtain⟨arr,bl,a1,a2,a3,a4,a5,aB,a6⟩:=r.obj hb ho;have hrk:row.length=k:=a5 row (ay9 hr);have hi:i<rows.length:=(bd9.1 hr).1
 have hik:cap.off+(i*k+k)<=arr.size:=by
  have:i*k+k<=cap.n*k:=by
   calc i*k+k=(i+1)*k:=by grind
    _<=cap.n*k:=bg9 _ (by omega)
  rw[a2];omega
 have hlen:(a.eval y).cells.toList.length=cs.length:=by simp[c1]
 have hrun:=run_storeCells_at (P:=K.P) b (cap.off+(i*k+o)) e (a.eval y).cells.toList 0 arr w a1 (by grind) c3;simp only[bg8] at hrun;refine⟨undef,w.setRow b (arr.toList.take (cap.off+(i*k+o))++(a.eval y).cells.toList++arr.toList.drop (cap.off+(i*k+o)+(a.eval y).cells.toList.length)).toArray,m,β,.inr ⟨Y,?_⟩,?_⟩;rotate_left
 ·refine r.update (by grind) hb _ (.arr e k rows') (fun b' hb'=>lM hb') (by simp_all) ⟨Y,Y,Y,trivial⟩ (fun hkeep=>?_);refine jU bl aB (gj a1) ?_ (by grind) a4 ?_ ?_
  ·grind
  ·grind
  ·intro i' j row' c hi' hj
   have keep:∀(i2 j:Nat) (row:List V) (c:V),rows[i2]? = some row->row[j]? = some c->∃v,arr[cap.off+(i2*k+j)]? = some v/\eU m β (w.setRow b (arr.toList.take (cap.off+(i*k+o))++(a.eval y).cells.toList++arr.toList.drop (cap.off+(i*k+o)+(a.eval y).cells.toList.length)).toArray) (bl (i2*k+j)) c v/\v.oneCell'=true:=by
    intro i2 j row c hi hj;obtain⟨v,q1,q2,q3⟩:=a6 i2 j row c hi hj;exact⟨v,q1,q2.mono (bB.le_refl _) (ba.le_refl _) (fun _ h=>h) (fun x hx=>hkeep x (aB.1 _ x hx)),q3⟩
   have ak:∀p,(arr.toList.take (cap.off+(i*k+o))++(a.eval y).cells.toList++arr.toList.drop (cap.off+(i*k+o)+(a.eval y).cells.toList.length)).toArray[p]? =
     if cap.off+(i*k+o)<=p/\p<cap.off+(i*k+o)+cs.length then (a.eval y).cells[p - (cap.off+(i*k+o))]? else arr[p]?:=by
    intro p;rw[bh8,iG _ _ _ (by grind),hlen]
    grind
   rw[ak];rw[<-hrows,bl9] at hi';by_cases hii:i=i'
   ·subst hii;rw[if_pos rfl,if_pos hi] at hi';simp only[ax9] at hi';subst hi';rw[iG _ _ _ hl] at hj;by_cases hjo:o<=j/\j<o+cs.length
    ·rw[if_pos hjo] at hj;rw[if_pos (by omega)];have e1:cap.off+(i*k+j) - (cap.off+(i*k+o))=j - o:=by omega
     rw[e1];have hlt:j - o<(a.eval y).cells.size:=by rw[<-c1];omega
     exact⟨(a.eval y).cells[j - o],⟨by simp[hlt],.inl (c2 _ _ _ hj (by simp[hlt])),c3 _ (by simp)⟩⟩
    grind
   ·rw[if_neg hii] at hi';have hrk':row'.length=k:=a5 row' (ay9 hi');have hjk:j<k:=by rw[<-hrk'];exact(bd9.1 hj).1
    rw[if_neg]
    ·grind
    ·intro hc;rcases Nat.lt_or_gt_of_ne hii with h|h
     ·have:(i+1)*k<=i'*k:=bg9 _ h
      grind
     ·have:(i'+1)*k<=i*k:=bg9 _ h
      grind
 ·simp only[execOp,hv,Instr.storeAt,Instr.sureAddr,storeVar];simp only[Sem.run_bind,pure,Sem.run,Result.andThen_ok,HJ hT w]
  simp_all
end
section
variable{K:cR}{Q:ca}{S:St}{ops:Array Oper}{rest:List Oper}{op:Op}{ty:TypeId}{pos:String}{after:Array Edge}{g:Option (Nat×Bool)}
variable{m:bB}{β:ba}{w:World}{a:Act}
def mW(P:Program)(T:TypeId)(k:Nat):Bool:=
 match P.underlying T with|some (.slice e)=>(match P.info? e with|some i=>i.size==k|none=>false)|_=>false
def m8(P:Program)(T:TypeId)(n k:Nat):Bool:=
 match P.underlying T with|some (.array l e)=>l==n&&(match P.info? e with|some i=>i.size==k|none=>false)|_=>false
theorem rP{P:Program}{T:TypeId}{k:Nat}(h:mW P T k=true):∃e i,P.underlying T=some (.slice e)/\P.info? e=some i/\i.size=k:=by
 grind [mW]
theorem uu{P:Program}{T:TypeId}{n k:Nat}(h:m8 P T n k=true):∃e i,P.underlying T=some (.array n e)/\P.info? e=some i/\i.size=k:=by
 unfold m8 at h
 grind
theorem kT{P:Program}{w:World}{T:TypeId}{k len cap:Nat}{ad:Addr}{ik:IntKind}{n:Int}(hT:mW P T k=true)(h0:0<=n)(h1:n.toNat<len):
  (Instr.indexAt T (.slice (some ad) len cap) (.int ik n)).run P w=.ok (.pointer (some (ad.add (n.toNat*k)))) w:=by
 obtain⟨e,i,hu,hi,hk⟩:=rP hT;simp only[Instr.indexAt,asIntOf,Sem.run_bind,pure,Sem.run,Result.andThen_ok,run_underlying hu]
 simp_all[run_sizeOf,Program.cellsOf]
theorem iU{d k:Nat}{x y:Operand}{T:TypeId}{rows:List (List V)}{ik:IntKind}{n:Int}(row:List V)(hT:mW K.P T k=true)
  (hw:aN ops S ⟨some d,.indexAddr T x y,ty,pos,after,g⟩ true) (hx:evl K S x=.lst k rows) (hy:evl K S y=.con (.int ik n)) (h0:0<=n) (hr:rows[n.toNat]? = some row)
  (hN:Nat.blt d K.N=true) (kk:ay K ops rest Q (S.put d (.iptr row 0))):
  ay K ops (⟨some d,.indexAddr T x y,ty,pos,after,g⟩::rest) Q S:=
 aX _ hw hN (fun m β w a r=>by
  have h:=r.reads x;rw[hx] at h;have hlt:n.toNat<rows.length:=(bd9.1 hr).1;generalize hev:a.eval x=v at h;cases h with
  |imm h=>
   cases h with
   |nil=>simp at hr
   | @lst _ _ ad n' cap arr T' fr f hm hs hn hcap hbd hk hf h=>
    have hrk:row.length=k:=hk row (ay9 hr);refine⟨.pointer (some ⟨ad.block,ad.off+n.toNat*k,none⟩),?_,.imm (.iptr (fun j=>f (n.toNat*k+j)) (ad.off+n.toNat*k) hm Y Y ?_ ?_)⟩
    ·simp only[execOp,hev,r.con hy];refine bk ?_;rw[kT hT h0 (by omega),iX hs,dX]
    ·intro j hj;rw[af9];refine hf _ ?_
     calc n.toNat*k+j<n.toNat*k+k:=by omega
      _=(n.toNat+1)*k:=by grind
      _<=rows.length*k:=bg9 _ (by omega)
    grind) kk
theorem lZ{d k id len:Nat}{x y:Operand}{T:TypeId}{ik:IntKind}{n:Int}(hT:mW K.P T k=true)
  (hw:aN ops S ⟨some d,.indexAddr T x y,ty,pos,after,g⟩ true) (hx:evl K S x=.own id len) (hy:evl K S y=.con (.int ik n))
  (h0:0<=n) (hr:n.toNat<len) (hN:Nat.blt d K.N=true)
  (kk:ay K ops rest Q (S.put d (.ptr id k n.toNat 0))):
  ay K ops (⟨some d,.indexAddr T x y,ty,pos,after,g⟩::rest) Q S:=
 aX _ hw hN (fun m β w a r=>by
  have h:=r.reads x;rw[hx] at h;generalize hev:a.eval x=v at h;cases h with
  |imm h=>cases h
  |ownNil h=>omega
  |own h=>
   refine⟨_,by simp only[execOp,hev,r.con hy];exact bk (kT hT h0 hr),?_⟩;rw[dX];have:=br.ptr (m:=m) (k:=k) (i:=n.toNat) (off:=0) h
   grind) kk
theorem tX{P:Program}{w:World}{T:TypeId}{k len b o:Nat}{ik:IntKind}{n:Int}(hT:m8 P T len k=true)(h0:0<=n)(h1:n.toNat<len):
  (Instr.indexAt T (.pointer (some ⟨b,o,none⟩)) (.int ik n)).run P w=.ok (.pointer (some ⟨b,o+n.toNat*k,none⟩)) w:=by
 obtain⟨e,i,hu,hi,hk⟩:=uu hT;simp only[Instr.indexAt,asIntOf,Sem.run_bind,pure,Sem.run,Result.andThen_ok,run_underlying hu,Instr.sureAddr]
 simp_all[run_sizeOf,Program.cellsOf,dX]
theorem l0{d k id i o len s:Nat}{x y:Operand}{T:TypeId}{ik:IntKind}{n:Int}(hT:m8 K.P T len s=true)
  (hw:aN ops S ⟨some d,.indexAddr T x y,ty,pos,after,g⟩ true) (hx:evl K S x=.ptr id k i o) (hy:evl K S y=.con (.int ik n))
  (h0:0<=n) (hr:n.toNat<len) (hN:Nat.blt d K.N=true)
  (kk:ay K ops rest Q (S.put d (.ptr id k i (o+n.toNat*s)))):
  ay K ops (⟨some d,.indexAddr T x y,ty,pos,after,g⟩::rest) Q S:=
 aX _ hw hN (fun m β w a r=>by
  have h:=r.reads x;rw[hx] at h;obtain⟨b,cap,hb,hv⟩:=h.ptr_inv;exact⟨_,by simp only[execOp,hv,r.con hy];exact bk (tX hT h0 hr),by have:=br.ptr (m:=m) (k:=k) (i:=i) (off:=o+n.toNat*s) hb;grind⟩) kk
theorem dK{P:Program}{w w':World}{o:Oper}{b:Builtin}{args:Array Operand}{at':Array TypeId}{n:Next}
  (ho:o.op=.call ⟨.builtin b,args,at'⟩) (h:(builtin b at' o.type (args.map fun | .const _=>true|_=>false) (args.map a.eval)).run P w=.ok n w'):
  (execOp a.eval o).run P w=.ok n w':=by
 grind [execOp,resolve,invoke]
def jO(P:Program)(T:TypeId):Bool:=match P.underlying T with|some .string=>true|_=>false
def cQ(P:Program)(T:TypeId):Bool:=match P.underlying T with|some (.slice _)=>true|_=>false
def xM(P:Program)(T:TypeId):Bool:=match P.underlying T with|some (.slice _)=>true|some .string=>true|_=>false
theorem oq{P:Program}{T:TypeId}(h:xM P T=true):(∃e,P.underlying T=some (.slice e))\/P.underlying T=some .string:=by
 grind [xM]
theorem nB{P:Program}{T:TypeId}(h:cQ P T=true):xM P T=true:=by
 grind [cQ,xM]
theorem xL{P:Program}{T:TypeId}(h:cQ P T=true):∃e,P.underlying T=some (.slice e):=by
 grind [cQ]
theorem jN{P:Program}{T:TypeId}(h:jO P T=true):P.underlying T=some .string:=by
 grind [jO]
def xV:V->Option Nat
 | .lst _ rows=>some rows.length
 | .own _ n=>some n
 | .con (.slice _ n _)=>some n
 |_=>none
theorem tp{d n:Nat}{x:Operand}{T:TypeId}{sv:V}(hT:cQ K.P T=true)
  (hw:aN ops S ⟨some d,.call ⟨.builtin .len,#[x],#[T]⟩,ty,pos,after,g⟩ true) (hx:evl K S x=sv) (hn:xV sv=some n) (hN:Nat.blt d K.N=true)
  (kk:ay K ops rest Q (S.put d (.con (.int .i64 n)))):
  ay K ops (⟨some d,.call ⟨.builtin .len,#[x],#[T]⟩,ty,pos,after,g⟩::rest) Q S:=
 aX _ hw hN (fun m β w a r=>by
  have h:=r.reads x;rw[hx] at h;obtain⟨e,hu⟩:=xL hT
  have key:∃ad cap,a.eval x=.slice ad n cap:=by
   generalize a.eval x=v at h;cases h with
   |imm h=>
    cases h with
    |nil=>simp_all[xV]
    |lst _ _ _ hl=>simp_all[xV]
    |con=>unfold xV at hn;grind
    |_=>simp[xV] at hn
   |ownNil=>simp_all[xV]
   |own=>simp_all[xV]
   |_=>simp[xV] at hn
  obtain⟨ad,cap,he⟩:=key;refine⟨.int .i64 n,dK Y ?_,.imm (.con _)⟩
  simp_all[builtin,Builtin.len_,run_underlying,goInt]) kk
theorem w6{d:Nat}{x:Operand}{T:TypeId}{s:ByteArray}(hT:jO K.P T=true)
  (hw:aN ops S ⟨some d,.call ⟨.builtin .len,#[x],#[T]⟩,ty,pos,after,g⟩ true) (hx:evl K S x=.con (.string s)) (hN:Nat.blt d K.N=true)
  (kk:ay K ops rest Q (S.put d (.con (.int .i64 s.size)))):
  ay K ops (⟨some d,.call ⟨.builtin .len,#[x],#[T]⟩,ty,pos,after,g⟩::rest) Q S:=
 aX _ hw hN (fun m β w a r=>by
  refine⟨.int .i64 s.size,dK Y ?_,.imm (.con _)⟩;simp only[builtin];refine bk ?_;simp only[Builtin.len_,bl8,bm9,ap8,r.con hx]
  simp_all[run_underlying,jN,goInt]) kk
structure nA(m:bB)(ds:List V)(vs:Array Value):Prop where
 len:ds.length=vs.size
 at':∀(i:Nat) (c:V) (v:Value),ds[i]? = some c->vs[i]? = some v->bN m c v
def dY(gl:Gl)(P:Program)(f:FuncId)(args:List V)(d:V):Prop:=
 ∀(m:bB) (w:World) (vs:Array Value),(∀(b:Nat) o,m b=some o->w.heap[b]? = some o)->fU gl m->nA m args vs->
  Calls P f vs w fun e w'=>∃v m',e=.returned v/\bN m' d v/\ur m m' w w'
abbrev cg:=dY []
def dC(d:V):Prop:=∀m β v,br m β d v->bN m d v
def aw(d:V):Prop:=d.deep=false/\dC d
theorem aw.con(v:Value):aw (.con v):=⟨rfl,fun _ _ _ h=>by cases h with|imm h=>exact h⟩
theorem aw.any:aw .any:=⟨rfl,fun _ _ _ h=>by cases h with|imm h=>exact h⟩
theorem aw.lst(k:Nat)(rows:List (List V)):aw (.lst k rows):=⟨rfl,fun _ _ _ h=>by cases h with|imm h=>exact h⟩
theorem aw.iptr(row:List V)(o:Nat):aw (.iptr row o):=⟨rfl,fun _ _ _ h=>by cases h with|imm h=>exact h⟩
theorem aw.ifc(T:Nat)(d:V):aw (.ifc T d):=⟨rfl,fun _ _ _ h=>by cases h with|imm h=>exact h⟩
theorem aw.imap(es:List (Value×V)):aw (.imap es):=⟨rfl,fun _ _ _ h=>by cases h with|imm h=>exact h⟩
theorem dC.dsl(e k:Nat)(rows:List (List V)):dC (.dsl e k rows):=fun _ _ _ h=>by cases h with|imm h=>cases h
theorem dC.dmp(es:List (Value×V)):dC (.dmp es):=fun _ _ _ h=>by cases h with|imm h=>cases h
theorem dC.plc(v0:Value)(d:V):dC (.plc v0 d):=fun _ _ _ h=>by cases h with|imm h=>cases h
theorem dC.dpt(e:Nat)(row:List V):dC (.dpt e row):=fun _ _ _ h=>by cases h with|imm h=>cases h
def cv(ds:List V):Prop:=∀c,c∈ds->aw c
def i5(ds:List V):Prop:=∀c,c∈ds->dC c
theorem i5.nil:i5 []:=fun _ h=>by simp at h
theorem i5.cons{c:V}{ds:List V}(h:dC c)(h':i5 ds):i5 (c::ds):=fun x hx=>by
 rcases as9.1 hx with rfl|hx
 ·exact h
 ·exact h' x hx
theorem cv.keep{ds:List V}(h:cv ds):i5 ds:=fun c hc=>(h c hc).2
theorem cv.nil:cv []:=fun _ h=>by simp at h
theorem cv.cons{c:V}{ds:List V}(h:aw c)(h':cv ds):cv (c::ds):=fun x hx=>by
 rcases as9.1 hx with rfl|hx
 ·exact h
 ·exact h' x hx
theorem cv.get{ds:List V}(h:cv ds){i:Nat}{c:V}(hi:ds[i]? = some c):aw c:=h c (ay9 hi)
theorem aw.agg{cs:List V}(h:cv cs):aw (.agg cs):=⟨rfl,fun m β v hv=>by
 cases hv with
 |imm h=>exact h
 |agg hl hh=>exact .agg hl fun i c v hi hv=>(h.get hi).2 m β v (hh i c v hi hv)⟩
theorem aw.tup{cs:List V}(h:cv cs):aw (.tup cs):=⟨rfl,fun m β v hv=>by
 cases hv with
 |imm h=>exact h
 |tup hl hh=>exact .tup hl fun i c v hi hv=>(h.get hi).2 m β v (hh i c v hi hv)⟩
theorem aw.fn{f:Fn}{cs ds:List V}(h:cv cs)(h':cv ds):aw (.fn f cs ds):=⟨rfl,fun m β v hv=>by
 cases hv with
 |imm h=>exact h
 |fn hl hl' hh hh'=>exact .fn hl hl' (fun i c v hi hv=>(h.get hi).2 m β v (hh i c v hi hv)) fun i c v hi hv=>(h'.get hi).2 m β v (hh' i c v hi hv)⟩
def cE (P:Program) (f:FuncId):Bool:=match P.funcs[f]? with|some fn=>fn.name != "runtime.NumGoroutine" && fn.body.isSome|none=>false
theorem fE{P:Program}{w:World}{f:FuncId}(h:cE P f=true)(args:Array Value):(callFunc f args).run P w=.ok (.enter f args) w:=by
 unfold cE at h;cases hf:P.funcs[f]? with
 |none=>grind
 |some fn=>
  rw[hf] at h;simp only[aq9,bne_iff_ne,ne_eq] at h;obtain⟨h1,h2⟩:=h;have h3:fn.body.isNone=false:=by simp_all
  simp only[callFunc,program,Sem.run_bind,Sem.run,Result.andThen_ok,hf];rw[if_neg (by grind),if_neg (by simp[h3])];rfl
theorem iW{o:Oper}{d:Nat}{f:FuncId}{dv:V}{avs:List V}(hw:aN ops S o true)(hd:o.dst=some d)(hN:Nat.blt d K.N=true)
  (hrun:∀m β w a,bX K m β w a S->∃vs:Array Value,(execOp a.eval o).run K.P w=.ok (.enter f vs) w/\nA m avs vs)
  (hc:dY K.gl K.P f avs dv) (kk:ay K ops rest Q (S.put d dv)):ay K ops (o::rest) Q S:=by
 intro m β w a r;unfold wpListIn;rw[if_pos (hw.at r)];obtain⟨vs,h1,h2⟩:=hrun m β w a r;refine fY (.inr (kr h1 (fun d e=>by cases e))) ?_;unfold Oper.wp;rw[h1];refine(hc m w vs r.imm (K.glok.mono r.ext) h2).mono ?_
 rintro e w' ⟨v,m',rfl,h3,h4⟩
 simp only[hd];exact kk m' β w' _ ((r.grow h4).put hN (.imm h3))
theorem te{d:Option Nat}{f:FuncId}{args:Array Operand}{at':Array TypeId}{avs:List V}(hf:cE K.P f=true)(ha:args.toList.map (evl K S)=avs)(hi:cv avs):
  ∀m β w a,bX K m β w a S->∃vs:Array Value,(execOp a.eval ⟨d,.call ⟨.value (.func f),args,at'⟩,ty,pos,after,g⟩).run K.P w=.ok (.enter f vs) w/\nA m avs vs:=by
 intro m β w a r;refine⟨args.map a.eval,?_,?_⟩
 ·simp_all[execOp,resolve,Act.eval,Deferred.ofValue,invoke,fE]
 ·refine⟨by grind,fun i c v h1 h2=>?_⟩;rw[<-ha,az8] at h1;rw[cb8] at h2;cases hx:args[i]? with
  |none=>grind
  |some x=>
   simp[hx] at h1 h2;subst h1;subst h2;refine(hi.get (i:=i) ?_).2 m β _ (r.reads x)
   grind
theorem iB{d:Nat}{f:FuncId}{args:Array Operand}{at':Array TypeId}(dv:V)(avs:List V)(hf:cE K.P f=true)
  (hw:aN ops S ⟨some d,.call ⟨.value (.func f),args,at'⟩,ty,pos,after,g⟩ true)
  (ha:args.toList.map (evl K S)=avs) (hi:cv avs) (hc:dY K.gl K.P f avs dv) (hN:Nat.blt d K.N=true) (kk:ay K ops rest Q (S.put d dv)):
  ay K ops (⟨some d,.call ⟨.value (.func f),args,at'⟩,ty,pos,after,g⟩::rest) Q S:=
 iW hw rfl hN (te hf ha hi) hc kk
theorem De{d:Option Nat}{f:FuncId}{fx:Operand}{first captured:List V}{args:Array Operand}{at':Array TypeId}{avs:List V}(hf:cE K.P f=true)
  (hfx:evl K S fx=.fn (.func f) first captured) (ha:first++args.toList.map (evl K S)++captured=avs) (hi:cv avs):
  ∀m β w a,bX K m β w a S->∃vs:Array Value,(execOp a.eval ⟨d,.call ⟨.value fx,args,at'⟩,ty,pos,after,g⟩).run K.P w=.ok (.enter f vs) w/\nA m avs vs:=by
 intro m β w a r;have h:=r.reads fx;rw[hfx] at h
 have key:∃fs cs:Array Value,a.eval fx=.func (.func f) fs cs/\first.length=fs.size/\captured.length=cs.size/\(∀(i:Nat) c v,first[i]? = some c->fs[i]? = some v->br m β c v)/\
   ∀(i:Nat) c v,captured[i]? = some c->cs[i]? = some v->br m β c v:=by
  generalize a.eval fx=v at h;cases h with
  |imm h=>cases h with|fn h1 h2 h3 h4=>exact⟨_,_,rfl,h1,h2,fun i c v a b=>.imm (h3 i c v a b),fun i c v a b=>.imm (h4 i c v a b)⟩
  |fn h1 h2 h3 h4=>grind
 obtain⟨fs,cs,e1,e2,e3,e4,e5⟩:=key;refine⟨fs++args.map a.eval++cs,?_,?_⟩
 ·simp_all[execOp,resolve,Deferred.ofValue,invoke,fE]
 ·refine⟨by grind,fun i c v h1 h2=>(hi.get h1).2 m β v ?_⟩;rw[<-ha,bu9,bi8,bj9] at h1;rw[cd9,cc9,Array.size_map,<-e2] at h2;simp only[bk8] at h1;split at h1
  ·rename_i hlt;rw[if_pos hlt] at h2;rw[bu9] at h1;rw[cd9,<-e2] at h2;split at h1
   ·grind
   ·rename_i hlt';rw[if_neg hlt'] at h2;rw[az8] at h1;rw[cb8] at h2;cases hx:args[i - first.length]? with
    |none=>grind
    |some x=>
     simp[hx] at h1 h2;subst h1;subst h2;exact r.reads x
  grind
end
section
variable{K:cR}{Q:ca}{S:St}
variable{m:bB}{β:ba}{w:World}{a:Act}
@[reducible] def Pm(gl:Gl)(P:Program)(N:Nat)(w0:World)(m0:bB)(hg:fU gl m0):cR:=⟨P,N,w0,m0,fun _=>True,0,fun _=>none,gl,hg,none⟩
def Dp(d v:V):Prop:=∀m β x,br m β v x->bN m d x
inductive eJ(P:Program)(S:St):ResultVar->V->Prop
 |tmp {t:Tmp} {d v:V} (h:get S.env t=v) (hi:Dp d v):eJ P S (.tmp t) d
 |agg {x:Tmp} {T n id k i o:Nat} {e:TypeId} {rows:List (List V)} {row cs:List V} {d:V} (hT:zy P T n=true) (hx:get S.env x=.ptr id k i o) (ho:ak S.hp id=.arr e k rows)
   (hr:rows[i]? = some row) (hc:(row.drop o).take n=cs) (hn:cs.length=n) (hnd:uQ cs=true) (hi:Dp d (.agg cs)):eJ P S (.cell x T) d
 |cell {x:Tmp} {T id k i o:Nat} {e:TypeId} {rows:List (List V)} {row:List V} {c d:V} (hT:ri P T=true) (hx:get S.env x=.ptr id k i o) (ho:ak S.hp id=.arr e k rows)
   (hr:rows[i]? = some row) (hc:row[o]? = some c) (hd:c.deep=false) (hi:Dp d c):eJ P S (.cell x T) d
def r6(tmps:Array Value):ResultVar->Sem Value
 | .tmp t=>pure (tmps.getD t undef)
 | .cell a t=>do loadVar t (<-asAddr (tmps.getD a undef))
theorem gi(fn:Func)(tmps:Array Value):results fn tmps=(do
  let vs <-fn.results.mapM (r6 tmps)
  pure (if h:vs.size=1 then vs[0] else .tuple vs)):=rfl
theorem jk{P:Program}{w:World}{T:TypeId}{ad:Addr}{v x:Value}(hx:x=.pointer (some ad))(h:(Instr.loadAt T (.pointer (some ad))).run P w=.ok v w):
  (do loadVar T (<-asAddr x):Sem Value).run P w=.ok v w:=by
 simp_all[Instr.loadAt,Instr.sureAddr,asAddr]
theorem eJ.run{rv:ResultVar}{d:V}(h:eJ K.P S rv d)(r:bX K m β w a S):∃v,(r6 a.tmps rv).run K.P w=.ok v w/\bN m d v:=by
 cases h with
 | @tmp t _ _ h hi=>exact⟨_,rfl,hi m β _ (by rw[<-h];exact r.env t)⟩
 | @agg x T n id k i o e rows row cs d hT hx ho hr hc hn hnd hi=>
  have h:=r.env x;rw[hx] at h;obtain⟨b,cap,hb,hv⟩:=h.ptr_inv;obtain⟨arr,bl,h1,h2,h3,h4,h5,_,h6⟩:=r.obj hb ho
  have hcell:∀j c,cs[j]? = some c->∃v,arr[cap.off+(i*k+o)+j]? = some v/\br m β c v:=by
   intro j c hj;have hd:=jv hnd hj;rw[<-hc,bi9] at hj;split at hj
   ·rw[av9] at hj;obtain⟨v,a1,a2,_⟩:=h6 i (o+j) row c hr hj;exact⟨v,by grind,a2.v hd⟩
   ·simp at hj
  have hrun:=fI (P:=K.P) (w:=w) (b:=b) (o:=cap.off+(i*k+o)) (fun j=>arr.getD (cap.off+(i*k+o)+j) undef) hT (fun j hj=>by
   rw[bW h1];obtain⟨v,a1,_⟩:=hcell j cs[j] (by simp[hn,hj])<;>simp_all)
  refine⟨_,jk hv hrun,hi m β _ ?_⟩;refine .agg (by simp[hn]) (fun j c v hj hv=>?_);obtain⟨v',a1,a2⟩:=hcell j c hj;simp only[bh8,az8] at hv;have hj':j<n:=by rw[<-hn];exact(bd9.1 hj).1
  simp_all
 | @cell x T id k i o e rows row c d hT hx ho hr hc hd hi=>
  have h:=r.env x;rw[hx] at h;obtain⟨b,cap,hb,hv⟩:=h.ptr_inv;obtain⟨arr,bl,h1,h2,h3,h4,h5,_,h6⟩:=r.obj hb ho;obtain⟨v,a1,a2,_⟩:=h6 i o row _ hr hc;exact⟨v,jk hv (eY hT (by grind [bW])),hi m β v (a2.v hd)⟩
inductive xg(P:Program)(S:St):List ResultVar->V->Prop
 |none:xg P S [] (.tup [])
 |one {r:ResultVar} {d:V} (h:eJ P S r d):xg P S [r] d
 |two {r1 r2:ResultVar} {d1 d2:V} (h1:eJ P S r1 d1) (h2:eJ P S r2 d2):xg P S [r1,r2] (.tup [d1,d2])
 |three {r1 r2 r3:ResultVar} {d1 d2 d3:V} (h1:eJ P S r1 d1) (h2:eJ P S r2 d2) (h3:eJ P S r3 d3):xg P S [r1,r2,r3] (.tup [d1,d2,d3])
 |four {r1 r2 r3 r4:ResultVar} {d1 d2 d3 d4:V} (h1:eJ P S r1 d1) (h2:eJ P S r2 d2) (h3:eJ P S r3 d3) (h4:eJ P S r4 d4):
   xg P S [r1,r2,r3,r4] (.tup [d1,d2,d3,d4])
theorem CY{d1 d2:V}{v1 v2:Value}(h1:bN m d1 v1)(h2:bN m d2 v2):bN m (.tup [d1,d2]) (.tuple #[v1,v2]):=by
 refine .tup Y fun i c v hi hv=>?_
 grind
theorem CX{d1 d2 d3:V}{v1 v2 v3:Value}(h1:bN m d1 v1)(h2:bN m d2 v2)(h3:bN m d3 v3):bN m (.tup [d1,d2,d3]) (.tuple #[v1,v2,v3]):=by
 refine .tup Y fun i c v hi hv=>?_
 grind
theorem CW{d1 d2 d3 d4:V}{v1 v2 v3 v4:Value}(h1:bN m d1 v1)(h2:bN m d2 v2)(h3:bN m d3 v3)(h4:bN m d4 v4):bN m (.tup [d1,d2,d3,d4]) (.tuple #[v1,v2,v3,v4]):=by
 refine .tup Y fun i c v hi hv=>?_
 grind
theorem xg.run{fn:Func}{l:List ResultVar}{d:V}(hl:fn.results=l.toArray)(h:xg K.P S l d)(r:bX K m β w a S):∃v,(results fn a.tmps).run K.P w=.ok v w/\bN m d v:=by
 cases h with
 |none=>exact⟨.tuple #[],by rw[gi,hl];simp,.tup rfl (by simp)⟩
 |one h=>
  obtain⟨v,h1,h2⟩:=h.run r<;>simp_all[gi]
 |two h g=>
  obtain⟨v1,h1,h2⟩:=h.run r;obtain⟨v2,g1,g2⟩:=g.run r<;>simp_all[gi,CY]
 |three h g i=>
  obtain⟨v1,h1,h2⟩:=h.run r;obtain⟨v2,g1,g2⟩:=g.run r;obtain⟨v3,i1,i2⟩:=i.run r<;>simp_all[gi,CX]
 |four h g i j=>
  obtain⟨v1,h1,h2⟩:=h.run r;obtain⟨v2,g1,g2⟩:=g.run r;obtain⟨v3,i1,i2⟩:=i.run r;obtain⟨v4,j1,j2⟩:=j.run r<;>simp_all[gi,CW]
def M3(P:Program)(l:List ResultVar)(d:V):ca:=fun e S=>(e=.ret\/e=.normal)/\xg P S l d
def gk:Nat->List V->cc
 |_,[]=>[]
 |i,v::vs=>(i,v)::gk (i+1) vs
theorem kC:∀(vs:List V) (i t:Nat),get (gk i vs) t=if i<=t then vs.getD (t - i) .any else .any
 |[],i,t=>by simp[gk,get]
 |v::vs,i,t=>by
  rw[gk,cn,kC vs (i+1) t]
  grind
theorem zY{gl:Gl}{P:Program}{f:FuncId}{fn:Func}{c:Code}{N:Nat}{args:List V}{l:List ResultVar}{d:V}(hf:P.funcs[f]? = some fn)(hb:fn.body=some c)(hN:fn.ntmps=N)
  (hl:fn.results=l.toArray) (ha:Nat.ble args.length N=true) (env:cc) (henv:gk 0 args=env)
  (h:∀(w0:World) (m0:bB) (hg:fU gl m0),iC (Pm gl P N w0 m0 hg) c (M3 P l d) ⟨env,[],0⟩):dY gl P f args d:=by
 intro m w vs himm hgl hargs;have ha:=ax8 ha;refine jA hf hb ?_
 have hsz:(vs++Array.replicate (fn.ntmps - vs.size) undef).size=N:=by
  have:=hargs.len;simp only[cc9,cc8,hN];omega
 have r:bX (Pm gl P N w m hgl) m ⟨fun _=>none,fun _ _=>False⟩ w ⟨vs++Array.replicate (fn.ntmps - vs.size) undef,[]⟩ ⟨env,[],0⟩:=by
  constructor
  ·exact himm
  ·exact bB.le_refl _
  ·grind
  ·grind
  ·grind
  ·exact⟨Y,Y,Y,trivial⟩
  ·exact hsz
  ·exact k7.nil
  ·intro t
   show br _ _ (get env t) _
   rw[<-henv,kC];simp only[ai8,if_true,Nat.sub_zero];by_cases ht:t<args.length
   ·have ht':t<vs.size:=by rw[<-hargs.len];exact ht
    simp only[cm9,az9 ht,bx8,bm8,cd9,if_pos ht',bb8 ht'];exact .imm (hargs.at' t _ _ (az9 ht) (bb8 ht'))
   ·simp only[cm9,av8 (au8 ht),Option.getD_none];exact .imm (.any _)
  ·exact fun _=>bn.dead' _
  ·grind
  ·grind
  ·grind
  ·grind
  ·grind
 refine wpIn_mono (h w m hgl m _ w _ r) ?_
 rintro e a' w1 ⟨_,S',m1,β',⟨he,hres⟩,r1⟩
 refine⟨he,bX.leave _ m1 w1 a' Y r1 (fun m' w' r'=>?_)⟩;obtain⟨v,h1,h2⟩:=hres.run hl r';have hg:ur m m' w w':=⟨r'.ext,r'.imm,fun b hb=>r'.mold b hb trivial,fun b hb=>r'.frame b hb trivial,r'.size,r'.same⟩
 grind
end
section
variable{K:cR}{Q:ca}{S S':St}{ops:Array Oper}{rest:List Oper}{op:Op}{ty:TypeId}{pos:String}{after:Array Edge}{g:Option (Nat×Bool)}
variable{m:bB}{β:ba}{w:World}{a:Act}
def aY(K:cR)(S S':St):Prop:=∀m β w a,bX K m β w a S->∃m' β',bX K m' β' w a S'
theorem aY.trans{S'':St}(h:aY K S S')(h':aY K S' S''):aY K S S'':=fun m β w a r=>
 let ⟨m',β',r'⟩:=h m β w a r;h' m' β' w a r'
theorem bd{c:Code}(h:aY K S S')(k:iC K c Q S'):iC K c Q S:=fun m β w a r=>let ⟨m',β',r'⟩:=h m β w a r;k m' β' w a r'
theorem bp{l:List Oper}(h:aY K S S')(k:ay K ops l Q S'):ay K ops l Q S:=fun m β w a r=>let ⟨m',β',r'⟩:=h m β w a r;k m' β' w a r'
abbrev Hy:=bB->ba->bB->ba->Prop
def ai(Yo:Hy)(v' v:V):Prop:=∀m β m' β' x,Yo m β m' β'->br m β v x->br m' β' v' x
theorem ai.any{Yo:Hy}{v:V}:ai Yo .any v:=fun _ _ _ _ _ _ _=>.imm (.any _)
inductive bP(Yo:Hy)(env:cc):cc->Prop
 |nil:bP Yo env []
 |cons {t:Nat} {v:V} {e:cc} (h:ai Yo v (get env t)) (h':bP Yo env e):bP Yo env ((t,v)::e)
theorem bP.get{Yo:Hy}{env env':cc}(h:bP Yo env env')(t:Nat):ai Yo (get env' t) (get env t):=by
 induction h with
 |nil=>exact ai.any
 | @cons t' v e h h' ih=>
  grind [cn]
def jb(Yo:Hy)(c c':V):Prop:=∀m β m' β' w B x,Yo m β m' β'->eU m β w B c' x->eU m' β' w B c x
def OS(Yo:Hy):Prop:=∀m β m' β',Yo m β m' β'->m.le m'
class jI (Yo:Hy):Prop where
 h:OS Yo
theorem jb.sub{Yo:Hy}{c c':V}(h:ai Yo c c')(hd:c'.deep=false):jb Yo c c':=fun _ _ _ _ _ _ _ hy hx=>.inl (h _ _ _ _ _ hy (hx.v hd))
theorem jb.same{Yo:Hy}(hm:OS Yo){c:V}(h:ai Yo c c):jb Yo c c:=fun _ _ _ _ _ _ _ hy hx=>hx.elim (fun hx=>.inl (h _ _ _ _ _ hy hx)) (fun hx=>.inr (hx.mono (hm _ _ _ _ hy) (fun _ h=>h) (fun _ _=>rfl)))
def ag(Yo:Hy):Ob->Ob->Prop
 | .dead,_=>True
 | .res,.res=>True
 | .arr e k rows,.arr e' k' rows'=>e=e'/\k=k'/\rows.length=rows'.length/\(∀(i:Nat) r r',rows[i]? = some r->rows'[i]? = some r'->r.length=r'.length/\
   ∀(j:Nat) c c',r[j]? = some c->r'[j]? = some c'->jb Yo c c')
 | .map es,.map es'=>es.length=es'.length/\∀(i:Nat) p p',es[i]? = some p->es'[i]? = some p'->p.1=p'.1/\jb Yo p.2 p'.2
 | .iter c l,.iter c' l'=>(∀p,p∈c->p∈c')/\l=l'/\OS Yo
 | .bld T e l fr,.bld T' e' l' fr'=>T=T'/\e=e'/\l=l'/\fr=fr'
 |_,_=>False
theorem ag.ok{Yo:Hy}{m m':bB}{β β':ba}{B:Nat->Prop}(hy:Yo m β m' β'){l:Option (Option (Nat×ol))}{ob ob':Ob}(h:ag Yo ob ob')(ho:bn m β w B l ob'):bn m' β' w B l ob:=by
 cases ob with
 |dead=>exact bn.dead' _
 |res=>
  cases ob' with
  |res=>
   match l,ho with
   |none,_=>trivial
   |some none,ho|some (some (b,c)),ho=>simp_all[bn]
  |_=>simp[ag] at h
 |arr e k rows=>
  cases ob' with
  |dead=>simp[ag] at h
  |res=>simp[ag] at h
  |map es=>simp[ag] at h
  |iter c l=>simp[ag] at h
  |bld T e l fr=>simp[ag] at h
  |arr e' k' rows'=>
   obtain⟨rfl,rfl,hl,hr⟩:=h
   match l,ho with
   |some none,ho=>
    have:rows'=[]:=ho;subst this;have:rows=[]:=ay8.1 (by simpa using hl);subst this;simp[bn]
   |some (some (b,cap)),ho=>
    obtain⟨arr,bl,h1,h2,h3,h4,h5,hBl,h6⟩:=ho;refine⟨arr,bl,h1,h2,by rw[hl];exact h3,h4,?_,hBl,?_⟩
    ·intro row hrow;obtain⟨i,hi,rfl⟩:=bj8 hrow;have hi':i<rows'.length:=by rw[<-hl];exact hi
     rw[(hr i _ _ (az9 hi) (az9 hi')).1];exact h5 _ (bc9 _)
    ·intro i j row c hi hj;have hlt:=(bd9.1 hi).1;have hlt':i<rows'.length:=by rw[<-hl];exact hlt
     obtain⟨a1,a2⟩:=hr i row _ hi (az9 hlt');have hj1:=(bd9.1 hj).1;have hj2:j<rows'[i].length:=by rw[<-a1];exact hj1
     obtain⟨v,b1,b2,b3⟩:=h6 i j _ _ (az9 hlt') (az9 hj2);exact⟨v,b1,a2 j c _ hj (az9 hj2) _ _ _ _ _ _ _ hy b2,b3⟩
   |none,ho=>simp_all[bn]
 |map es=>
  cases ob' with
  |dead=>simp[ag] at h
  |res=>simp[ag] at h
  |arr e k rows=>simp[ag] at h
  |iter c l=>simp[ag] at h
  |bld T e l fr=>simp[ag] at h
  |map es'=>
   obtain⟨hl,hr⟩:=h
   match l,ho with
   |some (some (b,cap)),ho=>
    obtain⟨ents,clock,bl,h1,h2,hBl,h3⟩:=ho;refine⟨ents,clock,bl,h1,by rw[hl];exact h2,hBl,?_⟩;intro i p e hi he;have hlt:=(bd9.1 hi).1;have hlt':i<es'.length:=by rw[<-hl];exact hlt
    obtain⟨a1,a2⟩:=hr i p _ hi (az9 hlt');obtain⟨b1,b2⟩:=h3 i _ e (az9 hlt') he;exact⟨by rw[a1];exact b1,a2 _ _ _ _ _ _ _ hy b2⟩
   |none,ho=>exact absurd ho (by simp[bn])
   |some none,ho=>simp_all[bn]
 |iter cu lf=>
  cases ob' with
  |dead=>simp[ag] at h
  |res=>simp[ag] at h
  |arr e k rows=>simp[ag] at h
  |map es=>simp[ag] at h
  |bld T e l fr=>simp[ag] at h
  |iter cu' lf'=>
   obtain⟨hcc,rfl,hm⟩:=h;have hm:=hm _ _ _ _ hy
   match l,ho with
   |some (some (b,cap)),ho=>
    obtain⟨bm,seen,E,clock,v,h0,h1,h2,h3,h4,h5,h6,h7⟩:=ho;exact⟨bm,seen,E,clock,v,h0,h1,hm _ _ h2,h3,h4,h5,fun i p e hi he=>⟨(h6 i p e hi he).1,(h6 i p e hi he).2.mono hm⟩,fun p hp=>let ⟨e,a1,a2,a3,a4⟩:=h7 p (hcc p hp);⟨e,a1,a2,a3,a4.mono hm⟩⟩
   |none,ho=>exact absurd ho (by simp[bn])
   |some none,ho=>exact absurd ho (by simp[bn])
 |bld T e bs fr=>
  cases ob' with
  |bld T' e' bs' fr'=>
   obtain⟨rfl,rfl,rfl,rfl⟩:=h
   match l,ho with
   |some (some (b,cap)),ho=>exact ho
   |none,ho=>exact absurd ho (by simp[bn])
   |some none,ho=>exact absurd ho (by simp[bn])
  |_=>simp[ag] at h
theorem ag.keep'{Yo:Hy}(hm:OS Yo)(hk:∀c,jb Yo c c)(ob:Ob):ag Yo ob ob:=by
 cases ob with
 |dead=>trivial
 |res=>trivial
 |iter c l=>exact⟨fun _ h=>h,rfl,hm⟩
 |bld T e l fr=>exact⟨rfl,rfl,rfl,rfl⟩
 |arr e k rows=>
  refine⟨Y,Y,Y,fun i r r' h1 h2=>?_⟩
  grind
 |map es=>
  refine⟨Y,fun i p p' h1 h2=>?_⟩
  grind
def Ren(n:Nat)(σ:Nat->Nat):Hy:=fun m β m' β'=>m'=m/\∀id,id<n->β' id=β (σ id)
instance {n:Nat} {σ:Nat->Nat}:jI (Ren n σ):=⟨fun m β m' β' hy=>by rw[hy.1];exact bB.le_refl _⟩
theorem ai.kp{n:Nat}{σ:Nat->Nat}{v:V}(h:dC v):ai (Ren n σ) v v:=fun m β m' β' x hy hx=>by
 obtain⟨rfl,_⟩:=hy;exact .imm (h _ β x hx)
theorem ai.imm{n:Nat}{σ:Nat->Nat}{v:V}(h:aw v):ai (Ren n σ) v v:=fun m β m' β' x hy hx=>by
 obtain⟨rfl,_⟩:=hy;exact .imm (h.2 _ β x hx)
theorem ai.nil{Yo:Hy}(k:Nat):ai Yo (.lst k []) (.con (.slice none 0 0)):=fun m β m' β' x _ hx=>by
 rw[hx.of_con];exact .imm (.nil k none 0)
theorem ai.own{n id j l:Nat}{σ:Nat->Nat}(hn:Nat.blt id n=true)(hj:σ id=j):ai (Ren n σ) (.own id l) (.own j l):=fun m β m' β' x hy hx=>by
 have h:=hy.2 id (ax8 hn);rw[hj] at h;cases hx with
 |imm h=>cases h
 |ownNil hb=>exact .ownNil (by grind)
 |own hb=>exact .own (by grind)
theorem ai.ptr{n id j k i o:Nat}{σ:Nat->Nat}(hn:Nat.blt id n=true)(hj:σ id=j):ai (Ren n σ) (.ptr id k i o) (.ptr j k i o):=fun m β m' β' x hy hx=>by
 have h:=hy.2 id (ax8 hn);rw[hj] at h;cases hx with
 |imm h=>cases h
 |ptr hb=>exact .ptr (by grind)
theorem ai.map{n id j:Nat}{σ:Nat->Nat}(hn:Nat.blt id n=true)(hj:σ id=j):ai (Ren n σ) (.map id) (.map j):=fun m β m' β' x hy hx=>by
 have h:=hy.2 id (ax8 hn);rw[hj] at h;cases hx with
 |imm h=>cases h
 |map hb=>exact .map (by rw[h];exact hb)
inductive ia(Yo:Hy):List V->List V->Prop
 |nil:ia Yo [] []
 |cons {v v':V} {l l':List V} (h:ai Yo v v') (h':ia Yo l l'):ia Yo (v::l) (v'::l')
theorem ia.len{Yo:Hy}{l l':List V}(h:ia Yo l l'):l.length=l'.length:=by
 induction h<;>simp_all
theorem ia.get{Yo:Hy}{l l':List V}(h:ia Yo l l'):∀(i:Nat) c c',l[i]? = some c->l'[i]? = some c'->ai Yo c c':=by
 induction h<;>grind
theorem ai.agg{Yo:Hy}{l l':List V}(h:ia Yo l l'):ai Yo (.agg l) (.agg l'):=fun m β m' β' x hh hx=>by
 cases hx with
 |imm hx=>cases hx with
  |agg hl hx=>
   refine .agg (by rw[h.len];exact hl) fun i c v h1 h2=>?_;have h3:i<l'.length:=by rw[<-h.len];exact(bd9.1 h1).1
   exact h.get i c _ h1 (az9 h3) _ _ _ _ _ hh (.imm (hx i _ v (az9 h3) h2))
 |agg hl hx=>
  refine .agg (by rw[h.len];exact hl) fun i c v h1 h2=>?_;have h3:i<l'.length:=by rw[<-h.len];exact(bd9.1 h1).1
  exact h.get i c _ h1 (az9 h3) _ _ _ _ _ hh (hx i _ v (az9 h3) h2)
inductive bJ(Yo:Hy)(n:Nat)(σ:Nat->Nat)(hp:aC):aC->Prop
 |nil:bJ Yo n σ hp []
 |cons {id:Nat} {ob:Ob} {e:aC} (hn:Nat.blt id n=true) (h:ag Yo ob (ak hp (σ id))) (h':bJ Yo n σ hp e):bJ Yo n σ hp ((id,ob)::e)
theorem bJ.get{Yo:Hy}{n:Nat}{σ:Nat->Nat}{hp hp':aC}(h:bJ Yo n σ hp hp')(id:Nat):(ak hp' id=.dead\/id<n)/\ag Yo (ak hp' id) (ak hp (σ id)):=by
 induction h with
 |nil=>exact⟨.inl rfl,trivial⟩
 | @cons id' ob e hn h h' ih=>
  rw[av];split<;>simp_all
def Hr(Yo:Hy)(n:Nat)(σ:Nat->Nat)(hp hp':aC):Prop:=∀id,(ak hp' id=.dead\/id<n)/\ag Yo (ak hp' id) (ak hp (σ id))
theorem pF{Yo:Hy}{env:cc}{t:Nat}{v:V}(hk:∀v,ai Yo v v)(h:ai Yo v (get env t)):∀t',ai Yo (get ((t,v)::env) t') (get env t'):=by
 grind [cn]
def pp(n:Nat)(σ:Nat->Nat):Nat->Bool
 |0=>true
 |q+1=>Nat.blt q n&&Nat.beq (σ q) q&&pp n σ q
theorem uE{n:Nat}{σ:Nat->Nat}:∀{p q:Nat},pp n σ p=true->q<p->q<n/\σ q=q
 |p+1,q,h,hq=>by
  simp only[pp,aq9] at h;by_cases e:q=p
  ·simp_all
  ·exact uE h.2 (by omega)
theorem bi(n:Nat)(σ:Nat->Nat)(env:cc)(hp:aC)(hσ:∀i,i<n->∀j,j<n->σ i=σ j->i=j)(henv:∀t,ai (Ren n σ) (get env t) (get S.env t))(hhp:Hr (Ren n σ) n σ S.hp hp)
  (hpin:pp n σ K.pins=true):aY K S ⟨env,hp,n⟩:=by
 intro m β w a r
 let β':ba:=⟨fun id=>if id<n then β (σ id) else none,fun id=>β.hid (σ id)⟩
 have eβ:∀id,id<n->β' id=β (σ id):=fun id h=>by grind
 have hy:Ren n σ m β m β':=⟨rfl,eβ⟩
 have hlive:∀id,ak hp id≠.dead->id<n/\ak S.hp (σ id)≠.dead:=by
  intro id h;obtain⟨h1,h2⟩:=hhp id;refine⟨h1.resolve_left h,fun hd=>?_⟩;rw[hd] at h2;cases ho:ak hp id with
  |dead=>exact h ho
  |arr=>simp_all[ag]
  |res=>simp_all[ag]
  |map=>simp_all[ag]
  |iter=>simp_all[ag]
  |bld=>simp_all[ag]
 refine⟨m,β',?_⟩;constructor
 ·exact r.imm
 ·exact r.ext
 ·exact r.mold
 ·exact r.frame
 ·exact r.size
 ·exact r.same
 ·exact r.tn
 ·exact r.df
 ·exact fun t=>henv t _ _ _ _ _ hy (r.env t)
 ·intro id;obtain⟨h1,h2⟩:=hhp id;rcases h1 with h1|h1
  ·grind [bn.dead']
  ·show bn m β' w (β.hid (σ id)) (β' id) (ak hp id)
   rw[eβ id h1];exact h2.ok hy (r.own (σ id))
 ·intro id b cap hl hb;obtain⟨h1,h2⟩:=hlive id hl;have:=eβ id h1;rw[this] at hb;exact r.priv _ _ _ h2 hb
 ·intro id id' b cap cap' hl hl' hb hb';obtain⟨h1,h2⟩:=hlive id hl;obtain⟨h1',h2'⟩:=hlive id' hl';have e1:=eβ id h1;have e2:=eβ id' h1';rw[e1] at hb;rw[e2] at hb';exact hσ id h1 id' h1' (r.inj _ _ _ _ _ h2 h2' hb hb')
 ·intro id x hl hx;obtain⟨h1,h2⟩:=hlive id hl;have h:=r.hid (σ id) x h2 hx;refine⟨h.lt,h.m,h.old,fun i b c hi hb=>?_,fun i hi hx'=>?_⟩
  ·obtain⟨h1',h2'⟩:=hlive i hi;rw[eβ i h1'] at hb;exact h.ne _ b c h2' hb
  ·obtain⟨h1',h2'⟩:=hlive i hi;exact hσ i h1' id h1 (h.un _ h2' hx')
 ·grind
 ·intro q hq;obtain⟨h1,h2⟩:=uE hpin hq;refine⟨h1,?_⟩;rw[eβ q h1,h2];exact(r.pin q hq).2
def Dy(id k:Nat)(rows:List (List V)):Hy:=fun m β m' β'=>m.le m'/\β'=β/\(∀n x,br m β (.own id n) x->n<=rows.length->bN m' (.lst k (rows.take n)) x)/\
 ∀i o row x,rows[i]? = some row->br m β (.ptr id k i o) x->bN m' (.iptr row o) x
instance {id k:Nat} {rows:List (List V)}:jI (Dy id k rows):=⟨fun m β m' β' hy=>hy.1⟩
theorem ai.keep{id k:Nat}{rows:List (List V)}{v:V}:ai (Dy id k rows) v v:=fun _ _ _ _ _ hy hx=>by
 obtain⟨h1,rfl,_⟩:=hy;exact hx.mono h1 (ba.le_refl _)
theorem ai.frz{id k n:Nat}{rows rows':List (List V)}(hn:n<=rows.length)(hr:rows.take n=rows'):ai (Dy id k rows) (.lst k rows') (.own id n):=fun _ _ _ _ _ hy hx=>by
 subst hr;exact .imm (hy.2.2.1 n _ hx hn)
theorem ai.frzptr{id k i o:Nat}{rows:List (List V)}{row:List V}(hr:rows[i]? = some row):ai (Dy id k rows) (.iptr row o) (.ptr id k i o):=fun _ _ _ _ _ hy hx=>.imm (hy.2.2.2 i o row _ hr hx)
theorem fK(id:Nat){e:TypeId}{k:Nat}{rows:List (List V)}(env:cc)(hp:aC)(ho:ak S.hp id=.arr e k rows)(hi:∀row,row∈rows->cv row)
  (henv:∀t,ai (Dy id k rows) (get env t) (get S.env t)) (hhp:∀i,ag (Dy id k rows) (ak hp i) (ak S.hp i)) (hd:ak hp id=.dead):aY K S ⟨env,hp,S.nx⟩:=by
 intro m β w a r;have hown:=r.own id;rw[ho] at hown;cases hb:β id with
 |none=>simp_all[bn]
 |some l=>
 have key:∃m',(∀b o,m' b=some o->w.heap[b]? = some o)/\Dy id k rows m β m' β/\(∀b,m' b=m b\/∃cap,l=some (b,cap)):=by
  cases l with
  |none=>
   rw[hb] at hown;have:rows=[]:=hown;subst this;refine⟨m,r.imm,⟨bB.le_refl _,rfl,fun n x hx hn=>?_,fun i o row x hr=>by simp at hr⟩,fun b=>.inl rfl⟩;simp at hn;subst hn;cases hx with
   |imm h=>cases h
   |ownNil h=>exact .nil k _ 0
   |own h=>grind
  |some p=>
   obtain⟨b,cap⟩:=p;rw[hb] at hown;obtain⟨arr,bl,h1,h2,h3,h4,h5,hBl,h6⟩:=hown;have hp':=r.priv id b cap (by grind) hb
   let m':bB:=fun b'=>if b'=b then some (.cells arr e (0,0)) else m b'
   have hle:m.le m':=by
    intro b' o h;have:b'≠b:=by intro e';subst e';rw[hp'.1] at h;simp at h
    simp[m',this,h]
   have hcells:∀i,i<rows.length*k->arr[cap.off+i]? = some (arr.getD (cap.off+i) undef):=by
    intro i hi';have:cap.off+i<arr.size:=by rw[h2];have:=ck8 hi' (bg9 k h3);omega
    simp[bm8,this]
   have hrel:∀(i j:Nat) (row:List V) (c:V),rows[i]? = some row->row[j]? = some c->bN m' c (arr.getD (cap.off+(i*k+j)) undef):=by
    intro i j row c hr hj;obtain⟨v,a1,a2,_⟩:=h6 i j row c hr hj;have hcc:=hi row (ay9 hr) c (ay9 hj);have:=hcc.2 m β v (a2.v hcc.1);simp only[bm8,a1,bx8];exact this.mono hle
   refine⟨m',?_,⟨hle,Y,?_,?_⟩,?_⟩
   ·intro b' o h;by_cases hbb:b'=b
    ·grind
    ·simp[m',hbb] at h;exact r.imm _ _ h
   ·intro n x hx hn;cases hx with
    |imm h=>cases h
    |ownNil h=>grind
    | @own _ _ b2 cap2 h=>
     rw[hb] at h;simp only[ax9,Prod.mk.injEq] at h;obtain⟨rfl,rfl⟩:=h;refine .lst (T:=e) (arr:=arr) (fr:=(0,0)) (fun i=>arr.getD (cap.off+i) undef) (by simp[m']) Y (by simp;omega) (by omega) (by omega) (fun row hr=>h5 row (List.mem_of_mem_take hr)) ?_ ?_
     ·grind [Nat.lt_of_lt_of_le,Nat.mul_le_mul_right]
     grind
   ·intro i o row x hr hx;cases hx with
    |imm h=>cases h
    | @ptr _ _ _ _ b2 cap2 h=>
     rw[hb] at h;simp only[ax9,Prod.mk.injEq] at h;obtain⟨rfl,rfl⟩:=h;have hrk:=h5 row (ay9 hr);refine .iptr (T:=e) (arr:=arr) (fr:=(0,0)) (fun j=>arr.getD (cap.off+(i*k+j)) undef) (cap.off+i*k) (by simp[m']) Y (by simp;omega) ?_ ?_
     ·intro j hj;rw[af9];refine hcells _ ?_
      calc i*k+j<i*k+k:=by omega
       _=(i+1)*k:=by grind
       _<=rows.length*k:=bg9 _ (bd9.1 hr).1
     grind
   grind
 obtain⟨m',k1,hy,k2⟩:=key;have hlid:ak S.hp id≠.dead:=by rw[ho];simp
 have hlive:∀i,ak hp i≠.dead->ak S.hp i≠.dead/\i≠id:=by
  intro i h;have h2:=hhp i;refine⟨fun hdd=>?_,fun he=>h (by grind)⟩;rw[hdd] at h2;cases ho':ak hp i with
  |dead=>exact h ho'
  |arr=>simp_all[ag]
  |res=>simp_all[ag]
  |map=>simp_all[ag]
  |iter=>simp_all[ag]
  |bld=>simp_all[ag]
 refine⟨m',β,?_⟩;constructor
 ·exact k1
 ·exact bB.le_trans r.ext hy.1
 ·intro b hb' hold;rcases k2 b with h|⟨cap,h⟩
  ·rw[h];exact r.mold b hb' hold
  ·subst h;have hp':=r.priv id b cap (by grind) hb
   grind
 ·exact r.frame
 ·exact r.size
 ·exact r.same
 ·exact r.tn
 ·exact r.df.mono hy.1
 ·exact fun t=>henv t _ _ _ _ _ hy (r.env t)
 ·intro i;exact(hhp i).ok hy (r.own i)
 ·intro i b cap hl hb';obtain⟨h1,h2⟩:=hlive i hl;have hp':=r.priv i b cap h1 hb';refine⟨?_,hp'.2⟩;rcases k2 b with h|⟨cap',h⟩
  ·grind
  ·subst h;exact absurd (r.inj i id b cap cap' h1 (by grind) hb' hb) h2
 ·intro i i' b cap cap' hl hl';exact r.inj i i' b cap cap' (hlive i hl).1 (hlive i' hl').1
 ·intro i x hl hx;have h:=r.hid i x (hlive i hl).1 hx;refine⟨h.lt,?_,h.old,fun i' b c hi'=>h.ne i' b c (hlive i' hi').1,fun i' hi'=>h.un i' (hlive i' hi').1⟩;rcases k2 x with h'|⟨cap',h'⟩
  ·rw[h'];exact h.m
  ·subst h';exact absurd Y (h.ne id x cap' hlid hb)
 ·exact r.nx
 ·exact r.pin
end
end Go.Pv
