/- Part of the proof. -/
import Derived.Test.YtelmfadihfcgnaaGreatDoorGPvC
set_option linter.unusedSimpArgs false
set_option linter.unusedVariables false
namespace Go.Pv
open Go
section
variable{K:cS}{Q:bX}{S:St}{ops:Array Oper}{rest:List Oper}{op:Op}{ty:TypeId}{pos:String}{after:Array Edge}{g:Option (Nat×Bool)}
variable{m:bA}{β:aZ}{w:World}{a:Act}
theorem b9{w:World}{b o:Nat}{arr:Array Value}{T:TypeId}{fr:Nat×Nat}(h:w.heap[b]? = some (.cells arr T fr)):
  w.cell? ⟨b,o,none⟩=arr[o]?:=by simp[World.cell?,h]
theorem fG{P:Program}{w:World}{T:TypeId}{n b o:Nat}(f:Nat->Value)(hT:ze P T n=true)(h:∀j,j<n->w.cell? ⟨b,o+j,none⟩=some (f j)):
  (Instr.loadAt T (.pointer (some ⟨b,o,none⟩))).run P w=.ok (.agg ((List.range n).map f).toArray) w:=by
 have h1:=vk hT w
 simp_all[run_loadCells,dW,Instr.loadAt,Instr.sureAddr,loadVar]
theorem eS{P:Program}{w:World}{T:TypeId}{b o:Nat}{v:Value}(hT:qH P T=true)(h:w.cell? ⟨b,o,none⟩=some v):
  (Instr.loadAt T (.pointer (some ⟨b,o,none⟩))).run P w=.ok v w:=by
 simp_all[mu,Instr.loadAt,Instr.sureAddr,Sem.run,loadVar]
theorem bn.ptr_inv{id k i off:Nat}{v:Value}(h:bn m β (.ptr id k i off) v):∃b cap,β id=some (some (b,cap))/\v=.pointer (some ⟨b,cap.off+(i*k+off),none⟩):=by
 cases h with
 |imm h=>cases h
 |ptr h=>grind
theorem bn.iptr_inv{row:List V}{off:Nat}{v:Value}(h:bn m β (.iptr row off) v):∃(a:Addr) (arr:Array Value) (T:TypeId) (fr:Nat×Nat) (f:Nat->Value) (base:Nat),
  v=.pointer (some a)/\m a.block=some (.cells arr T fr)/\a.spot=none/\a.off=base+off/\(∀i,i<row.length->arr[base+i]? = some (f i))/\∀(j:Nat) (c:V),row[j]? = some c->bT m c (f j):=by
 cases h with
 |imm h=>cases h with|iptr f base h1 h2 h3 h4 h5=>exact⟨_,_,_,_,f,base,rfl,h1,h2,h3,h4,h5⟩
theorem iO{a:Addr}(h:a.spot=none):a=⟨a.block,a.off,none⟩:=by cases a;simp_all
theorem bQ.obj(r:bQ K m β w a S){id b k:Nat}{cap:nZ}{e:TypeId}{rows:List (List V)}(hb:β id=some (some (b,cap)))(ho:ao S.hp id=.arr e k rows):
  ∃arr bl,w.heap[b]? = some (.cells arr e (0,0))/\arr.size=cap.off+cap.n*k/\rows.length<=cap.n/\cap.n<=maxLen/\(∀row,row∈rows->row.length=k)/\He (β.hid id) bl/\
   ∀(i j:Nat) (row:List V) (c:V),rows[i]? = some row->row[j]? = some c->∃v,arr[cap.off+(i*k+j)]? = some v/\eO m β w (bl (i*k+j)) c v/\v.oneCell'=true:=by
 have h:=r.own id;rw[hb,ho] at h;exact h
def uy:List V->Bool
 |[]=>true
 |c::l=>match c.deep with|true=>false|false=>uy l
theorem jl:∀{l:List V} {j:Nat} {c:V},uy l=true->l[j]? = some c->c.deep=false
 |x::l,0,c,h,hc=>by grind [uy]
 |x::l,j+1,c,h,hc=>by
  simp only[uy] at h;split at h
  ·simp at h
  ·exact jl (l:=l) (j:=j) h (by simpa using hc)
 |[],_,c,_,hc=>by simp at hc
theorem cC{d n id k i o:Nat}{x:Operand}{T e:TypeId}{rows:List (List V)}{row cs:List V}(hT:ze K.P T n=true)
  (hw:aT ops S ⟨some d,.load T x,ty,pos,after,g⟩ true) (hx:evl K S x=.ptr id k i o) (ho:ao S.hp id=.arr e k rows) (hr:rows[i]? = some row)
  (hc:(row.drop o).take n=cs) (hn:cs.length=n) (hnd:uy cs=true) (hN:Nat.blt d K.N=true) (kk:ax K ops rest Q (S.put d (.agg cs))):
  ax K ops (⟨some d,.load T x,ty,pos,after,g⟩::rest) Q S:=
 aW _ hw hN (fun m β w a r=>by
  have h:=r.reads x;rw[hx] at h;obtain⟨b,cap,hb,hv⟩:=h.ptr_inv;obtain⟨arr,bl,h1,h2,h3,h4,h5,_,h6⟩:=r.obj hb ho
  have hcell:∀j c,cs[j]? = some c->∃v,arr[cap.off+(i*k+o)+j]? = some v/\bn m β c v:=by
   intro j c hj;have hd:=jl hnd hj;rw[<-hc,be8] at hj;split at hj
   ·rw[at8] at hj;obtain⟨v,a1,a2,_⟩:=h6 i (o+j) row c hr hj;exact⟨v,by grind,a2.v hd⟩
   ·simp at hj
  have hrun:=fG (P:=K.P) (w:=w) (b:=b) (o:=cap.off+(i*k+o)) (fun j=>arr.getD (cap.off+(i*k+o)+j) undef) hT (fun j hj=>by
   rw[b9 h1];obtain⟨v,a1,_⟩:=hcell j cs[j] (by simp[hn,hj])<;>simp_all)
  refine⟨_,by simp only[execOp,hv];exact bi hrun,?_⟩
  ·refine .agg (by simp[hn]) (fun j c v hj hv=>?_);obtain⟨v',a1,a2⟩:=hcell j c hj;simp only[be9,ay9] at hv;have hj':j<n:=by rw[<-hn];exact(bb8.1 hj).1
   simp_all) kk
theorem ey{d id k i o:Nat}{x:Operand}{T e:TypeId}{rows:List (List V)}{row:List V}(c:V)(hT:qH K.P T=true)
  (hw:aT ops S ⟨some d,.load T x,ty,pos,after,g⟩ true) (hx:evl K S x=.ptr id k i o) (ho:ao S.hp id=.arr e k rows) (hr:rows[i]? = some row)
  (hc:row[o]? = some c) (hd:c.deep=false) (hN:Nat.blt d K.N=true) (kk:ax K ops rest Q (S.put d c)):
  ax K ops (⟨some d,.load T x,ty,pos,after,g⟩::rest) Q S:=
 aW _ hw hN (fun m β w a r=>by
  have h:=r.reads x;rw[hx] at h;obtain⟨b,cap,hb,hv⟩:=h.ptr_inv;obtain⟨arr,bl,h1,h2,h3,h4,h5,_,h6⟩:=r.obj hb ho;obtain⟨v,a1,a2,_⟩:=h6 i o row c hr hc;exact⟨v,by grind [execOp,bi,eS,b9],a2.v hd⟩) kk
theorem sT{d n o:Nat}{x:Operand}{T:TypeId}{row cs:List V}(hT:ze K.P T n=true)
  (hw:aT ops S ⟨some d,.load T x,ty,pos,after,g⟩ true) (hx:evl K S x=.iptr row o)
  (hc:(row.drop o).take n=cs) (hn:cs.length=n) (hN:Nat.blt d K.N=true) (kk:ax K ops rest Q (S.put d (.agg cs))):
  ax K ops (⟨some d,.load T x,ty,pos,after,g⟩::rest) Q S:=
 aW _ hw hN (fun m β w a r=>by
  have h:=r.reads x;rw[hx] at h;obtain⟨ad,arr,T',fr,f,base,hv,h1,h2,h3,h4,h5⟩:=h.iptr_inv;have hh:=r.imm _ _ h1
  have hcell:∀j c,cs[j]? = some c->arr[base+o+j]? = some (f (o+j))/\bT m c (f (o+j)):=by
   intro j c hj;rw[<-hc,be8] at hj;split at hj
   ·grind
   ·simp at hj
  have hrun:=fG (P:=K.P) (w:=w) (b:=ad.block) (o:=ad.off) (fun j=>f (o+j)) hT (fun j hj=>by
   rw[b9 hh,h3]
   grind)
  refine⟨_,by simp only[execOp,hv];rw[iO h2];exact bi hrun,?_⟩
  ·refine .agg (by simp[hn]) (fun j c v hj hv=>?_);obtain⟨a1,a2⟩:=hcell j c hj;simp only[be9,ay9] at hv;have hj':j<n:=by rw[<-hn];exact(bb8.1 hj).1
   rw[ay8 hj'] at hv;simp only[az9,av8] at hv;rw[<-hv];exact .imm a2) kk
theorem qw{d o:Nat}{x:Operand}{T:TypeId}{row:List V}(c:V)(hT:qH K.P T=true)
  (hw:aT ops S ⟨some d,.load T x,ty,pos,after,g⟩ true) (hx:evl K S x=.iptr row o)
  (hc:row[o]? = some c) (hN:Nat.blt d K.N=true) (kk:ax K ops rest Q (S.put d c)):
  ax K ops (⟨some d,.load T x,ty,pos,after,g⟩::rest) Q S:=
 aW _ hw hN (fun m β w a r=>by
  have h:=r.reads x;rw[hx] at h;obtain⟨ad,arr,T',fr,f,base,hv,h1,h2,h3,h4,h5⟩:=h.iptr_inv;have hh:=r.imm _ _ h1;refine⟨f o,by grind [execOp,iO,bi,eS,b9],.imm (h5 _ _ hc)⟩) kk
theorem sU{d id k i o f off:Nat}{x:Operand}{T:TypeId}(hF:Hn K.P T f off=true)
  (hw:aT ops S ⟨some d,.fieldAddr T x f,ty,pos,after,g⟩ true) (hx:evl K S x=.ptr id k i o) (hN:Nat.blt d K.N=true)
  (kk:ax K ops rest Q (S.put d (.ptr id k i (o+off)))):ax K ops (⟨some d,.fieldAddr T x f,ty,pos,after,g⟩::rest) Q S:=
 aW _ hw hN (fun m β w a r=>by
  have h:=r.reads x;rw[hx] at h;obtain⟨b,cap,hb,hv⟩:=h.ptr_inv;exact⟨_,by simp only[execOp,hv];exact bi (A4 hF w b _),by have:=bn.ptr (m:=m) (k:=k) (i:=i) (off:=o+off) hb;grind⟩) kk
theorem qx{d o f off:Nat}{row:List V}{x:Operand}{T:TypeId}(hF:Hn K.P T f off=true)
  (hw:aT ops S ⟨some d,.fieldAddr T x f,ty,pos,after,g⟩ true) (hx:evl K S x=.iptr row o) (hN:Nat.blt d K.N=true)
  (kk:ax K ops rest Q (S.put d (.iptr row (o+off)))):ax K ops (⟨some d,.fieldAddr T x f,ty,pos,after,g⟩::rest) Q S:=
 aW _ hw hN (fun m β w a r=>by
  have h:=r.reads x;rw[hx] at h;obtain⟨ad,arr,T',fr,f,base,hv,h1,h2,h3,h4,h5⟩:=h.iptr_inv
  exact⟨.pointer (some ⟨ad.block,ad.off+off,none⟩),by grind [execOp,iO,bi,A4],
   .imm (.iptr (a:=⟨ad.block,ad.off+off,none⟩) f base h1 rfl (by grind) h4 h5)⟩) kk
def dC:V->Bool
 | .con v=>v.oneCell'
 | .any | .agg _ | .tup _=>false
 |_=>true
theorem bn.one{c:V}{v:Value}(h:bn m β c v)(hc:dC c=true):v.oneCell'=true:=by
 cases h with
 |imm h=>cases h<;>first|exact hc|rfl|simp[dC] at hc
 |_=>first|rfl|simp[dC] at hc
def dk:V->List V
 | .agg cs=>cs
 |v=>[v]
theorem bn.cells{d:V}{v:Value}(h:bn m β d v)(hd:(dk d).all dC=true):(dk d).length=v.cells.size/\(∀(i:Nat) c u,(dk d)[i]? = some c->v.cells[i]? = some u->bn m β c u)/\∀u,u∈v.cells.toList->u.oneCell'=true:=by
 have key:(dk d).length=v.cells.size/\(∀(i:Nat) c u,(dk d)[i]? = some c->v.cells[i]? = some u->bn m β c u):=by
  cases d with
  |agg cs=>
   cases h with
   |imm h=>cases h with|agg hl h=>exact⟨hl,fun i c u a b=>.imm (h i c u a b)⟩
   |agg hl h=>exact⟨hl,h⟩
  |any=>simp[dk,dC] at hd
  |tup cs=>simp[dk,dC] at hd
  |_=>
   have h1:=h.one (by simp_all[dk]);have h2:v.cells=#[v]:=by cases v<;>simp[Value.cells]<;>simp[Value.oneCell'] at h1
   grind [dk]
 refine⟨key.1,key.2,fun u hu=>?_⟩;obtain⟨i,hi,rfl⟩:=bg9 hu;have hi':i<(dk d).length:=by rw[key.1];simpa using hi
 have hall:=ap8.1 hd (dk d)[i] (ba8 _);exact(key.2 i _ _ (ax8 hi') (by simp)).one hall
theorem bQ.allocG(r:bQ K m β w a S)(id0 nx':Nat)(hfree:β id0=none)(hpid:∀q,q<K.pins->q≠id0)(hidn:id0<nx')(hnn:S.nx<=nx')(o:Obj)(ob:Ob)(cap:nZ)(w':World)(hw':w'={ w with heap:=w.heap.push o })(B:Nat->Prop)
  (hB:∀x,B x->x<w.heap.size/\m x=none/\(x<K.w0.heap.size->¬K.old x)/\(∀i b c,ao S.hp i≠.dead->β i=some (some (b,c))->x≠b)/\∀i,ao S.hp i≠.dead->¬β.hid i x)
  (hok:∀β',β.le β'->bo m β' w' B (some (some (w.heap.size,cap))) ob):
  ∃β':aZ,β.le β'/\β' id0=some (some (w.heap.size,cap))/\bQ K m β' w' a ⟨S.env,(id0,ob)::S.hp,nx'⟩:=by
 let β':aZ:=⟨fun i=>if i=id0 then some (some (w.heap.size,cap)) else β i,fun i=>if i=id0 then B else β.hid i⟩
 have hle:β.le β':=by
  intro i l h
  show(if i=id0 then _ else _)=_
  rw[if_neg]
  ·exact h
  ·grind
 have en:β' id0=some (some (w.heap.size,cap)):=by show(if _ then _ else _)=_;grind
 have eo:∀i,id0≠i->β' i=β i:=fun i h=>by grind
 have hn:β'.hid id0=B:=by show(if _ then _ else _)=_;grind
 have ho:∀i,id0≠i->β'.hid i=β.hid i:=fun i h=>by grind
 have hheap:∀(b:Nat) (o':Obj),w.heap[b]? = some o'->w'.heap[b]? = some o':=by
  intro b o' h;have:=bL h;rw[hw'];simp only[bm9];rw[if_neg (by omega)];exact h
 have hsame:∀b,b<w.heap.size->w'.heap[b]? = w.heap[b]?:=by
  intro b hb;rw[hw'];simp only[bm9];grind
 have hsz:w'.heap.size=w.heap.size+1:=by rw[hw'];simp
 have hm:m w.heap.size=none:=by
  cases hm:m w.heap.size with
  |none=>rfl
  |some o'=>have:=bL (r.imm _ _ hm);omega
 refine⟨β',hle,en,?_⟩;constructor
 ·exact fun b o' h=>hheap _ _ (r.imm b o' h)
 ·exact r.ext
 ·exact r.mold
 ·intro b hb ho;rw[hsame b (ci8 hb r.size)];exact r.frame b hb ho
 ·rw[hsz];have:=r.size;omega
 ·rw[hw'];exact⟨r.same.os,r.same.tape,r.same.output,r.same.drawn⟩
 ·exact r.tn
 ·exact r.df
 ·exact fun t=>(r.env t).mono (bA.le_refl _) hle
 ·intro id;simp only[av];by_cases h:id0=id
  ·grind
  ·rw[if_neg h]
   show bo m β' w' (β'.hid id) (β' id) _
   rw[eo id h,ho id h];by_cases hd:ao S.hp id=.dead
   ·simp_all[bo.dead']
   ·exact bo.mono (bA.le_refl _) hle hheap (fun x hx=>hsame x (r.hid id x hd hx).lt) (r.own id)
 ·intro id b c hl hb;simp only[av] at hl;by_cases h:id0=id
  ·subst h;rw[en] at hb;simp only[av8,Prod.mk.injEq] at hb;obtain⟨rfl,_⟩:=hb;exact⟨hm,by intro hlt;have:=r.size;omega⟩
  ·rw[if_neg h] at hl;rw[eo id h] at hb;exact r.priv id b c hl hb
 ·intro id id' b c c' hl hl' hb hb';simp only[av] at hl hl';by_cases h:id0=id<;>by_cases h':id0=id'
  ·grind
  ·exfalso;rw[if_neg h'] at hl';rw[eo id' h'] at hb';have:=gu hl' hb' (r.own id')
   grind
  ·exfalso;rw[if_neg h] at hl;rw[eo id h] at hb;have:=gu hl hb (r.own id)
   grind
  ·rw[if_neg h] at hl;rw[if_neg h'] at hl';rw[eo id h] at hb;rw[eo id' h'] at hb';exact r.inj id id' b c c' hl hl' hb hb'
 ·intro id x hl hx;simp only[av] at hl
  have ne:∀i b cap,ao ((id0,ob)::S.hp) i≠.dead->β' i=some (some (b,cap))->x<w.heap.size->(∀i b c,ao S.hp i≠.dead->β i=some (some (b,c))->x≠b)->x≠b:=by
   intro i b c hi hb hx hh;rw[av] at hi;by_cases h:id0=i
   ·grind
   ·grind
  by_cases h:id0=id
  ·subst h;rw[hn] at hx;obtain⟨q1,q2,q3,q4,q5⟩:=hB x hx;refine⟨by grind,q2,q3,fun i b c hi hb=>ne i b c hi hb q1 q4,fun i hi hx'=>?_⟩;rw[av] at hi
   grind
  ·rw[if_neg h] at hl;rw[ho id h] at hx;have hh:=r.hid id x hl hx;refine⟨by rw[hsz];have:=hh.lt;omega,hh.m,hh.old,fun i b c hi hb=>ne i b c hi hb hh.lt hh.ne,fun i hi hx'=>?_⟩;rw[av] at hi;by_cases h':id0=i
   ·grind
   ·rw[if_neg h'] at hi;rw[ho i h'] at hx';exact hh.un i hi hx'
 ·intro id hid;have hid':nx'<=id:=hid;rw[eo id (by omega)];exact r.nx id (by omega)
 ·intro q hq;obtain⟨h1,h2⟩:=r.pin q hq<;>grind
theorem bQ.allocB(r:bQ K m β w a S)(o:Obj)(ob:Ob)(cap:nZ)(w':World)(hw':w'={ w with heap:=w.heap.push o })(B:Nat->Prop)
  (hB:∀x,B x->x<w.heap.size/\m x=none/\(x<K.w0.heap.size->¬K.old x)/\(∀i b c,ao S.hp i≠.dead->β i=some (some (b,c))->x≠b)/\∀i,ao S.hp i≠.dead->¬β.hid i x)
  (hok:∀β',β.le β'->bo m β' w' B (some (some (w.heap.size,cap))) ob):
  ∃β':aZ,β.le β'/\β' S.nx=some (some (w.heap.size,cap))/\bQ K m β' w' a ⟨S.env,(S.nx,ob)::S.hp,S.nx+1⟩:=
 r.allocG S.nx (S.nx+1) (r.nx _ (ae9 _)) (fun q hq=>aj8 (r.pin q hq).1) (ak9 _) (ak8 _) o ob cap w' hw' B hB hok
theorem bQ.alloc(r:bQ K m β w a S)(o:Obj)(ob:Ob)(cap:nZ)(w':World)(hw':w'={ w with heap:=w.heap.push o })
  (hok:∀β',β.le β'->bo m β' w' (fun _=>False) (some (some (w.heap.size,cap))) ob):
  ∃β':aZ,β.le β'/\β' S.nx=some (some (w.heap.size,cap))/\bQ K m β' w' a ⟨S.env,(S.nx,ob)::S.hp,S.nx+1⟩:=
 r.allocB o ob cap w' hw' (fun _=>False) (fun _ h=>h.elim) hok
theorem bo.congr{w w':World}{B:Nat->Prop}{l:Option (Option (Nat×nZ))}{ob:Ob}(hw:∀b cap,l=some (some (b,cap))->w'.heap[b]? = w.heap[b]?)(hB:∀x,B x->w'.heap[x]? = w.heap[x]?)(h:bo m β w B l ob):bo m β w' B l ob:=by
 match l,ob,h with
 |none,.dead,_|some none,.dead,_|some (some (b,c)),.dead,_=>simp[bo]
 |none,.res,_=>trivial
 |some none,.res,h|some (some (b,c)),.res,h=>exact absurd h (by simp[bo])
 |some none,.arr e k rows,h=>exact h
 |some (some (b,cap)),.arr e k rows,h=>
  obtain⟨arr,bl,h1,h2,h3,h4,h5,hBl,h6⟩:=h;exact⟨arr,bl,by rw[hw b cap rfl];exact h1,h2,h3,h4,h5,hBl,fun i j row c hi hj=>let ⟨v,a1,a2,a3⟩:=h6 i j row c hi hj;⟨v,a1,a2.mono (bA.le_refl _) (aZ.le_refl _) (fun _ h=>h) (fun x hx=>hB x (hBl.1 _ x hx)),a3⟩⟩
 |some (some (b,cap)),.map es,h=>
  obtain⟨ents,clock,bl,h1,h2,hBl,h3⟩:=h;exact⟨ents,clock,bl,by rw[hw b cap Y];exact h1,h2,hBl,fun i p e hi he=>⟨(h3 i p e hi he).1,(h3 i p e hi he).2.mono (bA.le_refl _) (aZ.le_refl _) (fun _ h=>h) (fun x hx=>hB x (hBl.1 _ x hx))⟩⟩
 |some (some (b,cap)),.iter cur left,h=>
  obtain⟨bm,seen,E,clock,v,h0,h1,h2⟩:=h;exact⟨bm,seen,E,clock,v,h0,by rw[hw b cap rfl];exact h1,h2⟩
 |some (some (b,cap)),.bld T e bs _,h=>
  obtain⟨h0,h1,p,v,hf,h2,h3,h4⟩:=h;exact⟨h0,h1,p,v,hf,by rw[hw b cap rfl];exact h2,h3,h4.imp id fun⟨g,c,cur,a1,a2,a3,a4,a5⟩=>⟨g,c,cur,a1,a2,a3,by rw[hB g a2];exact a4,a5⟩⟩
 |none,.arr ..,h|none,.map ..,h|some none,.map ..,h|none,.iter ..,h|some none,.iter ..,h|none,.bld ..,h|some none,.bld ..,h=>exact absurd h (by simp[bo])
theorem bQ.update(r:bQ K m β w a S){id b:Nat}{cap:nZ}(hl:ao S.hp id≠.dead)(hb:β id=some (some (b,cap)))(w':World)(ob:Ob)
  (hw:∀b',b'≠b->w'.heap[b']? = w.heap[b']?) (hs:w'.heap.size=w.heap.size) (hsame:py w w')
  (hok:(∀x,β.hid id x->w'.heap[x]? = w.heap[x]?)->bo m β w' (β.hid id) (some (some (b,cap))) ob):bQ K m β w' a ⟨S.env,(id,ob)::S.hp,S.nx⟩:=by
 have hp:=r.priv id b cap hl hb
 have live:∀i,ao ((id,ob)::S.hp) i≠.dead->ao S.hp i≠.dead:=by
  intro i hi;rw[av] at hi;by_cases h:id=i
  ·grind
  ·grind
 constructor
 ·intro b' o' h;have:b'≠b:=by intro e;subst e;rw[hp.1] at h;simp at h
  rw[hw _ this];exact r.imm b' o' h
 ·exact r.ext
 ·exact r.mold
 ·intro b' hb' ho;have:b'≠b:=by intro e;subst e;exact hp.2 hb' ho
  rw[hw _ this];exact r.frame b' hb' ho
 ·rw[hs];exact r.size
 ·exact r.same.trans hsame
 ·exact r.tn
 ·exact r.df
 ·exact r.env
 ·intro id';simp only[av];by_cases h:id=id'
  ·subst h;rw[if_pos rfl,hb];exact hok (fun x hx=>hw x ((r.hid id x hl hx).ne id b cap hl hb))
  ·rw[if_neg h];by_cases hd:ao S.hp id'=.dead
   ·simp_all[bo.dead']
   ·refine bo.congr (fun b' cap' hbi=>hw b' fun e=>h ?_) (fun x hx=>hw x ((r.hid id' x hd hx).ne id b cap hl hb)) (r.own id');subst e;exact r.inj id id' b' cap cap' hl hd hb hbi
 ·intro id' b' c' hl' hb';exact r.priv _ _ _ (live _ hl') hb'
 ·exact fun i i' b' c c' h1 h2=>r.inj i i' b' c c' (live i h1) (live i' h2)
 ·intro i x hi hx;have h:=r.hid i x (live i hi) hx;exact⟨by rw[hs];exact h.lt,h.m,h.old,fun i' b' c' hi'=>h.ne i' b' c' (live i' hi'),fun i' hi'=>h.un i' (live i' hi')⟩
 ·exact r.nx
 ·exact r.pin
end
section
variable{K:cS}{Q:bX}{S:St}{ops:Array Oper}{rest:List Oper}{op:Op}{ty:TypeId}{pos:String}{after:Array Edge}{g:Option (Nat×Bool)}
variable{m:bA}{β:aZ}{w:World}{a:Act}
theorem jI{m:bA}{β:aZ}{w':World}{B:Nat->Prop}{T:TypeId}{vs:Array Value}{b k:Nat}{cap:nZ}{rows:List (List V)}(bl:Nat->Nat->Prop)(hBl:He B bl)(hw:w'.heap[b]? = some (.cells vs T (0,0)))
  (hsz:vs.size=cap.off+cap.n*k) (hr:rows.length<=cap.n) (hcap:cap.n<=maxLen) (hk:∀row,row∈rows->row.length=k)
  (hc:∀(i j:Nat) (row:List V) (c:V),rows[i]? = some row->row[j]? = some c->∃v,vs[cap.off+(i*k+j)]? = some v/\eO m β w' (bl (i*k+j)) c v/\v.oneCell'=true):
  bo m β w' B (some (some (b,cap))) (.arr T k rows):=⟨vs,bl,hw,hsz,hr,hcap,hk,hBl,hc⟩
theorem jR{B:Nat->Prop}:He B (fun _ _=>False):=⟨fun _ _ h=>h.elim,fun _ _ _ h=>h.elim⟩
theorem dY{m:bA}{β:aZ}{w':World}{B:Nat->Prop}{T:TypeId}{vs:Array Value}{b k n:Nat}{rows:List (List V)}(hw:w'.heap[b]? = some (.cells vs T (0,0)))
  (hsz:vs.size=n*k) (hr:rows.length<=n) (hcap:n<=maxLen) (hk:∀row,row∈rows->row.length=k)
  (hc:∀(i j:Nat) (row:List V) (c:V),rows[i]? = some row->row[j]? = some c->∃v,vs[i*k+j]? = some v/\bn m β c v/\v.oneCell'=true):
  bo m β w' B (some (some (b,⟨n,0⟩))) (.arr T k rows):=
 jI _ jR hw (by grind) hr hcap hk (fun i j row c hi hj=>let ⟨v,a1,a2,a3⟩:=hc i j row c hi hj;⟨v,by grind,.inl a2,a3⟩)
theorem ez{d:Nat}{x:Operand}{T:TypeId}{dv:V}(cs:List V)(hw:aT ops S ⟨some d,.box T x,ty,pos,after,g⟩ true)
  (hx:evl K S x=dv) (hcs:dk dv=cs) (h1:cs.all dC=true) (hN:Nat.blt d K.N=true)
  (kk:ax K ops rest Q ⟨(d,.ptr S.nx cs.length 0 0)::S.env,(S.nx,.arr T cs.length [cs])::S.hp,S.nx+1⟩):
  ax K ops (⟨some d,.box T x,ty,pos,after,g⟩::rest) Q S:=by
 refine cg hw (fun m β w a r=>?_) kk;have h:=r.reads x;rw[hx] at h;obtain⟨c1,c2,c3⟩:=h.cells (by grind);rw[hcs] at c1 c2
 obtain⟨β',hle,hn,r'⟩:=r.alloc (.cells (a.eval x).cells T) (.arr T cs.length [cs]) ⟨1,0⟩ _ rfl (fun β' hle=>by
  refine dY (vs:=(a.eval x).cells) (by simp) (by grind) (by simp) (by grind [maxLen]) (by simp) ?_
  ·intro i j row c hi hj;cases i with
   |succ i=>simp at hi
   |zero=>
    simp at hi;subst hi;have hj':j<(a.eval x).cells.size:=by rw[<-c1];exact(bb8.1 hj).1
    refine⟨(a.eval x).cells[j],by simp[hj'],(c2 j c _ hj (by simp[hj'])).mono (bA.le_refl _) hle,c3 _ (by simp)⟩)
 refine⟨.pointer (some ⟨w.heap.size,0,none⟩),{ w with heap:=w.heap.push (.cells (a.eval x).cells T) },m,β',.inl ?_,?_⟩;rotate_left
 ·exact bQ.put r' hN (by have:=bn.ptr (m:=m) (k:=cs.length) (i:=0) (off:=0) hn;grind)
 ·simp only[execOp];rfl
def zeroCells(P:Program)(T:TypeId):Option (List Value):=((P.info? T).bind (·.zero)).map (·.cells.toList)
theorem oe{P:Program}{T:TypeId}{zs:List Value}(h:zeroCells P T=some zs)(w:World):∃z,(zeroValue T).run P w=.ok z w/\z.cells=zs.toArray:=by
 unfold zeroCells at h;cases hi:P.info? T with
 |none=>grind
 |some i=>
  cases hz:i.zero with
  |none=>grind
  |some z=>
   simp[hi,hz] at h;refine⟨z,?_,by rw[<-h]⟩
   simp_all[zeroValue,run_typeInfo]
theorem Ay{d n:Nat}{T:TypeId}{zs:List Value}(hz:zeroCells K.P T=some zs)(hn:zs.length=n)(h1:zs.all (·.oneCell')=true)(hw:aT ops S ⟨some d,.alloc T,ty,pos,after,g⟩ true)
  (hN:Nat.blt d K.N=true)
  (kk:ax K ops rest Q ⟨(d,.ptr S.nx n 0 0)::S.env,(S.nx,.arr T n [zs.map .con])::S.hp,S.nx+1⟩):
  ax K ops (⟨some d,.alloc T,ty,pos,after,g⟩::rest) Q S:=by
 refine cg hw (fun m β w a r=>?_) kk;subst hn;obtain⟨z,hz1,hz2⟩:=oe hz w
 obtain⟨β',hle,hn,r'⟩:=r.alloc (.cells z.cells T) (.arr T zs.length [zs.map .con]) ⟨1,0⟩ _ rfl (fun β' hle=>by
  refine dY (vs:=z.cells) (by simp) (by simp[hz2]) (by simp) (by grind [maxLen]) (by simp) ?_
  ·intro i j row c hi hj;cases i with
   |succ i=>simp at hi
   |zero=>
    simp at hi;subst hi;rw[ay9] at hj;cases hzj:zs[j]? with
    |none=>grind
    |some v=>
     simp[hzj] at hj;subst hj;refine⟨v,by grind,.imm (.con v),ap8.1 h1 v (aw8 hzj)⟩)
 refine⟨.pointer (some ⟨w.heap.size,0,none⟩),{ w with heap:=w.heap.push (.cells z.cells T) },m,β',.inl ?_,?_⟩;rotate_left
 ·exact bQ.put r' hN (by have:=bn.ptr (m:=m) (k:=zs.length) (i:=0) (off:=0) hn;grind)
 ·simp only[execOp,Instr.alloc];simp only[Sem.run_bind,hz1,Result.andThen_ok];rfl
def G8(P:Program)(T:TypeId)(n:Nat):Bool:=match P.info? T with|some i=>i.size==n|none=>false
theorem Hl{P:Program}{T:TypeId}{n:Nat}(h:G8 P T n=true)(w:World):(sizeOf T).run P w=.ok n w:=by
 grind [G8,run_sizeOf,Program.cellsOf]
theorem iw{α:Type}(row cs:List α)(o:Nat)(h:o+cs.length<=row.length)(j:Nat):
  (row.take o++cs++row.drop (o+cs.length))[j]? = if o<=j/\j<o+cs.length then cs[j - o]? else row[j]?:=by
 rw[by8,bq8,bg8,Nat.min_eq_left (by omega)]
 grind
theorem lG{w:World}{b b':Nat}{cs:Array Value}(h:b'≠b):(w.setRow b cs).heap[b']? = w.heap[b']?:=by
 simp_all[World.setRow,bl8,Ne.symm]
theorem fY{w:World}{b:Nat}{cs arr:Array Value}{T:TypeId}{fr:Nat×Nat}(h:w.heap[b]? = some (.cells arr T fr)):(w.setRow b cs).heap[b]? = some (.cells cs T fr):=by
 simp_all[World.setRow,bl8]
theorem dz{id k i o:Nat}{x y:Operand}{T e:TypeId}{rows:List (List V)}{row:List V}{dv:V}(cs:List V)(rows':List (List V))(hT:G8 K.P T cs.length=true)
  (hw:aT ops S ⟨none,.store T x y,ty,pos,after,g⟩ true) (hx:evl K S x=.ptr id k i o) (hy:evl K S y=dv) (hcs:dk dv=cs) (h1:cs.all dC=true)
  (ho:ao S.hp id=.arr e k rows) (hr:rows[i]? = some row) (hl:Nat.ble (o+cs.length) row.length=true)
  (hrows:rows.set i (row.take o++cs++row.drop (o+cs.length))=rows')
  (kk:ax K ops rest Q ⟨S.env,(id,.arr e k rows')::S.hp,S.nx⟩):
  ax K ops (⟨none,.store T x y,ty,pos,after,g⟩::rest) Q S:=by
 refine cg hw (fun m β w a r=>?_) kk;have hl:=aw9 hl;have hxv:=r.reads x;rw[hx] at hxv;obtain⟨b,cap,hb,hv⟩:=hxv.ptr_inv;have hyv:=r.reads y;rw[hy] at hyv;obtain⟨c1,c2,c3⟩:=hyv.cells (by grind);rw[hcs] at c1 c2;obtain⟨arr,bl,a1,a2,a3,a4,a5,aB,a6⟩:=r.obj hb ho;have hrk:row.length=k:=a5 row (aw8 hr);have hi:i<rows.length:=(bb8.1 hr).1
 have hik:cap.off+(i*k+k)<=arr.size:=by
  have:i*k+k<=cap.n*k:=by
   calc i*k+k=(i+1)*k:=by grind
    _<=cap.n*k:=bc8 _ (by omega)
  rw[a2];omega
 have hlen:(a.eval y).cells.toList.length=cs.length:=by simp[c1]
 have hrun:=run_storeCells_at (P:=K.P) b (cap.off+(i*k+o)) e (a.eval y).cells.toList 0 arr w a1 (by grind) c3;simp only[bd9] at hrun;refine⟨undef,w.setRow b (arr.toList.take (cap.off+(i*k+o))++(a.eval y).cells.toList++arr.toList.drop (cap.off+(i*k+o)+(a.eval y).cells.toList.length)).toArray,m,β,.inr ⟨Y,?_⟩,?_⟩;rotate_left
 ·refine r.update (by grind) hb _ (.arr e k rows') (fun b' hb'=>lG hb') (by simp_all) ⟨Y,Y,Y,trivial⟩ (fun hkeep=>?_);refine jI bl aB (fY a1) ?_ (by grind) a4 ?_ ?_
  ·grind
  ·grind
  ·intro i' j row' c hi' hj
   have keep:∀(i2 j:Nat) (row:List V) (c:V),rows[i2]? = some row->row[j]? = some c->∃v,arr[cap.off+(i2*k+j)]? = some v/\eO m β (w.setRow b (arr.toList.take (cap.off+(i*k+o))++(a.eval y).cells.toList++arr.toList.drop (cap.off+(i*k+o)+(a.eval y).cells.toList.length)).toArray) (bl (i2*k+j)) c v/\v.oneCell'=true:=by
    intro i2 j row c hi hj;obtain⟨v,q1,q2,q3⟩:=a6 i2 j row c hi hj;exact⟨v,q1,q2.mono (bA.le_refl _) (aZ.le_refl _) (fun _ h=>h) (fun x hx=>hkeep x (aB.1 _ x hx)),q3⟩
   have ao:∀p,(arr.toList.take (cap.off+(i*k+o))++(a.eval y).cells.toList++arr.toList.drop (cap.off+(i*k+o)+(a.eval y).cells.toList.length)).toArray[p]? =
     if cap.off+(i*k+o)<=p/\p<cap.off+(i*k+o)+cs.length then (a.eval y).cells[p - (cap.off+(i*k+o))]? else arr[p]?:=by
    intro p;rw[be9,iw _ _ _ (by grind),hlen]
    grind
   rw[ao];rw[<-hrows,bh8] at hi';by_cases hii:i=i'
   ·subst hii;rw[if_pos rfl,if_pos hi] at hi';simp only[av8] at hi';subst hi';rw[iw _ _ _ hl] at hj;by_cases hjo:o<=j/\j<o+cs.length
    ·rw[if_pos hjo] at hj;rw[if_pos (by omega)];have e1:cap.off+(i*k+j) - (cap.off+(i*k+o))=j - o:=by omega
     rw[e1];have hlt:j - o<(a.eval y).cells.size:=by rw[<-c1];omega
     exact⟨(a.eval y).cells[j - o],⟨by simp[hlt],.inl (c2 _ _ _ hj (by simp[hlt])),c3 _ (by simp)⟩⟩
    grind
   ·rw[if_neg hii] at hi';have hrk':row'.length=k:=a5 row' (aw8 hi');have hjk:j<k:=by rw[<-hrk'];exact(bb8.1 hj).1
    rw[if_neg]
    ·grind
    ·intro hc;rcases Nat.lt_or_gt_of_ne hii with h|h
     ·have:(i+1)*k<=i'*k:=bc8 _ h
      grind
     ·have:(i'+1)*k<=i*k:=bc8 _ h
      grind
 ·simp only[execOp,hv,Instr.storeAt,Instr.sureAddr,storeVar];simp only[Sem.run_bind,pure,Sem.run,Result.andThen_ok,Hl hT w]
  simp_all
end
section
variable{K:cS}{Q:bX}{S:St}{ops:Array Oper}{rest:List Oper}{op:Op}{ty:TypeId}{pos:String}{after:Array Edge}{g:Option (Nat×Bool)}
variable{m:bA}{β:aZ}{w:World}{a:Act}
def mR(P:Program)(T:TypeId)(k:Nat):Bool:=
 match P.underlying T with|some (.slice e)=>(match P.info? e with|some i=>i.size==k|none=>false)|_=>false
def mX(P:Program)(T:TypeId)(n k:Nat):Bool:=
 match P.underlying T with|some (.array l e)=>l==n&&(match P.info? e with|some i=>i.size==k|none=>false)|_=>false
theorem rx{P:Program}{T:TypeId}{k:Nat}(h:mR P T k=true):∃e i,P.underlying T=some (.slice e)/\P.info? e=some i/\i.size=k:=by
 grind [mR]
theorem t7{P:Program}{T:TypeId}{n k:Nat}(h:mX P T n k=true):∃e i,P.underlying T=some (.array n e)/\P.info? e=some i/\i.size=k:=by
 unfold mX at h
 grind
theorem kK{P:Program}{w:World}{T:TypeId}{k len cap:Nat}{ad:Addr}{ik:IntKind}{n:Int}(hT:mR P T k=true)(h0:0<=n)(h1:n.toNat<len):
  (Instr.indexAt T (.slice (some ad) len cap) (.int ik n)).run P w=.ok (.pointer (some (ad.add (n.toNat*k)))) w:=by
 obtain⟨e,i,hu,hi,hk⟩:=rx hT;simp only[Instr.indexAt,asIntOf,Sem.run_bind,pure,Sem.run,Result.andThen_ok,run_underlying hu]
 simp_all[run_sizeOf,Program.cellsOf]
theorem iM{d k:Nat}{x y:Operand}{T:TypeId}{rows:List (List V)}{ik:IntKind}{n:Int}(row:List V)(hT:mR K.P T k=true)
  (hw:aT ops S ⟨some d,.indexAddr T x y,ty,pos,after,g⟩ true) (hx:evl K S x=.lst k rows) (hy:evl K S y=.con (.int ik n)) (h0:0<=n) (hr:rows[n.toNat]? = some row)
  (hN:Nat.blt d K.N=true) (kk:ax K ops rest Q (S.put d (.iptr row 0))):
  ax K ops (⟨some d,.indexAddr T x y,ty,pos,after,g⟩::rest) Q S:=
 aW _ hw hN (fun m β w a r=>by
  have h:=r.reads x;rw[hx] at h;have hlt:n.toNat<rows.length:=(bb8.1 hr).1;generalize hev:a.eval x=v at h;cases h with
  |imm h=>
   cases h with
   |nil=>simp at hr
   | @lst _ _ ad n' cap arr T' fr f hm hs hn hcap hbd hk hf h=>
    have hrk:row.length=k:=hk row (aw8 hr);refine⟨.pointer (some ⟨ad.block,ad.off+n.toNat*k,none⟩),?_,.imm (.iptr (fun j=>f (n.toNat*k+j)) (ad.off+n.toNat*k) hm Y Y ?_ ?_)⟩
    ·simp only[execOp,hev,r.con hy];refine bi ?_;rw[kK hT h0 (by omega),iO hs,dW]
    ·intro j hj;rw[af9];refine hf _ ?_
     calc n.toNat*k+j<n.toNat*k+k:=by omega
      _=(n.toNat+1)*k:=by grind
      _<=rows.length*k:=bc8 _ (by omega)
    grind) kk
theorem lR{d k id len:Nat}{x y:Operand}{T:TypeId}{ik:IntKind}{n:Int}(hT:mR K.P T k=true)
  (hw:aT ops S ⟨some d,.indexAddr T x y,ty,pos,after,g⟩ true) (hx:evl K S x=.own id len) (hy:evl K S y=.con (.int ik n))
  (h0:0<=n) (hr:n.toNat<len) (hN:Nat.blt d K.N=true)
  (kk:ax K ops rest Q (S.put d (.ptr id k n.toNat 0))):
  ax K ops (⟨some d,.indexAddr T x y,ty,pos,after,g⟩::rest) Q S:=
 aW _ hw hN (fun m β w a r=>by
  have h:=r.reads x;rw[hx] at h;generalize hev:a.eval x=v at h;cases h with
  |imm h=>cases h
  |ownNil h=>omega
  |own h=>
   refine⟨_,by simp only[execOp,hev,r.con hy];exact bi (kK hT h0 hr),?_⟩;rw[dW];have:=bn.ptr (m:=m) (k:=k) (i:=n.toNat) (off:=0) h
   grind) kk
theorem tG{P:Program}{w:World}{T:TypeId}{k len b o:Nat}{ik:IntKind}{n:Int}(hT:mX P T len k=true)(h0:0<=n)(h1:n.toNat<len):
  (Instr.indexAt T (.pointer (some ⟨b,o,none⟩)) (.int ik n)).run P w=.ok (.pointer (some ⟨b,o+n.toNat*k,none⟩)) w:=by
 obtain⟨e,i,hu,hi,hk⟩:=t7 hT;simp only[Instr.indexAt,asIntOf,Sem.run_bind,pure,Sem.run,Result.andThen_ok,run_underlying hu,Instr.sureAddr]
 simp_all[run_sizeOf,Program.cellsOf,dW]
theorem lS{d k id i o len s:Nat}{x y:Operand}{T:TypeId}{ik:IntKind}{n:Int}(hT:mX K.P T len s=true)
  (hw:aT ops S ⟨some d,.indexAddr T x y,ty,pos,after,g⟩ true) (hx:evl K S x=.ptr id k i o) (hy:evl K S y=.con (.int ik n))
  (h0:0<=n) (hr:n.toNat<len) (hN:Nat.blt d K.N=true)
  (kk:ax K ops rest Q (S.put d (.ptr id k i (o+n.toNat*s)))):
  ax K ops (⟨some d,.indexAddr T x y,ty,pos,after,g⟩::rest) Q S:=
 aW _ hw hN (fun m β w a r=>by
  have h:=r.reads x;rw[hx] at h;obtain⟨b,cap,hb,hv⟩:=h.ptr_inv;exact⟨_,by simp only[execOp,hv,r.con hy];exact bi (tG hT h0 hr),by have:=bn.ptr (m:=m) (k:=k) (i:=i) (off:=o+n.toNat*s) hb;grind⟩) kk
theorem dI{P:Program}{w w':World}{o:Oper}{b:Builtin}{args:Array Operand}{at':Array TypeId}{n:Next}
  (ho:o.op=.call ⟨.builtin b,args,at'⟩) (h:(builtin b at' o.type (args.map fun | .const _=>true|_=>false) (args.map a.eval)).run P w=.ok n w'):
  (execOp a.eval o).run P w=.ok n w':=by
 grind [execOp,resolve,invoke]
def jA(P:Program)(T:TypeId):Bool:=match P.underlying T with|some .string=>true|_=>false
def cR(P:Program)(T:TypeId):Bool:=match P.underlying T with|some (.slice _)=>true|_=>false
def xw(P:Program)(T:TypeId):Bool:=match P.underlying T with|some (.slice _)=>true|some .string=>true|_=>false
theorem og{P:Program}{T:TypeId}(h:xw P T=true):(∃e,P.underlying T=some (.slice e))\/P.underlying T=some .string:=by
 grind [xw]
theorem nq{P:Program}{T:TypeId}(h:cR P T=true):xw P T=true:=by
 grind [cR,xw]
theorem xv{P:Program}{T:TypeId}(h:cR P T=true):∃e,P.underlying T=some (.slice e):=by
 grind [cR]
theorem jz{P:Program}{T:TypeId}(h:jA P T=true):P.underlying T=some .string:=by
 grind [jA]
def xC:V->Option Nat
 | .lst _ rows=>some rows.length
 | .own _ n=>some n
 | .con (.slice _ n _)=>some n
 |_=>none
theorem sS{d n:Nat}{x:Operand}{T:TypeId}{sv:V}(hT:cR K.P T=true)
  (hw:aT ops S ⟨some d,.call ⟨.builtin .len,#[x],#[T]⟩,ty,pos,after,g⟩ true) (hx:evl K S x=sv) (hn:xC sv=some n) (hN:Nat.blt d K.N=true)
  (kk:ax K ops rest Q (S.put d (.con (.int .i64 n)))):
  ax K ops (⟨some d,.call ⟨.builtin .len,#[x],#[T]⟩,ty,pos,after,g⟩::rest) Q S:=
 aW _ hw hN (fun m β w a r=>by
  have h:=r.reads x;rw[hx] at h;obtain⟨e,hu⟩:=xv hT
  have key:∃ad cap,a.eval x=.slice ad n cap:=by
   generalize a.eval x=v at h;cases h with
   |imm h=>
    cases h with
    |nil=>simp_all[xC]
    |lst _ _ _ hl=>simp_all[xC]
    |con=>unfold xC at hn;grind
    |_=>simp[xC] at hn
   |ownNil=>simp_all[xC]
   |own=>simp_all[xC]
   |_=>simp[xC] at hn
  obtain⟨ad,cap,he⟩:=key;refine⟨.int .i64 n,dI Y ?_,.imm (.con _)⟩
  simp_all[builtin,Builtin.len_,run_underlying,goInt]) kk
theorem wJ{d:Nat}{x:Operand}{T:TypeId}{s:ByteArray}(hT:jA K.P T=true)
  (hw:aT ops S ⟨some d,.call ⟨.builtin .len,#[x],#[T]⟩,ty,pos,after,g⟩ true) (hx:evl K S x=.con (.string s)) (hN:Nat.blt d K.N=true)
  (kk:ax K ops rest Q (S.put d (.con (.int .i64 s.size)))):
  ax K ops (⟨some d,.call ⟨.builtin .len,#[x],#[T]⟩,ty,pos,after,g⟩::rest) Q S:=
 aW _ hw hN (fun m β w a r=>by
  refine⟨.int .i64 s.size,dI Y ?_,.imm (.con _)⟩;simp only[builtin];refine bi ?_;simp only[Builtin.len_,bi9,bi8,ao8,r.con hx]
  simp_all[run_underlying,jz,goInt]) kk
structure tu(m:bA)(ds:List V)(vs:Array Value):Prop where
 len:ds.length=vs.size
 at':∀(i:Nat) (c:V) (v:Value),ds[i]? = some c->vs[i]? = some v->bT m c v
def dX(gl:Gl)(P:Program)(f:FuncId)(args:List V)(d:V):Prop:=
 ∀(m:bA) (w:World) (vs:Array Value),(∀(b:Nat) o,m b=some o->w.heap[b]? = some o)->go gl m->tu m args vs->
  Calls P f vs w fun e w'=>∃v m',e=.returned v/\bT m' d v/\tZ m m' w w'
abbrev bJ:=dX []
def dE(d:V):Prop:=∀m β v,bn m β d v->bT m d v
def aw(d:V):Prop:=d.deep=false/\dE d
theorem aw.con(v:Value):aw (.con v):=⟨rfl,fun _ _ _ h=>by cases h with|imm h=>exact h⟩
theorem aw.any:aw .any:=⟨rfl,fun _ _ _ h=>by cases h with|imm h=>exact h⟩
theorem aw.lst(k:Nat)(rows:List (List V)):aw (.lst k rows):=⟨rfl,fun _ _ _ h=>by cases h with|imm h=>exact h⟩
theorem aw.iptr(row:List V)(o:Nat):aw (.iptr row o):=⟨rfl,fun _ _ _ h=>by cases h with|imm h=>exact h⟩
theorem aw.ifc(T:Nat)(d:V):aw (.ifc T d):=⟨rfl,fun _ _ _ h=>by cases h with|imm h=>exact h⟩
theorem aw.imap(es:List (Value×V)):aw (.imap es):=⟨rfl,fun _ _ _ h=>by cases h with|imm h=>exact h⟩
theorem dE.dsl(e k:Nat)(rows:List (List V)):dE (.dsl e k rows):=fun _ _ _ h=>by cases h with|imm h=>cases h
theorem dE.dmp(es:List (Value×V)):dE (.dmp es):=fun _ _ _ h=>by cases h with|imm h=>cases h
theorem dE.plc(v0:Value)(d:V):dE (.plc v0 d):=fun _ _ _ h=>by cases h with|imm h=>cases h
theorem dE.dpt(e:Nat)(row:List V):dE (.dpt e row):=fun _ _ _ h=>by cases h with|imm h=>cases h
def cz(ds:List V):Prop:=∀c,c∈ds->aw c
def iT(ds:List V):Prop:=∀c,c∈ds->dE c
theorem iT.nil:iT []:=fun _ h=>by simp at h
theorem iT.cons{c:V}{ds:List V}(h:dE c)(h':iT ds):iT (c::ds):=fun x hx=>by
 rcases aq8.1 hx with rfl|hx
 ·exact h
 ·exact h' x hx
theorem cz.keep{ds:List V}(h:cz ds):iT ds:=fun c hc=>(h c hc).2
theorem cz.nil:cz []:=fun _ h=>by simp at h
theorem cz.cons{c:V}{ds:List V}(h:aw c)(h':cz ds):cz (c::ds):=fun x hx=>by
 rcases aq8.1 hx with rfl|hx
 ·exact h
 ·exact h' x hx
theorem cz.get{ds:List V}(h:cz ds){i:Nat}{c:V}(hi:ds[i]? = some c):aw c:=h c (aw8 hi)
theorem aw.agg{cs:List V}(h:cz cs):aw (.agg cs):=⟨rfl,fun m β v hv=>by
 cases hv with
 |imm h=>exact h
 |agg hl hh=>exact .agg hl fun i c v hi hv=>(h.get hi).2 m β v (hh i c v hi hv)⟩
theorem aw.tup{cs:List V}(h:cz cs):aw (.tup cs):=⟨rfl,fun m β v hv=>by
 cases hv with
 |imm h=>exact h
 |tup hl hh=>exact .tup hl fun i c v hi hv=>(h.get hi).2 m β v (hh i c v hi hv)⟩
theorem aw.fn{f:Fn}{cs ds:List V}(h:cz cs)(h':cz ds):aw (.fn f cs ds):=⟨rfl,fun m β v hv=>by
 cases hv with
 |imm h=>exact h
 |fn hl hl' hh hh'=>exact .fn hl hl' (fun i c v hi hv=>(h.get hi).2 m β v (hh i c v hi hv)) fun i c v hi hv=>(h'.get hi).2 m β v (hh' i c v hi hv)⟩
def cM (P:Program) (f:FuncId):Bool:=match P.funcs[f]? with|some fn=>fn.name != "runtime.NumGoroutine" && fn.body.isSome|none=>false
theorem fy{P:Program}{w:World}{f:FuncId}(h:cM P f=true)(args:Array Value):(callFunc f args).run P w=.ok (.enter f args) w:=by
 unfold cM at h;cases hf:P.funcs[f]? with
 |none=>grind
 |some fn=>
  rw[hf] at h;simp only[ap9,bne_iff_ne,ne_eq] at h;obtain⟨h1,h2⟩:=h;have h3:fn.body.isNone=false:=by simp_all
  simp only[callFunc,program,Sem.run_bind,Sem.run,Result.andThen_ok,hf];rw[if_neg (by grind),if_neg (by simp[h3])];rfl
theorem iN{o:Oper}{d:Nat}{f:FuncId}{dv:V}{avs:List V}(hw:aT ops S o true)(hd:o.dst=some d)(hN:Nat.blt d K.N=true)
  (hrun:∀m β w a,bQ K m β w a S->∃vs:Array Value,(execOp a.eval o).run K.P w=.ok (.enter f vs) w/\tu m avs vs)
  (hc:dX K.gl K.P f avs dv) (kk:ax K ops rest Q (S.put d dv)):ax K ops (o::rest) Q S:=by
 intro m β w a r;unfold wpListIn;rw[if_pos (hw.at r)];obtain⟨vs,h1,h2⟩:=hrun m β w a r;refine fS (.inr (kb h1 (fun d e=>by cases e))) ?_;unfold Oper.wp;rw[h1];refine(hc m w vs r.imm (K.glok.mono r.ext) h2).mono ?_
 rintro e w' ⟨v,m',rfl,h3,h4⟩
 simp only[hd];exact kk m' β w' _ ((r.grow h4).put hN (.imm h3))
theorem sL{d:Option Nat}{f:FuncId}{args:Array Operand}{at':Array TypeId}{avs:List V}(hf:cM K.P f=true)(ha:args.toList.map (evl K S)=avs)(hi:cz avs):
  ∀m β w a,bQ K m β w a S->∃vs:Array Value,(execOp a.eval ⟨d,.call ⟨.value (.func f),args,at'⟩,ty,pos,after,g⟩).run K.P w=.ok (.enter f vs) w/\tu m avs vs:=by
 intro m β w a r;refine⟨args.map a.eval,?_,?_⟩
 ·simp_all[execOp,resolve,Act.eval,Deferred.ofValue,invoke,fy]
 ·refine⟨by grind,fun i c v h1 h2=>?_⟩;rw[<-ha,ay9] at h1;rw[bz9] at h2;cases hx:args[i]? with
  |none=>grind
  |some x=>
   simp[hx] at h1 h2;subst h1;subst h2;refine(hi.get (i:=i) ?_).2 m β _ (r.reads x)
   grind
theorem fD{d:Nat}{f:FuncId}{args:Array Operand}{at':Array TypeId}(dv:V)(avs:List V)(hf:cM K.P f=true)
  (hw:aT ops S ⟨some d,.call ⟨.value (.func f),args,at'⟩,ty,pos,after,g⟩ true)
  (ha:args.toList.map (evl K S)=avs) (hi:cz avs) (hc:dX K.gl K.P f avs dv) (hN:Nat.blt d K.N=true) (kk:ax K ops rest Q (S.put d dv)):
  ax K ops (⟨some d,.call ⟨.value (.func f),args,at'⟩,ty,pos,after,g⟩::rest) Q S:=
 iN hw rfl hN (sL hf ha hi) hc kk
theorem CW{d:Option Nat}{f:FuncId}{fx:Operand}{first captured:List V}{args:Array Operand}{at':Array TypeId}{avs:List V}(hf:cM K.P f=true)
  (hfx:evl K S fx=.fn (.func f) first captured) (ha:first++args.toList.map (evl K S)++captured=avs) (hi:cz avs):
  ∀m β w a,bQ K m β w a S->∃vs:Array Value,(execOp a.eval ⟨d,.call ⟨.value fx,args,at'⟩,ty,pos,after,g⟩).run K.P w=.ok (.enter f vs) w/\tu m avs vs:=by
 intro m β w a r;have h:=r.reads fx;rw[hfx] at h
 have key:∃fs cs:Array Value,a.eval fx=.func (.func f) fs cs/\first.length=fs.size/\captured.length=cs.size/\(∀(i:Nat) c v,first[i]? = some c->fs[i]? = some v->bn m β c v)/\
   ∀(i:Nat) c v,captured[i]? = some c->cs[i]? = some v->bn m β c v:=by
  generalize a.eval fx=v at h;cases h with
  |imm h=>cases h with|fn h1 h2 h3 h4=>exact⟨_,_,rfl,h1,h2,fun i c v a b=>.imm (h3 i c v a b),fun i c v a b=>.imm (h4 i c v a b)⟩
  |fn h1 h2 h3 h4=>grind
 obtain⟨fs,cs,e1,e2,e3,e4,e5⟩:=key;refine⟨fs++args.map a.eval++cs,?_,?_⟩
 ·simp_all[execOp,resolve,Deferred.ofValue,invoke,fy]
 ·refine⟨by grind,fun i c v h1 h2=>(hi.get h1).2 m β v ?_⟩;rw[<-ha,bq8,bf9,bf8] at h1;rw[ca8,bz8,Array.size_map,<-e2] at h2;simp only[bh9] at h1;split at h1
  ·rename_i hlt;rw[if_pos hlt] at h2;rw[bq8] at h1;rw[ca8,<-e2] at h2;split at h1
   ·grind
   ·rename_i hlt';rw[if_neg hlt'] at h2;rw[ay9] at h1;rw[bz9] at h2;cases hx:args[i - first.length]? with
    |none=>grind
    |some x=>
     simp[hx] at h1 h2;subst h1;subst h2;exact r.reads x
  grind
end
section
variable{K:cS}{Q:bX}{S:St}
variable{m:bA}{β:aZ}{w:World}{a:Act}
@[reducible] def OQ(gl:Gl)(P:Program)(N:Nat)(w0:World)(m0:bA)(hg:go gl m0):cS:=⟨P,N,w0,m0,fun _=>True,0,fun _=>none,gl,hg,none⟩
def C7(d v:V):Prop:=∀m β x,bn m β v x->bT m d x
inductive eC(P:Program)(S:St):ResultVar->V->Prop
 |tmp {t:Tmp} {d v:V} (h:get S.env t=v) (hi:C7 d v):eC P S (.tmp t) d
 |agg {x:Tmp} {T n id k i o:Nat} {e:TypeId} {rows:List (List V)} {row cs:List V} {d:V} (hT:ze P T n=true) (hx:get S.env x=.ptr id k i o) (ho:ao S.hp id=.arr e k rows)
   (hr:rows[i]? = some row) (hc:(row.drop o).take n=cs) (hn:cs.length=n) (hnd:uy cs=true) (hi:C7 d (.agg cs)):eC P S (.cell x T) d
 |cell {x:Tmp} {T id k i o:Nat} {e:TypeId} {rows:List (List V)} {row:List V} {c d:V} (hT:qH P T=true) (hx:get S.env x=.ptr id k i o) (ho:ao S.hp id=.arr e k rows)
   (hr:rows[i]? = some row) (hc:row[o]? = some c) (hd:c.deep=false) (hi:C7 d c):eC P S (.cell x T) d
def rG(tmps:Array Value):ResultVar->Sem Value
 | .tmp t=>pure (tmps.getD t undef)
 | .cell a t=>do loadVar t (<-asAddr (tmps.getD a undef))
theorem fX(fn:Func)(tmps:Array Value):results fn tmps=(do
  let vs <-fn.results.mapM (rG tmps)
  pure (if h:vs.size=1 then vs[0] else .tuple vs)):=rfl
theorem ja{P:Program}{w:World}{T:TypeId}{ad:Addr}{v x:Value}(hx:x=.pointer (some ad))(h:(Instr.loadAt T (.pointer (some ad))).run P w=.ok v w):
  (do loadVar T (<-asAddr x):Sem Value).run P w=.ok v w:=by
 simp_all[Instr.loadAt,Instr.sureAddr,asAddr]
theorem eC.run{rv:ResultVar}{d:V}(h:eC K.P S rv d)(r:bQ K m β w a S):∃v,(rG a.tmps rv).run K.P w=.ok v w/\bT m d v:=by
 cases h with
 | @tmp t _ _ h hi=>exact⟨_,rfl,hi m β _ (by rw[<-h];exact r.env t)⟩
 | @agg x T n id k i o e rows row cs d hT hx ho hr hc hn hnd hi=>
  have h:=r.env x;rw[hx] at h;obtain⟨b,cap,hb,hv⟩:=h.ptr_inv;obtain⟨arr,bl,h1,h2,h3,h4,h5,_,h6⟩:=r.obj hb ho
  have hcell:∀j c,cs[j]? = some c->∃v,arr[cap.off+(i*k+o)+j]? = some v/\bn m β c v:=by
   intro j c hj;have hd:=jl hnd hj;rw[<-hc,be8] at hj;split at hj
   ·rw[at8] at hj;obtain⟨v,a1,a2,_⟩:=h6 i (o+j) row c hr hj;exact⟨v,by grind,a2.v hd⟩
   ·simp at hj
  have hrun:=fG (P:=K.P) (w:=w) (b:=b) (o:=cap.off+(i*k+o)) (fun j=>arr.getD (cap.off+(i*k+o)+j) undef) hT (fun j hj=>by
   rw[b9 h1];obtain⟨v,a1,_⟩:=hcell j cs[j] (by simp[hn,hj])<;>simp_all)
  refine⟨_,ja hv hrun,hi m β _ ?_⟩;refine .agg (by simp[hn]) (fun j c v hj hv=>?_);obtain⟨v',a1,a2⟩:=hcell j c hj;simp only[be9,ay9] at hv;have hj':j<n:=by rw[<-hn];exact(bb8.1 hj).1
  simp_all
 | @cell x T id k i o e rows row c d hT hx ho hr hc hd hi=>
  have h:=r.env x;rw[hx] at h;obtain⟨b,cap,hb,hv⟩:=h.ptr_inv;obtain⟨arr,bl,h1,h2,h3,h4,h5,_,h6⟩:=r.obj hb ho;obtain⟨v,a1,a2,_⟩:=h6 i o row _ hr hc;exact⟨v,ja hv (eS hT (by grind [b9])),hi m β v (a2.v hd)⟩
inductive wU(P:Program)(S:St):List ResultVar->V->Prop
 |none:wU P S [] (.tup [])
 |one {r:ResultVar} {d:V} (h:eC P S r d):wU P S [r] d
 |two {r1 r2:ResultVar} {d1 d2:V} (h1:eC P S r1 d1) (h2:eC P S r2 d2):wU P S [r1,r2] (.tup [d1,d2])
 |three {r1 r2 r3:ResultVar} {d1 d2 d3:V} (h1:eC P S r1 d1) (h2:eC P S r2 d2) (h3:eC P S r3 d3):wU P S [r1,r2,r3] (.tup [d1,d2,d3])
 |four {r1 r2 r3 r4:ResultVar} {d1 d2 d3 d4:V} (h1:eC P S r1 d1) (h2:eC P S r2 d2) (h3:eC P S r3 d3) (h4:eC P S r4 d4):
   wU P S [r1,r2,r3,r4] (.tup [d1,d2,d3,d4])
theorem CH{d1 d2:V}{v1 v2:Value}(h1:bT m d1 v1)(h2:bT m d2 v2):bT m (.tup [d1,d2]) (.tuple #[v1,v2]):=by
 refine .tup Y fun i c v hi hv=>?_
 grind
theorem CG{d1 d2 d3:V}{v1 v2 v3:Value}(h1:bT m d1 v1)(h2:bT m d2 v2)(h3:bT m d3 v3):bT m (.tup [d1,d2,d3]) (.tuple #[v1,v2,v3]):=by
 refine .tup Y fun i c v hi hv=>?_
 grind
theorem CF{d1 d2 d3 d4:V}{v1 v2 v3 v4:Value}(h1:bT m d1 v1)(h2:bT m d2 v2)(h3:bT m d3 v3)(h4:bT m d4 v4):bT m (.tup [d1,d2,d3,d4]) (.tuple #[v1,v2,v3,v4]):=by
 refine .tup Y fun i c v hi hv=>?_
 grind
theorem wU.run{fn:Func}{l:List ResultVar}{d:V}(hl:fn.results=l.toArray)(h:wU K.P S l d)(r:bQ K m β w a S):∃v,(results fn a.tmps).run K.P w=.ok v w/\bT m d v:=by
 cases h with
 |none=>exact⟨.tuple #[],by rw[fX,hl];simp,.tup rfl (by simp)⟩
 |one h=>
  obtain⟨v,h1,h2⟩:=h.run r<;>simp_all[fX]
 |two h g=>
  obtain⟨v1,h1,h2⟩:=h.run r;obtain⟨v2,g1,g2⟩:=g.run r<;>simp_all[fX,CH]
 |three h g i=>
  obtain⟨v1,h1,h2⟩:=h.run r;obtain⟨v2,g1,g2⟩:=g.run r;obtain⟨v3,i1,i2⟩:=i.run r<;>simp_all[fX,CG]
 |four h g i j=>
  obtain⟨v1,h1,h2⟩:=h.run r;obtain⟨v2,g1,g2⟩:=g.run r;obtain⟨v3,i1,i2⟩:=i.run r;obtain⟨v4,j1,j2⟩:=j.run r<;>simp_all[fX,CF]
def Mz(P:Program)(l:List ResultVar)(d:V):bX:=fun e S=>(e=.ret\/e=.normal)/\wU P S l d
def fZ:Nat->List V->bY
 |_,[]=>[]
 |i,v::vs=>(i,v)::fZ (i+1) vs
theorem km:∀(vs:List V) (i t:Nat),get (fZ i vs) t=if i<=t then vs.getD (t - i) .any else .any
 |[],i,t=>by simp[fZ,get]
 |v::vs,i,t=>by
  rw[fZ,ci,km vs (i+1) t]
  grind
theorem zC{gl:Gl}{P:Program}{f:FuncId}{fn:Func}{c:Code}{N:Nat}{args:List V}{l:List ResultVar}{d:V}(hf:P.funcs[f]? = some fn)(hb:fn.body=some c)(hN:fn.ntmps=N)
  (hl:fn.results=l.toArray) (ha:Nat.ble args.length N=true) (env:bY) (henv:fZ 0 args=env)
  (h:∀(w0:World) (m0:bA) (hg:go gl m0),ir (OQ gl P N w0 m0 hg) c (Mz P l d) ⟨env,[],0⟩):dX gl P f args d:=by
 intro m w vs himm hgl hargs;have ha:=aw9 ha;refine jr hf hb ?_
 have hsz:(vs++Array.replicate (fn.ntmps - vs.size) undef).size=N:=by
  have:=hargs.len;simp only[bz8,ca9,hN];omega
 have r:bQ (OQ gl P N w m hgl) m ⟨fun _=>none,fun _ _=>False⟩ w ⟨vs++Array.replicate (fn.ntmps - vs.size) undef,[]⟩ ⟨env,[],0⟩:=by
  constructor
  ·exact himm
  ·exact bA.le_refl _
  ·grind
  ·grind
  ·grind
  ·exact⟨Y,Y,Y,trivial⟩
  ·exact hsz
  ·exact kS.nil
  ·intro t
   show bn _ _ (get env t) _
   rw[<-henv,km];simp only[ai9,if_true,Nat.sub_zero];by_cases ht:t<args.length
   ·have ht':t<vs.size:=by rw[<-hargs.len];exact ht
    simp only[ck9,ax8 ht,bv9,bj9,ca8,if_pos ht',ba9 ht'];exact .imm (hargs.at' t _ _ (ax8 ht) (ba9 ht'))
   ·simp only[ck9,au9 (at9 ht),Option.getD_none];exact .imm (.any _)
  ·exact fun _=>bo.dead' _
  ·grind
  ·grind
  ·grind
  ·grind
  ·grind
 refine wpIn_mono (h w m hgl m _ w _ r) ?_
 rintro e a' w1 ⟨_,S',m1,β',⟨he,hres⟩,r1⟩
 refine⟨he,bQ.leave _ m1 w1 a' Y r1 (fun m' w' r'=>?_)⟩;obtain⟨v,h1,h2⟩:=hres.run hl r';have hg:tZ m m' w w':=⟨r'.ext,r'.imm,fun b hb=>r'.mold b hb trivial,fun b hb=>r'.frame b hb trivial,r'.size,r'.same⟩
 grind
end
section
variable{K:cS}{Q:bX}{S S':St}{ops:Array Oper}{rest:List Oper}{op:Op}{ty:TypeId}{pos:String}{after:Array Edge}{g:Option (Nat×Bool)}
variable{m:bA}{β:aZ}{w:World}{a:Act}
def aV(K:cS)(S S':St):Prop:=∀m β w a,bQ K m β w a S->∃m' β',bQ K m' β' w a S'
theorem aV.trans{S'':St}(h:aV K S S')(h':aV K S' S''):aV K S S'':=fun m β w a r=>
 let ⟨m',β',r'⟩:=h m β w a r;h' m' β' w a r'
theorem aY{c:Code}(h:aV K S S')(k:ir K c Q S'):ir K c Q S:=fun m β w a r=>let ⟨m',β',r'⟩:=h m β w a r;k m' β' w a r'
theorem bz{l:List Oper}(h:aV K S S')(k:ax K ops l Q S'):ax K ops l Q S:=fun m β w a r=>let ⟨m',β',r'⟩:=h m β w a r;k m' β' w a r'
abbrev Hy:=bA->aZ->bA->aZ->Prop
def ak(Yo:Hy)(v' v:V):Prop:=∀m β m' β' x,Yo m β m' β'->bn m β v x->bn m' β' v' x
theorem ak.any{Yo:Hy}{v:V}:ak Yo .any v:=fun _ _ _ _ _ _ _=>.imm (.any _)
inductive bP(Yo:Hy)(env:bY):bY->Prop
 |nil:bP Yo env []
 |cons {t:Nat} {v:V} {e:bY} (h:ak Yo v (get env t)) (h':bP Yo env e):bP Yo env ((t,v)::e)
theorem bP.get{Yo:Hy}{env env':bY}(h:bP Yo env env')(t:Nat):ak Yo (get env' t) (get env t):=by
 induction h with
 |nil=>exact ak.any
 | @cons t' v e h h' ih=>
  grind [ci]
def iZ(Yo:Hy)(c c':V):Prop:=∀m β m' β' w B x,Yo m β m' β'->eO m β w B c' x->eO m' β' w B c x
def Ok(Yo:Hy):Prop:=∀m β m' β',Yo m β m' β'->m.le m'
class jx (Yo:Hy):Prop where
 h:Ok Yo
theorem iZ.sub{Yo:Hy}{c c':V}(h:ak Yo c c')(hd:c'.deep=false):iZ Yo c c':=fun _ _ _ _ _ _ _ hy hx=>.inl (h _ _ _ _ _ hy (hx.v hd))
theorem iZ.same{Yo:Hy}(hm:Ok Yo){c:V}(h:ak Yo c c):iZ Yo c c:=fun _ _ _ _ _ _ _ hy hx=>hx.elim (fun hx=>.inl (h _ _ _ _ _ hy hx)) (fun hx=>.inr (hx.mono (hm _ _ _ _ hy) (fun _ h=>h) (fun _ _=>rfl)))
def ag(Yo:Hy):Ob->Ob->Prop
 | .dead,_=>True
 | .res,.res=>True
 | .arr e k rows,.arr e' k' rows'=>e=e'/\k=k'/\rows.length=rows'.length/\(∀(i:Nat) r r',rows[i]? = some r->rows'[i]? = some r'->r.length=r'.length/\
   ∀(j:Nat) c c',r[j]? = some c->r'[j]? = some c'->iZ Yo c c')
 | .map es,.map es'=>es.length=es'.length/\∀(i:Nat) p p',es[i]? = some p->es'[i]? = some p'->p.1=p'.1/\iZ Yo p.2 p'.2
 | .iter c l,.iter c' l'=>(∀p,p∈c->p∈c')/\l=l'/\Ok Yo
 | .bld T e l fr,.bld T' e' l' fr'=>T=T'/\e=e'/\l=l'/\fr=fr'
 |_,_=>False
theorem ag.ok{Yo:Hy}{m m':bA}{β β':aZ}{B:Nat->Prop}(hy:Yo m β m' β'){l:Option (Option (Nat×nZ))}{ob ob':Ob}(h:ag Yo ob ob')(ho:bo m β w B l ob'):bo m' β' w B l ob:=by
 cases ob with
 |dead=>exact bo.dead' _
 |res=>
  cases ob' with
  |res=>
   match l,ho with
   |none,_=>trivial
   |some none,ho|some (some (b,c)),ho=>simp_all[bo]
  |_=>simp[ag] at h
 |arr e k rows=>
  cases ob' with
  |dead=>simp[ag] at h
  |res=>simp[ag] at h
  |map es=>simp[ag] at h
  |iter c l=>simp[ag] at h
  |bld T e l fr=>simp[ag] at h
  |arr e' k' rows'=>
   obtain⟨rfl,rfl,hl,hr⟩:=h
   match l,ho with
   |some none,ho=>
    have:rows'=[]:=ho;subst this;have:rows=[]:=ax9.1 (by simpa using hl);subst this;simp[bo]
   |some (some (b,cap)),ho=>
    obtain⟨arr,bl,h1,h2,h3,h4,h5,hBl,h6⟩:=ho;refine⟨arr,bl,h1,h2,by rw[hl];exact h3,h4,?_,hBl,?_⟩
    ·intro row hrow;obtain⟨i,hi,rfl⟩:=bg9 hrow;have hi':i<rows'.length:=by rw[<-hl];exact hi
     rw[(hr i _ _ (ax8 hi) (ax8 hi')).1];exact h5 _ (ba8 _)
    ·intro i j row c hi hj;have hlt:=(bb8.1 hi).1;have hlt':i<rows'.length:=by rw[<-hl];exact hlt
     obtain⟨a1,a2⟩:=hr i row _ hi (ax8 hlt');have hj1:=(bb8.1 hj).1;have hj2:j<rows'[i].length:=by rw[<-a1];exact hj1
     obtain⟨v,b1,b2,b3⟩:=h6 i j _ _ (ax8 hlt') (ax8 hj2);exact⟨v,b1,a2 j c _ hj (ax8 hj2) _ _ _ _ _ _ _ hy b2,b3⟩
   |none,ho=>simp_all[bo]
 |map es=>
  cases ob' with
  |dead=>simp[ag] at h
  |res=>simp[ag] at h
  |arr e k rows=>simp[ag] at h
  |iter c l=>simp[ag] at h
  |bld T e l fr=>simp[ag] at h
  |map es'=>
   obtain⟨hl,hr⟩:=h
   match l,ho with
   |some (some (b,cap)),ho=>
    obtain⟨ents,clock,bl,h1,h2,hBl,h3⟩:=ho;refine⟨ents,clock,bl,h1,by rw[hl];exact h2,hBl,?_⟩;intro i p e hi he;have hlt:=(bb8.1 hi).1;have hlt':i<es'.length:=by rw[<-hl];exact hlt
    obtain⟨a1,a2⟩:=hr i p _ hi (ax8 hlt');obtain⟨b1,b2⟩:=h3 i _ e (ax8 hlt') he;exact⟨by rw[a1];exact b1,a2 _ _ _ _ _ _ _ hy b2⟩
   |none,ho=>exact absurd ho (by simp[bo])
   |some none,ho=>simp_all[bo]
 |iter cu lf=>
  cases ob' with
  |dead=>simp[ag] at h
  |res=>simp[ag] at h
  |arr e k rows=>simp[ag] at h
  |map es=>simp[ag] at h
  |bld T e l fr=>simp[ag] at h
  |iter cu' lf'=>
   obtain⟨hcc,rfl,hm⟩:=h;have hm:=hm _ _ _ _ hy
   match l,ho with
   |some (some (b,cap)),ho=>
    obtain⟨bm,seen,E,clock,v,h0,h1,h2,h3,h4,h5,h6,h7⟩:=ho;exact⟨bm,seen,E,clock,v,h0,h1,hm _ _ h2,h3,h4,h5,fun i p e hi he=>⟨(h6 i p e hi he).1,(h6 i p e hi he).2.mono hm⟩,fun p hp=>let ⟨e,a1,a2,a3,a4⟩:=h7 p (hcc p hp);⟨e,a1,a2,a3,a4.mono hm⟩⟩
   |none,ho=>exact absurd ho (by simp[bo])
   |some none,ho=>exact absurd ho (by simp[bo])
 |bld T e bs fr=>
  cases ob' with
  |bld T' e' bs' fr'=>
   obtain⟨rfl,rfl,rfl,rfl⟩:=h
   match l,ho with
   |some (some (b,cap)),ho=>exact ho
   |none,ho=>exact absurd ho (by simp[bo])
   |some none,ho=>exact absurd ho (by simp[bo])
  |_=>simp[ag] at h
theorem ag.keep'{Yo:Hy}(hm:Ok Yo)(hk:∀c,iZ Yo c c)(ob:Ob):ag Yo ob ob:=by
 cases ob with
 |dead=>trivial
 |res=>trivial
 |iter c l=>exact⟨fun _ h=>h,rfl,hm⟩
 |bld T e l fr=>exact⟨rfl,rfl,rfl,rfl⟩
 |arr e k rows=>
  refine⟨Y,Y,Y,fun i r r' h1 h2=>?_⟩
  grind
 |map es=>
  refine⟨Y,fun i p p' h1 h2=>?_⟩
  grind
def Ren(n:Nat)(σ:Nat->Nat):Hy:=fun m β m' β'=>m'=m/\∀id,id<n->β' id=β (σ id)
instance {n:Nat} {σ:Nat->Nat}:jx (Ren n σ):=⟨fun m β m' β' hy=>by rw[hy.1];exact bA.le_refl _⟩
theorem ak.kp{n:Nat}{σ:Nat->Nat}{v:V}(h:dE v):ak (Ren n σ) v v:=fun m β m' β' x hy hx=>by
 obtain⟨rfl,_⟩:=hy;exact .imm (h _ β x hx)
theorem ak.imm{n:Nat}{σ:Nat->Nat}{v:V}(h:aw v):ak (Ren n σ) v v:=fun m β m' β' x hy hx=>by
 obtain⟨rfl,_⟩:=hy;exact .imm (h.2 _ β x hx)
theorem ak.nil{Yo:Hy}(k:Nat):ak Yo (.lst k []) (.con (.slice none 0 0)):=fun m β m' β' x _ hx=>by
 rw[hx.of_con];exact .imm (.nil k none 0)
theorem ak.own{n id j l:Nat}{σ:Nat->Nat}(hn:Nat.blt id n=true)(hj:σ id=j):ak (Ren n σ) (.own id l) (.own j l):=fun m β m' β' x hy hx=>by
 have h:=hy.2 id (aw9 hn);rw[hj] at h;cases hx with
 |imm h=>cases h
 |ownNil hb=>exact .ownNil (by grind)
 |own hb=>exact .own (by grind)
theorem ak.ptr{n id j k i o:Nat}{σ:Nat->Nat}(hn:Nat.blt id n=true)(hj:σ id=j):ak (Ren n σ) (.ptr id k i o) (.ptr j k i o):=fun m β m' β' x hy hx=>by
 have h:=hy.2 id (aw9 hn);rw[hj] at h;cases hx with
 |imm h=>cases h
 |ptr hb=>exact .ptr (by grind)
theorem ak.map{n id j:Nat}{σ:Nat->Nat}(hn:Nat.blt id n=true)(hj:σ id=j):ak (Ren n σ) (.map id) (.map j):=fun m β m' β' x hy hx=>by
 have h:=hy.2 id (aw9 hn);rw[hj] at h;cases hx with
 |imm h=>cases h
 |map hb=>exact .map (by rw[h];exact hb)
inductive iP(Yo:Hy):List V->List V->Prop
 |nil:iP Yo [] []
 |cons {v v':V} {l l':List V} (h:ak Yo v v') (h':iP Yo l l'):iP Yo (v::l) (v'::l')
theorem iP.len{Yo:Hy}{l l':List V}(h:iP Yo l l'):l.length=l'.length:=by
 induction h<;>simp_all
theorem iP.get{Yo:Hy}{l l':List V}(h:iP Yo l l'):∀(i:Nat) c c',l[i]? = some c->l'[i]? = some c'->ak Yo c c':=by
 induction h<;>grind
theorem ak.agg{Yo:Hy}{l l':List V}(h:iP Yo l l'):ak Yo (.agg l) (.agg l'):=fun m β m' β' x hh hx=>by
 cases hx with
 |imm hx=>cases hx with
  |agg hl hx=>
   refine .agg (by rw[h.len];exact hl) fun i c v h1 h2=>?_;have h3:i<l'.length:=by rw[<-h.len];exact(bb8.1 h1).1
   exact h.get i c _ h1 (ax8 h3) _ _ _ _ _ hh (.imm (hx i _ v (ax8 h3) h2))
 |agg hl hx=>
  refine .agg (by rw[h.len];exact hl) fun i c v h1 h2=>?_;have h3:i<l'.length:=by rw[<-h.len];exact(bb8.1 h1).1
  exact h.get i c _ h1 (ax8 h3) _ _ _ _ _ hh (hx i _ v (ax8 h3) h2)
inductive bR(Yo:Hy)(n:Nat)(σ:Nat->Nat)(hp:aD):aD->Prop
 |nil:bR Yo n σ hp []
 |cons {id:Nat} {ob:Ob} {e:aD} (hn:Nat.blt id n=true) (h:ag Yo ob (ao hp (σ id))) (h':bR Yo n σ hp e):bR Yo n σ hp ((id,ob)::e)
theorem bR.get{Yo:Hy}{n:Nat}{σ:Nat->Nat}{hp hp':aD}(h:bR Yo n σ hp hp')(id:Nat):(ao hp' id=.dead\/id<n)/\ag Yo (ao hp' id) (ao hp (σ id)):=by
 induction h with
 |nil=>exact⟨.inl rfl,trivial⟩
 | @cons id' ob e hn h h' ih=>
  rw[av];split<;>simp_all
def G3(Yo:Hy)(n:Nat)(σ:Nat->Nat)(hp hp':aD):Prop:=∀id,(ao hp' id=.dead\/id<n)/\ag Yo (ao hp' id) (ao hp (σ id))
theorem pq{Yo:Hy}{env:bY}{t:Nat}{v:V}(hk:∀v,ak Yo v v)(h:ak Yo v (get env t)):∀t',ak Yo (get ((t,v)::env) t') (get env t'):=by
 grind [ci]
def pe(n:Nat)(σ:Nat->Nat):Nat->Bool
 |0=>true
 |q+1=>Nat.blt q n&&Nat.beq (σ q) q&&pe n σ q
theorem uo{n:Nat}{σ:Nat->Nat}:∀{p q:Nat},pe n σ p=true->q<p->q<n/\σ q=q
 |p+1,q,h,hq=>by
  simp only[pe,ap9] at h;by_cases e:q=p
  ·simp_all
  ·exact uo h.2 (by omega)
theorem bc(n:Nat)(σ:Nat->Nat)(env:bY)(hp:aD)(hσ:∀i,i<n->∀j,j<n->σ i=σ j->i=j)(henv:∀t,ak (Ren n σ) (get env t) (get S.env t))(hhp:G3 (Ren n σ) n σ S.hp hp)
  (hpin:pe n σ K.pins=true):aV K S ⟨env,hp,n⟩:=by
 intro m β w a r
 let β':aZ:=⟨fun id=>if id<n then β (σ id) else none,fun id=>β.hid (σ id)⟩
 have eβ:∀id,id<n->β' id=β (σ id):=fun id h=>by grind
 have hy:Ren n σ m β m β':=⟨rfl,eβ⟩
 have hlive:∀id,ao hp id≠.dead->id<n/\ao S.hp (σ id)≠.dead:=by
  intro id h;obtain⟨h1,h2⟩:=hhp id;refine⟨h1.resolve_left h,fun hd=>?_⟩;rw[hd] at h2;cases ho:ao hp id with
  |dead=>exact h ho
  |arr=>simp_all[ag]
  |res=>simp_all[ag]
  |map=>simp_all[ag]
  |iter=>simp_all[ag]
  |bld=>simp_all[ag]
 refine⟨m,β',?_⟩;constructor
 ·exact r.imm
 ·exact r.ext
 ·exact r.mold
 ·exact r.frame
 ·exact r.size
 ·exact r.same
 ·exact r.tn
 ·exact r.df
 ·exact fun t=>henv t _ _ _ _ _ hy (r.env t)
 ·intro id;obtain⟨h1,h2⟩:=hhp id;rcases h1 with h1|h1
  ·grind [bo.dead']
  ·show bo m β' w (β.hid (σ id)) (β' id) (ao hp id)
   rw[eβ id h1];exact h2.ok hy (r.own (σ id))
 ·intro id b cap hl hb;obtain⟨h1,h2⟩:=hlive id hl;have:=eβ id h1;rw[this] at hb;exact r.priv _ _ _ h2 hb
 ·intro id id' b cap cap' hl hl' hb hb';obtain⟨h1,h2⟩:=hlive id hl;obtain⟨h1',h2'⟩:=hlive id' hl';have e1:=eβ id h1;have e2:=eβ id' h1';rw[e1] at hb;rw[e2] at hb';exact hσ id h1 id' h1' (r.inj _ _ _ _ _ h2 h2' hb hb')
 ·intro id x hl hx;obtain⟨h1,h2⟩:=hlive id hl;have h:=r.hid (σ id) x h2 hx;refine⟨h.lt,h.m,h.old,fun i b c hi hb=>?_,fun i hi hx'=>?_⟩
  ·obtain⟨h1',h2'⟩:=hlive i hi;rw[eβ i h1'] at hb;exact h.ne _ b c h2' hb
  ·obtain⟨h1',h2'⟩:=hlive i hi;exact hσ i h1' id h1 (h.un _ h2' hx')
 ·grind
 ·intro q hq;obtain⟨h1,h2⟩:=uo hpin hq;refine⟨h1,?_⟩;rw[eβ q h1,h2];exact(r.pin q hq).2
def Dg(id k:Nat)(rows:List (List V)):Hy:=fun m β m' β'=>m.le m'/\β'=β/\(∀n x,bn m β (.own id n) x->n<=rows.length->bT m' (.lst k (rows.take n)) x)/\
 ∀i o row x,rows[i]? = some row->bn m β (.ptr id k i o) x->bT m' (.iptr row o) x
instance {id k:Nat} {rows:List (List V)}:jx (Dg id k rows):=⟨fun m β m' β' hy=>hy.1⟩
theorem ak.keep{id k:Nat}{rows:List (List V)}{v:V}:ak (Dg id k rows) v v:=fun _ _ _ _ _ hy hx=>by
 obtain⟨h1,rfl,_⟩:=hy;exact hx.mono h1 (aZ.le_refl _)
theorem ak.frz{id k n:Nat}{rows rows':List (List V)}(hn:n<=rows.length)(hr:rows.take n=rows'):ak (Dg id k rows) (.lst k rows') (.own id n):=fun _ _ _ _ _ hy hx=>by
 subst hr;exact .imm (hy.2.2.1 n _ hx hn)
theorem ak.frzptr{id k i o:Nat}{rows:List (List V)}{row:List V}(hr:rows[i]? = some row):ak (Dg id k rows) (.iptr row o) (.ptr id k i o):=fun _ _ _ _ _ hy hx=>.imm (hy.2.2.2 i o row _ hr hx)
theorem fJ(id:Nat){e:TypeId}{k:Nat}{rows:List (List V)}(env:bY)(hp:aD)(ho:ao S.hp id=.arr e k rows)(hi:∀row,row∈rows->cz row)
  (henv:∀t,ak (Dg id k rows) (get env t) (get S.env t)) (hhp:∀i,ag (Dg id k rows) (ao hp i) (ao S.hp i)) (hd:ao hp id=.dead):aV K S ⟨env,hp,S.nx⟩:=by
 intro m β w a r;have hown:=r.own id;rw[ho] at hown;cases hb:β id with
 |none=>simp_all[bo]
 |some l=>
 have key:∃m',(∀b o,m' b=some o->w.heap[b]? = some o)/\Dg id k rows m β m' β/\(∀b,m' b=m b\/∃cap,l=some (b,cap)):=by
  cases l with
  |none=>
   rw[hb] at hown;have:rows=[]:=hown;subst this;refine⟨m,r.imm,⟨bA.le_refl _,rfl,fun n x hx hn=>?_,fun i o row x hr=>by simp at hr⟩,fun b=>.inl rfl⟩;simp at hn;subst hn;cases hx with
   |imm h=>cases h
   |ownNil h=>exact .nil k _ 0
   |own h=>grind
  |some p=>
   obtain⟨b,cap⟩:=p;rw[hb] at hown;obtain⟨arr,bl,h1,h2,h3,h4,h5,hBl,h6⟩:=hown;have hp':=r.priv id b cap (by grind) hb
   let m':bA:=fun b'=>if b'=b then some (.cells arr e (0,0)) else m b'
   have hle:m.le m':=by
    intro b' o h;have:b'≠b:=by intro e';subst e';rw[hp'.1] at h;simp at h
    simp[m',this,h]
   have hcells:∀i,i<rows.length*k->arr[cap.off+i]? = some (arr.getD (cap.off+i) undef):=by
    intro i hi';have:cap.off+i<arr.size:=by rw[h2];have:=ci8 hi' (bc8 k h3);omega
    simp[bj9,this]
   have hrel:∀(i j:Nat) (row:List V) (c:V),rows[i]? = some row->row[j]? = some c->bT m' c (arr.getD (cap.off+(i*k+j)) undef):=by
    intro i j row c hr hj;obtain⟨v,a1,a2,_⟩:=h6 i j row c hr hj;have hcc:=hi row (aw8 hr) c (aw8 hj);have:=hcc.2 m β v (a2.v hcc.1);simp only[bj9,a1,bv9];exact this.mono hle
   refine⟨m',?_,⟨hle,Y,?_,?_⟩,?_⟩
   ·intro b' o h;by_cases hbb:b'=b
    ·grind
    ·simp[m',hbb] at h;exact r.imm _ _ h
   ·intro n x hx hn;cases hx with
    |imm h=>cases h
    |ownNil h=>grind
    | @own _ _ b2 cap2 h=>
     rw[hb] at h;simp only[av8,Prod.mk.injEq] at h;obtain⟨rfl,rfl⟩:=h;refine .lst (T:=e) (arr:=arr) (fr:=(0,0)) (fun i=>arr.getD (cap.off+i) undef) (by simp[m']) Y (by simp;omega) (by omega) (by omega) (fun row hr=>h5 row (List.mem_of_mem_take hr)) ?_ ?_
     ·grind [Nat.lt_of_lt_of_le,Nat.mul_le_mul_right]
     grind
   ·intro i o row x hr hx;cases hx with
    |imm h=>cases h
    | @ptr _ _ _ _ b2 cap2 h=>
     rw[hb] at h;simp only[av8,Prod.mk.injEq] at h;obtain⟨rfl,rfl⟩:=h;have hrk:=h5 row (aw8 hr);refine .iptr (T:=e) (arr:=arr) (fr:=(0,0)) (fun j=>arr.getD (cap.off+(i*k+j)) undef) (cap.off+i*k) (by simp[m']) Y (by simp;omega) ?_ ?_
     ·intro j hj;rw[af9];refine hcells _ ?_
      calc i*k+j<i*k+k:=by omega
       _=(i+1)*k:=by grind
       _<=rows.length*k:=bc8 _ (bb8.1 hr).1
     grind
   grind
 obtain⟨m',k1,hy,k2⟩:=key;have hlid:ao S.hp id≠.dead:=by rw[ho];simp
 have hlive:∀i,ao hp i≠.dead->ao S.hp i≠.dead/\i≠id:=by
  intro i h;have h2:=hhp i;refine⟨fun hdd=>?_,fun he=>h (by grind)⟩;rw[hdd] at h2;cases ho':ao hp i with
  |dead=>exact h ho'
  |arr=>simp_all[ag]
  |res=>simp_all[ag]
  |map=>simp_all[ag]
  |iter=>simp_all[ag]
  |bld=>simp_all[ag]
 refine⟨m',β,?_⟩;constructor
 ·exact k1
 ·exact bA.le_trans r.ext hy.1
 ·intro b hb' hold;rcases k2 b with h|⟨cap,h⟩
  ·rw[h];exact r.mold b hb' hold
  ·subst h;have hp':=r.priv id b cap (by grind) hb
   grind
 ·exact r.frame
 ·exact r.size
 ·exact r.same
 ·exact r.tn
 ·exact r.df.mono hy.1
 ·exact fun t=>henv t _ _ _ _ _ hy (r.env t)
 ·intro i;exact(hhp i).ok hy (r.own i)
 ·intro i b cap hl hb';obtain⟨h1,h2⟩:=hlive i hl;have hp':=r.priv i b cap h1 hb';refine⟨?_,hp'.2⟩;rcases k2 b with h|⟨cap',h⟩
  ·grind
  ·subst h;exact absurd (r.inj i id b cap cap' h1 (by grind) hb' hb) h2
 ·intro i i' b cap cap' hl hl';exact r.inj i i' b cap cap' (hlive i hl).1 (hlive i' hl').1
 ·intro i x hl hx;have h:=r.hid i x (hlive i hl).1 hx;refine⟨h.lt,?_,h.old,fun i' b c hi'=>h.ne i' b c (hlive i' hi').1,fun i' hi'=>h.un i' (hlive i' hi').1⟩;rcases k2 x with h'|⟨cap',h'⟩
  ·rw[h'];exact h.m
  ·subst h';exact absurd Y (h.ne id x cap' hlid hb)
 ·exact r.nx
 ·exact r.pin
end
end Go.Pv
