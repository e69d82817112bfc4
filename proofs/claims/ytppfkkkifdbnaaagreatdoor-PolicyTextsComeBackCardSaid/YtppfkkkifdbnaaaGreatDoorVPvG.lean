/- Part of the proof. -/
import Derived.Test.YtppfkkkifdbnaaaGreatDoorVPvC
set_option linter.unusedSimpArgs false
set_option linter.unusedVariables false
namespace Go.Pv
open Go
section
variable{K:Ctx}{Q:Post}{S:St}{ops:Array Oper}{rest:List Oper}{op:Op}{ty:TypeId}{pos:String}{after:Array Edge}{g:Option (Nat×Bool)}
variable{m:Mem}{β:Locs}{w:World}{a:Act}
theorem cell_of_heap{w:World}{b o:Nat}{arr:Array Value}{T:TypeId}{fr:Nat×Nat}(h:w.heap[b]? = some (.cells arr T fr)):
  w.cell? ⟨b,o,none⟩=arr[o]?:=by simp[World.cell?,h]
theorem run_load_agg{P:Program}{w:World}{T:TypeId}{n b o:Nat}(f:Nat->Value)(hT:tyA P T n=true)(h:∀j,j<n->w.cell? ⟨b,o+j,none⟩=some (f j)):
  (Instr.loadAt T (.pointer (some ⟨b,o,none⟩))).run P w=.ok (.agg ((List.range n).map f).toArray) w:=by
 have h1:=tyA_run hT w
 simp_all[run_loadCells,add_spot,Instr.loadAt,Instr.sureAddr,loadVar]
theorem run_load_cell{P:Program}{w:World}{T:TypeId}{b o:Nat}{v:Value}(hT:tyC P T=true)(h:w.cell? ⟨b,o,none⟩=some v):
  (Instr.loadAt T (.pointer (some ⟨b,o,none⟩))).run P w=.ok v w:=by
 simp_all[tyC_run,Instr.loadAt,Instr.sureAddr,Sem.run,loadVar]
theorem VRel.ptr_inv{id k i off:Nat}{v:Value}(h:VRel m β (.ptr id k i off) v):∃b cap,β id=some (some (b,cap))/\v=.pointer (some ⟨b,cap.off+(i*k+off),none⟩):=by
 cases h with
 |imm h=>cases h
 |ptr h=>grind
theorem VRel.iptr_inv{row:List V}{off:Nat}{v:Value}(h:VRel m β (.iptr row off) v):∃(a:Addr) (arr:Array Value) (T:TypeId) (fr:Nat×Nat) (f:Nat->Value) (base:Nat),
  v=.pointer (some a)/\m a.block=some (.cells arr T fr)/\a.spot=none/\a.off=base+off/\(∀i,i<row.length->arr[base+i]? = some (f i))/\∀(j:Nat) (c:V),row[j]? = some c->IRel m c (f j):=by
 cases h with
 |imm h=>cases h with|iptr f base h1 h2 h3 h4 h5=>exact⟨_,_,_,_,f,base,rfl,h1,h2,h3,h4,h5⟩
theorem addr_eta{a:Addr}(h:a.spot=none):a=⟨a.block,a.off,none⟩:=by cases a;simp_all
theorem Rel.obj(r:Rel K m β w a S){id b k:Nat}{cap:Cap}{e:TypeId}{rows:List (List V)}(hb:β id=some (some (b,cap)))(ho:hget S.hp id=.arr e k rows):
  ∃arr bl,w.heap[b]? = some (.cells arr e (0,0))/\arr.size=cap.off+cap.n*k/\rows.length<=cap.n/\cap.n<=maxLen/\(∀row,row∈rows->row.length=k)/\Bls (β.hid id) bl/\
   ∀(i j:Nat) (row:List V) (c:V),rows[i]? = some row->row[j]? = some c->∃v,arr[cap.off+(i*k+j)]? = some v/\CRel m β w (bl (i*k+j)) c v/\v.oneCell'=true:=by
 have h:=r.own id
 rw[hb,ho] at h
 exact h
def ndB:List V->Bool
 |[]=>true
 |c::l=>match c.deep with|true=>false|false=>ndB l
theorem ndB_at:∀{l:List V} {j:Nat} {c:V},ndB l=true->l[j]? = some c->c.deep=false
 |x::l,0,c,h,hc=>by grind [ndB]
 |x::l,j+1,c,h,hc=>by
  simp only[ndB] at h
  split at h
  ·simp at h
  ·exact ndB_at (l:=l) (j:=j) h (by simpa using hc)
 |[],_,c,_,hc=>by simp at hc
theorem aops_load_agg{d n id k i o:Nat}{x:Operand}{T e:TypeId}{rows:List (List V)}{row cs:List V}(hT:tyA K.P T n=true)
  (hw:Wants ops S ⟨some d,.load T x,ty,pos,after,g⟩ true) (hx:evl K S x=.ptr id k i o) (ho:hget S.hp id=.arr e k rows) (hr:rows[i]? = some row)
  (hc:(row.drop o).take n=cs) (hn:cs.length=n) (hnd:ndB cs=true) (hN:Nat.blt d K.N=true) (kk:AOps K ops rest Q (S.put d (.agg cs))):
  AOps K ops (⟨some d,.load T x,ty,pos,after,g⟩::rest) Q S:=
 aops_val _ hw hN (fun m β w a r=>by
  have h:=r.reads x
  rw[hx] at h
  obtain⟨b,cap,hb,hv⟩:=h.ptr_inv
  obtain⟨arr,bl,h1,h2,h3,h4,h5,_,h6⟩:=r.obj hb ho
  have hcell:∀j c,cs[j]? = some c->∃v,arr[cap.off+(i*k+o)+j]? = some v/\VRel m β c v:=by
   intro j c hj
   have hd:=ndB_at hnd hj
   rw[<-hc,ba9] at hj
   split at hj
   ·rw[ap9] at hj
    obtain⟨v,a1,a2,_⟩:=h6 i (o+j) row c hr hj
    exact⟨v,by grind,a2.v hd⟩
   ·simp at hj
  have hrun:=run_load_agg (P:=K.P) (w:=w) (b:=b) (o:=cap.off+(i*k+o)) (fun j=>arr.getD (cap.off+(i*k+o)+j) undef) hT (fun j hj=>by
   rw[cell_of_heap h1]
   obtain⟨v,a1,_⟩:=hcell j cs[j] (by simp[hn,hj])<;>simp_all)
  refine⟨_,by simp only[execOp,hv];exact run_value hrun,?_⟩
  ·refine .agg (by simp[hn]) (fun j c v hj hv=>?_)
   obtain⟨v',a1,a2⟩:=hcell j c hj
   simp only[az8,at9] at hv
   have hj':j<n:=by rw[<-hn];exact(aw8.1 hj).1
   simp_all) kk
theorem aops_load_cell{d id k i o:Nat}{x:Operand}{T e:TypeId}{rows:List (List V)}{row:List V}(c:V)(hT:tyC K.P T=true)
  (hw:Wants ops S ⟨some d,.load T x,ty,pos,after,g⟩ true) (hx:evl K S x=.ptr id k i o) (ho:hget S.hp id=.arr e k rows) (hr:rows[i]? = some row)
  (hc:row[o]? = some c) (hd:c.deep=false) (hN:Nat.blt d K.N=true) (kk:AOps K ops rest Q (S.put d c)):
  AOps K ops (⟨some d,.load T x,ty,pos,after,g⟩::rest) Q S:=
 aops_val _ hw hN (fun m β w a r=>by
  have h:=r.reads x
  rw[hx] at h
  obtain⟨b,cap,hb,hv⟩:=h.ptr_inv
  obtain⟨arr,bl,h1,h2,h3,h4,h5,_,h6⟩:=r.obj hb ho
  obtain⟨v,a1,a2,_⟩:=h6 i o row c hr hc
  exact⟨v,by grind [execOp,run_value,run_load_cell,cell_of_heap],a2.v hd⟩) kk
theorem aops_iload_agg{d n o:Nat}{x:Operand}{T:TypeId}{row cs:List V}(hT:tyA K.P T n=true)
  (hw:Wants ops S ⟨some d,.load T x,ty,pos,after,g⟩ true) (hx:evl K S x=.iptr row o)
  (hc:(row.drop o).take n=cs) (hn:cs.length=n) (hN:Nat.blt d K.N=true) (kk:AOps K ops rest Q (S.put d (.agg cs))):
  AOps K ops (⟨some d,.load T x,ty,pos,after,g⟩::rest) Q S:=
 aops_val _ hw hN (fun m β w a r=>by
  have h:=r.reads x
  rw[hx] at h
  obtain⟨ad,arr,T',fr,f,base,hv,h1,h2,h3,h4,h5⟩:=h.iptr_inv
  have hh:=r.imm _ _ h1
  have hcell:∀j c,cs[j]? = some c->arr[base+o+j]? = some (f (o+j))/\IRel m c (f (o+j)):=by
   intro j c hj
   rw[<-hc,ba9] at hj
   split at hj
   ·grind
   ·simp at hj
  have hrun:=run_load_agg (P:=K.P) (w:=w) (b:=ad.block) (o:=ad.off) (fun j=>f (o+j)) hT (fun j hj=>by
   rw[cell_of_heap hh,h3]
   grind)
  refine⟨_,by simp only[execOp,hv];rw[addr_eta h2];exact run_value hrun,?_⟩
  ·refine .agg (by simp[hn]) (fun j c v hj hv=>?_)
   obtain⟨a1,a2⟩:=hcell j c hj
   simp only[az8,at9] at hv
   have hj':j<n:=by rw[<-hn];exact(aw8.1 hj).1
   rw[at8 hj'] at hv
   simp only[au9,aq8] at hv
   rw[<-hv]
   exact .imm a2) kk
theorem aops_iload_cell{d o:Nat}{x:Operand}{T:TypeId}{row:List V}(c:V)(hT:tyC K.P T=true)
  (hw:Wants ops S ⟨some d,.load T x,ty,pos,after,g⟩ true) (hx:evl K S x=.iptr row o)
  (hc:row[o]? = some c) (hN:Nat.blt d K.N=true) (kk:AOps K ops rest Q (S.put d c)):
  AOps K ops (⟨some d,.load T x,ty,pos,after,g⟩::rest) Q S:=
 aops_val _ hw hN (fun m β w a r=>by
  have h:=r.reads x
  rw[hx] at h
  obtain⟨ad,arr,T',fr,f,base,hv,h1,h2,h3,h4,h5⟩:=h.iptr_inv
  have hh:=r.imm _ _ h1
  refine⟨f o,by grind [execOp,addr_eta,run_value,run_load_cell,cell_of_heap],.imm (h5 _ _ hc)⟩) kk
theorem aops_fieldAddr{d id k i o f off:Nat}{x:Operand}{T:TypeId}(hF:tyF K.P T f off=true)
  (hw:Wants ops S ⟨some d,.fieldAddr T x f,ty,pos,after,g⟩ true) (hx:evl K S x=.ptr id k i o) (hN:Nat.blt d K.N=true)
  (kk:AOps K ops rest Q (S.put d (.ptr id k i (o+off)))):AOps K ops (⟨some d,.fieldAddr T x f,ty,pos,after,g⟩::rest) Q S:=
 aops_val _ hw hN (fun m β w a r=>by
  have h:=r.reads x
  rw[hx] at h
  obtain⟨b,cap,hb,hv⟩:=h.ptr_inv
  exact⟨_,by simp only[execOp,hv];exact run_value (tyF_run hF w b _),by have:=VRel.ptr (m:=m) (k:=k) (i:=i) (off:=o+off) hb;grind⟩) kk
theorem aops_ifieldAddr{d o f off:Nat}{row:List V}{x:Operand}{T:TypeId}(hF:tyF K.P T f off=true)
  (hw:Wants ops S ⟨some d,.fieldAddr T x f,ty,pos,after,g⟩ true) (hx:evl K S x=.iptr row o) (hN:Nat.blt d K.N=true)
  (kk:AOps K ops rest Q (S.put d (.iptr row (o+off)))):AOps K ops (⟨some d,.fieldAddr T x f,ty,pos,after,g⟩::rest) Q S:=
 aops_val _ hw hN (fun m β w a r=>by
  have h:=r.reads x
  rw[hx] at h
  obtain⟨ad,arr,T',fr,f,base,hv,h1,h2,h3,h4,h5⟩:=h.iptr_inv
  exact⟨.pointer (some ⟨ad.block,ad.off+off,none⟩),by grind [execOp,addr_eta,run_value,tyF_run],
   .imm (.iptr (a:=⟨ad.block,ad.off+off,none⟩) f base h1 rfl (by grind) h4 h5)⟩) kk
def oneV:V->Bool
 | .con v=>v.oneCell'
 | .any | .agg _ | .tup _=>false
 |_=>true
theorem VRel.one{c:V}{v:Value}(h:VRel m β c v)(hc:oneV c=true):v.oneCell'=true:=by
 cases h with
 |imm h=>cases h<;>first|exact hc|rfl|simp[oneV] at hc
 |_=>first|rfl|simp[oneV] at hc
def vcells:V->List V
 | .agg cs=>cs
 |v=>[v]
theorem VRel.cells{d:V}{v:Value}(h:VRel m β d v)(hd:(vcells d).all oneV=true):(vcells d).length=v.cells.size/\(∀(i:Nat) c u,(vcells d)[i]? = some c->v.cells[i]? = some u->VRel m β c u)/\∀u,u∈v.cells.toList->u.oneCell'=true:=by
 have key:(vcells d).length=v.cells.size/\(∀(i:Nat) c u,(vcells d)[i]? = some c->v.cells[i]? = some u->VRel m β c u):=by
  cases d with
  |agg cs=>
   cases h with
   |imm h=>cases h with|agg hl h=>exact⟨hl,fun i c u a b=>.imm (h i c u a b)⟩
   |agg hl h=>exact⟨hl,h⟩
  |any=>simp[vcells,oneV] at hd
  |tup cs=>simp[vcells,oneV] at hd
  |_=>
   have h1:=h.one (by simp_all[vcells])
   have h2:v.cells=#[v]:=by cases v<;>simp[Value.cells]<;>simp[Value.oneCell'] at h1
   grind [vcells]
 refine⟨key.1,key.2,fun u hu=>?_⟩
 obtain⟨i,hi,rfl⟩:=List.getElem_of_mem hu
 have hi':i<(vcells d).length:=by rw[key.1];simpa using hi
 have hall:=al8.1 hd (vcells d)[i] (av8 _)
 exact(key.2 i _ _ (as8 hi') (by simp)).one hall
theorem Rel.allocG(r:Rel K m β w a S)(id0 nx':Nat)(hfree:β id0=none)(hpid:∀q,q<K.pins->q≠id0)(hidn:id0<nx')(hnn:S.nx<=nx')(o:Obj)(ob:Ob)(cap:Cap)(w':World)(hw':w'={ w with heap:=w.heap.push o })(B:Nat->Prop)
  (hB:∀x,B x->x<w.heap.size/\m x=none/\(x<K.w0.heap.size->¬K.old x)/\(∀i b c,hget S.hp i≠.dead->β i=some (some (b,c))->x≠b)/\∀i,hget S.hp i≠.dead->¬β.hid i x)
  (hok:∀β',β.le β'->ObOk m β' w' B (some (some (w.heap.size,cap))) ob):
  ∃β':Locs,β.le β'/\β' id0=some (some (w.heap.size,cap))/\Rel K m β' w' a ⟨S.env,(id0,ob)::S.hp,nx'⟩:=by
 let β':Locs:=⟨fun i=>if i=id0 then some (some (w.heap.size,cap)) else β i,fun i=>if i=id0 then B else β.hid i⟩
 have hle:β.le β':=by
  intro i l h
  show(if i=id0 then _ else _)=_
  rw[if_neg]
  ·exact h
  ·grind
 have en:β' id0=some (some (w.heap.size,cap)):=by show(if _ then _ else _)=_;grind
 have eo:∀i,id0≠i->β' i=β i:=fun i h=>by grind
 have hn:β'.hid id0=B:=by show(if _ then _ else _)=_;grind
 have ho:∀i,id0≠i->β'.hid i=β.hid i:=fun i h=>by grind
 have hheap:∀(b:Nat) (o':Obj),w.heap[b]? = some o'->w'.heap[b]? = some o':=by
  intro b o' h
  have:=lt_of_some h
  rw[hw'];simp only[bg9];rw[if_neg (by omega)];exact h
 have hsame:∀b,b<w.heap.size->w'.heap[b]? = w.heap[b]?:=by
  intro b hb
  rw[hw'];simp only[bg9];grind
 have hsz:w'.heap.size=w.heap.size+1:=by rw[hw'];simp
 have hm:m w.heap.size=none:=by
  cases hm:m w.heap.size with
  |none=>rfl
  |some o'=>have:=lt_of_some (r.imm _ _ hm);omega
 refine⟨β',hle,en,?_⟩
 constructor
 ·exact fun b o' h=>hheap _ _ (r.imm b o' h)
 ·exact r.ext
 ·exact r.mold
 ·intro b hb ho
  rw[hsame b (bz9 hb r.size)];exact r.frame b hb ho
 ·rw[hsz];have:=r.size;omega
 ·rw[hw'];exact⟨r.same.os,r.same.tape,r.same.output,r.same.drawn⟩
 ·exact r.tn
 ·exact r.df
 ·exact fun t=>(r.env t).mono (Mem.le_refl _) hle
 ·intro id
  simp only[hget_put]
  by_cases h:id0=id
  ·grind
  ·rw[if_neg h]
   show ObOk m β' w' (β'.hid id) (β' id) _
   rw[eo id h,ho id h]
   by_cases hd:hget S.hp id=.dead
   ·simp_all[ObOk.dead']
   ·exact ObOk.mono (Mem.le_refl _) hle hheap (fun x hx=>hsame x (r.hid id x hd hx).lt) (r.own id)
 ·intro id b c hl hb
  simp only[hget_put] at hl
  by_cases h:id0=id
  ·subst h
   rw[en] at hb
   simp only[aq8,Prod.mk.injEq] at hb
   obtain⟨rfl,_⟩:=hb
   exact⟨hm,by intro hlt;have:=r.size;omega⟩
  ·rw[if_neg h] at hl
   rw[eo id h] at hb
   exact r.priv id b c hl hb
 ·intro id id' b c c' hl hl' hb hb'
  simp only[hget_put] at hl hl'
  by_cases h:id0=id<;>by_cases h':id0=id'
  ·grind
  ·exfalso
   rw[if_neg h'] at hl'
   rw[eo id' h'] at hb'
   have:=live_lt hl' hb' (r.own id')
   grind
  ·exfalso
   rw[if_neg h] at hl
   rw[eo id h] at hb
   have:=live_lt hl hb (r.own id)
   grind
  ·rw[if_neg h] at hl;rw[if_neg h'] at hl'
   rw[eo id h] at hb;rw[eo id' h'] at hb'
   exact r.inj id id' b c c' hl hl' hb hb'
 ·intro id x hl hx
  simp only[hget_put] at hl
  have ne:∀i b cap,hget ((id0,ob)::S.hp) i≠.dead->β' i=some (some (b,cap))->x<w.heap.size->(∀i b c,hget S.hp i≠.dead->β i=some (some (b,c))->x≠b)->x≠b:=by
   intro i b c hi hb hx hh
   rw[hget_put] at hi
   by_cases h:id0=i
   ·grind
   ·grind
  by_cases h:id0=id
  ·subst h
   rw[hn] at hx
   obtain⟨q1,q2,q3,q4,q5⟩:=hB x hx
   refine⟨by grind,q2,q3,fun i b c hi hb=>ne i b c hi hb q1 q4,fun i hi hx'=>?_⟩
   rw[hget_put] at hi
   grind
  ·rw[if_neg h] at hl;rw[ho id h] at hx
   have hh:=r.hid id x hl hx
   refine⟨by rw[hsz];have:=hh.lt;omega,hh.m,hh.old,fun i b c hi hb=>ne i b c hi hb hh.lt hh.ne,fun i hi hx'=>?_⟩
   rw[hget_put] at hi
   by_cases h':id0=i
   ·grind
   ·rw[if_neg h'] at hi;rw[ho i h'] at hx';exact hh.un i hi hx'
 ·intro id hid
  have hid':nx'<=id:=hid
  rw[eo id (by omega)]
  exact r.nx id (by omega)
 ·intro q hq
  obtain⟨h1,h2⟩:=r.pin q hq<;>grind
theorem Rel.allocB(r:Rel K m β w a S)(o:Obj)(ob:Ob)(cap:Cap)(w':World)(hw':w'={ w with heap:=w.heap.push o })(B:Nat->Prop)
  (hB:∀x,B x->x<w.heap.size/\m x=none/\(x<K.w0.heap.size->¬K.old x)/\(∀i b c,hget S.hp i≠.dead->β i=some (some (b,c))->x≠b)/\∀i,hget S.hp i≠.dead->¬β.hid i x)
  (hok:∀β',β.le β'->ObOk m β' w' B (some (some (w.heap.size,cap))) ob):
  ∃β':Locs,β.le β'/\β' S.nx=some (some (w.heap.size,cap))/\Rel K m β' w' a ⟨S.env,(S.nx,ob)::S.hp,S.nx+1⟩:=
 r.allocG S.nx (S.nx+1) (r.nx _ (ab8 _)) (fun q hq=>ag8 (r.pin q hq).1) (ah9 _) (ah8 _) o ob cap w' hw' B hB hok
theorem Rel.alloc(r:Rel K m β w a S)(o:Obj)(ob:Ob)(cap:Cap)(w':World)(hw':w'={ w with heap:=w.heap.push o })
  (hok:∀β',β.le β'->ObOk m β' w' (fun _=>False) (some (some (w.heap.size,cap))) ob):
  ∃β':Locs,β.le β'/\β' S.nx=some (some (w.heap.size,cap))/\Rel K m β' w' a ⟨S.env,(S.nx,ob)::S.hp,S.nx+1⟩:=
 r.allocB o ob cap w' hw' (fun _=>False) (fun _ h=>h.elim) hok
theorem ObOk.congr{w w':World}{B:Nat->Prop}{l:Option (Option (Nat×Cap))}{ob:Ob}(hw:∀b cap,l=some (some (b,cap))->w'.heap[b]? = w.heap[b]?)(hB:∀x,B x->w'.heap[x]? = w.heap[x]?)(h:ObOk m β w B l ob):ObOk m β w' B l ob:=by
 match l,ob,h with
 |none,.dead,_|some none,.dead,_|some (some (b,c)),.dead,_=>simp[ObOk]
 |none,.res,_=>trivial
 |some none,.res,h|some (some (b,c)),.res,h=>exact absurd h (by simp[ObOk])
 |some none,.arr e k rows,h=>exact h
 |some (some (b,cap)),.arr e k rows,h=>
  obtain⟨arr,bl,h1,h2,h3,h4,h5,hBl,h6⟩:=h
  exact⟨arr,bl,by rw[hw b cap rfl];exact h1,h2,h3,h4,h5,hBl,fun i j row c hi hj=>let ⟨v,a1,a2,a3⟩:=h6 i j row c hi hj;⟨v,a1,a2.mono (Mem.le_refl _) (Locs.le_refl _) (fun _ h=>h) (fun x hx=>hB x (hBl.1 _ x hx)),a3⟩⟩
 |some (some (b,cap)),.map es,h=>
  obtain⟨ents,clock,bl,h1,h2,hBl,h3⟩:=h
  exact⟨ents,clock,bl,by rw[hw b cap rfl];exact h1,h2,hBl,fun i p e hi he=>⟨(h3 i p e hi he).1,(h3 i p e hi he).2.mono (Mem.le_refl _) (Locs.le_refl _) (fun _ h=>h) (fun x hx=>hB x (hBl.1 _ x hx))⟩⟩
 |some (some (b,cap)),.iter cur left,h=>
  obtain⟨bm,seen,E,clock,v,h0,h1,h2⟩:=h
  exact⟨bm,seen,E,clock,v,h0,by rw[hw b cap rfl];exact h1,h2⟩
 |some (some (b,cap)),.bld T e bs _,h=>
  obtain⟨h0,h1,p,v,hf,h2,h3,h4⟩:=h
  exact⟨h0,h1,p,v,hf,by rw[hw b cap rfl];exact h2,h3,h4.imp id fun⟨g,c,cur,a1,a2,a3,a4,a5⟩=>⟨g,c,cur,a1,a2,a3,by rw[hB g a2];exact a4,a5⟩⟩
 |none,.arr ..,h|none,.map ..,h|some none,.map ..,h|none,.iter ..,h|some none,.iter ..,h|none,.bld ..,h|some none,.bld ..,h=>exact absurd h (by simp[ObOk])
theorem Rel.update(r:Rel K m β w a S){id b:Nat}{cap:Cap}(hl:hget S.hp id≠.dead)(hb:β id=some (some (b,cap)))(w':World)(ob:Ob)
  (hw:∀b',b'≠b->w'.heap[b']? = w.heap[b']?) (hs:w'.heap.size=w.heap.size) (hsame:Same w w')
  (hok:(∀x,β.hid id x->w'.heap[x]? = w.heap[x]?)->ObOk m β w' (β.hid id) (some (some (b,cap))) ob):Rel K m β w' a ⟨S.env,(id,ob)::S.hp,S.nx⟩:=by
 have hp:=r.priv id b cap hl hb
 have live:∀i,hget ((id,ob)::S.hp) i≠.dead->hget S.hp i≠.dead:=by
  intro i hi
  rw[hget_put] at hi
  by_cases h:id=i
  ·grind
  ·grind
 constructor
 ·intro b' o' h
  have:b'≠b:=by intro e;subst e;rw[hp.1] at h;simp at h
  rw[hw _ this];exact r.imm b' o' h
 ·exact r.ext
 ·exact r.mold
 ·intro b' hb' ho
  have:b'≠b:=by intro e;subst e;exact hp.2 hb' ho
  rw[hw _ this];exact r.frame b' hb' ho
 ·rw[hs];exact r.size
 ·exact r.same.trans hsame
 ·exact r.tn
 ·exact r.df
 ·exact r.env
 ·intro id'
  simp only[hget_put]
  by_cases h:id=id'
  ·subst h;rw[if_pos rfl,hb];exact hok (fun x hx=>hw x ((r.hid id x hl hx).ne id b cap hl hb))
  ·rw[if_neg h]
   by_cases hd:hget S.hp id'=.dead
   ·simp_all[ObOk.dead']
   ·refine ObOk.congr (fun b' cap' hbi=>hw b' fun e=>h ?_) (fun x hx=>hw x ((r.hid id' x hd hx).ne id b cap hl hb)) (r.own id')
    subst e
    exact r.inj id id' b' cap cap' hl hd hb hbi
 ·intro id' b' c' hl' hb'
  exact r.priv _ _ _ (live _ hl') hb'
 ·exact fun i i' b' c c' h1 h2=>r.inj i i' b' c c' (live i h1) (live i' h2)
 ·intro i x hi hx
  have h:=r.hid i x (live i hi) hx
  exact⟨by rw[hs];exact h.lt,h.m,h.old,fun i' b' c' hi'=>h.ne i' b' c' (live i' hi'),fun i' hi'=>h.un i' (live i' hi')⟩
 ·exact r.nx
 ·exact r.pin
end
section
variable{K:Ctx}{Q:Post}{S:St}{ops:Array Oper}{rest:List Oper}{op:Op}{ty:TypeId}{pos:String}{after:Array Edge}{g:Option (Nat×Bool)}
variable{m:Mem}{β:Locs}{w:World}{a:Act}
theorem obok_new{m:Mem}{β:Locs}{w':World}{B:Nat->Prop}{T:TypeId}{vs:Array Value}{b k:Nat}{cap:Cap}{rows:List (List V)}(bl:Nat->Nat->Prop)(hBl:Bls B bl)(hw:w'.heap[b]? = some (.cells vs T (0,0)))
  (hsz:vs.size=cap.off+cap.n*k) (hr:rows.length<=cap.n) (hcap:cap.n<=maxLen) (hk:∀row,row∈rows->row.length=k)
  (hc:∀(i j:Nat) (row:List V) (c:V),rows[i]? = some row->row[j]? = some c->∃v,vs[cap.off+(i*k+j)]? = some v/\CRel m β w' (bl (i*k+j)) c v/\v.oneCell'=true):
  ObOk m β w' B (some (some (b,cap))) (.arr T k rows):=⟨vs,bl,hw,hsz,hr,hcap,hk,hBl,hc⟩
theorem bls_none{B:Nat->Prop}:Bls B (fun _ _=>False):=⟨fun _ _ h=>h.elim,fun _ _ _ h=>h.elim⟩
theorem obok_new0{m:Mem}{β:Locs}{w':World}{B:Nat->Prop}{T:TypeId}{vs:Array Value}{b k n:Nat}{rows:List (List V)}(hw:w'.heap[b]? = some (.cells vs T (0,0)))
  (hsz:vs.size=n*k) (hr:rows.length<=n) (hcap:n<=maxLen) (hk:∀row,row∈rows->row.length=k)
  (hc:∀(i j:Nat) (row:List V) (c:V),rows[i]? = some row->row[j]? = some c->∃v,vs[i*k+j]? = some v/\VRel m β c v/\v.oneCell'=true):
  ObOk m β w' B (some (some (b,⟨n,0⟩))) (.arr T k rows):=
 obok_new _ bls_none hw (by grind) hr hcap hk (fun i j row c hi hj=>let ⟨v,a1,a2,a3⟩:=hc i j row c hi hj;⟨v,by grind,.inl a2,a3⟩)
theorem aops_box{d:Nat}{x:Operand}{T:TypeId}{dv:V}(cs:List V)(hw:Wants ops S ⟨some d,.box T x,ty,pos,after,g⟩ true)
  (hx:evl K S x=dv) (hcs:vcells dv=cs) (h1:cs.all oneV=true) (hN:Nat.blt d K.N=true)
  (kk:AOps K ops rest Q ⟨(d,.ptr S.nx cs.length 0 0)::S.env,(S.nx,.arr T cs.length [cs])::S.hp,S.nx+1⟩):
  AOps K ops (⟨some d,.box T x,ty,pos,after,g⟩::rest) Q S:=by
 refine aops_runs hw (fun m β w a r=>?_) kk
 have h:=r.reads x
 rw[hx] at h
 obtain⟨c1,c2,c3⟩:=h.cells (by grind)
 rw[hcs] at c1 c2
 obtain⟨β',hle,hn,r'⟩:=r.alloc (.cells (a.eval x).cells T) (.arr T cs.length [cs]) ⟨1,0⟩ _ rfl (fun β' hle=>by
  refine obok_new0 (vs:=(a.eval x).cells) (by simp) (by grind) (by simp) (by grind [maxLen]) (by simp) ?_
  ·intro i j row c hi hj
   cases i with
   |succ i=>simp at hi
   |zero=>
    simp at hi;subst hi
    have hj':j<(a.eval x).cells.size:=by rw[<-c1];exact(aw8.1 hj).1
    refine⟨(a.eval x).cells[j],by simp[hj'],(c2 j c _ hj (by simp[hj'])).mono (Mem.le_refl _) hle,c3 _ (by simp)⟩)
 refine⟨.pointer (some ⟨w.heap.size,0,none⟩),{ w with heap:=w.heap.push (.cells (a.eval x).cells T) },m,β',.inl ?_,?_⟩
 rotate_left
 ·exact Rel.put r' hN (by have:=VRel.ptr (m:=m) (k:=cs.length) (i:=0) (off:=0) hn;grind)
 ·simp only[execOp]
  rfl
def zeroCells(P:Program)(T:TypeId):Option (List Value):=((P.info? T).bind (·.zero)).map (·.cells.toList)
theorem zero_run{P:Program}{T:TypeId}{zs:List Value}(h:zeroCells P T=some zs)(w:World):∃z,(zeroValue T).run P w=.ok z w/\z.cells=zs.toArray:=by
 unfold zeroCells at h
 cases hi:P.info? T with
 |none=>grind
 |some i=>
  cases hz:i.zero with
  |none=>grind
  |some z=>
   simp[hi,hz] at h
   refine⟨z,?_,by rw[<-h]⟩
   simp_all[zeroValue,run_typeInfo]
theorem aops_alloc{d n:Nat}{T:TypeId}{zs:List Value}(hz:zeroCells K.P T=some zs)(hn:zs.length=n)(h1:zs.all (·.oneCell')=true)(hw:Wants ops S ⟨some d,.alloc T,ty,pos,after,g⟩ true)
  (hN:Nat.blt d K.N=true)
  (kk:AOps K ops rest Q ⟨(d,.ptr S.nx n 0 0)::S.env,(S.nx,.arr T n [zs.map .con])::S.hp,S.nx+1⟩):
  AOps K ops (⟨some d,.alloc T,ty,pos,after,g⟩::rest) Q S:=by
 refine aops_runs hw (fun m β w a r=>?_) kk
 subst hn
 obtain⟨z,hz1,hz2⟩:=zero_run hz w
 obtain⟨β',hle,hn,r'⟩:=r.alloc (.cells z.cells T) (.arr T zs.length [zs.map .con]) ⟨1,0⟩ _ rfl (fun β' hle=>by
  refine obok_new0 (vs:=z.cells) (by simp) (by simp[hz2]) (by simp) (by grind [maxLen]) (by simp) ?_
  ·intro i j row c hi hj
   cases i with
   |succ i=>simp at hi
   |zero=>
    simp at hi;subst hi
    rw[at9] at hj
    cases hzj:zs[j]? with
    |none=>grind
    |some v=>
     simp[hzj] at hj;subst hj
     refine⟨v,by grind,.imm (.con v),al8.1 h1 v (ar8 hzj)⟩)
 refine⟨.pointer (some ⟨w.heap.size,0,none⟩),{ w with heap:=w.heap.push (.cells z.cells T) },m,β',.inl ?_,?_⟩
 rotate_left
 ·exact Rel.put r' hN (by have:=VRel.ptr (m:=m) (k:=zs.length) (i:=0) (off:=0) hn;grind)
 ·simp only[execOp,Instr.alloc]
  simp only[Sem.run_bind,hz1,Result.andThen_ok]
  rfl
def tyS(P:Program)(T:TypeId)(n:Nat):Bool:=match P.info? T with|some i=>i.size==n|none=>false
theorem tyS_run{P:Program}{T:TypeId}{n:Nat}(h:tyS P T n=true)(w:World):(sizeOf T).run P w=.ok n w:=by
 grind [tyS,run_sizeOf,Program.cellsOf]
theorem splice_get{α:Type}(row cs:List α)(o:Nat)(h:o+cs.length<=row.length)(j:Nat):
  (row.take o++cs++row.drop (o+cs.length))[j]? = if o<=j/\j<o+cs.length then cs[j - o]? else row[j]?:=by
 rw[bo8,bj9,bc9,Nat.min_eq_left (by omega)]
 grind
theorem heap_setRow{w:World}{b b':Nat}{cs:Array Value}(h:b'≠b):(w.setRow b cs).heap[b']? = w.heap[b']?:=by
 simp_all[World.setRow,bf8,Ne.symm]
theorem heap_setRow_self{w:World}{b:Nat}{cs arr:Array Value}{T:TypeId}{fr:Nat×Nat}(h:w.heap[b]? = some (.cells arr T fr)):(w.setRow b cs).heap[b]? = some (.cells cs T fr):=by
 simp_all[World.setRow,bf8]
theorem aops_store{id k i o:Nat}{x y:Operand}{T e:TypeId}{rows:List (List V)}{row:List V}{dv:V}(cs:List V)(rows':List (List V))(hT:tyS K.P T cs.length=true)
  (hw:Wants ops S ⟨none,.store T x y,ty,pos,after,g⟩ true) (hx:evl K S x=.ptr id k i o) (hy:evl K S y=dv) (hcs:vcells dv=cs) (h1:cs.all oneV=true)
  (ho:hget S.hp id=.arr e k rows) (hr:rows[i]? = some row) (hl:Nat.ble (o+cs.length) row.length=true)
  (hrows:rows.set i (row.take o++cs++row.drop (o+cs.length))=rows')
  (kk:AOps K ops rest Q ⟨S.env,(id,.arr e k rows')::S.hp,S.nx⟩):
  AOps K ops (⟨none,.store T x y,ty,pos,after,g⟩::rest) Q S:=by
 refine aops_runs hw (fun m β w a r=>?_) kk
 have hl:=ar9 hl
 have hxv:=r.reads x
 rw[hx] at hxv
 obtain⟨b,cap,hb,hv⟩:=hxv.ptr_inv
 have hyv:=r.reads y
 rw[hy] at hyv
 obtain⟨c1,c2,c3⟩:=hyv.cells (by grind)
 rw[hcs] at c1 c2
 obtain⟨arr,bl,a1,a2,a3,a4,a5,aB,a6⟩:=r.obj hb ho
 have hrk:row.length=k:=a5 row (ar8 hr)
 have hi:i<rows.length:=(aw8.1 hr).1
 have hik:cap.off+(i*k+k)<=arr.size:=by
  have:i*k+k<=cap.n*k:=by
   calc i*k+k=(i+1)*k:=by grind
    _<=cap.n*k:=ay9 _ (by omega)
  rw[a2];omega
 have hlen:(a.eval y).cells.toList.length=cs.length:=by simp[c1]
 have hrun:=run_storeCells_at (P:=K.P) b (cap.off+(i*k+o)) e (a.eval y).cells.toList 0 arr w a1 (by grind) c3
 simp only[az9] at hrun
 refine⟨undef,w.setRow b (arr.toList.take (cap.off+(i*k+o))++(a.eval y).cells.toList++arr.toList.drop (cap.off+(i*k+o)+(a.eval y).cells.toList.length)).toArray,m,β,.inr ⟨rfl,?_⟩,?_⟩
 rotate_left
 ·refine r.update (by grind) hb _ (.arr e k rows') (fun b' hb'=>heap_setRow hb') (by simp_all) ⟨rfl,rfl,rfl,trivial⟩ (fun hkeep=>?_)
  refine obok_new bl aB (heap_setRow_self a1) ?_ (by grind) a4 ?_ ?_
  ·grind
  ·grind
  ·intro i' j row' c hi' hj
   have keep:∀(i2 j:Nat) (row:List V) (c:V),rows[i2]? = some row->row[j]? = some c->∃v,arr[cap.off+(i2*k+j)]? = some v/\CRel m β (w.setRow b (arr.toList.take (cap.off+(i*k+o))++(a.eval y).cells.toList++arr.toList.drop (cap.off+(i*k+o)+(a.eval y).cells.toList.length)).toArray) (bl (i2*k+j)) c v/\v.oneCell'=true:=by
    intro i2 j row c hi hj
    obtain⟨v,q1,q2,q3⟩:=a6 i2 j row c hi hj
    exact⟨v,q1,q2.mono (Mem.le_refl _) (Locs.le_refl _) (fun _ h=>h) (fun x hx=>hkeep x (aB.1 _ x hx)),q3⟩
   have hget:∀p,(arr.toList.take (cap.off+(i*k+o))++(a.eval y).cells.toList++arr.toList.drop (cap.off+(i*k+o)+(a.eval y).cells.toList.length)).toArray[p]? =
     if cap.off+(i*k+o)<=p/\p<cap.off+(i*k+o)+cs.length then (a.eval y).cells[p - (cap.off+(i*k+o))]? else arr[p]?:=by
    intro p
    rw[az8,splice_get _ _ _ (by grind),hlen]
    grind
   rw[hget]
   rw[<-hrows,List.getElem?_set] at hi'
   by_cases hii:i=i'
   ·subst hii
    rw[if_pos rfl,if_pos hi] at hi'
    simp only[aq8] at hi'
    subst hi'
    rw[splice_get _ _ _ hl] at hj
    by_cases hjo:o<=j/\j<o+cs.length
    ·rw[if_pos hjo] at hj
     rw[if_pos (by omega)]
     have e1:cap.off+(i*k+j) - (cap.off+(i*k+o))=j - o:=by omega
     rw[e1]
     have hlt:j - o<(a.eval y).cells.size:=by rw[<-c1];omega
     exact⟨(a.eval y).cells[j - o],⟨by simp[hlt],.inl (c2 _ _ _ hj (by simp[hlt])),c3 _ (by simp)⟩⟩
    grind
   ·rw[if_neg hii] at hi'
    have hrk':row'.length=k:=a5 row' (ar8 hi')
    have hjk:j<k:=by rw[<-hrk'];exact(aw8.1 hj).1
    rw[if_neg]
    ·grind
    ·intro hc
     rcases Nat.lt_or_gt_of_ne hii with h|h
     ·have:(i+1)*k<=i'*k:=ay9 _ h
      grind
     ·have:(i'+1)*k<=i*k:=ay9 _ h
      grind
 ·simp only[execOp,hv,Instr.storeAt,Instr.sureAddr,storeVar]
  simp only[Sem.run_bind,pure,Sem.run,Result.andThen_ok,tyS_run hT w]
  simp_all
end
section
variable{K:Ctx}{Q:Post}{S:St}{ops:Array Oper}{rest:List Oper}{op:Op}{ty:TypeId}{pos:String}{after:Array Edge}{g:Option (Nat×Bool)}
variable{m:Mem}{β:Locs}{w:World}{a:Act}
def tySl(P:Program)(T:TypeId)(k:Nat):Bool:=
 match P.underlying T with|some (.slice e)=>(match P.info? e with|some i=>i.size==k|none=>false)|_=>false
def tyArr(P:Program)(T:TypeId)(n k:Nat):Bool:=
 match P.underlying T with|some (.array l e)=>l==n&&(match P.info? e with|some i=>i.size==k|none=>false)|_=>false
theorem tySl_inv{P:Program}{T:TypeId}{k:Nat}(h:tySl P T k=true):∃e i,P.underlying T=some (.slice e)/\P.info? e=some i/\i.size=k:=by
 grind [tySl]
theorem tyArr_inv{P:Program}{T:TypeId}{n k:Nat}(h:tyArr P T n k=true):∃e i,P.underlying T=some (.array n e)/\P.info? e=some i/\i.size=k:=by
 unfold tyArr at h
 grind
theorem run_index_slice{P:Program}{w:World}{T:TypeId}{k len cap:Nat}{ad:Addr}{ik:IntKind}{n:Int}(hT:tySl P T k=true)(h0:0<=n)(h1:n.toNat<len):
  (Instr.indexAt T (.slice (some ad) len cap) (.int ik n)).run P w=.ok (.pointer (some (ad.add (n.toNat*k)))) w:=by
 obtain⟨e,i,hu,hi,hk⟩:=tySl_inv hT
 simp only[Instr.indexAt,asIntOf,Sem.run_bind,pure,Sem.run,Result.andThen_ok,run_underlying hu]
 simp_all[run_sizeOf,Program.cellsOf]
theorem aops_index_lst{d k:Nat}{x y:Operand}{T:TypeId}{rows:List (List V)}{ik:IntKind}{n:Int}(row:List V)(hT:tySl K.P T k=true)
  (hw:Wants ops S ⟨some d,.indexAddr T x y,ty,pos,after,g⟩ true) (hx:evl K S x=.lst k rows) (hy:evl K S y=.con (.int ik n)) (h0:0<=n) (hr:rows[n.toNat]? = some row)
  (hN:Nat.blt d K.N=true) (kk:AOps K ops rest Q (S.put d (.iptr row 0))):
  AOps K ops (⟨some d,.indexAddr T x y,ty,pos,after,g⟩::rest) Q S:=
 aops_val _ hw hN (fun m β w a r=>by
  have h:=r.reads x
  rw[hx] at h
  have hlt:n.toNat<rows.length:=(aw8.1 hr).1
  generalize hev:a.eval x=v at h
  cases h with
  |imm h=>
   cases h with
   |nil=>simp at hr
   | @lst _ _ ad n' cap arr T' fr f hm hs hn hcap hbd hk hf h=>
    have hrk:row.length=k:=hk row (ar8 hr)
    refine⟨.pointer (some ⟨ad.block,ad.off+n.toNat*k,none⟩),?_,.imm (.iptr (fun j=>f (n.toNat*k+j)) (ad.off+n.toNat*k) hm rfl rfl ?_ ?_)⟩
    ·simp only[execOp,hev,r.con hy]
     refine run_value ?_
     rw[run_index_slice hT h0 (by omega),addr_eta hs,add_spot]
    ·intro j hj
     rw[ac8]
     refine hf _ ?_
     calc n.toNat*k+j<n.toNat*k+k:=by omega
      _=(n.toNat+1)*k:=by grind
      _<=rows.length*k:=ay9 _ (by omega)
    grind) kk
theorem aops_index_own{d k id len:Nat}{x y:Operand}{T:TypeId}{ik:IntKind}{n:Int}(hT:tySl K.P T k=true)
  (hw:Wants ops S ⟨some d,.indexAddr T x y,ty,pos,after,g⟩ true) (hx:evl K S x=.own id len) (hy:evl K S y=.con (.int ik n))
  (h0:0<=n) (hr:n.toNat<len) (hN:Nat.blt d K.N=true)
  (kk:AOps K ops rest Q (S.put d (.ptr id k n.toNat 0))):
  AOps K ops (⟨some d,.indexAddr T x y,ty,pos,after,g⟩::rest) Q S:=
 aops_val _ hw hN (fun m β w a r=>by
  have h:=r.reads x
  rw[hx] at h
  generalize hev:a.eval x=v at h
  cases h with
  |imm h=>cases h
  |ownNil h=>omega
  |own h=>
   refine⟨_,by simp only[execOp,hev,r.con hy];exact run_value (run_index_slice hT h0 hr),?_⟩
   rw[add_spot]
   have:=VRel.ptr (m:=m) (k:=k) (i:=n.toNat) (off:=0) h
   grind) kk
theorem run_index_arr{P:Program}{w:World}{T:TypeId}{k len b o:Nat}{ik:IntKind}{n:Int}(hT:tyArr P T len k=true)(h0:0<=n)(h1:n.toNat<len):
  (Instr.indexAt T (.pointer (some ⟨b,o,none⟩)) (.int ik n)).run P w=.ok (.pointer (some ⟨b,o+n.toNat*k,none⟩)) w:=by
 obtain⟨e,i,hu,hi,hk⟩:=tyArr_inv hT
 simp only[Instr.indexAt,asIntOf,Sem.run_bind,pure,Sem.run,Result.andThen_ok,run_underlying hu,Instr.sureAddr]
 simp_all[run_sizeOf,Program.cellsOf,add_spot]
theorem aops_index_arr{d k id i o len s:Nat}{x y:Operand}{T:TypeId}{ik:IntKind}{n:Int}(hT:tyArr K.P T len s=true)
  (hw:Wants ops S ⟨some d,.indexAddr T x y,ty,pos,after,g⟩ true) (hx:evl K S x=.ptr id k i o) (hy:evl K S y=.con (.int ik n))
  (h0:0<=n) (hr:n.toNat<len) (hN:Nat.blt d K.N=true)
  (kk:AOps K ops rest Q (S.put d (.ptr id k i (o+n.toNat*s)))):
  AOps K ops (⟨some d,.indexAddr T x y,ty,pos,after,g⟩::rest) Q S:=
 aops_val _ hw hN (fun m β w a r=>by
  have h:=r.reads x
  rw[hx] at h
  obtain⟨b,cap,hb,hv⟩:=h.ptr_inv
  exact⟨_,by simp only[execOp,hv,r.con hy];exact run_value (run_index_arr hT h0 hr),by have:=VRel.ptr (m:=m) (k:=k) (i:=i) (off:=o+n.toNat*s) hb;grind⟩) kk
theorem run_builtin{P:Program}{w w':World}{o:Oper}{b:Builtin}{args:Array Operand}{at':Array TypeId}{n:Next}
  (ho:o.op=.call ⟨.builtin b,args,at'⟩) (h:(builtin b at' o.type (args.map fun | .const _=>true|_=>false) (args.map a.eval)).run P w=.ok n w'):
  (execOp a.eval o).run P w=.ok n w':=by
 grind [execOp,resolve,invoke]
def tyStr(P:Program)(T:TypeId):Bool:=match P.underlying T with|some .string=>true|_=>false
def tySlice(P:Program)(T:TypeId):Bool:=match P.underlying T with|some (.slice _)=>true|_=>false
def tySS(P:Program)(T:TypeId):Bool:=match P.underlying T with|some (.slice _)=>true|some .string=>true|_=>false
theorem tySS_inv{P:Program}{T:TypeId}(h:tySS P T=true):(∃e,P.underlying T=some (.slice e))\/P.underlying T=some .string:=by
 grind [tySS]
theorem tySlice_SS{P:Program}{T:TypeId}(h:tySlice P T=true):tySS P T=true:=by
 grind [tySlice,tySS]
theorem tySlice_inv{P:Program}{T:TypeId}(h:tySlice P T=true):∃e,P.underlying T=some (.slice e):=by
 grind [tySlice]
theorem tyStr_inv{P:Program}{T:TypeId}(h:tyStr P T=true):P.underlying T=some .string:=by
 grind [tyStr]
def slen:V->Option Nat
 | .lst _ rows=>some rows.length
 | .own _ n=>some n
 | .con (.slice _ n _)=>some n
 |_=>none
theorem aops_len{d n:Nat}{x:Operand}{T:TypeId}{sv:V}(hT:tySlice K.P T=true)
  (hw:Wants ops S ⟨some d,.call ⟨.builtin .len,#[x],#[T]⟩,ty,pos,after,g⟩ true) (hx:evl K S x=sv) (hn:slen sv=some n) (hN:Nat.blt d K.N=true)
  (kk:AOps K ops rest Q (S.put d (.con (.int .i64 n)))):
  AOps K ops (⟨some d,.call ⟨.builtin .len,#[x],#[T]⟩,ty,pos,after,g⟩::rest) Q S:=
 aops_val _ hw hN (fun m β w a r=>by
  have h:=r.reads x
  rw[hx] at h
  obtain⟨e,hu⟩:=tySlice_inv hT
  have key:∃ad cap,a.eval x=.slice ad n cap:=by
   generalize a.eval x=v at h
   cases h with
   |imm h=>
    cases h with
    |nil=>simp_all[slen]
    |lst _ _ _ hl=>simp_all[slen]
    |con=>unfold slen at hn;grind
    |_=>simp[slen] at hn
   |ownNil=>simp_all[slen]
   |own=>simp_all[slen]
   |_=>simp[slen] at hn
  obtain⟨ad,cap,he⟩:=key
  refine⟨.int .i64 n,run_builtin rfl ?_,.imm (.con _)⟩
  simp_all[builtin,Builtin.len_,run_underlying,goInt]) kk
theorem aops_len_str{d:Nat}{x:Operand}{T:TypeId}{s:ByteArray}(hT:tyStr K.P T=true)
  (hw:Wants ops S ⟨some d,.call ⟨.builtin .len,#[x],#[T]⟩,ty,pos,after,g⟩ true) (hx:evl K S x=.con (.string s)) (hN:Nat.blt d K.N=true)
  (kk:AOps K ops rest Q (S.put d (.con (.int .i64 s.size)))):
  AOps K ops (⟨some d,.call ⟨.builtin .len,#[x],#[T]⟩,ty,pos,after,g⟩::rest) Q S:=
 aops_val _ hw hN (fun m β w a r=>by
  refine⟨.int .i64 s.size,run_builtin rfl ?_,.imm (.con _)⟩
  simp only[builtin]
  refine run_value ?_
  simp only[Builtin.len_,bd9,bd8,ak8,r.con hx]
  simp_all[run_underlying,tyStr_inv,goInt]) kk
structure IRels(m:Mem)(ds:List V)(vs:Array Value):Prop where
 len:ds.length=vs.size
 at':∀(i:Nat) (c:V) (v:Value),ds[i]? = some c->vs[i]? = some v->IRel m c v
def PureG(gl:Gl)(P:Program)(f:FuncId)(args:List V)(d:V):Prop:=
 ∀(m:Mem) (w:World) (vs:Array Value),(∀(b:Nat) o,m b=some o->w.heap[b]? = some o)->GlOk gl m->IRels m args vs->
  Calls P f vs w fun e w'=>∃v m',e=.returned v/\IRel m' d v/\Grew m m' w w'
def Keep(d:V):Prop:=∀m β v,VRel m β d v->IRel m d v
def Imm(d:V):Prop:=d.deep=false/\Keep d
theorem Imm.con(v:Value):Imm (.con v):=⟨rfl,fun _ _ _ h=>by cases h with|imm h=>exact h⟩
theorem Imm.any:Imm .any:=⟨rfl,fun _ _ _ h=>by cases h with|imm h=>exact h⟩
theorem Imm.lst(k:Nat)(rows:List (List V)):Imm (.lst k rows):=⟨rfl,fun _ _ _ h=>by cases h with|imm h=>exact h⟩
theorem Imm.iptr(row:List V)(o:Nat):Imm (.iptr row o):=⟨rfl,fun _ _ _ h=>by cases h with|imm h=>exact h⟩
theorem Imm.ifc(T:Nat)(d:V):Imm (.ifc T d):=⟨rfl,fun _ _ _ h=>by cases h with|imm h=>exact h⟩
theorem Imm.imap(es:List (Value×V)):Imm (.imap es):=⟨rfl,fun _ _ _ h=>by cases h with|imm h=>exact h⟩
theorem Keep.dsl(e k:Nat)(rows:List (List V)):Keep (.dsl e k rows):=fun _ _ _ h=>by cases h with|imm h=>cases h
theorem Keep.dmp(es:List (Value×V)):Keep (.dmp es):=fun _ _ _ h=>by cases h with|imm h=>cases h
theorem Keep.plc(v0:Value)(d:V):Keep (.plc v0 d):=fun _ _ _ h=>by cases h with|imm h=>cases h
theorem Keep.dpt(e:Nat)(row:List V):Keep (.dpt e row):=fun _ _ _ h=>by cases h with|imm h=>cases h
def Imms(ds:List V):Prop:=∀c,c∈ds->Imm c
def Keeps(ds:List V):Prop:=∀c,c∈ds->Keep c
theorem Keeps.nil:Keeps []:=fun _ h=>by simp at h
theorem Keeps.cons{c:V}{ds:List V}(h:Keep c)(h':Keeps ds):Keeps (c::ds):=fun x hx=>by
 rcases am8.1 hx with rfl|hx
 ·exact h
 ·exact h' x hx
theorem Imms.keep{ds:List V}(h:Imms ds):Keeps ds:=fun c hc=>(h c hc).2
theorem Imms.nil:Imms []:=fun _ h=>by simp at h
theorem Imms.cons{c:V}{ds:List V}(h:Imm c)(h':Imms ds):Imms (c::ds):=fun x hx=>by
 rcases am8.1 hx with rfl|hx
 ·exact h
 ·exact h' x hx
theorem Imms.get{ds:List V}(h:Imms ds){i:Nat}{c:V}(hi:ds[i]? = some c):Imm c:=h c (ar8 hi)
theorem Imm.agg{cs:List V}(h:Imms cs):Imm (.agg cs):=⟨rfl,fun m β v hv=>by
 cases hv with
 |imm h=>exact h
 |agg hl hh=>exact .agg hl fun i c v hi hv=>(h.get hi).2 m β v (hh i c v hi hv)⟩
theorem Imm.tup{cs:List V}(h:Imms cs):Imm (.tup cs):=⟨rfl,fun m β v hv=>by
 cases hv with
 |imm h=>exact h
 |tup hl hh=>exact .tup hl fun i c v hi hv=>(h.get hi).2 m β v (hh i c v hi hv)⟩
theorem Imm.fn{f:Fn}{cs ds:List V}(h:Imms cs)(h':Imms ds):Imm (.fn f cs ds):=⟨rfl,fun m β v hv=>by
 cases hv with
 |imm h=>exact h
 |fn hl hl' hh hh'=>exact .fn hl hl' (fun i c v hi hv=>(h.get hi).2 m β v (hh i c v hi hv)) fun i c v hi hv=>(h'.get hi).2 m β v (hh' i c v hi hv)⟩
def fnOk (P:Program) (f:FuncId):Bool:=match P.funcs[f]? with|some fn=>fn.name != "runtime.NumGoroutine" && fn.body.isSome|none=>false
theorem run_enter{P:Program}{w:World}{f:FuncId}(h:fnOk P f=true)(args:Array Value):(callFunc f args).run P w=.ok (.enter f args) w:=by
 unfold fnOk at h
 cases hf:P.funcs[f]? with
 |none=>grind
 |some fn=>
  rw[hf] at h
  simp only[al9,bne_iff_ne,ne_eq] at h
  obtain⟨h1,h2⟩:=h
  have h3:fn.body.isNone=false:=by simp_all
  simp only[callFunc,program,Sem.run_bind,Sem.run,Result.andThen_ok,hf]
  rw[if_neg (by grind),if_neg (by simp[h3])]
  rfl
theorem aops_calls{o:Oper}{d:Nat}{f:FuncId}{dv:V}{avs:List V}(hw:Wants ops S o true)(hd:o.dst=some d)(hN:Nat.blt d K.N=true)
  (hrun:∀m β w a,Rel K m β w a S->∃vs:Array Value,(execOp a.eval o).run K.P w=.ok (.enter f vs) w/\IRels m avs vs)
  (hc:PureG K.gl K.P f avs dv) (kk:AOps K ops rest Q (S.put d dv)):AOps K ops (o::rest) Q S:=by
 intro m β w a r
 unfold wpListIn
 rw[if_pos (hw.at r)]
 obtain⟨vs,h1,h2⟩:=hrun m β w a r
 refine op_in (.inr (nd_run h1 (fun d e=>by cases e))) ?_
 unfold Oper.wp
 rw[h1]
 refine(hc m w vs r.imm (K.glok.mono r.ext) h2).mono ?_
 rintro e w' ⟨v,m',rfl,h3,h4⟩
 simp only[hd]
 exact kk m' β w' _ ((r.grow h4).put hN (.imm h3))
theorem call_run{d:Option Nat}{f:FuncId}{args:Array Operand}{at':Array TypeId}{avs:List V}(hf:fnOk K.P f=true)(ha:args.toList.map (evl K S)=avs)(hi:Imms avs):
  ∀m β w a,Rel K m β w a S->∃vs:Array Value,(execOp a.eval ⟨d,.call ⟨.value (.func f),args,at'⟩,ty,pos,after,g⟩).run K.P w=.ok (.enter f vs) w/\IRels m avs vs:=by
 intro m β w a r
 refine⟨args.map a.eval,?_,?_⟩
 ·simp_all[execOp,resolve,Act.eval,Deferred.ofValue,invoke,run_enter]
 ·refine⟨by grind,fun i c v h1 h2=>?_⟩
  rw[<-ha,at9] at h1
  rw[bp9] at h2
  cases hx:args[i]? with
  |none=>grind
  |some x=>
   simp[hx] at h1 h2
   subst h1;subst h2
   refine(hi.get (i:=i) ?_).2 m β _ (r.reads x)
   grind
end
section
variable{K:Ctx}{Q:Post}{S:St}
variable{m:Mem}{β:Locs}{w:World}{a:Act}
@[reducible] def ctx(gl:Gl)(P:Program)(N:Nat)(w0:World)(m0:Mem)(hg:GlOk gl m0):Ctx:=⟨P,N,w0,m0,fun _=>True,0,fun _=>none,gl,hg,none⟩
def NSub(d v:V):Prop:=∀m β x,VRel m β v x->IRel m d x
inductive ResOne(P:Program)(S:St):ResultVar->V->Prop
 |tmp {t:Tmp} {d v:V} (h:get S.env t=v) (hi:NSub d v):ResOne P S (.tmp t) d
 |agg {x:Tmp} {T n id k i o:Nat} {e:TypeId} {rows:List (List V)} {row cs:List V} {d:V} (hT:tyA P T n=true) (hx:get S.env x=.ptr id k i o) (ho:hget S.hp id=.arr e k rows)
   (hr:rows[i]? = some row) (hc:(row.drop o).take n=cs) (hn:cs.length=n) (hnd:ndB cs=true) (hi:NSub d (.agg cs)):ResOne P S (.cell x T) d
 |cell {x:Tmp} {T id k i o:Nat} {e:TypeId} {rows:List (List V)} {row:List V} {c d:V} (hT:tyC P T=true) (hx:get S.env x=.ptr id k i o) (ho:hget S.hp id=.arr e k rows)
   (hr:rows[i]? = some row) (hc:row[o]? = some c) (hd:c.deep=false) (hi:NSub d c):ResOne P S (.cell x T) d
def resSem(tmps:Array Value):ResultVar->Sem Value
 | .tmp t=>pure (tmps.getD t undef)
 | .cell a t=>do loadVar t (<-asAddr (tmps.getD a undef))
theorem results_eq(fn:Func)(tmps:Array Value):results fn tmps=(do
  let vs <-fn.results.mapM (resSem tmps)
  pure (if h:vs.size=1 then vs[0] else .tuple vs)):=rfl
theorem asAddr_load{P:Program}{w:World}{T:TypeId}{ad:Addr}{v x:Value}(hx:x=.pointer (some ad))(h:(Instr.loadAt T (.pointer (some ad))).run P w=.ok v w):
  (do loadVar T (<-asAddr x):Sem Value).run P w=.ok v w:=by
 simp_all[Instr.loadAt,Instr.sureAddr,asAddr]
theorem ResOne.run{rv:ResultVar}{d:V}(h:ResOne K.P S rv d)(r:Rel K m β w a S):∃v,(resSem a.tmps rv).run K.P w=.ok v w/\IRel m d v:=by
 cases h with
 | @tmp t _ _ h hi=>exact⟨_,rfl,hi m β _ (by rw[<-h];exact r.env t)⟩
 | @agg x T n id k i o e rows row cs d hT hx ho hr hc hn hnd hi=>
  have h:=r.env x
  rw[hx] at h
  obtain⟨b,cap,hb,hv⟩:=h.ptr_inv
  obtain⟨arr,bl,h1,h2,h3,h4,h5,_,h6⟩:=r.obj hb ho
  have hcell:∀j c,cs[j]? = some c->∃v,arr[cap.off+(i*k+o)+j]? = some v/\VRel m β c v:=by
   intro j c hj
   have hd:=ndB_at hnd hj
   rw[<-hc,ba9] at hj
   split at hj
   ·rw[ap9] at hj
    obtain⟨v,a1,a2,_⟩:=h6 i (o+j) row c hr hj
    exact⟨v,by grind,a2.v hd⟩
   ·simp at hj
  have hrun:=run_load_agg (P:=K.P) (w:=w) (b:=b) (o:=cap.off+(i*k+o)) (fun j=>arr.getD (cap.off+(i*k+o)+j) undef) hT (fun j hj=>by
   rw[cell_of_heap h1]
   obtain⟨v,a1,_⟩:=hcell j cs[j] (by simp[hn,hj])<;>simp_all)
  refine⟨_,asAddr_load hv hrun,hi m β _ ?_⟩
  refine .agg (by simp[hn]) (fun j c v hj hv=>?_)
  obtain⟨v',a1,a2⟩:=hcell j c hj
  simp only[az8,at9] at hv
  have hj':j<n:=by rw[<-hn];exact(aw8.1 hj).1
  simp_all
 | @cell x T id k i o e rows row c d hT hx ho hr hc hd hi=>
  have h:=r.env x
  rw[hx] at h
  obtain⟨b,cap,hb,hv⟩:=h.ptr_inv
  obtain⟨arr,bl,h1,h2,h3,h4,h5,_,h6⟩:=r.obj hb ho
  obtain⟨v,a1,a2,_⟩:=h6 i o row _ hr hc
  exact⟨v,asAddr_load hv (run_load_cell hT (by grind [cell_of_heap])),hi m β v (a2.v hd)⟩
inductive ResV(P:Program)(S:St):List ResultVar->V->Prop
 |none:ResV P S [] (.tup [])
 |one {r:ResultVar} {d:V} (h:ResOne P S r d):ResV P S [r] d
 |two {r1 r2:ResultVar} {d1 d2:V} (h1:ResOne P S r1 d1) (h2:ResOne P S r2 d2):ResV P S [r1,r2] (.tup [d1,d2])
 |three {r1 r2 r3:ResultVar} {d1 d2 d3:V} (h1:ResOne P S r1 d1) (h2:ResOne P S r2 d2) (h3:ResOne P S r3 d3):ResV P S [r1,r2,r3] (.tup [d1,d2,d3])
 |four {r1 r2 r3 r4:ResultVar} {d1 d2 d3 d4:V} (h1:ResOne P S r1 d1) (h2:ResOne P S r2 d2) (h3:ResOne P S r3 d3) (h4:ResOne P S r4 d4):
   ResV P S [r1,r2,r3,r4] (.tup [d1,d2,d3,d4])
theorem irel_tup2{d1 d2:V}{v1 v2:Value}(h1:IRel m d1 v1)(h2:IRel m d2 v2):IRel m (.tup [d1,d2]) (.tuple #[v1,v2]):=by
 refine .tup rfl fun i c v hi hv=>?_
 grind
theorem irel_tup3{d1 d2 d3:V}{v1 v2 v3:Value}(h1:IRel m d1 v1)(h2:IRel m d2 v2)(h3:IRel m d3 v3):IRel m (.tup [d1,d2,d3]) (.tuple #[v1,v2,v3]):=by
 refine .tup rfl fun i c v hi hv=>?_
 grind
theorem irel_tup4{d1 d2 d3 d4:V}{v1 v2 v3 v4:Value}(h1:IRel m d1 v1)(h2:IRel m d2 v2)(h3:IRel m d3 v3)(h4:IRel m d4 v4):IRel m (.tup [d1,d2,d3,d4]) (.tuple #[v1,v2,v3,v4]):=by
 refine .tup rfl fun i c v hi hv=>?_
 grind
theorem ResV.run{fn:Func}{l:List ResultVar}{d:V}(hl:fn.results=l.toArray)(h:ResV K.P S l d)(r:Rel K m β w a S):∃v,(results fn a.tmps).run K.P w=.ok v w/\IRel m d v:=by
 cases h with
 |none=>exact⟨.tuple #[],by rw[results_eq,hl];simp,.tup rfl (by simp)⟩
 |one h=>
  obtain⟨v,h1,h2⟩:=h.run r<;>simp_all[results_eq]
 |two h g=>
  obtain⟨v1,h1,h2⟩:=h.run r
  obtain⟨v2,g1,g2⟩:=g.run r<;>simp_all[results_eq,irel_tup2]
 |three h g i=>
  obtain⟨v1,h1,h2⟩:=h.run r
  obtain⟨v2,g1,g2⟩:=g.run r
  obtain⟨v3,i1,i2⟩:=i.run r<;>simp_all[results_eq,irel_tup3]
 |four h g i j=>
  obtain⟨v1,h1,h2⟩:=h.run r
  obtain⟨v2,g1,g2⟩:=g.run r
  obtain⟨v3,i1,i2⟩:=i.run r
  obtain⟨v4,j1,j2⟩:=j.run r<;>simp_all[results_eq,irel_tup4]
def retQ(P:Program)(l:List ResultVar)(d:V):Post:=fun e S=>(e=.ret\/e=.normal)/\ResV P S l d
def argEnv:Nat->List V->Env
 |_,[]=>[]
 |i,v::vs=>(i,v)::argEnv (i+1) vs
theorem get_argEnv:∀(vs:List V) (i t:Nat),get (argEnv i vs) t=if i<=t then vs.getD (t - i) .any else .any
 |[],i,t=>by simp[argEnv,get]
 |v::vs,i,t=>by
  rw[argEnv,get_put,get_argEnv vs (i+1) t]
  grind
theorem pure_enter{gl:Gl}{P:Program}{f:FuncId}{fn:Func}{c:Code}{N:Nat}{args:List V}{l:List ResultVar}{d:V}(hf:P.funcs[f]? = some fn)(hb:fn.body=some c)(hN:fn.ntmps=N)
  (hl:fn.results=l.toArray) (ha:Nat.ble args.length N=true) (env:Env) (henv:argEnv 0 args=env)
  (h:∀(w0:World) (m0:Mem) (hg:GlOk gl m0),AWP (ctx gl P N w0 m0 hg) c (retQ P l d) ⟨env,[],0⟩):PureG gl P f args d:=by
 intro m w vs himm hgl hargs
 have ha:=ar9 ha
 refine calls_of_walk hf hb ?_
 have hsz:(vs++Array.replicate (fn.ntmps - vs.size) undef).size=N:=by
  have:=hargs.len
  simp only[bp8,Array.size_replicate,hN];omega
 have r:Rel (ctx gl P N w m hgl) m ⟨fun _=>none,fun _ _=>False⟩ w ⟨vs++Array.replicate (fn.ntmps - vs.size) undef,[]⟩ ⟨env,[],0⟩:=by
  constructor
  ·exact himm
  ·exact Mem.le_refl _
  ·grind
  ·grind
  ·grind
  ·exact⟨rfl,rfl,rfl,trivial⟩
  ·exact hsz
  ·exact Marks.nil
  ·intro t
   show VRel _ _ (get env t) _
   rw[<-henv,get_argEnv]
   simp only[af8,if_true,Nat.sub_zero]
   by_cases ht:t<args.length
   ·have ht':t<vs.size:=by rw[<-hargs.len];exact ht
    simp only[ca9,as8 ht,bm9,be9,bq9,if_pos ht',av9 ht']
    exact .imm (hargs.at' t _ _ (as8 ht) (av9 ht'))
   ·simp only[ca9,ap8 (Nat.le_of_not_lt ht),Option.getD_none]
    exact .imm (.any _)
  ·exact fun _=>ObOk.dead' _
  ·grind
  ·grind
  ·grind
  ·grind
  ·grind
 refine wpIn_mono (h w m hgl m _ w _ r) ?_
 rintro e a' w1 ⟨_,S',m1,β',⟨he,hres⟩,r1⟩
 refine⟨he,Rel.leave _ m1 w1 a' rfl r1 (fun m' w' r'=>?_)⟩
 obtain⟨v,h1,h2⟩:=hres.run hl r'
 have hg:Grew m m' w w':=⟨r'.ext,r'.imm,fun b hb=>r'.mold b hb trivial,fun b hb=>r'.frame b hb trivial,r'.size,r'.same⟩
 grind
end
end Go.Pv
