/- Part of the proof. -/
import Derived.WalkKit
import Derived.OrdersIn
import Derived.RangeFuncRecord
set_option linter.unusedSimpArgs false
set_option linter.unusedVariables false
namespace Go.Pv
open Go
set_option linter.defProp false
def aa9:=@Eq.trans
def aa8:=@List.append_nil
def ab9:=@List.nil_append
def ab8:=@Nat.le_refl
def ac9:=@Array.getElem?_toList
def ac8:=@Nat.add_assoc
def ad9:=@List.append_inj
def ad8:=@List.cons.inj
def ae9:=@List.all_cons
def ae8:=@Option.some.inj
def af9:=@List.length_replicate
def af8:=@Nat.zero_le
def ag9:=@Option.map_none
def ag8:=@Nat.ne_of_lt
def ah9:=@Nat.lt_succ_self
def ah8:=@Nat.le_succ
def ai9:=@List.drop_eq_nil_of_le
def ai8:=@Nat.add_mul
def aj9:=@List.length_drop
def aj8:=@Nat.mod_lt
def ak9:=@List.mem_iff_getElem?
def ak8:=@List.map_nil
def al9:=@Bool.and_eq_true
def al8:=@List.all_eq_true
def am9:=@Bool.or_eq_true
def am8:=@List.mem_cons
def an9:=@Array.ext'
def an8:=@List.ext_getElem?
def ao9:=@List.getElem?_append_left
def ao8:=@List.getElem?_append_right
def ap9:=@List.getElem?_drop
def ap8:=@List.getElem?_eq_none
def aq9:=@Array.getElem?_append_right
def aq8:=@Option.some.injEq
def ar9:=@Nat.le_of_ble_eq_true
def ar8:=@List.mem_of_getElem?
def as9:=@List.length_eq_zero_iff
def as8:=@List.getElem?_eq_getElem
def at9:=@List.getElem?_map
def at8:=@List.getElem?_range
def au9:=@Option.map_some
def au8:=@Array.getElem?_eq_some_iff
def av9:=@Array.getElem?_eq_getElem
def av8:=@List.getElem_mem
def aw9:=@List.getElem?_of_mem
def aw8:=@List.getElem?_eq_some_iff
def ax9:=@List.mem_map
def ax8:=@List.map_map
def ay9:=@Nat.mul_le_mul_right
def ay8:=@Nat.succ_mul
def az9:=@Nat.add_zero
def az8:=@List.getElem?_toArray
def ba9:=@List.getElem?_take
def ba8:=@List.length_append
def bb9:=@Int.toNat_natCast
def bb8:=@List.length_map
def bc9:=@List.length_take
def bc8:=@Array.length_toList
def bd9:=@List.map_toArray
def bd8:=@List.map_cons
def be9:=@Array.getD_eq_getD_getElem?
def be8:=@List.size_toArray
def bf9:=@List.getElem?_cons_zero
def bf8:=@Array.getElem?_modify
def bg9:=@Array.getElem?_push
def bg8:=@Array.getElem?_setIfInBounds
def bh9:=@Array.toList_push
def bh8:=@List.length_nil
def bi9:=@List.getElem?_cons_succ
def bi8:=@List.drop_zero
def bj9:=@List.getElem?_append
def bj8:=@List.drop_eq_getElem_cons
def bk9:=@Bool.not_true
def bk8:=@Nat.le_trans
def bl9:=@Bool.not_false
def bl8:=@List.length_cons
def bm9:=@Option.getD_some
def bm8:=@List.mem_cons_of_mem
def bn9:=@Option.bind_some
def bn8:=@List.mem_filter
def bo9:=@List.mem_append
def bo8:=@List.append_assoc
def bp9:=@Array.getElem?_map
def bp8:=@Array.size_append
def bq9:=@Array.getElem?_append
def bq8:=@Nat.le_mul_of_pos_right
def br9:=@Nat.zero_add
def br8:=@List.map_congr_left
def bs9:=@List.mem_cons_self
def bs8:=@List.any_cons
def bt9:=@List.any_eq_true
def bt8:=@Bool.false_or
def bu9:=@Array.getElem?_replicate
def bu8:=@List.drop_drop
def bv9:=@List.all_append
def bv8:=@Bool.false_and
def bw9:=@List.take_append_drop
def bw8:=@Nat.eq_of_beq_eq_true
def bx9:=@Bool.and_eq_true_iff
def bx8:=@Nat.ble_eq_true_of_le
def by9:=@Bool.false_eq_true
def by8:=@List.forall_mem_cons
def bz9:=@Nat.lt_of_lt_of_le
def bz8:=@List.mem_range
def ca9:=@List.getD_eq_getElem?_getD
def ca8:=@List.map_append
inductive V where
 |any
 |con (v:Value)
 |agg (cs:List V)
 |tup (cs:List V)
 |lst (k:Nat) (rows:List (List V))
 |iptr (row:List V) (off:Nat)
 |imap (es:List (Value×V))
 |fn (f:Fn) (first captured:List V)
 |ptr (id k i off:Nat)
 |own (id n:Nat)
 |map (id:Nat)
 |adr (id:Nat)
 |dsl (e k:Nat) (rows:List (List V))
 |dmp (es:List (Value×V))
 |dpt (e:Nat) (row:List V)
 |ifc (T:Nat) (d:V)
 |plc (v0:Value) (d:V)
def V.deep:V->Bool
 | .dsl _ _ _=>true
 | .dmp _=>true
 | .dpt _ _=>true
 | .plc _ _=>true
 |_=>false
abbrev Mem:=Nat->Option Obj
structure MWf(E:Array MapEntry)(clock:Nat):Prop where
 born:(E.toList.map (·.born)).Nodup
 lt:∀e,e∈E.toList->e.born<clock
 key:(E.toList.map (·.key)).Nodup
def MapAt(o:Option Obj)(v:Array MapEntry)(clock:Nat):Prop:=∃E,o=some (.map E clock)/\v.toList.Perm E.toList/\MWf E clock
theorem MapAt.mono{o o':Option Obj}{v:Array MapEntry}{clock:Nat}(h:∀x,o=some x->o'=some x)(q:MapAt o v clock):MapAt o' v clock:=
 let ⟨E,h1,h2,h3⟩:=q;⟨E,h _ h1,h2,h3⟩
theorem MapAt.some{o:Option Obj}{v:Array MapEntry}{clock:Nat}(q:MapAt o v clock):∃x,o=some x:=let ⟨_,h,_⟩:=q;⟨_,h⟩
inductive IRel(m:Mem):V->Value->Prop
 |any (v:Value):IRel m .any v
 |con (v:Value):IRel m (.con v) v
 |agg {cs:List V} {vs:Array Value} (hl:cs.length=vs.size)
   (h:∀(i:Nat) (c:V) (v:Value),cs[i]? = some c->vs[i]? = some v->IRel m c v):IRel m (.agg cs) (.agg vs)
 |tup {cs:List V} {vs:Array Value} (hl:cs.length=vs.size)
   (h:∀(i:Nat) (c:V) (v:Value),cs[i]? = some c->vs[i]? = some v->IRel m c v):IRel m (.tup cs) (.tuple vs)
 |nil (k:Nat) (a:Option Addr) (cap:Nat):IRel m (.lst k []) (.slice a 0 cap)
 |lst {k:Nat} {rows:List (List V)} {a:Addr} {n cap:Nat} {arr:Array Value} {T:TypeId} {fr:Nat×Nat} (f:Nat->Value)
   (hm:m a.block=some (.cells arr T fr)) (hs:a.spot=none) (hn:rows.length=n) (hcap:n<=cap) (hbd:n<=maxLen)
   (hk:∀row,row∈rows->row.length=k)
   (hf:∀i,i<rows.length*k->arr[a.off+i]? = some (f i))
   (h:∀(i j:Nat) (row:List V) (c:V),rows[i]? = some row->row[j]? = some c->IRel m c (f (i*k+j))):
   IRel m (.lst k rows) (.slice (some a) n cap)
 |iptr {row:List V} {off:Nat} {a:Addr} {arr:Array Value} {T:TypeId} {fr:Nat×Nat} (f:Nat->Value)
   (base:Nat) (hm:m a.block=some (.cells arr T fr)) (hs:a.spot=none) (ho:a.off=base+off)
   (hf:∀i,i<row.length->arr[base+i]? = some (f i))
   (h:∀(j:Nat) (c:V),row[j]? = some c->IRel m c (f j)):IRel m (.iptr row off) (.pointer (some a))
 |imap {es:List (Value×V)} {b:Nat} {ents:Array MapEntry} {clock:Nat}
   (hm:MapAt (m b) ents clock) (hl:es.length=ents.size)
   (hk:∀(i:Nat) (p:Value×V) (e:MapEntry),es[i]? = some p->ents[i]? = some e->e.key=p.1)
   (h:∀(i:Nat) (p:Value×V) (e:MapEntry),es[i]? = some p->ents[i]? = some e->IRel m p.2 e.val):
   IRel m (.imap es) (.map (some b))
 |fn {f:Fn} {first captured:List V} {fs cs:Array Value} (hl:first.length=fs.size) (hl':captured.length=cs.size)
   (h:∀(i:Nat) (c:V) (v:Value),first[i]? = some c->fs[i]? = some v->IRel m c v)
   (h':∀(i:Nat) (c:V) (v:Value),captured[i]? = some c->cs[i]? = some v->IRel m c v):
   IRel m (.fn f first captured) (.func f fs cs)
 |ifc {T:Nat} {d:V} {v:Value} (h:IRel m d v):IRel m (.ifc T d) (.iface T v)
def Mem.le(m m':Mem):Prop:=∀b o,m b=some o->m' b=some o
theorem Mem.le_refl(m:Mem):m.le m:=fun _ _ h=>h
theorem Mem.le_trans{a b c:Mem}(h:a.le b)(h':b.le c):a.le c:=fun _ _ x=>h' _ _ (h _ _ x)
theorem IRel.mono{m m':Mem}(hm:m.le m'){d:V}{v:Value}(h:IRel m d v):IRel m' d v:=by
 induction h with
 |any v=>exact .any v
 |con v=>exact .con v
 |agg hl _ ih=>exact .agg hl ih
 |tup hl _ ih=>exact .tup hl ih
 |nil k a c=>exact .nil k a c
 |lst f h1 h2 h3 h4 h4b h5 h6 _ ih=>exact .lst f (hm _ _ h1) h2 h3 h4 h4b h5 h6 ih
 |iptr f b h1 h2 h3 h4 _ ih=>exact .iptr f b (hm _ _ h1) h2 h3 h4 ih
 |imap h1 h2 h3 _ ih=>exact .imap (h1.mono (hm _)) h2 h3 ih
 |fn h1 h2 _ _ i1 i2=>exact .fn h1 h2 i1 i2
 |ifc _ ih=>exact .ifc ih
structure Cap where
 n:Nat
 off:Nat
structure Locs where
 f:Nat->Option (Option (Nat×Cap))
 hid:Nat->Nat->Prop
instance:CoeFun Locs (fun _=>Nat->Option (Option (Nat×Cap))):=⟨Locs.f⟩
def Locs.le(β β':Locs):Prop:=∀i l,β i=some l->β' i=some l
theorem Locs.le_refl(β:Locs):β.le β:=fun _ _ h=>h
inductive VRel(m:Mem)(β:Locs):V->Value->Prop
 |imm {d:V} {v:Value} (h:IRel m d v):VRel m β d v
 |agg {cs:List V} {vs:Array Value} (hl:cs.length=vs.size)
   (h:∀(i:Nat) (c:V) (v:Value),cs[i]? = some c->vs[i]? = some v->VRel m β c v):VRel m β (.agg cs) (.agg vs)
 |tup {cs:List V} {vs:Array Value} (hl:cs.length=vs.size)
   (h:∀(i:Nat) (c:V) (v:Value),cs[i]? = some c->vs[i]? = some v->VRel m β c v):VRel m β (.tup cs) (.tuple vs)
 |fn {f:Fn} {first captured:List V} {fs cs:Array Value} (hl:first.length=fs.size) (hl':captured.length=cs.size)
   (h:∀(i:Nat) (c:V) (v:Value),first[i]? = some c->fs[i]? = some v->VRel m β c v)
   (h':∀(i:Nat) (c:V) (v:Value),captured[i]? = some c->cs[i]? = some v->VRel m β c v):
   VRel m β (.fn f first captured) (.func f fs cs)
 |ptr {id k i off b:Nat} {cap:Cap} (h:β id=some (some (b,cap))):VRel m β (.ptr id k i off) (.pointer (some ⟨b,cap.off+(i*k+off),none⟩))
 |ownNil {id:Nat} {ad:Option Addr} (h:β id=some none):VRel m β (.own id 0) (.slice ad 0 0)
 |own {id n b:Nat} {cap:Cap} (h:β id=some (some (b,cap))):VRel m β (.own id n) (.slice (some ⟨b,cap.off,none⟩) n cap.n)
 |map {id b:Nat} {cap:Cap} (h:β id=some (some (b,cap))):VRel m β (.map id) (.map (some b))
 |adrNil {id:Nat}:VRel m β (.adr id) (.pointer none)
 |adr {id b:Nat} {cap:Cap} (h:β id=some (some (b,cap))):VRel m β (.adr id) (.pointer (some ⟨b,cap.off,none⟩))
theorem VRel.mono{m m':Mem}{β β':Locs}(hm:m.le m')(hb:β.le β'){d:V}{v:Value}(h:VRel m β d v):VRel m' β' d v:=by
 induction h with
 |imm h=>exact .imm (h.mono hm)
 |agg hl _ ih=>exact .agg hl ih
 |tup hl _ ih=>exact .tup hl ih
 |fn h1 h2 _ _ i1 i2=>exact .fn h1 h2 i1 i2
 |ptr h=>exact .ptr (hb _ _ h)
 |ownNil h=>exact .ownNil (hb _ _ h)
 |own h=>exact .own (hb _ _ h)
 |map h=>exact .map (hb _ _ h)
 |adrNil=>exact .adrNil
 |adr h=>exact .adr (hb _ _ h)
def Bls(B:Nat->Prop)(bl:Nat->Nat->Prop):Prop:=(∀p x,bl p x->B x)/\∀p q x,bl p x->bl q x->p=q
inductive DRel(m:Mem)(w:World):(Nat->Prop)->V->Value->Prop
 |imm {B:Nat->Prop} {c:V} {v:Value} (h:IRel m c v):DRel m w B c v
 |nil {B:Nat->Prop} (e k:Nat) (a:Option Addr):DRel m w B (.dsl e k []) (.slice a 0 0)
 |sl {B:Nat->Prop} {k b cap off:Nat} {e:TypeId} {rows:List (List V)} {arr:Array Value} (bl:Nat->Nat->Prop) (f:Nat->Value) (hb:B b) (hbb:∀p,¬bl p b) (hB:Bls B bl)
   (hw:w.heap[b]? = some (.cells arr e (0,0))) (hs:arr.size=off+cap*k) (hr:rows.length<=cap) (hcap:cap<=maxLen) (hk:∀row,row∈rows->row.length=k)
   (hf:∀(i j:Nat) (row:List V) (c:V),rows[i]? = some row->row[j]? = some c->arr[off+(i*k+j)]? = some (f (i*k+j))/\(f (i*k+j)).oneCell'=true)
   (h:∀(i j:Nat) (row:List V) (c:V),rows[i]? = some row->row[j]? = some c->DRel m w (bl (i*k+j)) c (f (i*k+j))):
   DRel m w B (.dsl e k rows) (.slice (some ⟨b,off,none⟩) rows.length cap)
 |mp {B:Nat->Prop} {b:Nat} {es:List (Value×V)} {ents:Array MapEntry} {clock:Nat} (bl:Nat->Nat->Prop) (hb:B b) (hbb:∀p,¬bl p b) (hB:Bls B bl)
   (hw:MapAt (w.heap[b]?) ents clock) (hl:es.length=ents.size)
   (hk:∀(i:Nat) (p:Value×V) (e:MapEntry),es[i]? = some p->ents[i]? = some e->e.key=p.1)
   (h:∀(i:Nat) (p:Value×V) (e:MapEntry),es[i]? = some p->ents[i]? = some e->DRel m w (bl i) p.2 e.val):DRel m w B (.dmp es) (.map (some b))
 |pt {B:Nat->Prop} {b n off:Nat} {row:List V} {T:TypeId} {arr:Array Value} (bl:Nat->Nat->Prop) (f:Nat->Value) (hb:B b) (hbb:∀p,¬bl p b) (hB:Bls B bl)
   (hw:w.heap[b]? = some (.cells arr T (0,0))) (hs:arr.size=off+n*row.length) (hn:1<=n) (hcap:n<=maxLen)
   (hf:∀(j:Nat) (c:V),row[j]? = some c->arr[off+j]? = some (f j)/\(f j).oneCell'=true)
   (h:∀(j:Nat) (c:V),row[j]? = some c->DRel m w (bl j) c (f j)):DRel m w B (.dpt T row) (.pointer (some ⟨b,off,none⟩))
 |dx {B:Nat->Prop} {d:V} {v:Value} (h:DRel m w B d v):DRel m w B (.plc v d) v
theorem DRel.mono{m m':Mem}{w w':World}{B B':Nat->Prop}{c:V}{v:Value}(hm:m.le m')(hB:∀x,B x->B' x)(hw:∀x,B x->w'.heap[x]? = w.heap[x]?)(h:DRel m w B c v):DRel m' w' B' c v:=by
 induction h generalizing B' with
 |imm h=>exact .imm (h.mono hm)
 |nil e k a=>exact .nil e k a
 |sl bl f hb hbb hBl h1 h2 h3 h4 h5 h6 _ ih=>
  exact .sl bl f (hB _ hb) hbb ⟨fun p x hx=>hB _ (hBl.1 p x hx),hBl.2⟩ (by grind) h2 h3 h4 h5 h6 (fun i j row c hi hj=>ih i j row c hi hj (fun _ hx=>hx) (fun x hx=>hw x (hBl.1 _ x hx)))
 |mp bl hb hbb hBl h1 h2 h3 _ ih=>
  exact .mp bl (hB _ hb) hbb ⟨fun p x hx=>hB _ (hBl.1 p x hx),hBl.2⟩ (by rw[hw _ hb];exact h1) h2 h3 (fun i p e hi he=>ih i p e hi he (fun _ hx=>hx) (fun x hx=>hw x (hBl.1 _ x hx)))
 |pt bl f hb hbb hBl h1 h2 hn hc h3 _ ih=>
  exact .pt bl f (hB _ hb) hbb ⟨fun p x hx=>hB _ (hBl.1 p x hx),hBl.2⟩ (by grind) h2 hn hc h3 (fun j c hj=>ih j c hj (fun _ hx=>hx) (fun x hx=>hw x (hBl.1 _ x hx)))
 |dx _ ih=>exact .dx (ih hB hw)
def CRel(m:Mem)(β:Locs)(w:World)(B:Nat->Prop)(c:V)(v:Value):Prop:=VRel m β c v\/DRel m w B c v
theorem CRel.v{m:Mem}{β:Locs}{w:World}{B:Nat->Prop}{c:V}{v:Value}(h:CRel m β w B c v)(hd:c.deep=false):VRel m β c v:=by
 rcases h with h|h
 ·exact h
 ·cases h with
  |imm h=>exact .imm h
  |_=>simp[V.deep] at hd
theorem CRel.mono{m m':Mem}{β β':Locs}{w w':World}{B B':Nat->Prop}{c:V}{v:Value}(hm:m.le m')(hb:β.le β')(hB:∀x,B x->B' x)(hw:∀x,B x->w'.heap[x]? = w.heap[x]?)(h:CRel m β w B c v):CRel m' β' w' B' c v:=
 h.elim (fun h=>.inl (h.mono hm hb)) (fun h=>.inr (h.mono hm hB hw))
inductive Ob where
 |arr (e:TypeId) (k:Nat) (rows:List (List V))
 |map (es:List (Value×V))
 |iter (cur left:List (Value×V))
 |bld (T e:TypeId) (bs:List UInt8) (fr:Bool:=false)
 |res
 |dead
abbrev Env:=List (Nat×V)
abbrev Heap:=List (Nat×Ob)
def get:Env->Nat->V
 |[],_=>.any
 |(k,v)::e,t=>bif Nat.beq k t then v else get e t
def hget:Heap->Nat->Ob
 |[],_=>.dead
 |(k,v)::e,t=>bif Nat.beq k t then v else hget e t
theorem get_put(e:Env)(d:Nat)(v:V)(t:Nat):get ((d,v)::e) t=if d=t then v else get e t:=by
 simp_all[get]
theorem hget_put(e:Heap)(d:Nat)(v:Ob)(t:Nat):hget ((d,v)::e) t=if d=t then v else hget e t:=by
 simp_all[hget]
def ObOk(m:Mem)(β:Locs)(w:World)(B:Nat->Prop):Option (Option (Nat×Cap))->Ob->Prop
 |_,.dead=>True
 |none,.res=>True
 |some none,.arr _ _ rows=>rows=[]
 |some (some (b,cap)),.arr e k rows=>∃arr bl,w.heap[b]? = some (.cells arr e (0,0))/\arr.size=cap.off+cap.n*k/\rows.length<=cap.n/\cap.n<=maxLen/\
   (∀row,row∈rows->row.length=k)/\Bls B bl/\
   ∀(i j:Nat) (row:List V) (c:V),rows[i]? = some row->row[j]? = some c->∃v,arr[cap.off+(i*k+j)]? = some v/\CRel m β w (bl (i*k+j)) c v/\v.oneCell'=true
 |some (some (b,_)),.map es=>∃ents clock bl,MapAt (w.heap[b]?) ents clock/\es.length=ents.size/\Bls B bl/\
   (∀(i:Nat) (p:Value×V) (e:MapEntry),es[i]? = some p->ents[i]? = some e->e.key=p.1/\CRel m β w (bl i) p.2 e.val)
 |some (some (b,cap)),.iter cur left=>∃bm seen E clock v,cap.off=0/\w.heap[b]? = some (.mapIter (some bm) clock seen clock)/\m bm=some (.map E clock)/\MWf E clock/\
   List.Perm v (leftOf E seen).toList/\left.length=v.length/\
   (∀(i:Nat) (p:Value×V) (e:MapEntry),left[i]? = some p->v[i]? = some e->e.key=p.1/\IRel m p.2 e.val)/\
   ∀p,p∈cur->∃e,e∈E.toList/\seen.back? = some e.born/\e.key=p.1/\IRel m p.2 e.val
 |some (some (b,cap)),.bld T e bs fr=>cap.off=0/\T≠e/\∃p v,(fr=true->p=.pointer none/\v=.slice none 0 0)/\w.heap[b]? = some (.cells #[p,v] T (0,0))/\(p=.pointer none\/p=.pointer (some ⟨b,0,none⟩))/\
   ((v=.slice none 0 0/\bs=[])\/∃g c cur,v=.slice (some ⟨g,0,none⟩) bs.length c/\B g/\g≠b/\w.heap[g]? = some (.cells cur e (0,0))/\cur.size=c/\bs.length<=c/\c<=maxLen/\c≠0/\
    ∀(i:Nat) (x:UInt8),bs[i]? = some x->cur[i]? = some (.int .u8 x.toNat))
 |_,_=>False
abbrev Gl:=List (Nat×List V)
def glk:Gl->Nat->Option (List V)
 |[],_=>none
 |(k,v)::e,t=>bif Nat.beq k t then some v else glk e t
def GlAt(m:Mem)(g:Nat)(row:List V):Prop:=IRel m (.iptr row 0) (.pointer (some ⟨g,0,none⟩))/\∃arr T fr,m g=some (.cells arr T fr)/\arr.size=row.length
def GlOk(gl:Gl)(m:Mem):Prop:=∀g row,glk gl g=some row->GlAt m g row
theorem GlOk.mono{gl:Gl}{m m':Mem}(h:GlOk gl m)(hm:m.le m'):GlOk gl m':=fun g row hg=>let ⟨a,T,fr,h1,h2⟩:=(h g row hg).2;⟨(h g row hg).1.mono hm,a,T,fr,hm _ _ h1,h2⟩
theorem GlOk.nil{m:Mem}:GlOk [] m:=fun g row h=>by simp[glk] at h
structure Ctx where
 P:Program
 N:Nat
 w0:World
 m0:Mem
 old:Nat->Prop
 pins:Nat
 loc:Nat->Option (Option (Nat×Cap))
 gl:Gl
 glok:GlOk gl m0
 rd:Option Nat
@[reducible] def Ctx.fc(K:Ctx):Fence:={ Fence.wide with round:=K.rd }
structure Marks(rd:Option Nat)(w0:World)(m0 m:Mem)(l:List Deferred):Prop where
 at':∀d,d∈l->∃D,d={ target:=.collected D,args:=#[] }/\w0.heap.size<=D/\m0 D=none/\m D=some (.deferred (some []))
 nd:l.Nodup
 em:rd.isSome=true->l=[]
theorem Marks.mono{rd:Option Nat}{w0:World}{m0 m m':Mem}{l:List Deferred}(h:Marks rd w0 m0 m l)(hm:m.le m'):Marks rd w0 m0 m' l:=⟨fun d hd=>let ⟨D,h1,h2,h3,h4⟩:=h.at' d hd;⟨D,h1,h2,h3,hm _ _ h4⟩,h.nd,h.em⟩
theorem Marks.nil{rd:Option Nat}{w0:World}{m0 m:Mem}:Marks rd w0 m0 m []:=⟨fun d hd=>by simp at hd,List.nodup_nil,fun _=>rfl⟩
structure St where
 env:Env
 hp:Heap
 nx:Nat
structure Same(w0 w:World):Prop where
 os:w.os=w0.os
 tape:w.tape=w0.tape
 output:w.output=w0.output
 drawn:True
structure Hid(K:Ctx)(m:Mem)(β:Locs)(w:World)(hp:Heap)(id x:Nat):Prop where
 lt:x<w.heap.size
 m:m x=none
 old:x<K.w0.heap.size->¬K.old x
 ne:∀i b cap,hget hp i≠.dead->β i=some (some (b,cap))->x≠b
 un:∀i,hget hp i≠.dead->β.hid i x->i=id
theorem Hid.weak{K:Ctx}{m:Mem}{β:Locs}{w:World}{hp hp':Heap}{id x:Nat}(q:Hid K m β w hp id x)(hl:∀i,hget hp' i≠.dead->hget hp i≠.dead):Hid K m β w hp' id x:=
 ⟨q.lt,q.m,q.old,fun i b c h=>q.ne i b c (hl i h),fun i h=>q.un i (hl i h)⟩
structure Rel(K:Ctx)(m:Mem)(β:Locs)(w:World)(a:Act)(S:St):Prop where
 imm:∀b o,m b=some o->w.heap[b]? = some o
 ext:K.m0.le m
 mold:∀b,b<K.w0.heap.size->K.old b->m b=K.m0 b
 frame:∀b,b<K.w0.heap.size->K.old b->w.heap[b]? = K.w0.heap[b]?
 size:K.w0.heap.size<=w.heap.size
 same:Same K.w0 w
 tn:a.tmps.size=K.N
 df:Marks K.rd K.w0 K.m0 m a.defers
 env:∀t,VRel m β (get S.env t) (a.tmps.getD t undef)
 own:∀id,ObOk m β w (β.hid id) (β id) (hget S.hp id)
 priv:∀id b cap,hget S.hp id≠.dead->β id=some (some (b,cap))->m b=none/\(b<K.w0.heap.size->¬K.old b)
 inj:∀id id' b cap cap',hget S.hp id≠.dead->hget S.hp id'≠.dead->β id=some (some (b,cap))->β id'=some (some (b,cap'))->id=id'
 hid:∀id x,hget S.hp id≠.dead->β.hid id x->Hid K m β w S.hp id x
 nx:∀id,S.nx<=id->β id=none
 pin:∀q,q<K.pins->q<S.nx/\β q=K.loc q
abbrev Post:=Exit->St->Prop
def plainExit:Exit->Bool
 | .goto _ | .outgrown=>false
 |_=>true
def Post.at(K:Ctx)(Q:Post):Exit->Act->World->Prop:=fun e a w=>plainExit e=true/\∃S m β,Q e S/\Rel K m β w a S
def AWP(K:Ctx)(c:Code)(Q:Post)(S:St):Prop:=∀m β w a,Rel K m β w a S->c.wpIn K.fc 0 K.P (Q.at K) a w
def AOps(K:Ctx)(ops:Array Oper)(l:List Oper)(Q:Post)(S:St):Prop:=∀m β w a,Rel K m β w a S->wpListIn K.fc 0 K.P ops (Q.at K) l a w
section code
variable{K:Ctx}{Q:Post}{S:St}
def thenQ(K:Ctx)(y:Code)(Q:Post):Post
 | .normal,S=>AWP K y Q S
 |e,S=>Q e S
def blockQ(id:Nat)(Q:Post):Post
 | .exit i,S=>if i=id then Q .normal S else Q (.exit i) S
 |e,S=>Q e S
theorem awp_seq{x y:Code}(h:AWP K x (thenQ K y Q) S):AWP K (.seq x y) Q S:=by
 intro m β w a r
 refine wpIn_seq (wpIn_mono (h m β w a r) ?_)
 rintro e a' w' ⟨p,S',m',β',q,r'⟩
 cases e with
 |normal=>exact q m' β' w' a' r'
 |_=>exact⟨p,S',m',β',q,r'⟩
theorem awp_block{id:Nat}{c:Code}(h:AWP K c (blockQ id Q) S):AWP K (.block id c) Q S:=by
 intro m β w a r
 refine wpIn_block (wpIn_mono (h m β w a r) ?_)
 rintro e a' w' ⟨p,S',m',β',q,r'⟩
 cases e with
 |exit i=>
  simp only[blockQ] at q
  simp only[Exit.inBlock]
  split
  ·rename_i h;rw[if_pos h] at q;exact⟨rfl,S',m',β',q,r'⟩
  ·rename_i h;rw[if_neg h] at q;exact⟨rfl,S',m',β',q,r'⟩
 |_=>exact⟨p,S',m',β',q,r'⟩
theorem awp_skip(h:Q .normal S):AWP K .skip Q S:=fun _ _ _ _ r=>wpIn_skip ⟨rfl,S,_,_,h,r⟩
theorem stepR_scope{P:Program}{b:Frame}{a:Act}{k:List Item}{cs:List Frame}{w:World}{c:Code}:step P (lone (b.atR a (.code (.scope c)::k)) cs w)=.next (lone (b.atR a (.code c::.inScope c::k)) cs w):=
 step_lone_go (by simp[stepG,stepG.exec,Frame.atR])
theorem stepR_inScope{P:Program}{b:Frame}{a:Act}{k:List Item}{cs:List Frame}{w:World}{c:Code}:step P (lone (b.atR a (.inScope c::k)) cs w)=.next (lone (b.atR a k) cs w):=
 step_lone_go (by simp[stepG,stepG.exec,Frame.atR])
theorem wpIn_scope_straight{F:Fence}{P:Program}{Q:Exit->Act->World->Prop}{a:Act}{w:World}{c:Code}(h:c.wpIn F 0 P (Exit.noGoto Q) a w):(Code.scope c).wpIn F 0 P Q a w:=by
 intro b k cs hro hb hr
 have h0:(lone (b.atR a (.code (.scope c)::k)) cs w).fenced P F:=fenced_calm hb hr rfl
 obtain⟨e,a₁,w₁,hq,harr⟩:=h b (.inScope c::k) cs hro hb hr
 have hx:∀id,exitTo id (.inScope c::k)=exitTo id k:=fun id=>by simp[exitTo]
 cases e with
 |normal=>exact⟨.normal,a₁,w₁,hq,.head h0 stepR_scope (StepsIn.trans harr (.one (fenced_calm hb hr rfl) stepR_inScope))⟩
 |exit id=>exact⟨.exit id,a₁,w₁,hq,fun k' hk=>.head h0 stepR_scope (harr.1 k' (by grind)),fun hro' hk=>let ⟨k₁,g1,g2⟩:=harr.2 hro' (by grind);⟨k₁,g1,.head h0 stepR_scope g2⟩⟩
 |goto l=>exact hq.elim
 |ret=>exact⟨_,a₁,w₁,hq,.of_steps (.one h0 stepR_scope) harr⟩
 |panic ch=>exact⟨_,a₁,w₁,hq,.of_steps (.one h0 stepR_scope) harr⟩
 |outgrown=>exact⟨_,a₁,w₁,hq,.of_steps (.one h0 stepR_scope) harr⟩
theorem awp_scope{c:Code}(h:AWP K c Q S):AWP K (.scope c) Q S:=fun m β w a r=>wpIn_scope_straight (wpIn_mono (h m β w a r) fun e _ _ ⟨p,q⟩=>by
 cases e with
 |goto l=>simp[plainExit] at p
 |_=>exact⟨p,q⟩)
theorem awp_label{l:Nat}(h:Q .normal S):AWP K (.label l) Q S:=fun _ _ _ _ r=>wpIn_label ⟨rfl,S,_,_,h,r⟩
theorem awp_ret(h:Q .ret S):AWP K .ret Q S:=fun _ _ _ _ r=>wpIn_ret ⟨rfl,S,_,_,h,r⟩
theorem awp_exit{id:Nat}(h:Q (.exit id) S):AWP K (.exit id) Q S:=fun _ _ _ _ r=>wpIn_exit ⟨rfl,S,_,_,h,r⟩
def evl(K:Ctx)(S:St):Operand->V
 | .tmp t=>get S.env t
 | .const v=>.con v
 | .global g=>match glk K.gl g with|some row=>.iptr row 0|none=>.con (.pointer (some ⟨g,0,none⟩))
 | .func f=>.fn (.func f) [] []
theorem Rel.reads{m:Mem}{β:Locs}{w:World}{a:Act}(r:Rel K m β w a S)(x:Operand):VRel m β (evl K S x) (a.eval x):=by
 cases x with
 |tmp t=>exact r.env t
 |const v=>exact .imm (.con v)
 |global g=>
  simp only[evl]
  split
  ·rename_i row h;exact .imm (((K.glok.mono r.ext) g row h).1)
  ·exact .imm (.con _)
 |func f=>exact .imm (.fn rfl rfl (by simp) (by simp))
theorem VRel.of_con{m:Mem}{β:Locs}{v x:Value}(h:VRel m β (.con v) x):x=v:=by
 cases h with|imm h=>cases h;rfl
theorem awp_cond{c:Operand}{x y:Code}(b:Bool)(hc:evl K S c=.con (.bool b))(ht:b=true->AWP K x Q S)(hf:b=false->AWP K y Q S):
  AWP K (.cond c x y) Q S:=by
 intro m β w a r
 have h:=r.reads c
 rw[hc] at h
 refine wpIn_cond_split h.of_con (fun hb=>ht hb m β w a r) (fun hb=>hf hb m β w a r)
theorem awp_region{id:Nat}{l:List Oper}(h:AOps K l.toArray l Q S):AWP K (.region id l.toArray false) Q S:=
 fun m β w a r=>wpIn_region_lit (h m β w a r)
theorem aops_nil{ops:Array Oper}(h:Q .normal S):AOps K ops [] Q S:=fun _ _ _ _ r=>wpListIn_nil ⟨rfl,S,_,_,h,r⟩
theorem steps_det{I:Machine->Prop}{P:Program}{M X T:Machine}(h:StepsIn I P M T)(hx:step P M=.next X)(hne:M≠T):StepsIn I P X T:=by
 cases h<;>simp_all
theorem exitTo_length{id:Nat}:∀{k k':List Item},exitTo id k=some k'->k'.length<k.length:=by
 intro k
 induction k with
 |nil=>simp_all[exitTo]
 |cons x k ih=>
  intro k' h
  unfold exitTo at h
  grind
theorem lone_todo{b:Frame}{a a':Act}{k k':List Item}{cs:List Frame}{w w':World}(h:lone (b.atR a k) cs w=lone (b.atR a' k') cs w'):k=k':=by
 simp_all[lone,Frame.atR]
theorem wpIn_loop_unroll{F:Fence}{P:Program}{c:Code}{R:Exit->Act->World->Prop}{a:Act}{w:World}(hR:∀e a w,R e a w->plainExit e=true)
  (h:c.wpIn F 0 P (Exit.then ((Code.loop c).wpIn F 0 P R) R) a w):(Code.loop c).wpIn F 0 P R a w:=by
 intro b k cs hro hb hr
 have h0:(lone (b.atR a (.code (.loop c)::k)) cs w).fenced P F:=fenced_calm hb hr rfl
 obtain⟨e,a₁,w₁,hq,harr⟩:=h b (.inLoop c::k) cs hro hb hr
 cases e with
 |normal=>
  obtain⟨e₂,a₂,w₂,hq₂,harr₂⟩:=hq b k cs hro hb hr
  have h1:(lone (b.atR a₁ (.inLoop c::k)) cs w₁).fenced P F:=fenced_calm hb hr rfl
  refine⟨e₂,a₂,w₂,hq₂,.of_steps (.head h0 stepR_loop (StepsIn.trans harr (.one h1 stepR_inLoop))) ?_⟩
  have hs:=stepR_loop (P:=P) (b:=b) (a:=a₁) (k:=k) (cs:=cs) (w:=w₁) (c:=c)
  have hp:=hR _ _ _ hq₂
  cases e₂ with
  |normal=>
   refine steps_det harr₂ hs (fun e=>?_)
   have:=congrArg List.length (lone_todo e);grind
  |exit id=>
   refine⟨fun k' hk=>steps_det (harr₂.1 k' hk) hs (fun e=>?_),fun hro' hk=>?_⟩
   ·have:=congrArg List.length (lone_todo e);have:=exitTo_length hk;grind
   ·obtain⟨k₁,g1,g2⟩:=harr₂.2 hro' hk<;>grind [steps_det,lone_todo]
  |goto l=>simp[plainExit] at hp
  |ret=>
   refine⟨fun hn=>?_,fun hn=>?_⟩
   ·obtain⟨todo,hst⟩:=harr₂.1 hn<;>grind [steps_det,lone,Frame.atR]
   ·obtain⟨k₁,hst⟩:=harr₂.2 hn<;>grind [steps_det,lone_todo]
  |panic ch=>
   obtain⟨todo,hst⟩:=harr₂
   refine⟨todo,steps_det hst hs (fun e=>?_)⟩
   simp[lone,Frame.atR] at e
  |outgrown=>simp[plainExit] at hp
 |exit id=>exact⟨_,a₁,w₁,hq,.of_steps (.one h0 stepR_loop) (.pass (x:=.inLoop c) rfl (fun _ _=>.inl (by simp)) harr)⟩
 |goto l=>exact⟨_,a₁,w₁,hq,.of_steps (.one h0 stepR_loop) (.pass (x:=.inLoop c) rfl (fun _ _=>.inl (by simp)) harr)⟩
 |ret=>exact⟨_,a₁,w₁,hq,.of_steps (.one h0 stepR_loop) (.pass (x:=.inLoop c) rfl (fun _ _=>.inl (by simp)) harr)⟩
 |panic ch=>exact⟨_,a₁,w₁,hq,.of_steps (.one h0 stepR_loop) (.pass (x:=.inLoop c) rfl (fun _ _=>.inl (by simp)) harr)⟩
 |outgrown=>exact⟨_,a₁,w₁,hq,.of_steps (.one h0 stepR_loop) (.pass (x:=.inLoop c) rfl (fun _ _=>.inl (by simp)) harr)⟩
theorem op_in{K:Ctx}{o:Oper}{a:Act}{w:World}{next:Act->World->Prop}{Q:Exit->Act->World->Prop}(hnd:K.rd=none\/∀c,o.op≠.defer c)(h:o.wp K.P a w next Q):o.wpIn K.fc 0 K.P a w next Q:=by
 refine⟨fun _ _=>trivial,?_⟩
 have hs:o.semAt K.fc.round a.eval=execOp a.eval o:=by
  rcases hnd with h|h
  ·simp_all[Oper.semAt]
  ·grind [Oper.semAt_eq]
 rw[hs]
 unfold Oper.wp at h
 generalize (execOp a.eval o).run K.P w=res at *
 cases res with
 |ok n w'=>
  cases n<;>simp only[Oper.upon] at h<;>simp only[Oper.uponIn]
  ·exact h
  ·exact h
  ·exact⟨fun h=>by simp[Fence.wide] at h,callsIn_wide.2 h⟩
  ·exact h
  ·refine⟨fun h=>by simp[Fence.wide] at h,fun c cs _=>?_⟩
   obtain⟨v,w2,r,s⟩:=h c cs
   exact⟨v,w2,r,stepsIn_wide.2 s⟩
 |halt x w'=>cases x<;>simp only[Oper.upon] at h<;>exact h
theorem nd_run{o:Oper}{ρ:Operand->Value}{P:Program}{w w':World}{x:Next}(h:(execOp ρ o).run P w=.ok x w')(hx:∀d,x≠.defer d):∀c,o.op≠.defer c:=by
 intro c hc
 unfold execOp at h
 rw[hc] at h
 simp only[Sem.run_bind] at h
 cases hr:(resolve ρ c o.type).run P w with
 |ok d w2=>rw[hr] at h;simp[pure] at h;grind
 |halt y w2=>simp_all
theorem awp_loop{c:Code}(h:AWP K c (thenQ K (.loop c) Q) S):AWP K (.loop c) Q S:=by
 intro m β w a r
 refine wpIn_loop_unroll (fun _ _ _ q=>q.1) (wpIn_mono (h m β w a r) ?_)
 rintro e a' w' ⟨p,S',m',β',q,r'⟩
 cases e with
 |normal=>exact q m' β' w' a' r'
 |_=>exact⟨p,S',m',β',q,r'⟩
end code
end Go.Pv
namespace Go.Pv
open Go
section
variable{K:Ctx}{Q:Post}{S:St}
def St.put(S:St)(d:Nat)(v:V):St:=⟨(d,v)::S.env,S.hp,S.nx⟩
theorem tmps_put(a:Act)(d:Nat)(v:Value)(t:Nat)(hd:d<a.tmps.size):
  (a.put (some d) v).tmps.getD t undef=if d=t then v else a.tmps.getD t undef:=by
 simp only[Act.put,be9,bg8]
 grind
theorem Rel.put{m:Mem}{β:Locs}{w:World}{a:Act}(r:Rel K m β w a S){d:Nat}(hd:Nat.blt d K.N=true){dv:V}{v:Value}(hv:VRel m β dv v):
  Rel K m β w (a.put (some d) v) (S.put d dv) where
 imm:=r.imm
 ext:=r.ext
 mold:=r.mold
 frame:=r.frame
 size:=r.size
 same:=r.same
 tn:=by simp only[Act.put,Array.size_setIfInBounds];exact r.tn
 df:=r.df
 env:=by
  intro t
  have hd':d<a.tmps.size:=by rw[r.tn];exact ar9 hd
  simp only[St.put]
  rw[get_put,tmps_put _ _ _ _ hd']
  split
  ·exact hv
  ·exact r.env t
 own:=r.own
 priv:=r.priv
 inj:=r.inj
 hid:=r.hid
 nx:=r.nx
 pin:=r.pin
structure Grew(m m':Mem)(w w':World):Prop where
 le:m.le m'
 imm:∀b o,m' b=some o->w'.heap[b]? = some o
 mold:∀b,b<w.heap.size->m' b=m b
 heap:∀b,b<w.heap.size->w'.heap[b]? = w.heap[b]?
 size:w.heap.size<=w'.heap.size
 same:Same w w'
theorem Same.trans{a b c:World}(h:Same a b)(h':Same b c):Same a c:=⟨h'.os.trans h.os,h'.tape.trans h.tape,h'.output.trans h.output,trivial⟩
theorem lt_of_some{w:World}{b:Nat}{o:Obj}(h:w.heap[b]? = some o):b<w.heap.size:=by
 grind
theorem ObOk.mono{m m':Mem}{β β':Locs}{w w':World}{B:Nat->Prop}(hm:m.le m')(hb:β.le β')(hw:∀(b:Nat) (o:Obj),w.heap[b]? = some o->w'.heap[b]? = some o)(hB:∀x,B x->w'.heap[x]? = w.heap[x]?)
  {l:Option (Option (Nat×Cap))} {ob:Ob} (h:ObOk m β w B l ob):ObOk m' β' w' B l ob:=by
 match l,ob,h with
 |none,.dead,_|some none,.dead,_|some (some (b,c)),.dead,_=>simp[ObOk]
 |none,.res,_=>trivial
 |some none,.res,h|some (some (b,c)),.res,h=>exact absurd h (by simp[ObOk])
 |some none,.arr e k rows,h=>exact h
 |some (some (b,cap)),.arr e k rows,h=>
  obtain⟨arr,bl,h1,h2,h3,h4,h5,hBl,h6⟩:=h
  exact⟨arr,bl,hw _ _ h1,h2,h3,h4,h5,hBl,fun i j row c hi hj=>let ⟨v,a1,a2,a3⟩:=h6 i j row c hi hj;⟨v,a1,a2.mono hm hb (fun _ h=>h) (fun x hx=>hB x (hBl.1 _ x hx)),a3⟩⟩
 |some (some (b,cap)),.map es,h=>
  obtain⟨ents,clock,bl,h1,h2,hBl,h3⟩:=h
  exact⟨ents,clock,bl,h1.mono (hw _),h2,hBl,fun i p e hi he=>⟨(h3 i p e hi he).1,(h3 i p e hi he).2.mono hm hb (fun _ h=>h) (fun x hx=>hB x (hBl.1 _ x hx))⟩⟩
 |some (some (b,cap)),.iter cur left,h=>
  obtain⟨bm,seen,E,clock,v,h0,h1,h2,h3,h4,h5,h6,h7⟩:=h
  exact⟨bm,seen,E,clock,v,h0,hw _ _ h1,hm _ _ h2,h3,h4,h5,fun i p e hi he=>⟨(h6 i p e hi he).1,(h6 i p e hi he).2.mono hm⟩,fun p hp=>let ⟨e,a1,a2,a3,a4⟩:=h7 p hp;⟨e,a1,a2,a3,a4.mono hm⟩⟩
 |some (some (b,cap)),.bld T e bs _,h=>
  obtain⟨h0,h1,p,v,hf,h2,h3,h4⟩:=h
  exact⟨h0,h1,p,v,hf,hw _ _ h2,h3,h4.imp id fun⟨g,c,cur,a1,a2,a3,a4,a5⟩=>⟨g,c,cur,a1,a2,a3,hw _ _ a4,a5⟩⟩
 |none,.arr ..,h|none,.map ..,h|some none,.map ..,h|none,.iter ..,h|some none,.iter ..,h|none,.bld ..,h|some none,.bld ..,h=>exact absurd h (by simp[ObOk])
theorem ObOk.dead'{m:Mem}{β:Locs}{w:World}{B:Nat->Prop}(l:Option (Option (Nat×Cap))):ObOk m β w B l .dead:=by
 simp_all[ObOk]
theorem live_lt{m:Mem}{β:Locs}{w:World}{B:Nat->Prop}{id b:Nat}{cap:Cap}{ob:Ob}(hl:ob≠.dead)(hb:β id=some (some (b,cap)))(h:ObOk m β w B (β id) ob):b<w.heap.size:=by
 rw[hb] at h
 cases ob with
 |dead=>grind
 |res=>simp_all[ObOk]
 |arr e k rows=>obtain⟨arr,bl,h1,_⟩:=h<;>grind
 |map es=>obtain⟨ents,clock,bl,h1,_⟩:=h;obtain⟨x,h1⟩:=h1.some<;>grind
 |iter cu lf=>obtain⟨bm,seen,E,clock,v,_,h1,_⟩:=h<;>grind
 |bld T e bs fr=>obtain⟨_,_,p,v,_,h1,_⟩:=h<;>grind
theorem Rel.grow{m m':Mem}{β:Locs}{w w':World}{a:Act}(r:Rel K m β w a S)(g:Grew m m' w w'):Rel K m' β w' a S where
 imm:=g.imm
 ext:=Mem.le_trans r.ext g.le
 mold:=fun b hb ho=>(g.mold b (bz9 hb r.size)).trans (r.mold b hb ho)
 frame:=fun b hb ho=>(g.heap b (bz9 hb r.size)).trans (r.frame b hb ho)
 size:=bk8 r.size g.size
 same:=r.same.trans g.same
 tn:=r.tn
 df:=r.df.mono g.le
 env:=fun t=>(r.env t).mono g.le (Locs.le_refl _)
 own:=fun id=>by
  by_cases hd:hget S.hp id=.dead
  ·simp_all[ObOk.dead']
  ·exact ObOk.mono g.le (Locs.le_refl _) (fun b o h=>by rw[g.heap b (lt_of_some h)];exact h) (fun x hx=>g.heap x (r.hid id x hd hx).lt) (r.own id)
 priv:=fun id b cap hl hb=>by
  have:=r.priv id b cap hl hb
  rw[g.mold b (live_lt hl hb (r.own id))];exact this
 inj:=r.inj
 hid:=fun id x hl hx=>
  let h:=r.hid id x hl hx
  ⟨bz9 h.lt g.size,by rw[g.mold x h.lt];exact h.m,h.old,h.ne,h.un⟩
 nx:=r.nx
 pin:=r.pin
def Runs(K:Ctx)(o:Oper)(S S':St):Prop:=∀m β w a,Rel K m β w a S->∃v w' m' β',
 ((execOp a.eval o).run K.P w=.ok (.value v) w'\/v=undef/\(execOp a.eval o).run K.P w=.ok .skip w')/\Rel K m' β' w' (a.put o.dst v) S'
def Wants(ops:Array Oper)(S:St)(o:Oper)(b:Bool):Prop:=
 match o.guard with
 |none=>b=true
 |some (j,want)=>∃t,(ops[j]?).bind (·.dst)=some t/\((∃c,get S.env t=.con (.bool c)/\b=(c==want))\/get S.env t=.con undef/\b=false)
theorem Wants.at{ops:Array Oper}{o:Oper}{b:Bool}(h:Wants ops S o b){m:Mem}{β:Locs}{w:World}{a:Act}(r:Rel K m β w a S):
  Region.wanted o (yielded ops a.tmps)=b:=by
 unfold Wants at h
 unfold Region.wanted
 split at h
 ·grind
 ·rename_i j want hg
  obtain⟨t,h1,h⟩:=h
  rw[hg]
  have h4:=r.env t
  rcases h with ⟨c,h2,h3⟩|⟨h2,h3⟩
  ·rw[h2] at h4
   have h5:=h4.of_con
   have h6:t<a.tmps.size:=by
    by_cases hlt:t<a.tmps.size
    ·exact hlt
    ·simp_all[undef]
   simp_all[yielded]
  ·rw[h2] at h4
   have h5:=h4.of_con
   simp only[yielded,h1,bn9,h3]
   by_cases hlt:t<a.tmps.size
   ·simp_all[undef]
   grind
end
def Mem.drop(m:Mem)(D:Nat):Mem:=fun b=>if b=D then none else m b
theorem Mem.drop_some{m:Mem}{D b:Nat}{o:Obj}(h:m.drop D b=some o):b≠D/\m b=some o:=by
 simp_all[Mem.drop]
theorem Mem.drop_none{m:Mem}{D b:Nat}(h:m b=none):m.drop D b=none:=by
 simp_all[Mem.drop]
theorem Mem.drop_ne{m:Mem}{D b:Nat}(h:b≠D):m.drop D b=m b:=by simp_all[Mem.drop]
section
variable{m:Mem}{D:Nat}{x:Option (List Deferred)}
theorem IRel.drop(hD:m D=some (.deferred x)){d:V}{v:Value}(h:IRel m d v):IRel (m.drop D) d v:=by
 induction h with
 |any v=>exact .any v
 |con v=>exact .con v
 |agg hl _ ih=>exact .agg hl ih
 |tup hl _ ih=>exact .tup hl ih
 |nil k a c=>exact .nil k a c
 |lst f h1 h2 h3 h4 h4b h5 h6 _ ih=>exact .lst f (by rw[Mem.drop_ne (fun e=>by grind)];exact h1) h2 h3 h4 h4b h5 h6 ih
 |iptr f b h1 h2 h3 h4 _ ih=>exact .iptr f b (by rw[Mem.drop_ne (fun e=>by grind)];exact h1) h2 h3 h4 ih
 | @imap es b ents clock h1 h2 h3 _ ih=>
  obtain⟨E,e1,e2,e3⟩:=h1
  exact .imap ⟨E,by grind [Mem.drop_ne],e2,e3⟩ h2 h3 ih
 |fn h1 h2 _ _ i1 i2=>exact .fn h1 h2 i1 i2
 |ifc _ ih=>exact .ifc ih
theorem VRel.drop{β:Locs}(hD:m D=some (.deferred x)){d:V}{v:Value}(h:VRel m β d v):VRel (m.drop D) β d v:=by
 induction h with
 |imm h=>exact .imm (h.drop hD)
 |agg hl _ ih=>exact .agg hl ih
 |tup hl _ ih=>exact .tup hl ih
 |fn h1 h2 _ _ i1 i2=>exact .fn h1 h2 i1 i2
 |ptr h=>exact .ptr h
 |ownNil h=>exact .ownNil h
 |own h=>exact .own h
 |map h=>exact .map h
 |adrNil=>exact .adrNil
 |adr h=>exact .adr h
theorem DRel.drop{w w':World}(hD:m D=some (.deferred x)){B:Nat->Prop}{c:V}{v:Value}(hw:∀x,B x->w'.heap[x]? = w.heap[x]?)(h:DRel m w B c v):DRel (m.drop D) w' B c v:=by
 induction h with
 |imm h=>exact .imm (h.drop hD)
 |nil e k a=>exact .nil e k a
 |sl bl f hb hbb hBl h1 h2 h3 h4 h5 h6 _ ih=>
  exact .sl bl f hb hbb hBl (by grind) h2 h3 h4 h5 h6 (fun i j row c hi hj=>ih i j row c hi hj (fun x hx=>hw x (hBl.1 _ x hx)))
 |mp bl hb hbb hBl h1 h2 h3 _ ih=>
  exact .mp bl hb hbb hBl (by rw[hw _ hb];exact h1) h2 h3 (fun i p e hi he=>ih i p e hi he (fun x hx=>hw x (hBl.1 _ x hx)))
 |pt bl f hb hbb hBl h1 h2 hn hc h3 _ ih=>
  exact .pt bl f hb hbb hBl (by grind) h2 hn hc h3 (fun j c hj=>ih j c hj (fun x hx=>hw x (hBl.1 _ x hx)))
 |dx _ ih=>exact .dx (ih hw)
theorem CRel.drop{β:Locs}{w w':World}(hD:m D=some (.deferred x)){B:Nat->Prop}{c:V}{v:Value}(hw:∀x,B x->w'.heap[x]? = w.heap[x]?)(h:CRel m β w B c v):CRel (m.drop D) β w' B c v:=
 h.elim (fun h=>.inl (h.drop hD)) (fun h=>.inr (h.drop hD hw))
theorem ObOk.drop{ob:Ob}{β:Locs}{w w':World}(hD:m D=some (.deferred x))(hwD:w.heap[D]? = some (.deferred x)){B:Nat->Prop}(hB:ob≠.dead->¬B D)(hw:∀x,x≠D->w'.heap[x]? = w.heap[x]?){loc:Option (Option (Nat×Cap))}(h:ObOk m β w B loc ob):ObOk (m.drop D) β w' B loc ob:=by
 have hwB:ob≠.dead->∀x,B x->w'.heap[x]? = w.heap[x]?:=fun ho x hx=>hw x (fun e=>hB ho (e ▸ hx))
 match loc,ob,h with
 |none,.dead,_=>trivial
 |some none,.dead,_=>trivial
 |some (some _),.dead,_=>trivial
 |none,.res,_=>trivial
 |some none,.arr _ _ rows,h=>exact h
 |some (some (b,cap)),.arr e k rows,h=>
  obtain⟨arr,bl,h1,h2,h3,h4,h5,h6,h7⟩:=h
  have hb:b≠D:=fun e=>by grind
  refine⟨arr,bl,by grind,h2,h3,h4,h5,h6,fun i j row c hi hj=>?_⟩
  obtain⟨v,a1,a2,a3⟩:=h7 i j row c hi hj
  exact⟨v,a1,a2.drop hD (fun x hx=>hwB (by simp) x (h6.1 _ x hx)),a3⟩
 |some (some (b,_)),.map es,h=>
  obtain⟨ents,clock,bl,⟨E,h1,e2,e3⟩,h2,h6,h7⟩:=h
  have hb:b≠D:=fun e=>by grind
  refine⟨ents,clock,bl,⟨E,by grind,e2,e3⟩,h2,h6,fun i p e hi he=>?_⟩
  obtain⟨a1,a2⟩:=h7 i p e hi he
  exact⟨a1,a2.drop hD (fun x hx=>hwB (by simp) x (h6.1 _ x hx))⟩
 |some (some (b,cap)),.iter cur left,h=>
  obtain⟨bm,seen,E,clock,v,h0,h1,h2,h3,h4,h5,h6,h7⟩:=h
  have hb:b≠D:=fun e=>by grind
  have hb2:bm≠D:=fun e=>by grind
  exact⟨bm,seen,E,clock,v,h0,by grind,by simp_all[Mem.drop_ne],h3,h4,h5,fun i p e hi he=>⟨(h6 i p e hi he).1,(h6 i p e hi he).2.drop hD⟩,fun p hp=>let ⟨e,q1,q2,q3,q4⟩:=h7 p hp;⟨e,q1,q2,q3,q4.drop hD⟩⟩
 |some (some (b,cap)),.bld T e bs fr,h=>
  obtain⟨h0,hne,p,v,hf,h1,h2,h3⟩:=h
  have hb:b≠D:=fun e=>by grind
  refine⟨h0,hne,p,v,hf,by grind,h2,h3.imp id ?_⟩
  grind
end
section
variable{K:Ctx}{S:St}{β:Locs}
theorem Rel.close1{m:Mem}{w:World}{a:Act}{ds:List Deferred}{d:Deferred}(r:Rel K m β w a S)(hd:a.defers=d::ds):
  ∃D,d={ target:=.collected D,args:=#[] }/\(Instr.takeDeferred D).run K.P w=.ok [] (w.putObj D (.deferred none))/\Rel K (m.drop D) β (w.putObj D (.deferred none)) { a with defers:=ds } S:=by
 have hm:=r.df
 rw[hd] at hm
 obtain⟨D,e1,e2,e3,e4⟩:=hm.at' d (by simp)
 have hw:=r.imm _ _ e4
 have hne:∀x,x≠D->(w.putObj D (.deferred none)).heap[x]? = w.heap[x]?:=fun x hx=>World.putObj_heap_other hx
 have hh:∀id,hget S.hp id≠.dead->¬β.hid id D:=fun id hl hx=>by
  have:=(r.hid id D hl hx).m
  grind
 refine⟨D,e1,run_takeDeferred hw,?_⟩
 constructor
 ·intro b o h
  obtain⟨h1,h2⟩:=Mem.drop_some h
  rw[hne b h1];exact r.imm _ _ h2
 ·intro b o h
  have hb:b≠D:=fun e=>by grind
  rw[Mem.drop_ne hb];exact r.ext _ _ h
 ·intro b hb ho
  rw[Mem.drop_ne (by omega)];exact r.mold b hb ho
 ·intro b hb ho
  rw[hne b (by omega)];exact r.frame b hb ho
 ·grind [World.putObj_size]
 ·exact⟨r.same.os,r.same.tape,r.same.output,r.same.drawn⟩
 ·exact r.tn
 ·refine⟨fun d' hd'=>?_,(List.nodup_cons.1 hm.nd).2,fun h=>by have:=hm.em h;cases this⟩
  obtain⟨D',f1,f2,f3,f4⟩:=hm.at' d' (by simp[hd'])
  refine⟨D',f1,f2,f3,?_⟩
  rw[Mem.drop_ne]
  ·exact f4
  ·intro e
   apply (List.nodup_cons.1 hm.nd).1
   grind
 ·exact fun t=>(r.env t).drop e4
 ·exact fun id=>ObOk.drop e4 hw (hh id) hne (r.own id)
 ·intro id b cap hl hb
  obtain⟨p1,p2⟩:=r.priv id b cap hl hb<;>grind [Mem.drop_none]
 ·exact r.inj
 ·intro id x hl hx
  have q:=r.hid id x hl hx
  exact⟨by rw[World.putObj_size];exact q.lt,Mem.drop_none q.m,q.old,q.ne,q.un⟩
 ·exact r.nx
 ·exact r.pin
theorem Rel.leave{fn:Func}{tmps:Array Value}{R:Ending->World->Prop}:∀(l:List Deferred) (m:Mem) (w:World) (a:Act),a.defers=l->Rel K m β w a S->
  (∀m' w',Rel K m' β w' { a with defers:=[] } S->∃v,(results fn tmps).run K.P w'=.ok v w'/\R (.returned v) w')->LeavesInM Fence.wide 0 K.P fn tmps R l .returning w
 |[],m,w,a,hl,r,h=>by
  have:a={ a with defers:=[] }:=by cases a;simp at hl;subst hl;rfl
  rw[this] at r
  exact h m w r
 |d::ds,m,w,a,hl,r,h=>by
  obtain⟨D,e1,e2,e3⟩:=r.close1 hl
  refine⟨by simp,.inl ⟨D,_,by rw[e1],e2,?_⟩⟩
  exact Rel.leave ds _ _ { a with defers:=ds } rfl e3 (fun m' w' r'=>h m' w' r')
theorem calls_of_walk{P:Program}{f:FuncId}{fn:Func}{c:Code}{args:Array Value}{w:World}{R:Ending->World->Prop}(hf:P.funcs[f]? = some fn)(hb:fn.body=some c)
  (h:c.wpIn Fence.wide 0 P (fun e a w=>(e=.ret\/e=.normal)/\LeavesInM Fence.wide 0 P fn a.tmps R a.defers .returning w) { tmps:=args++Array.replicate (fn.ntmps - args.size) undef,defers:=[] } w):Calls P f args w R:=by
 refine callsIn_wide.1 (callsIn_of_wp_marks (n:=0) hf hb trivial (wpIn_mono h ?_))
 rintro e a w ⟨he,hl⟩
 rcases he with rfl|rfl
 ·exact hl
 ·exact hl
end
section
variable{K:Ctx}{Q:Post}{S:St}{ops:Array Oper}{rest:List Oper}{op:Op}{ty:TypeId}{pos:String}{after:Array Edge}{g:Option (Nat×Bool)}
theorem aops_runs{o:Oper}{S':St}(hw:Wants ops S o true)(h:Runs K o S S')(k:AOps K ops rest Q S'):AOps K ops (o::rest) Q S:=by
 intro m β w a r
 unfold wpListIn
 rw[if_pos (hw.at r)]
 obtain⟨v,w',m',β',h1,r'⟩:=h m β w a r
 rcases h1 with h1|⟨rfl,h1⟩
 ·refine op_in (.inr (nd_run h1 (fun d e=>by cases e))) ?_
  unfold Oper.wp
  rw[h1];exact k m' β' w' _ r'
 ·refine op_in (.inr (nd_run h1 (fun d e=>by cases e))) ?_
  unfold Oper.wp
  rw[h1];exact k m' β' w' _ r'
theorem aops_skip{o:Oper}{d:Nat}(hw:Wants ops S o false)(hd:o.dst=some d)(hN:Nat.blt d K.N=true)(k:AOps K ops rest Q (S.put d (.con undef))):
  AOps K ops (o::rest) Q S:=by
 intro m β w a r
 unfold wpListIn
 rw[if_neg (by rw[hw.at r];simp),hd]
 exact⟨fun _ _=>trivial,k m β w _ (r.put hN (.imm (.con _)))⟩
theorem aops_val{d:Nat}(dv:V)(hw:Wants ops S ⟨some d,op,ty,pos,after,g⟩ true)(hN:Nat.blt d K.N=true)
  (h:∀m β w a,Rel K m β w a S->∃v,(execOp a.eval ⟨some d,op,ty,pos,after,g⟩).run K.P w=.ok (.value v) w/\VRel m β dv v)
  (k:AOps K ops rest Q (S.put d dv)):AOps K ops (⟨some d,op,ty,pos,after,g⟩::rest) Q S:=
 aops_runs hw (fun m β w a r=>let ⟨v,h1,h2⟩:=h m β w a r;⟨v,w,m,β,.inl h1,r.put hN h2⟩) k
theorem wants_none{d:Option Nat}:Wants ops S ⟨d,op,ty,pos,after,none⟩ true:=rfl
theorem wants_some{d:Option Nat}{j:Nat}{want c b:Bool}(t:Nat)(ht:(ops[j]?).bind (·.dst)=some t)(hc:get S.env t=.con (.bool c))(hb:c=b):
  Wants ops S ⟨d,op,ty,pos,after,some (j,want)⟩ (b==want):=⟨t,ht,.inl ⟨c,hc,by rw[hb]⟩⟩
theorem aops_move{d:Nat}{x:Operand}(dv:V)(hw:Wants ops S ⟨some d,.move x,ty,pos,after,g⟩ true)(hx:evl K S x=dv)(hN:Nat.blt d K.N=true)
  (k:AOps K ops rest Q (S.put d dv)):AOps K ops (⟨some d,.move x,ty,pos,after,g⟩::rest) Q S:=
 aops_val dv hw hN (fun m β w a r=>⟨a.eval x,rfl,by rw[<-hx];exact r.reads x⟩) k
theorem aops_assign{d:Nat}{x:Operand}(dv:V)(hw:Wants ops S ⟨some d,.assign x,ty,pos,after,g⟩ true)(hx:evl K S x=dv)(hN:Nat.blt d K.N=true)
  (k:AOps K ops rest Q (S.put d dv)):AOps K ops (⟨some d,.assign x,ty,pos,after,g⟩::rest) Q S:=
 aops_val dv hw hN (fun m β w a r=>⟨a.eval x,rfl,by rw[<-hx];exact r.reads x⟩) k
theorem Rel.con{m:Mem}{β:Locs}{w:World}{a:Act}(r:Rel K m β w a S){x:Operand}{v:Value}(h:evl K S x=.con v):a.eval x=v:=by
 have:=r.reads x;rw[h] at this;exact this.of_con
theorem aops_pick{d:Nat}{c x y:Operand}(b:Bool){cb:Bool}(dv:V)(hw:Wants ops S ⟨some d,.pick c x y,ty,pos,after,g⟩ true)(hc:evl K S c=.con (.bool cb))(hb:cb=b)
  (hx:evl K S (if b then x else y)=dv) (hN:Nat.blt d K.N=true)
  (k:AOps K ops rest Q (S.put d dv)):AOps K ops (⟨some d,.pick c x y,ty,pos,after,g⟩::rest) Q S:=
 aops_val dv hw hN (fun m β w a r=>⟨a.eval (if b then x else y),by
  subst hb
  simp only[execOp,r.con hc,asBool]
  cases cb<;>rfl,by rw[<-hx];exact r.reads _⟩) k
def binS(op:BinOp):Value->Value->Option Value
 | .int k a,.int k' b=>
  match op with
  | .shl=>if b<0 then none else some (.int k (k.wrap (a*2 ^ (min b.toNat k.bits))))
  | .shr=>if b<0 then none else some (.int k (a.fdiv (2 ^ (min b.toNat k.bits))))
  | .add=>if k=k' then some (.int k (k.wrap (a+b))) else none
  | .sub=>if k=k' then some (.int k (k.wrap (a - b))) else none
  | .mul=>if k=k' then some (.int k (k.wrap (a*b))) else none
  | .quo=>if k=k'/\b≠0 then some (.int k (k.wrap (a.tdiv b))) else none
  | .rem=>if k=k'/\b≠0 then some (.int k (a.tmod b)) else none
  | .and=>if k=k' then some (.int k (k.wrap (BitVec.ofInt k.bits a &&& BitVec.ofInt k.bits b).toNat)) else none
  | .or=>if k=k' then some (.int k (k.wrap (BitVec.ofInt k.bits a ||| BitVec.ofInt k.bits b).toNat)) else none
  | .xor=>if k=k' then some (.int k (k.wrap (BitVec.ofInt k.bits a ^^^ BitVec.ofInt k.bits b).toNat)) else none
  | .andNot=>if k=k' then some (.int k (k.wrap (BitVec.ofInt k.bits a &&& ~~~BitVec.ofInt k.bits b).toNat)) else none
  | .eql=>if k=k' then some (.bool (a==b)) else none
  | .neq=>if k=k' then some (.bool (a != b)) else none
  | .lss=>if k=k' then some (.bool (decide (a<b))) else none
  | .leq=>if k=k' then some (.bool (decide (a<=b))) else none
  | .gtr=>if k=k' then some (.bool (decide (a>b))) else none
  | .geq=>if k=k' then some (.bool (decide (a>=b))) else none
 |_,_=>none
theorem run_binS{P:Program}{w:World}{op:BinOp}{T:TypeId}{x y:Operand}{a b v:Value}(h:binS op a b=some v):
  (do eqGuard op T x y a b;binOp op T a b:Sem Value).run P w=.ok v w:=by
 unfold binS at h
 split at h
 ·rename_i k a k' b
  have hg:(eqGuard op T x y (.int k a) (.int k' b)).run P w=.ok () w:=by
   unfold eqGuard;cases op<;>simp[pure]
  rw[Sem.run_bind,hg,Result.andThen_ok]
  cases op<;>simp only[binOp,Op.shift,Op.intArith,Op.intDiv,Op.intBits,Op.intCmp] at h ⊢
  all_goals first|(simp at h;done)|skip
  all_goals (split at h<;>simp only[aq8,reduceCtorEq] at h)
  all_goals subst h
  all_goals first
   |(rename_i hk;obtain⟨rfl,hb⟩:=hk;simp[hb,pure];done)
   |(rename_i hk;subst hk;simp[pure];done)
   |(rename_i hk;simp[hk,pure];done)
 ·simp at h
theorem run_value{P:Program}{w:World}{s:Sem Value}{v:Value}(h:s.run P w=.ok v w):(do pure (Next.value (<-s)):Sem Next).run P w=.ok (.value v) w:=by
 simp_all
theorem aops_bin{d:Nat}{bop:BinOp}{x y:Operand}{T T':TypeId}{vx vy:Value}(v:Value)(hw:Wants ops S ⟨some d,.binOp bop T x y T',ty,pos,after,g⟩ true)
  (hx:evl K S x=.con vx) (hy:evl K S y=.con vy) (hv:binS bop vx vy=some v) (hN:Nat.blt d K.N=true)
  (k:AOps K ops rest Q (S.put d (.con v))):AOps K ops (⟨some d,.binOp bop T x y T',ty,pos,after,g⟩::rest) Q S:=
 aops_val (.con v) hw hN (fun m β w a r=>⟨v,by
  simp only[execOp,r.con hx,r.con hy]
  exact run_value (run_binS hv),.imm (.con v)⟩) k
theorem aops_beq{d:Nat}{x y:Operand}{T T':TypeId}{a b:Bool}(neg:Bool)(hw:Wants ops S ⟨some d,.binOp (if neg then .neq else .eql) T x y T',ty,pos,after,g⟩ true)
  (hT:K.P.underlying T=some .bool)
  (hx:evl K S x=.con (.bool a)) (hy:evl K S y=.con (.bool b)) (hN:Nat.blt d K.N=true)
  (k:AOps K ops rest Q (S.put d (.con (.bool (if neg then a != b else a==b))))):AOps K ops (⟨some d,.binOp (if neg then .neq else .eql) T x y T',ty,pos,after,g⟩::rest) Q S:=
 aops_val _ hw hN (fun m β w a' r=>⟨_,by
  simp only[execOp,r.con hx,r.con hy]
  refine run_value (v:=.bool (if neg then a != b else a==b)) ?_
  have he:∀(op:BinOp),(eqGuard op T x y (.bool a) (.bool b)).run K.P w=.ok () w:=by
   intro op;unfold eqGuard;simp_all
  have hq:(Op.equal T (.bool a) (.bool b)).run K.P w=.ok (a==b) w:=by
   have hd:Op.maxDepth=9999+1:=rfl
   rw[Op.equal,hd,Op.equalIn]
   simp only[Sem.run_bind,run_underlying hT,Result.andThen_ok];rfl
  rw[Sem.run_bind,he,Result.andThen_ok]
  cases neg
  ·simp_all[binOp]
  ·simp only[if_true,binOp,Sem.run_bind,hq,Result.andThen_ok];rfl,.imm (.con _)⟩) k
theorem aops_not{d:Nat}{x:Operand}{T:TypeId}{b:Bool}(hw:Wants ops S ⟨some d,.unOp .not T x,ty,pos,after,g⟩ true)
  (hx:evl K S x=.con (.bool b)) (hN:Nat.blt d K.N=true)
  (k:AOps K ops rest Q (S.put d (.con (.bool (!b))))):AOps K ops (⟨some d,.unOp .not T x,ty,pos,after,g⟩::rest) Q S:=
 aops_val _ hw hN (fun m β w a r=>⟨_,by simp only[execOp,r.con hx];simp_all[Op.unary],.imm (.con _)⟩) k
theorem aops_neg{d:Nat}{x:Operand}{T:TypeId}{k:IntKind}{n:Int}(hw:Wants ops S ⟨some d,.unOp .neg T x,ty,pos,after,g⟩ true)
  (hx:evl K S x=.con (.int k n)) (hN:Nat.blt d K.N=true)
  (kk:AOps K ops rest Q (S.put d (.con (.int k (k.wrap (0 - n)))))):AOps K ops (⟨some d,.unOp .neg T x,ty,pos,after,g⟩::rest) Q S:=
 aops_val _ hw hN (fun m β w a r=>⟨_,by simp only[execOp,r.con hx];simp_all[Op.unary,Op.intArith],.imm (.con _)⟩) kk
theorem aops_extract{d:Nat}{x:Operand}{i:Nat}{vs:List V}(dv:V)(hw:Wants ops S ⟨some d,.extract x i,ty,pos,after,g⟩ true)
  (hx:evl K S x=.tup vs) (hi:vs[i]? = some dv) (hN:Nat.blt d K.N=true)
  (k:AOps K ops rest Q (S.put d dv)):AOps K ops (⟨some d,.extract x i,ty,pos,after,g⟩::rest) Q S:=
 aops_val dv hw hN (fun m β w a r=>by
  have h:=r.reads x
  rw[hx] at h
  generalize hex:a.eval x=ex at h
  have key:∃us:Array Value,ex=.tuple us/\vs.length=us.size/\∀v,us[i]? = some v->VRel m β dv v:=by
   cases h with
   |imm h=>cases h with|tup hl h=>exact⟨_,rfl,hl,fun v hv=>.imm (h i dv v hi hv)⟩
   |tup hl h=>grind
  obtain⟨us,h1,h2,h3⟩:=key
  have hlt:i<us.size:=by rw[<-h2];exact(aw8.1 hi).1
  simp_all[execOp,Instr.extract]) k
def tyA(P:Program)(T:TypeId)(k:Nat):Bool:=
 (match P.underlying T with|some (.struct _)|some (.array _ _)=>true|_=>false)&&(match P.info? T with|some i=>i.size==k|none=>false)
def tyC(P:Program)(T:TypeId):Bool:=
 (match P.underlying T with|some (.struct _)|some (.array _ _)=>false|some _=>true|none=>false)&&(match P.info? T with|some i=>i.size==1|none=>false)
def tyF(P:Program)(T:TypeId)(f off:Nat):Bool:=
 match P.underlying T with
 |some (.struct fs)=>(match fs[f]? with|some x=>x.offset==off&&(match P.info? x.type with|some i=>i.size != 0|none=>false)|none=>false)
 |_=>false
def tyArrA(P:Program)(T n k e:Nat):Bool:=match P.underlying T with|some (.array l e')=>l==n&&e'==e&&tyA P e k|_=>false
theorem tyArrA_inv{P:Program}{T n k e:Nat}(h:tyArrA P T n k e=true):P.underlying T=some (.array n e)/\tyA P e k=true:=by
 unfold tyArrA at h
 grind
def tyArrC(P:Program)(T n e:Nat):Bool:=match P.underlying T with|some (.array l e')=>l==n&&e'==e&&tyC P e|_=>false
theorem tyArrC_inv{P:Program}{T n e:Nat}(h:tyArrC P T n e=true):P.underlying T=some (.array n e)/\tyC P e=true:=by
 unfold tyArrC at h
 grind
theorem tyA_run{P:Program}{T k}(h:tyA P T k=true)(w:World):(isAgg T).run P w=.ok true w/\(sizeOf T).run P w=.ok k w:=by
 unfold tyA at h
 simp only[al9] at h
 obtain⟨h1,h2⟩:=h
 constructor
 ·cases hu:P.underlying T with
  |none=>grind
  |some d=>
   rw[hu] at h1
   cases d<;>simp at h1
   all_goals simp_all[isAgg,run_underlying]
 grind [run_sizeOf,Program.cellsOf]
theorem tyC_run{P:Program}{T}(h:tyC P T=true)(w:World):(isAgg T).run P w=.ok false w/\(sizeOf T).run P w=.ok 1 w:=by
 unfold tyC at h
 simp only[al9] at h
 obtain⟨h1,h2⟩:=h
 constructor
 ·cases hu:P.underlying T with
  |none=>grind
  |some d=>
   rw[hu] at h1
   cases d<;>simp at h1
   all_goals simp_all[isAgg,run_underlying]
 grind [run_sizeOf,Program.cellsOf]
theorem add_spot{b o n:Nat}:(⟨b,o,none⟩:Addr).add n=⟨b,o+n,none⟩:=by
 simp_all[Addr.add]
theorem tyF_run{P:Program}{T f off:Nat}(h:tyF P T f off=true)(w:World)(b o:Nat):
  (Instr.fieldAt T (.pointer (some ⟨b,o,none⟩)) f).run P w=.ok (.pointer (some ⟨b,o+off,none⟩)) w:=by
 unfold tyF at h
 cases hu:P.underlying T with
 |none=>grind
 |some d=>
  rw[hu] at h
  cases d<;>simp only[by9] at h
  rename_i fs
  cases hf:fs[f]? with
  |none=>grind
  |some x=>
   rw[hf] at h
   simp only[al9] at h
   obtain⟨h1,h2⟩:=h
   cases hi:P.info? x.type<;>simp_all[fieldPlace,run_sizeOf,Program.cellsOf,add_spot,Instr.fieldAt,run_underlying,Instr.sureAddr]
end
end Go.Pv
