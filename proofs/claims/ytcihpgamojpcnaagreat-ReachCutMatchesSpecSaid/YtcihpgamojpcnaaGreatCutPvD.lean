/- Part of the proof: A, B, C, D. -/
import Derived.WalkKit
import Derived.Scope
import Derived.Laws.AppendOwn
import Derived.Laws.IdiomRangeMap
set_option linter.unusedSimpArgs false
namespace Go.Pv
open Go
abbrev B8:=List UInt8
set_option linter.defProp false
def aa9:=@List.nodup_cons
def aa8:=@List.append_nil
def ab9:=@List.filter_cons
def ab8:=@List.length_filter_le
def ac9:=@List.mem_flatMap
def ac8:=@List.nil_append
def ad9:=@List.idxOf_append
def ad8:=@Option.map_eq_some_iff
def ae9:=@Option.isSome_iff_exists
def ae8:=@Nat.le_refl
def af9:=@List.find?_eq_none
def af8:=@List.filter_congr
def ag9:=@List.length_eraseIdx
def ag8:=@Array.getElem?_toList
def ah9:=@List.mem_of_mem_drop
def ah8:=@Nat.add_assoc
def ai9:=@List.append_inj
def ai8:=@List.cons.inj
def aj9:=@List.all_cons
def aj8:=@Bool.true_and
def ak9:=@Option.some.inj
def ak8:=@List.map_replicate
def al9:=@List.length_replicate
def al8:=@Nat.zero_le
def am9:=@Nat.le_of_eq
def am8:=@Nat.beq_refl
def an9:=@Option.map_none
def an8:=@Nat.ne_of_lt
def ao9:=@Nat.lt_succ_self
def ao8:=@Nat.le_succ
def ap9:=@List.drop_eq_nil_of_le
def ap8:=@Nat.add_mul
def aq9:=@List.length_drop
def aq8:=@List.mem_or_eq_of_mem_set
def ar9:=@List.length_set
def ar8:=@Nat.lt_trichotomy
def as9:=@Nat.one_mul
def as8:=@Nat.eq_zero_or_pos
def at9:=@Nat.mod_lt
def at8:=@Nat.mul_comm
def au9:=@Nat.div_add_mod
def au8:=@List.mem_iff_getElem?
def av9:=@List.map_nil
def av8:=@Bool.and_eq_true
def aw9:=@List.all_eq_true
def aw8:=@Bool.not_eq_true'
def ax9:=@Bool.or_eq_true
def ax8:=@List.mem_cons
def ay9:=@Array.ext'
def ay8:=@List.ext_getElem?
def az9:=@List.getElem?_append_left
def az8:=@List.getElem?_append_right
def ba9:=@Nat.le_of_not_lt
def ba8:=@List.getElem?_drop
def bb9:=@List.getElem?_eq_none
def bb8:=@List.pairwise_iff_getElem
def bc9:=@Array.getElem?_append_left
def bc8:=@Option.some.injEq
def bd9:=@Nat.le_of_ble_eq_true
def bd8:=@List.mem_of_getElem?
def be9:=@List.length_eq_zero_iff
def be8:=@List.getElem?_eq_getElem
def bf9:=@List.getElem?_map
def bf8:=@List.getElem?_range
def bg9:=@Option.map_some
def bg8:=@Array.getElem?_eq_some_iff
def bh9:=@Array.getElem?_eq_getElem
def bh8:=@List.getElem_mem
def bi9:=@List.getElem?_of_mem
def bi8:=@List.getElem?_eq_some_iff
def bj9:=@Nat.div_lt_of_lt_mul
def bj8:=@Nat.le_add_right
def bk9:=@List.mem_map
def bk8:=@Nat.mul_le_mul_right
def bl9:=@Nat.succ_mul
def bl8:=@Nat.add_zero
def bm9:=@Array.getElem?_mapIdx
def bm8:=@Nat.add_sub_cancel_left
def bn9:=@Array.toList_map
def bn8:=@Array.all_eq_true
def bo9:=@Array.ext_getElem?
def bo8:=@List.getElem?_toArray
def bp9:=@List.getElem?_take
def bp8:=@List.length_append
def bq9:=@Array.getElem?_eq_none
def bq8:=@Int.toNat_natCast
def br9:=@List.length_map
def br8:=@List.getElem_of_mem
def bs9:=@List.length_take
def bs8:=@Array.length_toList
def bt9:=@List.getElem?_replicate
def bt8:=@List.getElem?_set
def bu9:=@List.getElem?_mapIdx
def bu8:=@List.getElem?_set_self
def bv9:=@Nat.mul_one
def bv8:=@List.map_toArray
def bw9:=@List.map_cons
def bw8:=@Array.getD_eq_getD_getElem?
def bx9:=@List.mem_singleton
def bx8:=@List.size_toArray
def by9:=@List.getElem?_cons_zero
def by8:=@Array.getElem?_modify
def bz9:=@Array.getElem?_push
def bz8:=@Array.getElem?_setIfInBounds
def ca9:=@Array.toList_push
def ca8:=@Array.toList_modify
def cb9:=@List.length_nil
def cb8:=@Nat.lt_or_ge
def cc9:=@Array.size_setIfInBounds
def cc8:=@List.getElem?_cons_succ
def cd9:=@List.nodup_range
def cd8:=@List.getElem?_set_ne
def ce9:=@List.getElem?_append
def ce8:=@List.getElem_cons_zero
def cf9:=@List.pairwise_cons
def cf8:=@List.pairwise_append
def cg9:=@List.Pairwise.imp_of_mem
def cg8:=@List.getElem_map
def ch9:=@List.drop_eq_getElem_cons
def ch8:=@List.find?_cons
def ci9:=@Bool.not_true
def ci8:=@List.pairwise_map
def cj9:=@Nat.le_trans
def cj8:=@List.length_cons
def ck9:=@Option.getD_some
def ck8:=@List.Nodup.length_le_of_subset
def cl9:=@List.mem_cons_of_mem
def cl8:=@Option.bind_some
def cm9:=@List.mem_filter
def cm8:=@List.mem_append
def cn9:=@List.nodup_append
def cn8:=@List.idxOf_lt_length_of_mem
def co9:=@List.cons.injEq
def co8:=@Array.getElem?_map
def cp9:=@Array.size_append
def cp8:=@Array.getElem?_append
def cq9:=@Option.getD_none
def cq8:=@Nat.le_mul_of_pos_right
def cr9:=@Nat.zero_add
def cr8:=@List.mem_cons_self
def cs9:=@List.any_eq_true
def cs8:=@Bool.false_or
def ct9:=@Array.getElem?_replicate
def ct8:=@List.all_append
def cu9:=@List.drop_one
def cu8:=@List.tail_cons
def cv9:=@List.mem_filterMap
def cv8:=@List.pairwise_mergeSort
def cw9:=@List.mem_append_left
def cw8:=@Option.elim_some
def cx9:=@Nat.eq_of_beq_eq_true
def cx8:=@Bool.and_eq_true_iff
def cy9:=@Nat.ble_eq_true_of_le
def cy8:=@Bool.false_eq_true
def cz9:=@List.forall_mem_cons
def cz8:=@Nat.lt_of_lt_of_le
def da9:=@Nat.ne_of_beq_eq_false
def da8:=@List.mem_range
def db9:=@Int.le_refl
def db8:=@List.getD_eq_getElem?_getD
def dc9:=@List.map_append
inductive V where
 |any
 |con (v:Value)
 |agg (cs:List V)
 |tup (cs:List V)
 |lst (k:Nat) (rows:List (List V))
 |iptr (row:List V) (off:Nat)
 |imap (es:List (Value×V))
 |fn (f:Fn) (first captured:List V)
 |ptr (id k i off:Nat)
 |own (id n:Nat)
 |map (id:Nat)
 |adr (id:Nat)
 |dsl (e k:Nat) (rows:List (List V))
 |dmp (es:List (Value×V))
 |dpt (e:Nat) (row:List V)
 |ifc (T:Nat) (d:V)
 |plc (v0:Value) (d:V)
abbrev V.dsx(v0:Value)(e k:Nat)(rows:List (List V)):V:=.plc v0 (.dsl e k rows)
def V.deep:V->Bool
 | .dsl _ _ _=>true
 | .dmp _=>true
 | .dpt _ _=>true
 | .plc _ _=>true
 |_=>false
abbrev Mem:=Nat->Option Obj
structure MWf(E:Array MapEntry)(clock:Nat):Prop where
 born:(E.toList.map (·.born)).Nodup
 lt:∀e,e∈E.toList->e.born<clock
 key:(E.toList.map (·.key)).Nodup
def j4n(o:Option Obj)(v:Array MapEntry)(clock:Nat):Prop:=∃E,o=some (.map E clock)/\v.toList.Perm E.toList/\MWf E clock
theorem j4n.mono{o o':Option Obj}{v:Array MapEntry}{clock:Nat}(h:∀x,o=some x->o'=some x)(q:j4n o v clock):j4n o' v clock:=
 let ⟨E,h1,h2,h3⟩:=q;⟨E,h _ h1,h2,h3⟩
theorem j4n.some{o:Option Obj}{v:Array MapEntry}{clock:Nat}(q:j4n o v clock):∃x,o=some x:=let ⟨_,h,_⟩:=q;⟨_,h⟩
inductive q2p(m:Mem):V->Value->Prop
 |any (v:Value):q2p m .any v
 |con (v:Value):q2p m (.con v) v
 |agg {cs:List V} {vs:Array Value} (hl:cs.length=vs.size)
   (h:∀(i:Nat) (c:V) (v:Value),cs[i]? = some c->vs[i]? = some v->q2p m c v):q2p m (.agg cs) (.agg vs)
 |tup {cs:List V} {vs:Array Value} (hl:cs.length=vs.size)
   (h:∀(i:Nat) (c:V) (v:Value),cs[i]? = some c->vs[i]? = some v->q2p m c v):q2p m (.tup cs) (.tuple vs)
 |nil (k:Nat) (a:Option Addr) (cap:Nat):q2p m (.lst k []) (.slice a 0 cap)
 |lst {k:Nat} {rows:List (List V)} {a:Addr} {n cap:Nat} {arr:Array Value} {T:TypeId} {fr:Nat×Nat} (f:Nat->Value)
   (hm:m a.block=some (.cells arr T fr)) (hs:a.spot=none) (hn:rows.length=n) (hcap:n<=cap) (hbd:n<=maxLen)
   (hk:∀row,row∈rows->row.length=k)
   (hf:∀i,i<rows.length*k->arr[a.off+i]? = some (f i))
   (h:∀(i j:Nat) (row:List V) (c:V),rows[i]? = some row->row[j]? = some c->q2p m c (f (i*k+j))):
   q2p m (.lst k rows) (.slice (some a) n cap)
 |iptr {row:List V} {off:Nat} {a:Addr} {arr:Array Value} {T:TypeId} {fr:Nat×Nat} (f:Nat->Value)
   (base:Nat) (hm:m a.block=some (.cells arr T fr)) (hs:a.spot=none) (ho:a.off=base+off)
   (hf:∀i,i<row.length->arr[base+i]? = some (f i))
   (h:∀(j:Nat) (c:V),row[j]? = some c->q2p m c (f j)):q2p m (.iptr row off) (.pointer (some a))
 |imap {es:List (Value×V)} {b:Nat} {ents:Array MapEntry} {clock:Nat}
   (hm:j4n (m b) ents clock) (hl:es.length=ents.size)
   (hk:∀(i:Nat) (p:Value×V) (e:MapEntry),es[i]? = some p->ents[i]? = some e->e.key=p.1)
   (h:∀(i:Nat) (p:Value×V) (e:MapEntry),es[i]? = some p->ents[i]? = some e->q2p m p.2 e.val):
   q2p m (.imap es) (.map (some b))
 |fn {f:Fn} {first captured:List V} {fs cs:Array Value} (hl:first.length=fs.size) (hl':captured.length=cs.size)
   (h:∀(i:Nat) (c:V) (v:Value),first[i]? = some c->fs[i]? = some v->q2p m c v)
   (h':∀(i:Nat) (c:V) (v:Value),captured[i]? = some c->cs[i]? = some v->q2p m c v):
   q2p m (.fn f first captured) (.func f fs cs)
 |ifc {T:Nat} {d:V} {v:Value} (h:q2p m d v):q2p m (.ifc T d) (.iface T v)
def Mem.le(m m':Mem):Prop:=∀b o,m b=some o->m' b=some o
theorem Mem.le_refl(m:Mem):m.le m:=fun _ _ h=>h
theorem Mem.le_trans{a b c:Mem}(h:a.le b)(h':b.le c):a.le c:=fun _ _ x=>h' _ _ (h _ _ x)
theorem q2p.mono{m m':Mem}(hm:m.le m'){d:V}{v:Value}(h:q2p m d v):q2p m' d v:=by
 induction h with
 |any v=>exact .any v
 |con v=>exact .con v
 |agg hl _ ih=>exact .agg hl ih
 |tup hl _ ih=>exact .tup hl ih
 |nil k a c=>exact .nil k a c
 |lst f h1 h2 h3 h4 h4b h5 h6 _ ih=>exact .lst f (hm _ _ h1) h2 h3 h4 h4b h5 h6 ih
 |iptr f b h1 h2 h3 h4 _ ih=>exact .iptr f b (hm _ _ h1) h2 h3 h4 ih
 |imap h1 h2 h3 _ ih=>exact .imap (h1.mono (hm _)) h2 h3 ih
 |fn h1 h2 _ _ i1 i2=>exact .fn h1 h2 i1 i2
 |ifc _ ih=>exact .ifc ih
structure Cap where
 n:Nat
 off:Nat
structure q4m where
 f:Nat->Option (Option (Nat×Cap))
 hid:Nat->Nat->Prop
instance:CoeFun q4m (fun _=>Nat->Option (Option (Nat×Cap))):=⟨q4m.f⟩
def q4m.le(β β':q4m):Prop:=∀i l,β i=some l->β' i=some l
theorem q4m.le_refl(β:q4m):β.le β:=fun _ _ h=>h
inductive q8n(m:Mem)(β:q4m):V->Value->Prop
 |imm {d:V} {v:Value} (h:q2p m d v):q8n m β d v
 |agg {cs:List V} {vs:Array Value} (hl:cs.length=vs.size)
   (h:∀(i:Nat) (c:V) (v:Value),cs[i]? = some c->vs[i]? = some v->q8n m β c v):q8n m β (.agg cs) (.agg vs)
 |tup {cs:List V} {vs:Array Value} (hl:cs.length=vs.size)
   (h:∀(i:Nat) (c:V) (v:Value),cs[i]? = some c->vs[i]? = some v->q8n m β c v):q8n m β (.tup cs) (.tuple vs)
 |fn {f:Fn} {first captured:List V} {fs cs:Array Value} (hl:first.length=fs.size) (hl':captured.length=cs.size)
   (h:∀(i:Nat) (c:V) (v:Value),first[i]? = some c->fs[i]? = some v->q8n m β c v)
   (h':∀(i:Nat) (c:V) (v:Value),captured[i]? = some c->cs[i]? = some v->q8n m β c v):
   q8n m β (.fn f first captured) (.func f fs cs)
 |ptr {id k i off b:Nat} {cap:Cap} (h:β id=some (some (b,cap))):q8n m β (.ptr id k i off) (.pointer (some ⟨b,cap.off+(i*k+off),none⟩))
 |ownNil {id:Nat} {ad:Option Addr} (h:β id=some none):q8n m β (.own id 0) (.slice ad 0 0)
 |own {id n b:Nat} {cap:Cap} (h:β id=some (some (b,cap))):q8n m β (.own id n) (.slice (some ⟨b,cap.off,none⟩) n cap.n)
 |map {id b:Nat} {cap:Cap} (h:β id=some (some (b,cap))):q8n m β (.map id) (.map (some b))
 |adrNil {id:Nat}:q8n m β (.adr id) (.pointer none)
 |adr {id b:Nat} {cap:Cap} (h:β id=some (some (b,cap))):q8n m β (.adr id) (.pointer (some ⟨b,cap.off,none⟩))
theorem q8n.mono{m m':Mem}{β β':q4m}(hm:m.le m')(hb:β.le β'){d:V}{v:Value}(h:q8n m β d v):q8n m' β' d v:=by
 induction h with
 |imm h=>exact .imm (h.mono hm)
 |agg hl _ ih=>exact .agg hl ih
 |tup hl _ ih=>exact .tup hl ih
 |fn h1 h2 _ _ i1 i2=>exact .fn h1 h2 i1 i2
 |ptr h=>exact .ptr (hb _ _ h)
 |ownNil h=>exact .ownNil (hb _ _ h)
 |own h=>exact .own (hb _ _ h)
 |map h=>exact .map (hb _ _ h)
 |adrNil=>exact .adrNil
 |adr h=>exact .adr (hb _ _ h)
def Bls(B:Nat->Prop)(bl:Nat->Nat->Prop):Prop:=(∀p x,bl p x->B x)/\∀p q x,bl p x->bl q x->p=q
inductive z9m(m:Mem)(w:World):(Nat->Prop)->V->Value->Prop
 |imm {B:Nat->Prop} {c:V} {v:Value} (h:q2p m c v):z9m m w B c v
 |nil {B:Nat->Prop} (e k:Nat) (a:Option Addr):z9m m w B (.dsl e k []) (.slice a 0 0)
 |sl {B:Nat->Prop} {k b cap off:Nat} {e:TypeId} {rows:List (List V)} {arr:Array Value} (bl:Nat->Nat->Prop) (f:Nat->Value) (hb:B b) (hbb:∀p,¬bl p b) (hB:Bls B bl)
   (hw:w.heap[b]? = some (.cells arr e (0,0))) (hs:arr.size=off+cap*k) (hr:rows.length<=cap) (hcap:cap<=maxLen) (hk:∀row,row∈rows->row.length=k)
   (hf:∀(i j:Nat) (row:List V) (c:V),rows[i]? = some row->row[j]? = some c->arr[off+(i*k+j)]? = some (f (i*k+j))/\(f (i*k+j)).oneCell'=true)
   (h:∀(i j:Nat) (row:List V) (c:V),rows[i]? = some row->row[j]? = some c->z9m m w (bl (i*k+j)) c (f (i*k+j))):
   z9m m w B (.dsl e k rows) (.slice (some ⟨b,off,none⟩) rows.length cap)
 |mp {B:Nat->Prop} {b:Nat} {es:List (Value×V)} {ents:Array MapEntry} {clock:Nat} (bl:Nat->Nat->Prop) (hb:B b) (hbb:∀p,¬bl p b) (hB:Bls B bl)
   (hw:j4n (w.heap[b]?) ents clock) (hl:es.length=ents.size)
   (hk:∀(i:Nat) (p:Value×V) (e:MapEntry),es[i]? = some p->ents[i]? = some e->e.key=p.1)
   (h:∀(i:Nat) (p:Value×V) (e:MapEntry),es[i]? = some p->ents[i]? = some e->z9m m w (bl i) p.2 e.val):z9m m w B (.dmp es) (.map (some b))
 |pt {B:Nat->Prop} {b:Nat} {row:List V} {T:TypeId} {arr:Array Value} (bl:Nat->Nat->Prop) (f:Nat->Value) (hb:B b) (hbb:∀p,¬bl p b) (hB:Bls B bl)
   (hw:w.heap[b]? = some (.cells arr T (0,0))) (hs:arr.size=row.length)
   (hf:∀(j:Nat) (c:V),row[j]? = some c->arr[j]? = some (f j)/\(f j).oneCell'=true)
   (h:∀(j:Nat) (c:V),row[j]? = some c->z9m m w (bl j) c (f j)):z9m m w B (.dpt T row) (.pointer (some ⟨b,0,none⟩))
 |dx {B:Nat->Prop} {d:V} {v:Value} (h:z9m m w B d v):z9m m w B (.plc v d) v
theorem z9m.mono{m m':Mem}{w w':World}{B B':Nat->Prop}{c:V}{v:Value}(hm:m.le m')(hB:∀x,B x->B' x)(hw:∀x,B x->w'.heap[x]? = w.heap[x]?)(h:z9m m w B c v):z9m m' w' B' c v:=by
 induction h generalizing B' with
 |imm h=>exact .imm (h.mono hm)
 |nil e k a=>exact .nil e k a
 |sl bl f hb hbb hBl h1 h2 h3 h4 h5 h6 _ ih=>
  exact .sl bl f (hB _ hb) hbb ⟨fun p x hx=>hB _ (hBl.1 p x hx),hBl.2⟩ (by rw[hw _ hb];exact h1) h2 h3 h4 h5 h6 (fun i j row c hi hj=>ih i j row c hi hj (fun _ hx=>hx) (fun x hx=>hw x (hBl.1 _ x hx)))
 |mp bl hb hbb hBl h1 h2 h3 _ ih=>
  exact .mp bl (hB _ hb) hbb ⟨fun p x hx=>hB _ (hBl.1 p x hx),hBl.2⟩ (by rw[hw _ hb];exact h1) h2 h3 (fun i p e hi he=>ih i p e hi he (fun _ hx=>hx) (fun x hx=>hw x (hBl.1 _ x hx)))
 |pt bl f hb hbb hBl h1 h2 h3 _ ih=>
  exact .pt bl f (hB _ hb) hbb ⟨fun p x hx=>hB _ (hBl.1 p x hx),hBl.2⟩ (by rw[hw _ hb];exact h1) h2 h3 (fun j c hj=>ih j c hj (fun _ hx=>hx) (fun x hx=>hw x (hBl.1 _ x hx)))
 |dx _ ih=>exact .dx (ih hB hw)
def z1z(m:Mem)(β:q4m)(w:World)(B:Nat->Prop)(c:V)(v:Value):Prop:=q8n m β c v\/z9m m w B c v
theorem z1z.v{m:Mem}{β:q4m}{w:World}{B:Nat->Prop}{c:V}{v:Value}(h:z1z m β w B c v)(hd:c.deep=false):q8n m β c v:=by
 rcases h with h|h
 ·exact h
 ·cases h with
  |imm h=>exact .imm h
  |_=>simp[V.deep] at hd
theorem z1z.mono{m m':Mem}{β β':q4m}{w w':World}{B B':Nat->Prop}{c:V}{v:Value}(hm:m.le m')(hb:β.le β')(hB:∀x,B x->B' x)(hw:∀x,B x->w'.heap[x]? = w.heap[x]?)(h:z1z m β w B c v):z1z m' β' w' B' c v:=
 h.elim (fun h=>.inl (h.mono hm hb)) (fun h=>.inr (h.mono hm hB hw))
inductive Ob where
 |arr (e:TypeId) (k:Nat) (rows:List (List V))
 |map (es:List (Value×V))
 |iter (cur left:List (Value×V))
 |bld (T e:TypeId) (bs:B8) (fr:Bool:=false)
 |res
 |dead
abbrev Env:=List (Nat×V)
abbrev q0m:=List (Nat×Ob)
def get:Env->Nat->V
 |[],_=>.any
 |(k,v)::e,t=>bif Nat.beq k t then v else get e t
def q1e:q0m->Nat->Ob
 |[],_=>.dead
 |(k,v)::e,t=>bif Nat.beq k t then v else q1e e t
theorem q9u(e:Env)(d:Nat)(v:V)(t:Nat):get ((d,v)::e) t=if d=t then v else get e t:=by
 simp only[get];by_cases h:d=t
 ·subst h;simp
 ·have:Nat.beq d t=false:=by cases hb:Nat.beq d t;rfl;exact absurd (cx9 hb) h
  simp[this,h]
theorem q5d(e:q0m)(d:Nat)(v:Ob)(t:Nat):q1e ((d,v)::e) t=if d=t then v else q1e e t:=by
 simp only[q1e];by_cases h:d=t
 ·subst h;simp
 ·have:Nat.beq d t=false:=by cases hb:Nat.beq d t;rfl;exact absurd (cx9 hb) h
  simp[this,h]
def q4l(m:Mem)(β:q4m)(w:World)(B:Nat->Prop):Option (Option (Nat×Cap))->Ob->Prop
 |_,.dead=>True
 |none,.res=>True
 |some none,.arr _ _ rows=>rows=[]
 |some (some (b,cap)),.arr e k rows=>∃arr bl,w.heap[b]? = some (.cells arr e (0,0))/\arr.size=cap.off+cap.n*k/\rows.length<=cap.n/\cap.n<=maxLen/\
   (∀row,row∈rows->row.length=k)/\Bls B bl/\
   ∀(i j:Nat) (row:List V) (c:V),rows[i]? = some row->row[j]? = some c->∃v,arr[cap.off+(i*k+j)]? = some v/\z1z m β w (bl (i*k+j)) c v/\v.oneCell'=true
 |some (some (b,_)),.map es=>∃ents clock bl,j4n (w.heap[b]?) ents clock/\es.length=ents.size/\Bls B bl/\
   (∀(i:Nat) (p:Value×V) (e:MapEntry),es[i]? = some p->ents[i]? = some e->e.key=p.1/\z1z m β w (bl i) p.2 e.val)
 |some (some (b,cap)),.iter cur left=>∃bm seen E clock v,cap.off=0/\w.heap[b]? = some (.mapIter (some bm) clock seen clock)/\m bm=some (.map E clock)/\MWf E clock/\
   List.Perm v (leftOf E seen).toList/\left.length=v.length/\
   (∀(i:Nat) (p:Value×V) (e:MapEntry),left[i]? = some p->v[i]? = some e->e.key=p.1/\q2p m p.2 e.val)/\
   ∀p,p∈cur->∃e,e∈E.toList/\seen.back? = some e.born/\e.key=p.1/\q2p m p.2 e.val
 |some (some (b,cap)),.bld T e bs fr=>cap.off=0/\T≠e/\∃p v,(fr=true->p=.pointer none/\v=.slice none 0 0)/\w.heap[b]? = some (.cells #[p,v] T (0,0))/\(p=.pointer none\/p=.pointer (some ⟨b,0,none⟩))/\
   ((v=.slice none 0 0/\bs=[])\/∃g c cur,v=.slice (some ⟨g,0,none⟩) bs.length c/\B g/\g≠b/\w.heap[g]? = some (.cells cur e (0,0))/\cur.size=c/\bs.length<=c/\c<=maxLen/\c≠0/\
    ∀(i:Nat) (x:UInt8),bs[i]? = some x->cur[i]? = some (.int .u8 x.toNat))
 |_,_=>False
abbrev Gl:=List (Nat×List V)
def glk:Gl->Nat->Option (List V)
 |[],_=>none
 |(k,v)::e,t=>bif Nat.beq k t then some v else glk e t
def GlAt(m:Mem)(g:Nat)(row:List V):Prop:=q2p m (.iptr row 0) (.pointer (some ⟨g,0,none⟩))/\∃arr T fr,m g=some (.cells arr T fr)/\arr.size=row.length
def v5i(gl:Gl)(m:Mem):Prop:=∀g row,glk gl g=some row->GlAt m g row
theorem v5i.mono{gl:Gl}{m m':Mem}(h:v5i gl m)(hm:m.le m'):v5i gl m':=fun g row hg=>let ⟨a,T,fr,h1,h2⟩:=(h g row hg).2;⟨(h g row hg).1.mono hm,a,T,fr,hm _ _ h1,h2⟩
theorem v5i.nil{m:Mem}:v5i [] m:=fun g row h=>by simp[glk] at h
structure Ctx where
 P:Program
 N:Nat
 w0:World
 m0:Mem
 old:Nat->Prop
 pins:Nat
 loc:Nat->Option (Option (Nat×Cap))
 gl:Gl
 glok:v5i gl m0
structure St where
 env:Env
 hp:q0m
 nx:Nat
structure w2i(w0 w:World):Prop where
 os:w.os=w0.os
 tape:w.tape=w0.tape
 output:w.output=w0.output
 drawn:w0.drawn<=w.drawn
structure Hid(K:Ctx)(m:Mem)(β:q4m)(w:World)(hp:q0m)(id x:Nat):Prop where
 lt:x<w.heap.size
 m:m x=none
 old:x<K.w0.heap.size->¬K.old x
 ne:∀i b cap,q1e hp i≠.dead->β i=some (some (b,cap))->x≠b
 un:∀i,q1e hp i≠.dead->β.hid i x->i=id
theorem Hid.weak{K:Ctx}{m:Mem}{β:q4m}{w:World}{hp hp':q0m}{id x:Nat}(q:Hid K m β w hp id x)(hl:∀i,q1e hp' i≠.dead->q1e hp i≠.dead):Hid K m β w hp' id x:=
 ⟨q.lt,q.m,q.old,fun i b c h=>q.ne i b c (hl i h),fun i h=>q.un i (hl i h)⟩
structure Rel(K:Ctx)(m:Mem)(β:q4m)(w:World)(a:Act)(S:St):Prop where
 imm:∀b o,m b=some o->w.heap[b]? = some o
 ext:K.m0.le m
 mold:∀b,b<K.w0.heap.size->K.old b->m b=K.m0 b
 frame:∀b,b<K.w0.heap.size->K.old b->w.heap[b]? = K.w0.heap[b]?
 size:K.w0.heap.size<=w.heap.size
 same:w2i K.w0 w
 tn:a.tmps.size=K.N
 df:a.defers=[]
 env:∀t,q8n m β (get S.env t) (a.tmps.getD t undef)
 own:∀id,q4l m β w (β.hid id) (β id) (q1e S.hp id)
 priv:∀id b cap,q1e S.hp id≠.dead->β id=some (some (b,cap))->m b=none/\(b<K.w0.heap.size->¬K.old b)
 inj:∀id id' b cap cap',q1e S.hp id≠.dead->q1e S.hp id'≠.dead->β id=some (some (b,cap))->β id'=some (some (b,cap'))->id=id'
 hid:∀id x,q1e S.hp id≠.dead->β.hid id x->Hid K m β w S.hp id x
 nx:∀id,S.nx<=id->β id=none
 pin:∀q,q<K.pins->q<S.nx/\β q=K.loc q
abbrev q5q:=Exit->St->Prop
def q5z:Exit->Bool
 | .goto _ | .outgrown=>false
 |_=>true
def q5q.at(K:Ctx)(Q:q5q):Exit->Act->World->Prop:=fun e a w=>q5z e=true/\∃S m β,Q e S/\Rel K m β w a S
def AWP(K:Ctx)(c:Code)(Q:q5q)(S:St):Prop:=∀m β w a,Rel K m β w a S->c.wp K.P (Q.at K) a w
def q7g(K:Ctx)(ops:Array Oper)(l:List Oper)(Q:q5q)(S:St):Prop:=∀m β w a,Rel K m β w a S->wpList K.P ops (Q.at K) l a w
section code
variable{K:Ctx}{Q:q5q}{S:St}
def w5v(K:Ctx)(y:Code)(Q:q5q):q5q
 | .normal,S=>AWP K y Q S
 |e,S=>Q e S
def v1r(id:Nat)(Q:q5q):q5q
 | .exit i,S=>if i=id then Q .normal S else Q (.exit i) S
 |e,S=>Q e S
theorem y7c{x y:Code}(h:AWP K x (w5v K y Q) S):AWP K (.seq x y) Q S:=by
 intro m β w a r;refine wp_seq (wp_mono (h m β w a r) ?_)
 rintro e a' w' ⟨p,S',m',β',q,r'⟩
 cases e with
 |normal=>exact q m' β' w' a' r'
 |_=>exact⟨p,S',m',β',q,r'⟩
theorem w6f{id:Nat}{c:Code}(h:AWP K c (v1r id Q) S):AWP K (.block id c) Q S:=by
 intro m β w a r;refine wp_block (wp_mono (h m β w a r) ?_)
 rintro e a' w' ⟨p,S',m',β',q,r'⟩
 cases e with
 |exit i=>
  simp only[v1r] at q;simp only[Exit.inBlock];split
  ·rename_i h;rw[if_pos h] at q;exact⟨rfl,S',m',β',q,r'⟩
  ·rename_i h;rw[if_neg h] at q;exact⟨rfl,S',m',β',q,r'⟩
 |_=>exact⟨p,S',m',β',q,r'⟩
theorem w3o(h:Q .normal S):AWP K .skip Q S:=fun _ _ _ _ r=>wp_skip ⟨rfl,S,_,_,h,r⟩
theorem w3f{c:Code}(h:AWP K c Q S):AWP K (.scope c) Q S:=fun m β w a r=>wp_scope_straight (wp_mono (h m β w a r) fun e _ _ ⟨p,q⟩=>by
 cases e with
 |goto l=>simp[q5z] at p
 |_=>exact⟨p,q⟩)
theorem w5f{l:Nat}(h:Q .normal S):AWP K (.label l) Q S:=fun _ _ _ _ r=>wp_label ⟨rfl,S,_,_,h,r⟩
theorem w4f(h:Q .ret S):AWP K .ret Q S:=fun _ _ _ _ r=>wp_ret ⟨rfl,S,_,_,h,r⟩
theorem w6o{id:Nat}(h:Q (.exit id) S):AWP K (.exit id) Q S:=fun _ _ _ _ r=>wp_exit ⟨rfl,S,_,_,h,r⟩
def evl(K:Ctx)(S:St):Operand->V
 | .tmp t=>get S.env t
 | .const v=>.con v
 | .global g=>match glk K.gl g with|some row=>.iptr row 0|none=>.con (.pointer (some ⟨g,0,none⟩))
 | .func f=>.fn (.func f) [] []
theorem Rel.reads{m:Mem}{β:q4m}{w:World}{a:Act}(r:Rel K m β w a S)(x:Operand):q8n m β (evl K S x) (a.eval x):=by
 cases x with
 |tmp t=>exact r.env t
 |const v=>exact .imm (.con v)
 |global g=>
  simp only[evl];split
  ·rename_i row h;exact .imm (((K.glok.mono r.ext) g row h).1)
  ·exact .imm (.con _)
 |func f=>exact .imm (.fn rfl rfl (by simp) (by simp))
theorem q8n.of_con{m:Mem}{β:q4m}{v x:Value}(h:q8n m β (.con v) x):x=v:=by
 cases h with|imm h=>cases h;rfl
theorem j3b{c:Operand}{x y:Code}(b:Bool)(hc:evl K S c=.con (.bool b))(ht:b=true->AWP K x Q S)(hf:b=false->AWP K y Q S):
  AWP K (.cond c x y) Q S:=by
 intro m β w a r;have h:=r.reads c;rw[hc] at h;refine wp_cond_split h.of_con (fun hb=>ht hb m β w a r) (fun hb=>hf hb m β w a r)
theorem v9u{id:Nat}{l:List Oper}(h:q7g K l.toArray l Q S):AWP K (.region id l.toArray false) Q S:=
 fun m β w a r=>wp_region_lit (h m β w a r)
theorem q6b{ops:Array Oper}(h:Q .normal S):q7g K ops [] Q S:=fun _ _ _ _ r=>wpList_nil ⟨rfl,S,_,_,h,r⟩
theorem z4n{P:Program}{M X T:Machine}(h:Steps P M T)(hx:step P M=.next X)(hne:M≠T):Steps P X T:=by
 obtain⟨n,hn⟩:=h;cases n with
 |zero=>simp[runN] at hn;exact absurd hn hne
 |succ n=>simp only[runN,hx] at hn;exact⟨n,hn⟩
theorem j4t{id:Nat}:∀{k k':List Item},exitTo id k=some k'->k'.length<k.length:=by
 intro k
 induction k with
 |nil=>intro k' h;simp[exitTo] at h
 |cons x k ih=>
  intro k' h;unfold exitTo at h;split at h
  ·rename_i heq;simp only[co9] at heq;obtain⟨_,rfl⟩:=heq;split at h
   ·simp only[bc8] at h;subst h;simp
   ·have:=ih h;simp;omega
  ·rename_i heq;simp only[co9] at heq;obtain⟨_,rfl⟩:=heq;have:=ih h;simp;omega
  ·simp at h
theorem j9y{b:Frame}{a a':Act}{k k':List Item}{cs:List Frame}{w w':World}(h:lone (b.at a k) cs w=lone (b.at a' k') cs w'):k=k':=by
 simp only[lone,Frame.at,Machine.mk.injEq] at h;have h2:=h.2.1;simp at h2;exact h2.2.1
theorem j2l{P:Program}{c:Code}{R:Exit->Act->World->Prop}{a:Act}{w:World}(hR:∀e a w,R e a w->q5z e=true)
  (h:c.wp P (Exit.then ((Code.loop c).wp P R) R) a w):(Code.loop c).wp P R a w:=by
 intro b k cs;obtain⟨e,a₁,w₁,hq,harr⟩:=h b (.inLoop c::k) cs;cases e with
 |normal=>
  obtain⟨e₂,a₂,w₂,hq₂,harr₂⟩:=hq b k cs;refine⟨e₂,a₂,w₂,hq₂,.of_steps (.head step_loop (Steps.trans harr (.one step_inLoop))) ?_⟩;have hs:=step_loop (P:=P) (b:=b) (a:=a₁) (k:=k) (cs:=cs) (w:=w₁) (c:=c);have hp:=hR _ _ _ hq₂;cases e₂ with
  |normal=>
   refine z4n harr₂ hs (fun e=>?_);have:=congrArg List.length (j9y e);simp at this
  |exit id=>
   refine fun k' hk=>z4n (harr₂ k' hk) hs (fun e=>?_);have:=congrArg List.length (j9y e);have:=j4t hk;simp at *;omega
  |goto l=>simp[q5z] at hp
  |ret=>
   obtain⟨todo,hst⟩:=harr₂;refine⟨todo,z4n hst hs (fun e=>?_)⟩;simp[lone,Frame.at] at e
  |panic ch=>
   obtain⟨todo,hst⟩:=harr₂;refine⟨todo,z4n hst hs (fun e=>?_)⟩;simp[lone,Frame.at] at e
  |outgrown=>simp[q5z] at hp
 |exit id=>exact⟨_,a₁,w₁,hq,.of_steps (.one step_loop) (.pass (x:=.inLoop c) rfl (fun _ _=>.inl (by simp)) harr)⟩
 |goto l=>exact⟨_,a₁,w₁,hq,.of_steps (.one step_loop) (.pass (x:=.inLoop c) rfl (fun _ _=>.inl (by simp)) harr)⟩
 |ret=>exact⟨_,a₁,w₁,hq,.of_steps (.one step_loop) (.pass (x:=.inLoop c) rfl (fun _ _=>.inl (by simp)) harr)⟩
 |panic ch=>exact⟨_,a₁,w₁,hq,.of_steps (.one step_loop) (.pass (x:=.inLoop c) rfl (fun _ _=>.inl (by simp)) harr)⟩
 |outgrown=>exact⟨_,a₁,w₁,hq,.of_steps (.one step_loop) (.pass (x:=.inLoop c) rfl (fun _ _=>.inl (by simp)) harr)⟩
theorem w4o{c:Code}(h:AWP K c (w5v K (.loop c) Q) S):AWP K (.loop c) Q S:=by
 intro m β w a r;refine j2l (fun _ _ _ q=>q.1) (wp_mono (h m β w a r) ?_)
 rintro e a' w' ⟨p,S',m',β',q,r'⟩
 cases e with
 |normal=>exact q m' β' w' a' r'
 |_=>exact⟨p,S',m',β',q,r'⟩
end code
end Go.Pv
namespace Go.Pv
open Go
section
variable{K:Ctx}{Q:q5q}{S:St}
def St.put(S:St)(d:Nat)(v:V):St:=⟨(d,v)::S.env,S.hp,S.nx⟩
theorem v4n(a:Act)(d:Nat)(v:Value)(t:Nat)(hd:d<a.tmps.size):
  (a.put (some d) v).tmps.getD t undef=if d=t then v else a.tmps.getD t undef:=by
 simp only[Act.put,bw8,bz8];by_cases h:d=t
 ·subst h;simp[hd]
 ·simp[h]
theorem Rel.put{m:Mem}{β:q4m}{w:World}{a:Act}(r:Rel K m β w a S){d:Nat}(hd:Nat.blt d K.N=true){dv:V}{v:Value}(hv:q8n m β dv v):
  Rel K m β w (a.put (some d) v) (S.put d dv) where
 imm:=r.imm
 ext:=r.ext
 mold:=r.mold
 frame:=r.frame
 size:=r.size
 same:=r.same
 tn:=by simp only[Act.put,cc9];exact r.tn
 df:=r.df
 env:=by
  intro t;have hd':d<a.tmps.size:=by rw[r.tn];exact bd9 hd
  simp only[St.put];rw[q9u,v4n _ _ _ _ hd'];split
  ·exact hv
  ·exact r.env t
 own:=r.own
 priv:=r.priv
 inj:=r.inj
 hid:=r.hid
 nx:=r.nx
 pin:=r.pin
structure w5u(m m':Mem)(w w':World):Prop where
 le:m.le m'
 imm:∀b o,m' b=some o->w'.heap[b]? = some o
 mold:∀b,b<w.heap.size->m' b=m b
 heap:∀b,b<w.heap.size->w'.heap[b]? = w.heap[b]?
 size:w.heap.size<=w'.heap.size
 same:w2i w w'
theorem w2i.trans{a b c:World}(h:w2i a b)(h':w2i b c):w2i a c:=⟨h'.os.trans h.os,h'.tape.trans h.tape,h'.output.trans h.output,cj9 h.drawn h'.drawn⟩
theorem q9h{w:World}{b:Nat}{o:Obj}(h:w.heap[b]? = some o):b<w.heap.size:=by
 by_cases hb:b<w.heap.size
 ·exact hb
 ·rw[bq9 (by omega)] at h;simp at h
theorem q4l.mono{m m':Mem}{β β':q4m}{w w':World}{B:Nat->Prop}(hm:m.le m')(hb:β.le β')(hw:∀(b:Nat) (o:Obj),w.heap[b]? = some o->w'.heap[b]? = some o)(hB:∀x,B x->w'.heap[x]? = w.heap[x]?)
  {l:Option (Option (Nat×Cap))} {ob:Ob} (h:q4l m β w B l ob):q4l m' β' w' B l ob:=by
 match l,ob,h with
 |none,.dead,_|some none,.dead,_|some (some (b,c)),.dead,_=>simp[q4l]
 |none,.res,_=>trivial
 |some none,.res,h|some (some (b,c)),.res,h=>exact absurd h (by simp[q4l])
 |some none,.arr e k rows,h=>exact h
 |some (some (b,cap)),.arr e k rows,h=>
  obtain⟨arr,bl,h1,h2,h3,h4,h5,hBl,h6⟩:=h;exact⟨arr,bl,hw _ _ h1,h2,h3,h4,h5,hBl,fun i j row c hi hj=>let ⟨v,a1,a2,a3⟩:=h6 i j row c hi hj;⟨v,a1,a2.mono hm hb (fun _ h=>h) (fun x hx=>hB x (hBl.1 _ x hx)),a3⟩⟩
 |some (some (b,cap)),.map es,h=>
  obtain⟨ents,clock,bl,h1,h2,hBl,h3⟩:=h;exact⟨ents,clock,bl,h1.mono (hw _),h2,hBl,fun i p e hi he=>⟨(h3 i p e hi he).1,(h3 i p e hi he).2.mono hm hb (fun _ h=>h) (fun x hx=>hB x (hBl.1 _ x hx))⟩⟩
 |some (some (b,cap)),.iter cur left,h=>
  obtain⟨bm,seen,E,clock,v,h0,h1,h2,h3,h4,h5,h6,h7⟩:=h;exact⟨bm,seen,E,clock,v,h0,hw _ _ h1,hm _ _ h2,h3,h4,h5,fun i p e hi he=>⟨(h6 i p e hi he).1,(h6 i p e hi he).2.mono hm⟩,fun p hp=>let ⟨e,a1,a2,a3,a4⟩:=h7 p hp;⟨e,a1,a2,a3,a4.mono hm⟩⟩
 |some (some (b,cap)),.bld T e bs _,h=>
  obtain⟨h0,h1,p,v,hf,h2,h3,h4⟩:=h;exact⟨h0,h1,p,v,hf,hw _ _ h2,h3,h4.imp id fun⟨g,c,cur,a1,a2,a3,a4,a5⟩=>⟨g,c,cur,a1,a2,a3,hw _ _ a4,a5⟩⟩
 |none,.arr ..,h|none,.map ..,h|some none,.map ..,h|none,.iter ..,h|some none,.iter ..,h|none,.bld ..,h|some none,.bld ..,h=>exact absurd h (by simp[q4l])
theorem q4l.dead'{m:Mem}{β:q4m}{w:World}{B:Nat->Prop}(l:Option (Option (Nat×Cap))):q4l m β w B l .dead:=by
 match l with
 |none|some none|some (some (b,c))=>simp[q4l]
theorem q3x{m:Mem}{β:q4m}{w:World}{B:Nat->Prop}{id b:Nat}{cap:Cap}{ob:Ob}(hl:ob≠.dead)(hb:β id=some (some (b,cap)))(h:q4l m β w B (β id) ob):b<w.heap.size:=by
 rw[hb] at h;cases ob with
 |dead=>exact absurd rfl hl
 |res=>exact absurd h (by simp[q4l])
 |arr e k rows=>obtain⟨arr,bl,h1,_⟩:=h;exact q9h h1
 |map es=>obtain⟨ents,clock,bl,h1,_⟩:=h;obtain⟨x,h1⟩:=h1.some;exact q9h h1
 |iter cu lf=>obtain⟨bm,seen,E,clock,v,_,h1,_⟩:=h;exact q9h h1
 |bld T e bs fr=>obtain⟨_,_,p,v,_,h1,_⟩:=h;exact q9h h1
theorem Rel.grow{m m':Mem}{β:q4m}{w w':World}{a:Act}(r:Rel K m β w a S)(g:w5u m m' w w'):Rel K m' β w' a S where
 imm:=g.imm
 ext:=Mem.le_trans r.ext g.le
 mold:=fun b hb ho=>(g.mold b (cz8 hb r.size)).trans (r.mold b hb ho)
 frame:=fun b hb ho=>(g.heap b (cz8 hb r.size)).trans (r.frame b hb ho)
 size:=cj9 r.size g.size
 same:=r.same.trans g.same
 tn:=r.tn
 df:=r.df
 env:=fun t=>(r.env t).mono g.le (q4m.le_refl _)
 own:=fun id=>by
  by_cases hd:q1e S.hp id=.dead
  ·rw[hd];exact q4l.dead' _
  ·exact q4l.mono g.le (q4m.le_refl _) (fun b o h=>by rw[g.heap b (q9h h)];exact h) (fun x hx=>g.heap x (r.hid id x hd hx).lt) (r.own id)
 priv:=fun id b cap hl hb=>by
  have:=r.priv id b cap hl hb;rw[g.mold b (q3x hl hb (r.own id))];exact this
 inj:=r.inj
 hid:=fun id x hl hx=>
  let h:=r.hid id x hl hx
  ⟨cz8 h.lt g.size,by rw[g.mold x h.lt];exact h.m,h.old,h.ne,h.un⟩
 nx:=r.nx
 pin:=r.pin
def Runs(K:Ctx)(o:Oper)(S S':St):Prop:=∀m β w a,Rel K m β w a S->∃v w' m' β',
 ((execOp a.eval o).run K.P w=.ok (.value v) w'\/v=undef/\(execOp a.eval o).run K.P w=.ok .skip w')/\Rel K m' β' w' (a.put o.dst v) S'
def q1h(ops:Array Oper)(S:St)(o:Oper)(b:Bool):Prop:=
 match o.guard with
 |none=>b=true
 |some (j,want)=>∃t,(ops[j]?).bind (·.dst)=some t/\((∃c,get S.env t=.con (.bool c)/\b=(c==want))\/get S.env t=.con undef/\b=false)
theorem q1h.at{ops:Array Oper}{o:Oper}{b:Bool}(h:q1h ops S o b){m:Mem}{β:q4m}{w:World}{a:Act}(r:Rel K m β w a S):
  Region.wanted o (yielded ops a.tmps)=b:=by
 unfold q1h at h;unfold Region.wanted;split at h
 ·rename_i hg;rw[hg,h]
 ·rename_i j want hg;obtain⟨t,h1,h⟩:=h;rw[hg];have h4:=r.env t;rcases h with ⟨c,h2,h3⟩|⟨h2,h3⟩
  ·rw[h2] at h4;have h5:=h4.of_con
   have h6:t<a.tmps.size:=by
    by_cases hlt:t<a.tmps.size
    ·exact hlt
    ·rw[bw8,bq9 (ba9 hlt)] at h5;simp[undef] at h5
   simp only[bw8,bh9 h6,ck9] at h5;simp only[yielded,h1,cl8,bh9 h6,h5,h3];cases c<;>cases want<;>rfl
  ·rw[h2] at h4;have h5:=h4.of_con;simp only[yielded,h1,cl8,h3];by_cases hlt:t<a.tmps.size
   ·simp only[bw8,bh9 hlt,ck9] at h5;simp only[bh9 hlt,h5,undef];rfl
   ·rw[bq9 (ba9 hlt)];rfl
end
section
variable{K:Ctx}{Q:q5q}{S:St}{ops:Array Oper}{rest:List Oper}{op:Op}{ty:TypeId}{pos:String}{after:Array Edge}{g:Option (Nat×Bool)}
theorem q3k{o:Oper}{S':St}(hw:q1h ops S o true)(h:Runs K o S S')(k:q7g K ops rest Q S'):q7g K ops (o::rest) Q S:=by
 intro m β w a r;unfold wpList;rw[if_pos (hw.at r)]
 left
 obtain⟨v,w',m',β',h1,r'⟩:=h m β w a r;unfold Oper.wp;rcases h1 with h1|⟨rfl,h1⟩
 ·rw[h1];exact k m' β' w' _ r'
 ·rw[h1];exact k m' β' w' _ r'
theorem v3b{o:Oper}{d:Nat}(hw:q1h ops S o false)(hd:o.dst=some d)(hN:Nat.blt d K.N=true)(k:q7g K ops rest Q (S.put d (.con undef))):
  q7g K ops (o::rest) Q S:=by
 intro m β w a r;unfold wpList;rw[if_neg (by rw[hw.at r];simp),hd];exact k m β w _ (r.put hN (.imm (.con _)))
theorem q9g{d:Nat}(dv:V)(hw:q1h ops S ⟨some d,op,ty,pos,after,g⟩ true)(hN:Nat.blt d K.N=true)
  (h:∀m β w a,Rel K m β w a S->∃v,(execOp a.eval ⟨some d,op,ty,pos,after,g⟩).run K.P w=.ok (.value v) w/\q8n m β dv v)
  (k:q7g K ops rest Q (S.put d dv)):q7g K ops (⟨some d,op,ty,pos,after,g⟩::rest) Q S:=
 q3k hw (fun m β w a r=>let ⟨v,h1,h2⟩:=h m β w a r;⟨v,w,m,β,.inl h1,r.put hN h2⟩) k
theorem q4a{d:Option Nat}:q1h ops S ⟨d,op,ty,pos,after,none⟩ true:=rfl
theorem q0j{d:Option Nat}{j:Nat}{want c b:Bool}(t:Nat)(ht:(ops[j]?).bind (·.dst)=some t)(hc:get S.env t=.con (.bool c))(hb:c=b):
  q1h ops S ⟨d,op,ty,pos,after,some (j,want)⟩ (b==want):=⟨t,ht,.inl ⟨c,hc,by rw[hb]⟩⟩
theorem w2g{d:Nat}{x:Operand}(dv:V)(hw:q1h ops S ⟨some d,.move x,ty,pos,after,g⟩ true)(hx:evl K S x=dv)(hN:Nat.blt d K.N=true)
  (k:q7g K ops rest Q (S.put d dv)):q7g K ops (⟨some d,.move x,ty,pos,after,g⟩::rest) Q S:=
 q9g dv hw hN (fun m β w a r=>⟨a.eval x,rfl,by rw[<-hx];exact r.reads x⟩) k
theorem v2m{d:Nat}{x:Operand}(dv:V)(hw:q1h ops S ⟨some d,.assign x,ty,pos,after,g⟩ true)(hx:evl K S x=dv)(hN:Nat.blt d K.N=true)
  (k:q7g K ops rest Q (S.put d dv)):q7g K ops (⟨some d,.assign x,ty,pos,after,g⟩::rest) Q S:=
 q9g dv hw hN (fun m β w a r=>⟨a.eval x,rfl,by rw[<-hx];exact r.reads x⟩) k
theorem Rel.con{m:Mem}{β:q4m}{w:World}{a:Act}(r:Rel K m β w a S){x:Operand}{v:Value}(h:evl K S x=.con v):a.eval x=v:=by
 have:=r.reads x;rw[h] at this;exact this.of_con
theorem v4b{d:Nat}{c x y:Operand}(b:Bool){cb:Bool}(dv:V)(hw:q1h ops S ⟨some d,.pick c x y,ty,pos,after,g⟩ true)(hc:evl K S c=.con (.bool cb))(hb:cb=b)
  (hx:evl K S (if b then x else y)=dv) (hN:Nat.blt d K.N=true)
  (k:q7g K ops rest Q (S.put d dv)):q7g K ops (⟨some d,.pick c x y,ty,pos,after,g⟩::rest) Q S:=
 q9g dv hw hN (fun m β w a r=>⟨a.eval (if b then x else y),by
  subst hb;simp only[execOp,r.con hc,asBool];cases cb<;>rfl,by rw[<-hx];exact r.reads _⟩) k
def y4p(op:BinOp):Value->Value->Option Value
 | .int k a,.int k' b=>
  match op with
  | .shl=>if b<0 then none else some (.int k (k.wrap (a*2 ^ (min b.toNat k.bits))))
  | .shr=>if b<0 then none else some (.int k (a.fdiv (2 ^ (min b.toNat k.bits))))
  | .add=>if k=k' then some (.int k (k.wrap (a+b))) else none
  | .sub=>if k=k' then some (.int k (k.wrap (a - b))) else none
  | .mul=>if k=k' then some (.int k (k.wrap (a*b))) else none
  | .quo=>if k=k'/\b≠0 then some (.int k (k.wrap (a.tdiv b))) else none
  | .rem=>if k=k'/\b≠0 then some (.int k (a.tmod b)) else none
  | .and=>if k=k' then some (.int k (k.wrap (BitVec.ofInt k.bits a &&& BitVec.ofInt k.bits b).toNat)) else none
  | .or=>if k=k' then some (.int k (k.wrap (BitVec.ofInt k.bits a ||| BitVec.ofInt k.bits b).toNat)) else none
  | .xor=>if k=k' then some (.int k (k.wrap (BitVec.ofInt k.bits a ^^^ BitVec.ofInt k.bits b).toNat)) else none
  | .andNot=>if k=k' then some (.int k (k.wrap (BitVec.ofInt k.bits a &&& ~~~BitVec.ofInt k.bits b).toNat)) else none
  | .eql=>if k=k' then some (.bool (a==b)) else none
  | .neq=>if k=k' then some (.bool (a != b)) else none
  | .lss=>if k=k' then some (.bool (decide (a<b))) else none
  | .leq=>if k=k' then some (.bool (decide (a<=b))) else none
  | .gtr=>if k=k' then some (.bool (decide (a>b))) else none
  | .geq=>if k=k' then some (.bool (decide (a>=b))) else none
 |_,_=>none
theorem v0o{P:Program}{w:World}{op:BinOp}{T:TypeId}{x y:Operand}{a b v:Value}(h:y4p op a b=some v):
  (do eqGuard op T x y a b;binOp op T a b:Sem Value).run P w=.ok v w:=by
 unfold y4p at h;split at h
 ·rename_i k a k' b
  have hg:(eqGuard op T x y (.int k a) (.int k' b)).run P w=.ok () w:=by
   unfold eqGuard;cases op<;>simp[pure]
  rw[Sem.run_bind,hg,Result.andThen_ok];cases op<;>simp only[binOp,Op.shift,Op.intArith,Op.intDiv,Op.intBits,Op.intCmp] at h ⊢
  all_goals first|(simp at h;done)|skip
  all_goals (split at h<;>simp only[bc8,reduceCtorEq] at h)
  all_goals subst h
  all_goals first
   |(rename_i hk;obtain⟨rfl,hb⟩:=hk;simp[hb,pure];done)
   |(rename_i hk;subst hk;simp[pure];done)
   |(rename_i hk;simp[hk,pure];done)
 ·simp at h
theorem q1f{P:Program}{w:World}{s:Sem Value}{v:Value}(h:s.run P w=.ok v w):(do pure (Next.value (<-s)):Sem Next).run P w=.ok (.value v) w:=by
 rw[Sem.run_bind,h,Result.andThen_ok];rfl
theorem w5p{d:Nat}{bop:BinOp}{x y:Operand}{T T':TypeId}{vx vy:Value}(v:Value)(hw:q1h ops S ⟨some d,.binOp bop T x y T',ty,pos,after,g⟩ true)
  (hx:evl K S x=.con vx) (hy:evl K S y=.con vy) (hv:y4p bop vx vy=some v) (hN:Nat.blt d K.N=true)
  (k:q7g K ops rest Q (S.put d (.con v))):q7g K ops (⟨some d,.binOp bop T x y T',ty,pos,after,g⟩::rest) Q S:=
 q9g (.con v) hw hN (fun m β w a r=>⟨v,by
  simp only[execOp,r.con hx,r.con hy];exact q1f (v0o hv),.imm (.con v)⟩) k
theorem v4r{d:Nat}{x y:Operand}{T T':TypeId}{a b:Bool}(neg:Bool)(hw:q1h ops S ⟨some d,.binOp (if neg then .neq else .eql) T x y T',ty,pos,after,g⟩ true)
  (hT:K.P.underlying T=some .bool)
  (hx:evl K S x=.con (.bool a)) (hy:evl K S y=.con (.bool b)) (hN:Nat.blt d K.N=true)
  (k:q7g K ops rest Q (S.put d (.con (.bool (if neg then a != b else a==b))))):q7g K ops (⟨some d,.binOp (if neg then .neq else .eql) T x y T',ty,pos,after,g⟩::rest) Q S:=
 q9g _ hw hN (fun m β w a' r=>⟨_,by
  simp only[execOp,r.con hx,r.con hy];refine q1f (v:=.bool (if neg then a != b else a==b)) ?_
  have he:∀(op:BinOp),(eqGuard op T x y (.bool a) (.bool b)).run K.P w=.ok () w:=by
   intro op;unfold eqGuard;cases op<;>simp[pure]
  have hq:(Op.equal T (.bool a) (.bool b)).run K.P w=.ok (a==b) w:=by
   have hd:Op.maxDepth=9999+1:=rfl;rw[Op.equal,hd,Op.equalIn];simp only[Sem.run_bind,run_underlying hT,Result.andThen_ok];rfl
  rw[Sem.run_bind,he,Result.andThen_ok];cases neg
  ·simp only[cy8,if_false,binOp,Sem.run_bind,hq,Result.andThen_ok];rfl
  ·simp only[if_true,binOp,Sem.run_bind,hq,Result.andThen_ok];rfl,.imm (.con _)⟩) k
theorem w9o{d:Nat}{x:Operand}{T:TypeId}{b:Bool}(hw:q1h ops S ⟨some d,.unOp .not T x,ty,pos,after,g⟩ true)
  (hx:evl K S x=.con (.bool b)) (hN:Nat.blt d K.N=true)
  (k:q7g K ops rest Q (S.put d (.con (.bool (!b))))):q7g K ops (⟨some d,.unOp .not T x,ty,pos,after,g⟩::rest) Q S:=
 q9g _ hw hN (fun m β w a r=>⟨_,by simp only[execOp,r.con hx];exact q1f (by simp only[Op.unary];rfl),.imm (.con _)⟩) k
theorem w0p{d:Nat}{x:Operand}{T:TypeId}{k:IntKind}{n:Int}(hw:q1h ops S ⟨some d,.unOp .neg T x,ty,pos,after,g⟩ true)
  (hx:evl K S x=.con (.int k n)) (hN:Nat.blt d K.N=true)
  (kk:q7g K ops rest Q (S.put d (.con (.int k (k.wrap (0 - n)))))):q7g K ops (⟨some d,.unOp .neg T x,ty,pos,after,g⟩::rest) Q S:=
 q9g _ hw hN (fun m β w a r=>⟨_,by simp only[execOp,r.con hx];exact q1f (by simp only[Op.unary,Op.intArith];rfl),.imm (.con _)⟩) kk
theorem v8b{d:Nat}{x:Operand}{i:Nat}{vs:List V}(dv:V)(hw:q1h ops S ⟨some d,.extract x i,ty,pos,after,g⟩ true)
  (hx:evl K S x=.tup vs) (hi:vs[i]? = some dv) (hN:Nat.blt d K.N=true)
  (k:q7g K ops rest Q (S.put d dv)):q7g K ops (⟨some d,.extract x i,ty,pos,after,g⟩::rest) Q S:=
 q9g dv hw hN (fun m β w a r=>by
  have h:=r.reads x;rw[hx] at h;generalize hex:a.eval x=ex at h
  have key:∃us:Array Value,ex=.tuple us/\vs.length=us.size/\∀v,us[i]? = some v->q8n m β dv v:=by
   cases h with
   |imm h=>cases h with|tup hl h=>exact⟨_,rfl,hl,fun v hv=>.imm (h i dv v hi hv)⟩
   |tup hl h=>exact⟨_,rfl,hl,fun v hv=>h i dv v hi hv⟩
  obtain⟨us,h1,h2,h3⟩:=key;have hlt:i<us.size:=by rw[<-h2];exact(bi8.1 hi).1
  refine⟨us[i],?_,h3 _ (by simp[hlt])⟩;simp only[execOp,hex,h1,Instr.extract,bh9 hlt];exact q1f rfl) k
def tyA(P:Program)(T:TypeId)(k:Nat):Bool:=
 (match P.underlying T with|some (.struct _)|some (.array _ _)=>true|_=>false)&&(match P.info? T with|some i=>i.size==k|none=>false)
def tyC(P:Program)(T:TypeId):Bool:=
 (match P.underlying T with|some (.struct _)|some (.array _ _)=>false|some _=>true|none=>false)&&(match P.info? T with|some i=>i.size==1|none=>false)
def tyF(P:Program)(T:TypeId)(f off:Nat):Bool:=
 match P.underlying T with
 |some (.struct fs)=>(match fs[f]? with|some x=>x.offset==off&&(match P.info? x.type with|some i=>i.size != 0|none=>false)|none=>false)
 |_=>false
def y3f(P:Program)(T n k e:Nat):Bool:=match P.underlying T with|some (.array l e')=>l==n&&e'==e&&tyA P e k|_=>false
def y2f(P:Program)(T n e:Nat):Bool:=match P.underlying T with|some (.array l e')=>l==n&&e'==e&&tyC P e|_=>false
theorem v8x{P:Program}{T k}(h:tyA P T k=true)(w:World):(isAgg T).run P w=.ok true w/\(sizeOf T).run P w=.ok k w:=by
 unfold tyA at h;simp only[av8] at h;obtain⟨h1,h2⟩:=h;constructor
 ·cases hu:P.underlying T with
  |none=>simp[hu] at h1
  |some d=>
   rw[hu] at h1;cases d<;>simp at h1
   all_goals (simp only[isAgg,Sem.run_bind,run_underlying hu,Result.andThen_ok];rfl)
 ·cases hi:P.info? T with
  |none=>simp[hi] at h2
  |some i=>
   rw[hi] at h2;simp at h2;rw[run_sizeOf w hi];simp[Program.cellsOf,hi,h2]
theorem j1c{P:Program}{T}(h:tyC P T=true)(w:World):(isAgg T).run P w=.ok false w/\(sizeOf T).run P w=.ok 1 w:=by
 unfold tyC at h;simp only[av8] at h;obtain⟨h1,h2⟩:=h;constructor
 ·cases hu:P.underlying T with
  |none=>simp[hu] at h1
  |some d=>
   rw[hu] at h1;cases d<;>simp at h1
   all_goals (simp only[isAgg,Sem.run_bind,run_underlying hu,Result.andThen_ok];rfl)
 ·cases hi:P.info? T with
  |none=>simp[hi] at h2
  |some i=>
   rw[hi] at h2;simp at h2;rw[run_sizeOf w hi];simp[Program.cellsOf,hi,h2]
theorem q4u{b o n:Nat}:(⟨b,o,none⟩:Addr).add n=⟨b,o+n,none⟩:=by
 unfold Addr.add;split<;>simp_all
theorem v6i{P:Program}{T f off:Nat}(h:tyF P T f off=true)(w:World)(b o:Nat):
  (Instr.fieldAt T (.pointer (some ⟨b,o,none⟩)) f).run P w=.ok (.pointer (some ⟨b,o+off,none⟩)) w:=by
 unfold tyF at h;cases hu:P.underlying T with
 |none=>simp[hu] at h
 |some d=>
  rw[hu] at h;cases d<;>simp only[cy8] at h;rename_i fs;cases hf:fs[f]? with
  |none=>simp[hf] at h
  |some x=>
   rw[hf] at h;simp only[av8] at h;obtain⟨h1,h2⟩:=h;cases hi:P.info? x.type with
   |none=>simp[hi] at h2
   |some i=>
    rw[hi] at h2;simp only[bne_iff_ne,ne_eq,beq_iff_eq] at h1 h2;subst h1
    have hs:(fieldPlace ⟨b,o,none⟩ x).run P w=.ok ⟨b,o+x.offset,none⟩ w:=by
     simp only[fieldPlace,Sem.run_bind,run_sizeOf w hi,Result.andThen_ok];rw[if_neg (by simp[Program.cellsOf,hi];exact h2),q4u];rfl
    simp only[Instr.fieldAt,Sem.run_bind,run_underlying hu,Result.andThen_ok,hf,Instr.sureAddr];simp only[pure,Sem.run,Result.andThen_ok,hs]
end
section
variable{K:Ctx}{Q:q5q}{S:St}{ops:Array Oper}{rest:List Oper}{op:Op}{ty:TypeId}{pos:String}{after:Array Edge}{g:Option (Nat×Bool)}
variable{m:Mem}{β:q4m}{w:World}{a:Act}
theorem q7i{w:World}{b o:Nat}{arr:Array Value}{T:TypeId}{fr:Nat×Nat}(h:w.heap[b]? = some (.cells arr T fr)):
  w.cell? ⟨b,o,none⟩=arr[o]?:=by simp[World.cell?,h]
theorem q2w{P:Program}{w:World}{T:TypeId}{n b o:Nat}(f:Nat->Value)(hT:tyA P T n=true)(h:∀j,j<n->w.cell? ⟨b,o+j,none⟩=some (f j)):
  (Instr.loadAt T (.pointer (some ⟨b,o,none⟩))).run P w=.ok (.agg ((List.range n).map f).toArray) w:=by
 have h1:=v8x hT w;have h2:=run_loadCells (P:=P) w ⟨b,o,none⟩ n f (fun j hj=>by rw[q4u];exact h j hj);simp only[Instr.loadAt,Instr.sureAddr,pure,Sem.run_bind,Sem.run,Result.andThen_ok,loadVar,h1.1,h1.2,if_true,h2]
theorem q6q{P:Program}{w:World}{T:TypeId}{b o:Nat}{v:Value}(hT:tyC P T=true)(h:w.cell? ⟨b,o,none⟩=some v):
  (Instr.loadAt T (.pointer (some ⟨b,o,none⟩))).run P w=.ok v w:=by
 have h1:=j1c hT w;simp only[Instr.loadAt,Instr.sureAddr,pure,Sem.run_bind,Sem.run,Result.andThen_ok,loadVar,h1.1];simp[load,Sem.run,h]
theorem q8n.ptr_inv{id k i off:Nat}{v:Value}(h:q8n m β (.ptr id k i off) v):∃b cap,β id=some (some (b,cap))/\v=.pointer (some ⟨b,cap.off+(i*k+off),none⟩):=by
 cases h with
 |imm h=>cases h
 |ptr h=>exact⟨_,_,h,rfl⟩
theorem q8n.iptr_inv{row:List V}{off:Nat}{v:Value}(h:q8n m β (.iptr row off) v):∃(a:Addr) (arr:Array Value) (T:TypeId) (fr:Nat×Nat) (f:Nat->Value) (base:Nat),
  v=.pointer (some a)/\m a.block=some (.cells arr T fr)/\a.spot=none/\a.off=base+off/\(∀i,i<row.length->arr[base+i]? = some (f i))/\∀(j:Nat) (c:V),row[j]? = some c->q2p m c (f j):=by
 cases h with
 |imm h=>cases h with|iptr f base h1 h2 h3 h4 h5=>exact⟨_,_,_,_,f,base,rfl,h1,h2,h3,h4,h5⟩
theorem z5j{a:Addr}(h:a.spot=none):a=⟨a.block,a.off,none⟩:=by cases a;simp_all
theorem Rel.obj(r:Rel K m β w a S){id b k:Nat}{cap:Cap}{e:TypeId}{rows:List (List V)}(hb:β id=some (some (b,cap)))(ho:q1e S.hp id=.arr e k rows):
  ∃arr bl,w.heap[b]? = some (.cells arr e (0,0))/\arr.size=cap.off+cap.n*k/\rows.length<=cap.n/\cap.n<=maxLen/\(∀row,row∈rows->row.length=k)/\Bls (β.hid id) bl/\
   ∀(i j:Nat) (row:List V) (c:V),rows[i]? = some row->row[j]? = some c->∃v,arr[cap.off+(i*k+j)]? = some v/\z1z m β w (bl (i*k+j)) c v/\v.oneCell'=true:=by
 have h:=r.own id;rw[hb,ho] at h;exact h
def ndB:List V->Bool
 |[]=>true
 |c::l=>match c.deep with|true=>false|false=>ndB l
theorem z6u:∀{l:List V} {j:Nat} {c:V},ndB l=true->l[j]? = some c->c.deep=false
 |x::l,0,c,h,hc=>by simp at hc;subst hc;simp only[ndB] at h;split at h<;>simp_all
 |x::l,j+1,c,h,hc=>by
  simp only[ndB] at h;split at h
  ·simp at h
  ·exact z6u (l:=l) (j:=j) h (by simpa using hc)
 |[],_,c,_,hc=>by simp at hc
theorem j7u{d n id k i o:Nat}{x:Operand}{T e:TypeId}{rows:List (List V)}{row cs:List V}(hT:tyA K.P T n=true)
  (hw:q1h ops S ⟨some d,.load T x,ty,pos,after,g⟩ true) (hx:evl K S x=.ptr id k i o) (ho:q1e S.hp id=.arr e k rows) (hr:rows[i]? = some row)
  (hc:(row.drop o).take n=cs) (hn:cs.length=n) (hnd:ndB cs=true) (hN:Nat.blt d K.N=true) (kk:q7g K ops rest Q (S.put d (.agg cs))):
  q7g K ops (⟨some d,.load T x,ty,pos,after,g⟩::rest) Q S:=
 q9g _ hw hN (fun m β w a r=>by
  have h:=r.reads x;rw[hx] at h;obtain⟨b,cap,hb,hv⟩:=h.ptr_inv;obtain⟨arr,bl,h1,h2,h3,h4,h5,_,h6⟩:=r.obj hb ho
  have hcell:∀j c,cs[j]? = some c->∃v,arr[cap.off+(i*k+o)+j]? = some v/\q8n m β c v:=by
   intro j c hj;have hd:=z6u hnd hj;rw[<-hc,bp9] at hj;split at hj
   ·rw[ba8] at hj;obtain⟨v,a1,a2,_⟩:=h6 i (o+j) row c hr hj;exact⟨v,by rw[ah8,ah8];exact a1,a2.v hd⟩
   ·simp at hj
  have hrun:=q2w (P:=K.P) (w:=w) (b:=b) (o:=cap.off+(i*k+o)) (fun j=>arr.getD (cap.off+(i*k+o)+j) undef) hT (fun j hj=>by
   rw[q7i h1];obtain⟨v,a1,_⟩:=hcell j cs[j] (by simp[hn,hj]);rw[a1];simp[bw8,a1])
  refine⟨_,by simp only[execOp,hv];exact q1f hrun,?_⟩
  ·refine .agg (by simp[hn]) (fun j c v hj hv=>?_);obtain⟨v',a1,a2⟩:=hcell j c hj;simp only[bo8,bf9] at hv;have hj':j<n:=by rw[<-hn];exact(bi8.1 hj).1
   rw[bf8 hj'] at hv;simp only[bg9,bc8] at hv;rw[<-hv];simp[bw8,a1];exact a2) kk
theorem j7m{d id k i o:Nat}{x:Operand}{T e:TypeId}{rows:List (List V)}{row:List V}(c:V)(hT:tyC K.P T=true)
  (hw:q1h ops S ⟨some d,.load T x,ty,pos,after,g⟩ true) (hx:evl K S x=.ptr id k i o) (ho:q1e S.hp id=.arr e k rows) (hr:rows[i]? = some row)
  (hc:row[o]? = some c) (hd:c.deep=false) (hN:Nat.blt d K.N=true) (kk:q7g K ops rest Q (S.put d c)):
  q7g K ops (⟨some d,.load T x,ty,pos,after,g⟩::rest) Q S:=
 q9g _ hw hN (fun m β w a r=>by
  have h:=r.reads x;rw[hx] at h;obtain⟨b,cap,hb,hv⟩:=h.ptr_inv;obtain⟨arr,bl,h1,h2,h3,h4,h5,_,h6⟩:=r.obj hb ho;obtain⟨v,a1,a2,_⟩:=h6 i o row c hr hc;exact⟨v,by simp only[execOp,hv];exact q1f (q6q hT (by rw[q7i h1];exact a1)),a2.v hd⟩) kk
theorem j0n{d n o:Nat}{x:Operand}{T:TypeId}{row cs:List V}(hT:tyA K.P T n=true)
  (hw:q1h ops S ⟨some d,.load T x,ty,pos,after,g⟩ true) (hx:evl K S x=.iptr row o)
  (hc:(row.drop o).take n=cs) (hn:cs.length=n) (hN:Nat.blt d K.N=true) (kk:q7g K ops rest Q (S.put d (.agg cs))):
  q7g K ops (⟨some d,.load T x,ty,pos,after,g⟩::rest) Q S:=
 q9g _ hw hN (fun m β w a r=>by
  have h:=r.reads x;rw[hx] at h;obtain⟨ad,arr,T',fr,f,base,hv,h1,h2,h3,h4,h5⟩:=h.iptr_inv;have hh:=r.imm _ _ h1
  have hcell:∀j c,cs[j]? = some c->arr[base+o+j]? = some (f (o+j))/\q2p m c (f (o+j)):=by
   intro j c hj;rw[<-hc,bp9] at hj;split at hj
   ·rw[ba8] at hj;exact⟨by rw[ah8];exact h4 _ (bi8.1 hj).1,h5 _ _ hj⟩
   ·simp at hj
  have hrun:=q2w (P:=K.P) (w:=w) (b:=ad.block) (o:=ad.off) (fun j=>f (o+j)) hT (fun j hj=>by
   rw[q7i hh,h3];exact(hcell j cs[j] (by simp[hn,hj])).1)
  refine⟨_,by simp only[execOp,hv];rw[z5j h2];exact q1f hrun,?_⟩
  ·refine .agg (by simp[hn]) (fun j c v hj hv=>?_);obtain⟨a1,a2⟩:=hcell j c hj;simp only[bo8,bf9] at hv;have hj':j<n:=by rw[<-hn];exact(bi8.1 hj).1
   rw[bf8 hj'] at hv;simp only[bg9,bc8] at hv;rw[<-hv];exact .imm a2) kk
theorem j6g{d o:Nat}{x:Operand}{T:TypeId}{row:List V}(c:V)(hT:tyC K.P T=true)
  (hw:q1h ops S ⟨some d,.load T x,ty,pos,after,g⟩ true) (hx:evl K S x=.iptr row o)
  (hc:row[o]? = some c) (hN:Nat.blt d K.N=true) (kk:q7g K ops rest Q (S.put d c)):
  q7g K ops (⟨some d,.load T x,ty,pos,after,g⟩::rest) Q S:=
 q9g _ hw hN (fun m β w a r=>by
  have h:=r.reads x;rw[hx] at h;obtain⟨ad,arr,T',fr,f,base,hv,h1,h2,h3,h4,h5⟩:=h.iptr_inv;have hh:=r.imm _ _ h1;refine⟨f o,by simp only[execOp,hv];rw[z5j h2];exact q1f (q6q hT (by rw[q7i hh,h3];exact h4 _ (bi8.1 hc).1)),.imm (h5 _ _ hc)⟩) kk
theorem j1n{d id k i o f off:Nat}{x:Operand}{T:TypeId}(hF:tyF K.P T f off=true)
  (hw:q1h ops S ⟨some d,.fieldAddr T x f,ty,pos,after,g⟩ true) (hx:evl K S x=.ptr id k i o) (hN:Nat.blt d K.N=true)
  (kk:q7g K ops rest Q (S.put d (.ptr id k i (o+off)))):q7g K ops (⟨some d,.fieldAddr T x f,ty,pos,after,g⟩::rest) Q S:=
 q9g _ hw hN (fun m β w a r=>by
  have h:=r.reads x;rw[hx] at h;obtain⟨b,cap,hb,hv⟩:=h.ptr_inv;exact⟨_,by simp only[execOp,hv];exact q1f (v6i hF w b _),by have:=q8n.ptr (m:=m) (k:=k) (i:=i) (off:=o+off) hb;simpa[ah8] using this⟩) kk
theorem j7g{d o f off:Nat}{row:List V}{x:Operand}{T:TypeId}(hF:tyF K.P T f off=true)
  (hw:q1h ops S ⟨some d,.fieldAddr T x f,ty,pos,after,g⟩ true) (hx:evl K S x=.iptr row o) (hN:Nat.blt d K.N=true)
  (kk:q7g K ops rest Q (S.put d (.iptr row (o+off)))):q7g K ops (⟨some d,.fieldAddr T x f,ty,pos,after,g⟩::rest) Q S:=
 q9g _ hw hN (fun m β w a r=>by
  have h:=r.reads x;rw[hx] at h;obtain⟨ad,arr,T',fr,f,base,hv,h1,h2,h3,h4,h5⟩:=h.iptr_inv
  exact⟨.pointer (some ⟨ad.block,ad.off+off,none⟩),by simp only[execOp,hv];rw[z5j h2];exact q1f (v6i hF w _ _),
   .imm (.iptr (a:=⟨ad.block,ad.off+off,none⟩) f base h1 rfl (by simp[h3,ah8]) h4 h5)⟩) kk
def z3c:V->Bool
 | .con v=>v.oneCell'
 | .any | .agg _ | .tup _=>false
 |_=>true
theorem q8n.one{c:V}{v:Value}(h:q8n m β c v)(hc:z3c c=true):v.oneCell'=true:=by
 cases h with
 |imm h=>cases h<;>first|exact hc|rfl|simp[z3c] at hc
 |_=>first|rfl|simp[z3c] at hc
def q9p:V->List V
 | .agg cs=>cs
 |v=>[v]
theorem q8n.cells{d:V}{v:Value}(h:q8n m β d v)(hd:(q9p d).all z3c=true):(q9p d).length=v.cells.size/\(∀(i:Nat) c u,(q9p d)[i]? = some c->v.cells[i]? = some u->q8n m β c u)/\∀u,u∈v.cells.toList->u.oneCell'=true:=by
 have key:(q9p d).length=v.cells.size/\(∀(i:Nat) c u,(q9p d)[i]? = some c->v.cells[i]? = some u->q8n m β c u):=by
  cases d with
  |agg cs=>
   cases h with
   |imm h=>cases h with|agg hl h=>exact⟨hl,fun i c u a b=>.imm (h i c u a b)⟩
   |agg hl h=>exact⟨hl,h⟩
  |any=>simp[q9p,z3c] at hd
  |tup cs=>simp[q9p,z3c] at hd
  |_=>
   have h1:=h.one (by simpa[q9p] using hd);have h2:v.cells=#[v]:=by cases v<;>simp[Value.cells]<;>simp[Value.oneCell'] at h1
   rw[h2];refine⟨rfl,fun i c u a b=>?_⟩;cases i with
   |zero=>simp[q9p] at a b;subst a;subst b;exact h
   |succ i=>simp[q9p] at a
 refine⟨key.1,key.2,fun u hu=>?_⟩;obtain⟨i,hi,rfl⟩:=br8 hu;have hi':i<(q9p d).length:=by rw[key.1];simpa using hi
 have hall:=aw9.1 hd (q9p d)[i] (bh8 _);exact(key.2 i _ _ (be8 hi') (by simp)).one hall
theorem Rel.allocG(r:Rel K m β w a S)(id0 nx':Nat)(hfree:β id0=none)(hpid:∀q,q<K.pins->q≠id0)(hidn:id0<nx')(hnn:S.nx<=nx')(o:Obj)(ob:Ob)(cap:Cap)(w':World)(hw':w'={ w with heap:=w.heap.push o })(B:Nat->Prop)
  (hB:∀x,B x->x<w.heap.size/\m x=none/\(x<K.w0.heap.size->¬K.old x)/\(∀i b c,q1e S.hp i≠.dead->β i=some (some (b,c))->x≠b)/\∀i,q1e S.hp i≠.dead->¬β.hid i x)
  (hok:∀β',β.le β'->q4l m β' w' B (some (some (w.heap.size,cap))) ob):
  ∃β':q4m,β.le β'/\β' id0=some (some (w.heap.size,cap))/\Rel K m β' w' a ⟨S.env,(id0,ob)::S.hp,nx'⟩:=by
 let β':q4m:=⟨fun i=>if i=id0 then some (some (w.heap.size,cap)) else β i,fun i=>if i=id0 then B else β.hid i⟩
 have hle:β.le β':=by
  intro i l h
  show(if i=id0 then _ else _)=_
  rw[if_neg]
  ·exact h
  ·intro e;rw[e,hfree] at h;simp at h
 have en:β' id0=some (some (w.heap.size,cap)):=by show(if _ then _ else _)=_;rw[if_pos rfl]
 have eo:∀i,id0≠i->β' i=β i:=fun i h=>by show(if _ then _ else _)=_;rw[if_neg (Ne.symm h)]
 have hn:β'.hid id0=B:=by show(if _ then _ else _)=_;rw[if_pos rfl]
 have ho:∀i,id0≠i->β'.hid i=β.hid i:=fun i h=>by show(if _ then _ else _)=_;rw[if_neg (Ne.symm h)]
 have hheap:∀(b:Nat) (o':Obj),w.heap[b]? = some o'->w'.heap[b]? = some o':=by
  intro b o' h;have:=q9h h;rw[hw'];simp only[bz9];rw[if_neg (by omega)];exact h
 have hsame:∀b,b<w.heap.size->w'.heap[b]? = w.heap[b]?:=by
  intro b hb;rw[hw'];simp only[bz9];rw[if_neg (by omega)]
 have hsz:w'.heap.size=w.heap.size+1:=by rw[hw'];simp
 have hm:m w.heap.size=none:=by
  cases hm:m w.heap.size with
  |none=>rfl
  |some o'=>have:=q9h (r.imm _ _ hm);omega
 refine⟨β',hle,en,?_⟩;constructor
 ·exact fun b o' h=>hheap _ _ (r.imm b o' h)
 ·exact r.ext
 ·exact r.mold
 ·intro b hb ho;rw[hsame b (cz8 hb r.size)];exact r.frame b hb ho
 ·rw[hsz];have:=r.size;omega
 ·rw[hw'];exact⟨r.same.os,r.same.tape,r.same.output,r.same.drawn⟩
 ·exact r.tn
 ·exact r.df
 ·exact fun t=>(r.env t).mono (Mem.le_refl _) hle
 ·intro id;simp only[q5d];by_cases h:id0=id
  ·subst h;rw[if_pos rfl]
   show q4l m β' w' (β'.hid id0) (β' id0) ob
   rw[en,hn];exact hok β' hle
  ·rw[if_neg h]
   show q4l m β' w' (β'.hid id) (β' id) _
   rw[eo id h,ho id h];by_cases hd:q1e S.hp id=.dead
   ·rw[hd];exact q4l.dead' _
   ·exact q4l.mono (Mem.le_refl _) hle hheap (fun x hx=>hsame x (r.hid id x hd hx).lt) (r.own id)
 ·intro id b c hl hb;simp only[q5d] at hl;by_cases h:id0=id
  ·subst h;rw[en] at hb;simp only[bc8,Prod.mk.injEq] at hb;obtain⟨rfl,_⟩:=hb;exact⟨hm,by intro hlt;have:=r.size;omega⟩
  ·rw[if_neg h] at hl;rw[eo id h] at hb;exact r.priv id b c hl hb
 ·intro id id' b c c' hl hl' hb hb';simp only[q5d] at hl hl';by_cases h:id0=id<;>by_cases h':id0=id'
  ·rw[<-h,<-h']
  ·exfalso;rw[if_neg h'] at hl';rw[eo id' h'] at hb';have:=q3x hl' hb' (r.own id');subst h;rw[en] at hb;simp only[bc8,Prod.mk.injEq] at hb;omega
  ·exfalso;rw[if_neg h] at hl;rw[eo id h] at hb;have:=q3x hl hb (r.own id);subst h';rw[en] at hb';simp only[bc8,Prod.mk.injEq] at hb';omega
  ·rw[if_neg h] at hl;rw[if_neg h'] at hl';rw[eo id h] at hb;rw[eo id' h'] at hb';exact r.inj id id' b c c' hl hl' hb hb'
 ·intro id x hl hx;simp only[q5d] at hl
  have ne:∀i b cap,q1e ((id0,ob)::S.hp) i≠.dead->β' i=some (some (b,cap))->x<w.heap.size->(∀i b c,q1e S.hp i≠.dead->β i=some (some (b,c))->x≠b)->x≠b:=by
   intro i b c hi hb hx hh;rw[q5d] at hi;by_cases h:id0=i
   ·subst h;rw[en] at hb;simp only[bc8,Prod.mk.injEq] at hb;omega
   ·rw[if_neg h] at hi;rw[eo i h] at hb;exact hh i b c hi hb
  by_cases h:id0=id
  ·subst h;rw[hn] at hx;obtain⟨q1,q2,q3,q4,q5⟩:=hB x hx;refine⟨by rw[hsz];omega,q2,q3,fun i b c hi hb=>ne i b c hi hb q1 q4,fun i hi hx'=>?_⟩;rw[q5d] at hi;by_cases h:id0=i
   ·exact h.symm
   ·rw[if_neg h] at hi;rw[ho i h] at hx';exact absurd hx' (q5 i hi)
  ·rw[if_neg h] at hl;rw[ho id h] at hx;have hh:=r.hid id x hl hx;refine⟨by rw[hsz];have:=hh.lt;omega,hh.m,hh.old,fun i b c hi hb=>ne i b c hi hb hh.lt hh.ne,fun i hi hx'=>?_⟩;rw[q5d] at hi;by_cases h':id0=i
   ·subst h';rw[hn] at hx';exact absurd hx ((hB x hx').2.2.2.2 id hl)
   ·rw[if_neg h'] at hi;rw[ho i h'] at hx';exact hh.un i hi hx'
 ·intro id hid;have hid':nx'<=id:=hid;rw[eo id (by omega)];exact r.nx id (by omega)
 ·intro q hq;obtain⟨h1,h2⟩:=r.pin q hq;exact⟨cz8 h1 hnn,by rw[<-h2];exact eo q (Ne.symm (hpid q hq))⟩
theorem Rel.allocB(r:Rel K m β w a S)(o:Obj)(ob:Ob)(cap:Cap)(w':World)(hw':w'={ w with heap:=w.heap.push o })(B:Nat->Prop)
  (hB:∀x,B x->x<w.heap.size/\m x=none/\(x<K.w0.heap.size->¬K.old x)/\(∀i b c,q1e S.hp i≠.dead->β i=some (some (b,c))->x≠b)/\∀i,q1e S.hp i≠.dead->¬β.hid i x)
  (hok:∀β',β.le β'->q4l m β' w' B (some (some (w.heap.size,cap))) ob):
  ∃β':q4m,β.le β'/\β' S.nx=some (some (w.heap.size,cap))/\Rel K m β' w' a ⟨S.env,(S.nx,ob)::S.hp,S.nx+1⟩:=
 r.allocG S.nx (S.nx+1) (r.nx _ (ae8 _)) (fun q hq=>an8 (r.pin q hq).1) (ao9 _) (ao8 _) o ob cap w' hw' B hB hok
theorem Rel.alloc(r:Rel K m β w a S)(o:Obj)(ob:Ob)(cap:Cap)(w':World)(hw':w'={ w with heap:=w.heap.push o })
  (hok:∀β',β.le β'->q4l m β' w' (fun _=>False) (some (some (w.heap.size,cap))) ob):
  ∃β':q4m,β.le β'/\β' S.nx=some (some (w.heap.size,cap))/\Rel K m β' w' a ⟨S.env,(S.nx,ob)::S.hp,S.nx+1⟩:=
 r.allocB o ob cap w' hw' (fun _=>False) (fun _ h=>h.elim) hok
theorem q4l.congr{w w':World}{B:Nat->Prop}{l:Option (Option (Nat×Cap))}{ob:Ob}(hw:∀b cap,l=some (some (b,cap))->w'.heap[b]? = w.heap[b]?)(hB:∀x,B x->w'.heap[x]? = w.heap[x]?)(h:q4l m β w B l ob):q4l m β w' B l ob:=by
 match l,ob,h with
 |none,.dead,_|some none,.dead,_|some (some (b,c)),.dead,_=>simp[q4l]
 |none,.res,_=>trivial
 |some none,.res,h|some (some (b,c)),.res,h=>exact absurd h (by simp[q4l])
 |some none,.arr e k rows,h=>exact h
 |some (some (b,cap)),.arr e k rows,h=>
  obtain⟨arr,bl,h1,h2,h3,h4,h5,hBl,h6⟩:=h;exact⟨arr,bl,by rw[hw b cap rfl];exact h1,h2,h3,h4,h5,hBl,fun i j row c hi hj=>let ⟨v,a1,a2,a3⟩:=h6 i j row c hi hj;⟨v,a1,a2.mono (Mem.le_refl _) (q4m.le_refl _) (fun _ h=>h) (fun x hx=>hB x (hBl.1 _ x hx)),a3⟩⟩
 |some (some (b,cap)),.map es,h=>
  obtain⟨ents,clock,bl,h1,h2,hBl,h3⟩:=h;exact⟨ents,clock,bl,by rw[hw b cap rfl];exact h1,h2,hBl,fun i p e hi he=>⟨(h3 i p e hi he).1,(h3 i p e hi he).2.mono (Mem.le_refl _) (q4m.le_refl _) (fun _ h=>h) (fun x hx=>hB x (hBl.1 _ x hx))⟩⟩
 |some (some (b,cap)),.iter cur left,h=>
  obtain⟨bm,seen,E,clock,v,h0,h1,h2⟩:=h;exact⟨bm,seen,E,clock,v,h0,by rw[hw b cap rfl];exact h1,h2⟩
 |some (some (b,cap)),.bld T e bs _,h=>
  obtain⟨h0,h1,p,v,hf,h2,h3,h4⟩:=h;exact⟨h0,h1,p,v,hf,by rw[hw b cap rfl];exact h2,h3,h4.imp id fun⟨g,c,cur,a1,a2,a3,a4,a5⟩=>⟨g,c,cur,a1,a2,a3,by rw[hB g a2];exact a4,a5⟩⟩
 |none,.arr ..,h|none,.map ..,h|some none,.map ..,h|none,.iter ..,h|some none,.iter ..,h|none,.bld ..,h|some none,.bld ..,h=>exact absurd h (by simp[q4l])
theorem Rel.update(r:Rel K m β w a S){id b:Nat}{cap:Cap}(hl:q1e S.hp id≠.dead)(hb:β id=some (some (b,cap)))(w':World)(ob:Ob)
  (hw:∀b',b'≠b->w'.heap[b']? = w.heap[b']?) (hs:w'.heap.size=w.heap.size) (hsame:w2i w w')
  (hok:(∀x,β.hid id x->w'.heap[x]? = w.heap[x]?)->q4l m β w' (β.hid id) (some (some (b,cap))) ob):Rel K m β w' a ⟨S.env,(id,ob)::S.hp,S.nx⟩:=by
 have hp:=r.priv id b cap hl hb
 have live:∀i,q1e ((id,ob)::S.hp) i≠.dead->q1e S.hp i≠.dead:=by
  intro i hi;rw[q5d] at hi;by_cases h:id=i
  ·subst h;exact hl
  ·rw[if_neg h] at hi;exact hi
 constructor
 ·intro b' o' h;have:b'≠b:=by intro e;subst e;rw[hp.1] at h;simp at h
  rw[hw _ this];exact r.imm b' o' h
 ·exact r.ext
 ·exact r.mold
 ·intro b' hb' ho;have:b'≠b:=by intro e;subst e;exact hp.2 hb' ho
  rw[hw _ this];exact r.frame b' hb' ho
 ·rw[hs];exact r.size
 ·exact r.same.trans hsame
 ·exact r.tn
 ·exact r.df
 ·exact r.env
 ·intro id';simp only[q5d];by_cases h:id=id'
  ·subst h;rw[if_pos rfl,hb];exact hok (fun x hx=>hw x ((r.hid id x hl hx).ne id b cap hl hb))
  ·rw[if_neg h];by_cases hd:q1e S.hp id'=.dead
   ·rw[hd];exact q4l.dead' _
   ·refine q4l.congr (fun b' cap' hbi=>hw b' fun e=>h ?_) (fun x hx=>hw x ((r.hid id' x hd hx).ne id b cap hl hb)) (r.own id');subst e;exact r.inj id id' b' cap cap' hl hd hb hbi
 ·intro id' b' c' hl' hb';exact r.priv _ _ _ (live _ hl') hb'
 ·exact fun i i' b' c c' h1 h2=>r.inj i i' b' c c' (live i h1) (live i' h2)
 ·intro i x hi hx;have h:=r.hid i x (live i hi) hx;exact⟨by rw[hs];exact h.lt,h.m,h.old,fun i' b' c' hi'=>h.ne i' b' c' (live i' hi'),fun i' hi'=>h.un i' (live i' hi')⟩
 ·exact r.nx
 ·exact r.pin
end
end Go.Pv
