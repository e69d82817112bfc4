/- Part of the proof. -/
import Derived.WalkKit
import Derived.OrdersIn
import Derived.RangeFuncRecord
set_option linter.unusedSimpArgs false
set_option linter.unusedVariables false
namespace Go.Pv
open Go
abbrev B8:=List UInt8
set_option linter.defProp false
def aa9:=@List.nodup_cons
def aa8:=@List.filter_cons
def ab9:=@List.length_filter_le
def ab8:=@List.flatMap_cons
def ac9:=@List.filter_append
def ac8:=@List.mem_flatMap
def ad9:=@List.nil_append
def ad8:=@Option.map_eq_some_iff
def ae9:=@Nat.le_refl
def ae8:=@Array.getElem?_toList
def af9:=@Nat.add_assoc
def af8:=@List.append_inj
def ag9:=@List.cons.inj
def ag8:=@List.all_cons
def ah9:=@Bool.true_and
def ah8:=@Option.some.inj
def ai9:=@List.length_replicate
def ai8:=@Nat.zero_le
def aj9:=@Nat.beq_refl
def aj8:=@Option.map_none
def ak9:=@Nat.ne_of_lt
def ak8:=@Nat.lt_succ_self
def al9:=@Nat.le_succ
def al8:=@List.drop_eq_nil_of_le
def am9:=@Nat.add_mul
def am8:=@List.length_drop
def an9:=@List.length_set
def an8:=@Nat.mod_lt
def ao9:=@Nat.mul_comm
def ao8:=@Nat.div_add_mod
def ap9:=@List.mem_iff_getElem?
def ap8:=@List.map_nil
def aq9:=@Bool.and_eq_true
def aq8:=@List.all_eq_true
def ar9:=@Bool.not_eq_true'
def ar8:=@Bool.or_eq_true
def as9:=@List.mem_cons
def as8:=@Array.ext'
def at9:=@List.ext_getElem?
def at8:=@List.getElem?_append_left
def au9:=@List.getElem?_append_right
def au8:=@Nat.le_of_not_lt
def av9:=@List.getElem?_drop
def av8:=@List.getElem?_eq_none
def aw9:=@List.pairwise_iff_getElem
def aw8:=@Array.getElem?_append_right
def ax9:=@Option.some.injEq
def ax8:=@Nat.le_of_ble_eq_true
def ay9:=@List.mem_of_getElem?
def ay8:=@List.length_eq_zero_iff
def az9:=@List.getElem?_eq_getElem
def az8:=@List.getElem?_map
def ba9:=@List.getElem?_range
def ba8:=@Option.map_some
def bb9:=@Array.getElem?_eq_some_iff
def bb8:=@Array.getElem?_eq_getElem
def bc9:=@List.getElem_mem
def bc8:=@List.getElem?_of_mem
def bd9:=@List.getElem?_eq_some_iff
def bd8:=@List.length_pos_iff
def be9:=@Nat.div_lt_of_lt_mul
def be8:=@Nat.le_add_right
def bf9:=@List.mem_map
def bf8:=@List.map_map
def bg9:=@Nat.mul_le_mul_right
def bg8:=@Nat.add_zero
def bh9:=@Array.all_eq_true
def bh8:=@List.getElem?_toArray
def bi9:=@List.getElem?_take
def bi8:=@List.length_append
def bj9:=@List.length_map
def bj8:=@List.getElem_of_mem
def bk9:=@List.length_take
def bk8:=@Array.length_toList
def bl9:=@List.getElem?_set
def bl8:=@List.map_toArray
def bm9:=@List.map_cons
def bm8:=@Array.getD_eq_getD_getElem?
def bn9:=@List.mem_singleton
def bn8:=@List.size_toArray
def bo9:=@List.getElem?_cons_zero
def bo8:=@List.mem_map_of_mem
def bp9:=@Array.getElem?_modify
def bp8:=@Array.getElem?_push
def bq9:=@List.getElem?_inj
def bq8:=@Array.getElem?_setIfInBounds
def br9:=@Array.toList_push
def br8:=@Array.toList_modify
def bs9:=@List.length_nil
def bs8:=@Nat.lt_or_ge
def bt9:=@List.getElem?_cons_succ
def bt8:=@List.drop_zero
def bu9:=@List.getElem?_append
def bu8:=@List.drop_eq_getElem_cons
def bv9:=@Bool.not_true
def bv8:=@Nat.add_sub_cancel
def bw9:=@Nat.le_trans
def bw8:=@Bool.not_false
def bx9:=@List.length_cons
def bx8:=@Option.getD_some
def by9:=@List.mem_cons_of_mem
def by8:=@Option.bind_some
def bz9:=@List.mem_filter
def bz8:=@List.mem_append
def ca9:=@List.nodup_append
def ca8:=@List.cons.injEq
def cb9:=@List.append_assoc
def cb8:=@Array.getElem?_map
def cc9:=@Array.size_append
def cc8:=@Array.size_replicate
def cd9:=@Array.getElem?_append
def cd8:=@Nat.le_mul_of_pos_right
def ce9:=@Nat.zero_add
def ce8:=@List.mem_cons_self
def cf9:=@List.any_eq_true
def cf8:=@Array.getElem?_replicate
def cg9:=@List.drop_drop
def cg8:=@List.all_append
def ch9:=@List.take_append_drop
def ch8:=@List.mem_append_left
def ci9:=@Nat.eq_of_beq_eq_true
def ci8:=@Bool.and_eq_true_iff
def cj9:=@Nat.ble_eq_true_of_le
def cj8:=@Bool.false_eq_true
def ck9:=@List.forall_mem_cons
def ck8:=@Nat.lt_of_lt_of_le
def cl9:=@Nat.ne_of_beq_eq_false
def cl8:=@List.mem_range
def cm9:=@List.getD_eq_getElem?_getD
def cm8:=@List.map_append
theorem Y.{u} {α:Sort u} {a:α}:a=a:=rfl
inductive V where
 |any
 |con (v:Value)
 |agg (cs:List V)
 |tup (cs:List V)
 |lst (k:Nat) (rows:List (List V))
 |iptr (row:List V) (off:Nat)
 |imap (es:List (Value×V))
 |fn (f:Fn) (first captured:List V)
 |ptr (id k i off:Nat)
 |own (id n:Nat)
 |map (id:Nat)
 |adr (id:Nat)
 |dsl (e k:Nat) (rows:List (List V))
 |dmp (es:List (Value×V))
 |dpt (e:Nat) (row:List V)
 |ifc (T:Nat) (d:V)
 |plc (v0:Value) (d:V)
def V.deep:V->Bool
 | .dsl _ _ _=>true
 | .dmp _=>true
 | .dpt _ _=>true
 | .plc _ _=>true
 |_=>false
abbrev bB:=Nat->Option Obj
structure AW(E:Array MapEntry)(clock:Nat):Prop where
 born:(E.toList.map (·.born)).Nodup
 lt:∀e,e∈E.toList->e.born<clock
 key:(E.toList.map (·.key)).Nodup
def ny(o:Option Obj)(v:Array MapEntry)(clock:Nat):Prop:=∃E,o=some (.map E clock)/\v.toList.Perm E.toList/\AW E clock
theorem ny.mono{o o':Option Obj}{v:Array MapEntry}{clock:Nat}(h:∀x,o=some x->o'=some x)(q:ny o v clock):ny o' v clock:=
 let ⟨E,h1,h2,h3⟩:=q;⟨E,h _ h1,h2,h3⟩
theorem ny.some{o:Option Obj}{v:Array MapEntry}{clock:Nat}(q:ny o v clock):∃x,o=some x:=let ⟨_,h,_⟩:=q;⟨_,h⟩
inductive bN(m:bB):V->Value->Prop
 |any (v:Value):bN m .any v
 |con (v:Value):bN m (.con v) v
 |agg {cs:List V} {vs:Array Value} (hl:cs.length=vs.size)
   (h:∀(i:Nat) (c:V) (v:Value),cs[i]? = some c->vs[i]? = some v->bN m c v):bN m (.agg cs) (.agg vs)
 |tup {cs:List V} {vs:Array Value} (hl:cs.length=vs.size)
   (h:∀(i:Nat) (c:V) (v:Value),cs[i]? = some c->vs[i]? = some v->bN m c v):bN m (.tup cs) (.tuple vs)
 |nil (k:Nat) (a:Option Addr) (cap:Nat):bN m (.lst k []) (.slice a 0 cap)
 |lst {k:Nat} {rows:List (List V)} {a:Addr} {n cap:Nat} {arr:Array Value} {T:TypeId} {fr:Nat×Nat} (f:Nat->Value)
   (hm:m a.block=some (.cells arr T fr)) (hs:a.spot=none) (hn:rows.length=n) (hcap:n<=cap) (hbd:n<=maxLen)
   (hk:∀row,row∈rows->row.length=k)
   (hf:∀i,i<rows.length*k->arr[a.off+i]? = some (f i))
   (h:∀(i j:Nat) (row:List V) (c:V),rows[i]? = some row->row[j]? = some c->bN m c (f (i*k+j))):
   bN m (.lst k rows) (.slice (some a) n cap)
 |iptr {row:List V} {off:Nat} {a:Addr} {arr:Array Value} {T:TypeId} {fr:Nat×Nat} (f:Nat->Value)
   (base:Nat) (hm:m a.block=some (.cells arr T fr)) (hs:a.spot=none) (ho:a.off=base+off)
   (hf:∀i,i<row.length->arr[base+i]? = some (f i))
   (h:∀(j:Nat) (c:V),row[j]? = some c->bN m c (f j)):bN m (.iptr row off) (.pointer (some a))
 |imap {es:List (Value×V)} {b:Nat} {ents:Array MapEntry} {clock:Nat}
   (hm:ny (m b) ents clock) (hl:es.length=ents.size)
   (hk:∀(i:Nat) (p:Value×V) (e:MapEntry),es[i]? = some p->ents[i]? = some e->e.key=p.1)
   (h:∀(i:Nat) (p:Value×V) (e:MapEntry),es[i]? = some p->ents[i]? = some e->bN m p.2 e.val):
   bN m (.imap es) (.map (some b))
 |fn {f:Fn} {first captured:List V} {fs cs:Array Value} (hl:first.length=fs.size) (hl':captured.length=cs.size)
   (h:∀(i:Nat) (c:V) (v:Value),first[i]? = some c->fs[i]? = some v->bN m c v)
   (h':∀(i:Nat) (c:V) (v:Value),captured[i]? = some c->cs[i]? = some v->bN m c v):
   bN m (.fn f first captured) (.func f fs cs)
 |ifc {T:Nat} {d:V} {v:Value} (h:bN m d v):bN m (.ifc T d) (.iface T v)
def bB.le(m m':bB):Prop:=∀b o,m b=some o->m' b=some o
theorem bB.le_refl(m:bB):m.le m:=fun _ _ h=>h
theorem bB.le_trans{a b c:bB}(h:a.le b)(h':b.le c):a.le c:=fun _ _ x=>h' _ _ (h _ _ x)
theorem bN.mono{m m':bB}(hm:m.le m'){d:V}{v:Value}(h:bN m d v):bN m' d v:=by
 induction h with
 |any v=>exact .any v
 |con v=>exact .con v
 |agg hl _ ih=>exact .agg hl ih
 |tup hl _ ih=>exact .tup hl ih
 |nil k a c=>exact .nil k a c
 |lst f h1 h2 h3 h4 h4b h5 h6 _ ih=>exact .lst f (hm _ _ h1) h2 h3 h4 h4b h5 h6 ih
 |iptr f b h1 h2 h3 h4 _ ih=>exact .iptr f b (hm _ _ h1) h2 h3 h4 ih
 |imap h1 h2 h3 _ ih=>exact .imap (h1.mono (hm _)) h2 h3 ih
 |fn h1 h2 _ _ i1 i2=>exact .fn h1 h2 i1 i2
 |ifc _ ih=>exact .ifc ih
structure ol where
 n:Nat
 off:Nat
structure ba where
 f:Nat->Option (Option (Nat×ol))
 hid:Nat->Nat->Prop
instance:CoeFun ba (fun _=>Nat->Option (Option (Nat×ol))):=⟨ba.f⟩
def ba.le(β β':ba):Prop:=∀i l,β i=some l->β' i=some l
theorem ba.le_refl(β:ba):β.le β:=fun _ _ h=>h
inductive br(m:bB)(β:ba):V->Value->Prop
 |imm {d:V} {v:Value} (h:bN m d v):br m β d v
 |agg {cs:List V} {vs:Array Value} (hl:cs.length=vs.size)
   (h:∀(i:Nat) (c:V) (v:Value),cs[i]? = some c->vs[i]? = some v->br m β c v):br m β (.agg cs) (.agg vs)
 |tup {cs:List V} {vs:Array Value} (hl:cs.length=vs.size)
   (h:∀(i:Nat) (c:V) (v:Value),cs[i]? = some c->vs[i]? = some v->br m β c v):br m β (.tup cs) (.tuple vs)
 |fn {f:Fn} {first captured:List V} {fs cs:Array Value} (hl:first.length=fs.size) (hl':captured.length=cs.size)
   (h:∀(i:Nat) (c:V) (v:Value),first[i]? = some c->fs[i]? = some v->br m β c v)
   (h':∀(i:Nat) (c:V) (v:Value),captured[i]? = some c->cs[i]? = some v->br m β c v):
   br m β (.fn f first captured) (.func f fs cs)
 |ptr {id k i off b:Nat} {cap:ol} (h:β id=some (some (b,cap))):br m β (.ptr id k i off) (.pointer (some ⟨b,cap.off+(i*k+off),none⟩))
 |ownNil {id:Nat} {ad:Option Addr} (h:β id=some none):br m β (.own id 0) (.slice ad 0 0)
 |own {id n b:Nat} {cap:ol} (h:β id=some (some (b,cap))):br m β (.own id n) (.slice (some ⟨b,cap.off,none⟩) n cap.n)
 |map {id b:Nat} {cap:ol} (h:β id=some (some (b,cap))):br m β (.map id) (.map (some b))
 |adrNil {id:Nat}:br m β (.adr id) (.pointer none)
 |adr {id b:Nat} {cap:ol} (h:β id=some (some (b,cap))):br m β (.adr id) (.pointer (some ⟨b,cap.off,none⟩))
theorem br.mono{m m':bB}{β β':ba}(hm:m.le m')(hb:β.le β'){d:V}{v:Value}(h:br m β d v):br m' β' d v:=by
 induction h with
 |imm h=>exact .imm (h.mono hm)
 |agg hl _ ih=>exact .agg hl ih
 |tup hl _ ih=>exact .tup hl ih
 |fn h1 h2 _ _ i1 i2=>exact .fn h1 h2 i1 i2
 |ptr h=>exact .ptr (hb _ _ h)
 |ownNil h=>exact .ownNil (hb _ _ h)
 |own h=>exact .own (hb _ _ h)
 |map h=>exact .map (hb _ _ h)
 |adrNil=>exact .adrNil
 |adr h=>exact .adr (hb _ _ h)
def HE(B:Nat->Prop)(bl:Nat->Nat->Prop):Prop:=(∀p x,bl p x->B x)/\∀p q x,bl p x->bl q x->p=q
inductive gu(m:bB)(w:World):(Nat->Prop)->V->Value->Prop
 |imm {B:Nat->Prop} {c:V} {v:Value} (h:bN m c v):gu m w B c v
 |nil {B:Nat->Prop} (e k:Nat) (a:Option Addr):gu m w B (.dsl e k []) (.slice a 0 0)
 |sl {B:Nat->Prop} {k b cap off:Nat} {e:TypeId} {rows:List (List V)} {arr:Array Value} (bl:Nat->Nat->Prop) (f:Nat->Value) (hb:B b) (hbb:∀p,¬bl p b) (hB:HE B bl)
   (hw:w.heap[b]? = some (.cells arr e (0,0))) (hs:arr.size=off+cap*k) (hr:rows.length<=cap) (hcap:cap<=maxLen) (hk:∀row,row∈rows->row.length=k)
   (hf:∀(i j:Nat) (row:List V) (c:V),rows[i]? = some row->row[j]? = some c->arr[off+(i*k+j)]? = some (f (i*k+j))/\(f (i*k+j)).oneCell'=true)
   (h:∀(i j:Nat) (row:List V) (c:V),rows[i]? = some row->row[j]? = some c->gu m w (bl (i*k+j)) c (f (i*k+j))):
   gu m w B (.dsl e k rows) (.slice (some ⟨b,off,none⟩) rows.length cap)
 |mp {B:Nat->Prop} {b:Nat} {es:List (Value×V)} {ents:Array MapEntry} {clock:Nat} (bl:Nat->Nat->Prop) (hb:B b) (hbb:∀p,¬bl p b) (hB:HE B bl)
   (hw:ny (w.heap[b]?) ents clock) (hl:es.length=ents.size)
   (hk:∀(i:Nat) (p:Value×V) (e:MapEntry),es[i]? = some p->ents[i]? = some e->e.key=p.1)
   (h:∀(i:Nat) (p:Value×V) (e:MapEntry),es[i]? = some p->ents[i]? = some e->gu m w (bl i) p.2 e.val):gu m w B (.dmp es) (.map (some b))
 |pt {B:Nat->Prop} {b n off:Nat} {row:List V} {T:TypeId} {arr:Array Value} (bl:Nat->Nat->Prop) (f:Nat->Value) (hb:B b) (hbb:∀p,¬bl p b) (hB:HE B bl)
   (hw:w.heap[b]? = some (.cells arr T (0,0))) (hs:arr.size=off+n*row.length) (hn:1<=n) (hcap:n<=maxLen)
   (hf:∀(j:Nat) (c:V),row[j]? = some c->arr[off+j]? = some (f j)/\(f j).oneCell'=true)
   (h:∀(j:Nat) (c:V),row[j]? = some c->gu m w (bl j) c (f j)):gu m w B (.dpt T row) (.pointer (some ⟨b,off,none⟩))
 |dx {B:Nat->Prop} {d:V} {v:Value} (h:gu m w B d v):gu m w B (.plc v d) v
theorem gu.mono{m m':bB}{w w':World}{B B':Nat->Prop}{c:V}{v:Value}(hm:m.le m')(hB:∀x,B x->B' x)(hw:∀x,B x->w'.heap[x]? = w.heap[x]?)(h:gu m w B c v):gu m' w' B' c v:=by
 induction h generalizing B' with
 |imm h=>exact .imm (h.mono hm)
 |nil e k a=>exact .nil e k a
 |sl bl f hb hbb hBl h1 h2 h3 h4 h5 h6 _ ih=>
  exact .sl bl f (hB _ hb) hbb ⟨fun p x hx=>hB _ (hBl.1 p x hx),hBl.2⟩ (by grind) h2 h3 h4 h5 h6 (fun i j row c hi hj=>ih i j row c hi hj (fun _ hx=>hx) (fun x hx=>hw x (hBl.1 _ x hx)))
 |mp bl hb hbb hBl h1 h2 h3 _ ih=>
  exact .mp bl (hB _ hb) hbb ⟨fun p x hx=>hB _ (hBl.1 p x hx),hBl.2⟩ (by rw[hw _ hb];exact h1) h2 h3 (fun i p e hi he=>ih i p e hi he (fun _ hx=>hx) (fun x hx=>hw x (hBl.1 _ x hx)))
 |pt bl f hb hbb hBl h1 h2 hn hc h3 _ ih=>
  exact .pt bl f (hB _ hb) hbb ⟨fun p x hx=>hB _ (hBl.1 p x hx),hBl.2⟩ (by grind) h2 hn hc h3 (fun j c hj=>ih j c hj (fun _ hx=>hx) (fun x hx=>hw x (hBl.1 _ x hx)))
 |dx _ ih=>exact .dx (ih hB hw)
def eU(m:bB)(β:ba)(w:World)(B:Nat->Prop)(c:V)(v:Value):Prop:=br m β c v\/gu m w B c v
theorem eU.v{m:bB}{β:ba}{w:World}{B:Nat->Prop}{c:V}{v:Value}(h:eU m β w B c v)(hd:c.deep=false):br m β c v:=by
 rcases h with h|h
 ·exact h
 ·cases h with
  |imm h=>exact .imm h
  |_=>simp[V.deep] at hd
theorem eU.mono{m m':bB}{β β':ba}{w w':World}{B B':Nat->Prop}{c:V}{v:Value}(hm:m.le m')(hb:β.le β')(hB:∀x,B x->B' x)(hw:∀x,B x->w'.heap[x]? = w.heap[x]?)(h:eU m β w B c v):eU m' β' w' B' c v:=
 h.elim (fun h=>.inl (h.mono hm hb)) (fun h=>.inr (h.mono hm hB hw))
inductive Ob where
 |arr (e:TypeId) (k:Nat) (rows:List (List V))
 |map (es:List (Value×V))
 |iter (cur left:List (Value×V))
 |bld (T e:TypeId) (bs:B8) (fr:Bool:=false)
 |res
 |dead
abbrev cc:=List (Nat×V)
abbrev aC:=List (Nat×Ob)
def get:cc->Nat->V
 |[],_=>.any
 |(k,v)::e,t=>bif Nat.beq k t then v else get e t
def ak:aC->Nat->Ob
 |[],_=>.dead
 |(k,v)::e,t=>bif Nat.beq k t then v else ak e t
theorem cn(e:cc)(d:Nat)(v:V)(t:Nat):get ((d,v)::e) t=if d=t then v else get e t:=by
 simp_all[get]
theorem av(e:aC)(d:Nat)(v:Ob)(t:Nat):ak ((d,v)::e) t=if d=t then v else ak e t:=by
 simp_all[ak]
def bn(m:bB)(β:ba)(w:World)(B:Nat->Prop):Option (Option (Nat×ol))->Ob->Prop
 |_,.dead=>True
 |none,.res=>True
 |some none,.arr _ _ rows=>rows=[]
 |some (some (b,cap)),.arr e k rows=>∃arr bl,w.heap[b]? = some (.cells arr e (0,0))/\arr.size=cap.off+cap.n*k/\rows.length<=cap.n/\cap.n<=maxLen/\
   (∀row,row∈rows->row.length=k)/\HE B bl/\
   ∀(i j:Nat) (row:List V) (c:V),rows[i]? = some row->row[j]? = some c->∃v,arr[cap.off+(i*k+j)]? = some v/\eU m β w (bl (i*k+j)) c v/\v.oneCell'=true
 |some (some (b,_)),.map es=>∃ents clock bl,ny (w.heap[b]?) ents clock/\es.length=ents.size/\HE B bl/\
   (∀(i:Nat) (p:Value×V) (e:MapEntry),es[i]? = some p->ents[i]? = some e->e.key=p.1/\eU m β w (bl i) p.2 e.val)
 |some (some (b,cap)),.iter cur left=>∃bm seen E clock v,cap.off=0/\w.heap[b]? = some (.mapIter (some bm) clock seen clock)/\m bm=some (.map E clock)/\AW E clock/\
   List.Perm v (leftOf E seen).toList/\left.length=v.length/\
   (∀(i:Nat) (p:Value×V) (e:MapEntry),left[i]? = some p->v[i]? = some e->e.key=p.1/\bN m p.2 e.val)/\
   ∀p,p∈cur->∃e,e∈E.toList/\seen.back? = some e.born/\e.key=p.1/\bN m p.2 e.val
 |some (some (b,cap)),.bld T e bs fr=>cap.off=0/\T≠e/\∃p v,(fr=true->p=.pointer none/\v=.slice none 0 0)/\w.heap[b]? = some (.cells #[p,v] T (0,0))/\(p=.pointer none\/p=.pointer (some ⟨b,0,none⟩))/\
   ((v=.slice none 0 0/\bs=[])\/∃g c cur,v=.slice (some ⟨g,0,none⟩) bs.length c/\B g/\g≠b/\w.heap[g]? = some (.cells cur e (0,0))/\cur.size=c/\bs.length<=c/\c<=maxLen/\c≠0/\
    ∀(i:Nat) (x:UInt8),bs[i]? = some x->cur[i]? = some (.int .u8 x.toNat))
 |_,_=>False
abbrev Gl:=List (Nat×List V)
def OI:Gl->Nat->Option (List V)
 |[],_=>none
 |(k,v)::e,t=>bif Nat.beq k t then some v else OI e t
def P9(m:bB)(g:Nat)(row:List V):Prop:=bN m (.iptr row 0) (.pointer (some ⟨g,0,none⟩))/\∃arr T fr,m g=some (.cells arr T fr)/\arr.size=row.length
def fU(gl:Gl)(m:bB):Prop:=∀g row,OI gl g=some row->P9 m g row
theorem fU.mono{gl:Gl}{m m':bB}(h:fU gl m)(hm:m.le m'):fU gl m':=fun g row hg=>let ⟨a,T,fr,h1,h2⟩:=(h g row hg).2;⟨(h g row hg).1.mono hm,a,T,fr,hm _ _ h1,h2⟩
theorem fU.nil{m:bB}:fU [] m:=fun g row h=>by simp[OI] at h
structure cR where
 P:Program
 N:Nat
 w0:World
 m0:bB
 old:Nat->Prop
 pins:Nat
 loc:Nat->Option (Option (Nat×ol))
 gl:Gl
 glok:fU gl m0
 rd:Option Nat
@[reducible] def cR.fc(K:cR):Fence:={ Fence.wide with round:=K.rd }
structure k7(rd:Option Nat)(w0:World)(m0 m:bB)(l:List Deferred):Prop where
 at':∀d,d∈l->∃D,d={ target:=.collected D,args:=#[] }/\w0.heap.size<=D/\m0 D=none/\m D=some (.deferred (some []))
 nd:l.Nodup
 em:rd.isSome=true->l=[]
theorem k7.mono{rd:Option Nat}{w0:World}{m0 m m':bB}{l:List Deferred}(h:k7 rd w0 m0 m l)(hm:m.le m'):k7 rd w0 m0 m' l:=⟨fun d hd=>let ⟨D,h1,h2,h3,h4⟩:=h.at' d hd;⟨D,h1,h2,h3,hm _ _ h4⟩,h.nd,h.em⟩
theorem k7.nil{rd:Option Nat}{w0:World}{m0 m:bB}:k7 rd w0 m0 m []:=⟨fun d hd=>by simp at hd,List.nodup_nil,fun _=>rfl⟩
structure St where
 env:cc
 hp:aC
 nx:Nat
structure pL(w0 w:World):Prop where
 os:w.os=w0.os
 tape:w.tape=w0.tape
 output:w.output=w0.output
 drawn:True
structure OT(K:cR)(m:bB)(β:ba)(w:World)(hp:aC)(id x:Nat):Prop where
 lt:x<w.heap.size
 m:m x=none
 old:x<K.w0.heap.size->¬K.old x
 ne:∀i b cap,ak hp i≠.dead->β i=some (some (b,cap))->x≠b
 un:∀i,ak hp i≠.dead->β.hid i x->i=id
theorem OT.weak{K:cR}{m:bB}{β:ba}{w:World}{hp hp':aC}{id x:Nat}(q:OT K m β w hp id x)(hl:∀i,ak hp' i≠.dead->ak hp i≠.dead):OT K m β w hp' id x:=
 ⟨q.lt,q.m,q.old,fun i b c h=>q.ne i b c (hl i h),fun i h=>q.un i (hl i h)⟩
structure bX(K:cR)(m:bB)(β:ba)(w:World)(a:Act)(S:St):Prop where
 imm:∀b o,m b=some o->w.heap[b]? = some o
 ext:K.m0.le m
 mold:∀b,b<K.w0.heap.size->K.old b->m b=K.m0 b
 frame:∀b,b<K.w0.heap.size->K.old b->w.heap[b]? = K.w0.heap[b]?
 size:K.w0.heap.size<=w.heap.size
 same:pL K.w0 w
 tn:a.tmps.size=K.N
 df:k7 K.rd K.w0 K.m0 m a.defers
 env:∀t,br m β (get S.env t) (a.tmps.getD t undef)
 own:∀id,bn m β w (β.hid id) (β id) (ak S.hp id)
 priv:∀id b cap,ak S.hp id≠.dead->β id=some (some (b,cap))->m b=none/\(b<K.w0.heap.size->¬K.old b)
 inj:∀id id' b cap cap',ak S.hp id≠.dead->ak S.hp id'≠.dead->β id=some (some (b,cap))->β id'=some (some (b,cap'))->id=id'
 hid:∀id x,ak S.hp id≠.dead->β.hid id x->OT K m β w S.hp id x
 nx:∀id,S.nx<=id->β id=none
 pin:∀q,q<K.pins->q<S.nx/\β q=K.loc q
abbrev ca:=Exit->St->Prop
def jR:Exit->Bool
 | .goto _ | .outgrown=>false
 |_=>true
def ca.at(K:cR)(Q:ca):Exit->Act->World->Prop:=fun e a w=>jR e=true/\∃S m β,Q e S/\bX K m β w a S
def iC(K:cR)(c:Code)(Q:ca)(S:St):Prop:=∀m β w a,bX K m β w a S->c.wpIn K.fc 0 K.P (Q.at K) a w
def ay(K:cR)(ops:Array Oper)(l:List Oper)(Q:ca)(S:St):Prop:=∀m β w a,bX K m β w a S->wpListIn K.fc 0 K.P ops (Q.at K) l a w
section code
variable{K:cR}{Q:ca}{S:St}
def Eh(K:cR)(y:Code)(Q:ca):ca
 | .normal,S=>iC K y Q S
 |e,S=>Q e S
def wO(id:Nat)(Q:ca):ca
 | .exit i,S=>if i=id then Q .normal S else Q (.exit i) S
 |e,S=>Q e S
theorem IU{x y:Code}(h:iC K x (Eh K y Q) S):iC K (.seq x y) Q S:=by
 intro m β w a r;refine wpIn_seq (wpIn_mono (h m β w a r) ?_)
 rintro e a' w' ⟨p,S',m',β',q,r'⟩
 cases e with
 |normal=>exact q m' β' w' a' r'
 |_=>exact⟨p,S',m',β',q,r'⟩
theorem Di{id:Nat}{c:Code}(h:iC K c (wO id Q) S):iC K (.block id c) Q S:=by
 intro m β w a r;refine wpIn_block (wpIn_mono (h m β w a r) ?_)
 rintro e a' w' ⟨p,S',m',β',q,r'⟩
 cases e with
 |exit i=>
  simp only[wO] at q;simp only[Exit.inBlock];split
  ·rename_i h;rw[if_pos h] at q;exact⟨Y,S',m',β',q,r'⟩
  ·rename_i h;rw[if_neg h] at q;exact⟨Y,S',m',β',q,r'⟩
 |_=>exact⟨p,S',m',β',q,r'⟩
theorem GN(h:Q .normal S):iC K .skip Q S:=fun _ _ _ _ r=>wpIn_skip ⟨rfl,S,_,_,h,r⟩
theorem fD{P:Program}{b:Frame}{a:Act}{k:List Item}{cs:List Frame}{w:World}{c:Code}:step P (lone (b.atR a (.code (.scope c)::k)) cs w)=.next (lone (b.atR a (.code c::.inScope c::k)) cs w):=
 step_lone_go (by simp[stepG,stepG.exec,Frame.atR])
theorem tU{P:Program}{b:Frame}{a:Act}{k:List Item}{cs:List Frame}{w:World}{c:Code}:step P (lone (b.atR a (.inScope c::k)) cs w)=.next (lone (b.atR a k) cs w):=
 step_lone_go (by simp[stepG,stepG.exec,Frame.atR])
theorem mV{F:Fence}{P:Program}{Q:Exit->Act->World->Prop}{a:Act}{w:World}{c:Code}(h:c.wpIn F 0 P (Exit.noGoto Q) a w):(Code.scope c).wpIn F 0 P Q a w:=by
 intro b k cs hro hb hr;have h0:(lone (b.atR a (.code (.scope c)::k)) cs w).fenced P F:=fenced_calm hb hr rfl;obtain⟨e,a₁,w₁,hq,harr⟩:=h b (.inScope c::k) cs hro hb hr;have hx:∀id,exitTo id (.inScope c::k)=exitTo id k:=fun id=>by simp[exitTo]
 cases e with
 |normal=>exact⟨.normal,a₁,w₁,hq,.head h0 fD (StepsIn.trans harr (.one (fenced_calm hb hr rfl) tU))⟩
 |exit id=>exact⟨.exit id,a₁,w₁,hq,fun k' hk=>.head h0 fD (harr.1 k' (by grind)),fun hro' hk=>let ⟨k₁,g1,g2⟩:=harr.2 hro' (by grind);⟨k₁,g1,.head h0 fD g2⟩⟩
 |goto l=>exact hq.elim
 |ret=>exact⟨_,a₁,w₁,hq,.of_steps (.one h0 fD) harr⟩
 |panic ch=>exact⟨_,a₁,w₁,hq,.of_steps (.one h0 fD) harr⟩
 |outgrown=>exact⟨_,a₁,w₁,hq,.of_steps (.one h0 fD) harr⟩
theorem Dg{c:Code}(h:iC K c Q S):iC K (.scope c) Q S:=fun m β w a r=>mV (wpIn_mono (h m β w a r) fun e _ _ ⟨p,q⟩=>by
 cases e with
 |goto l=>simp[jR] at p
 |_=>exact⟨p,q⟩)
theorem Dh{l:Nat}(h:Q .normal S):iC K (.label l) Q S:=fun _ _ _ _ r=>wpIn_label ⟨rfl,S,_,_,h,r⟩
theorem wQ(h:Q .ret S):iC K .ret Q S:=fun _ _ _ _ r=>wpIn_ret ⟨rfl,S,_,_,h,r⟩
theorem GQ{id:Nat}(h:Q (.exit id) S):iC K (.exit id) Q S:=fun _ _ _ _ r=>wpIn_exit ⟨rfl,S,_,_,h,r⟩
def evl(K:cR)(S:St):Operand->V
 | .tmp t=>get S.env t
 | .const v=>.con v
 | .global g=>match OI K.gl g with|some row=>.iptr row 0|none=>.con (.pointer (some ⟨g,0,none⟩))
 | .func f=>.fn (.func f) [] []
theorem bX.reads{m:bB}{β:ba}{w:World}{a:Act}(r:bX K m β w a S)(x:Operand):br m β (evl K S x) (a.eval x):=by
 cases x with
 |tmp t=>exact r.env t
 |const v=>exact .imm (.con v)
 |global g=>
  simp only[evl];split
  ·rename_i row h;exact .imm (((K.glok.mono r.ext) g row h).1)
  ·exact .imm (.con _)
 |func f=>exact .imm (.fn rfl rfl (by simp) (by simp))
theorem br.of_con{m:bB}{β:ba}{v x:Value}(h:br m β (.con v) x):x=v:=by
 cases h with|imm h=>cases h;rfl
theorem oQ{c:Operand}{x y:Code}(b:Bool)(hc:evl K S c=.con (.bool b))(ht:b=true->iC K x Q S)(hf:b=false->iC K y Q S):
  iC K (.cond c x y) Q S:=by
 intro m β w a r;have h:=r.reads c;rw[hc] at h;refine wpIn_cond_split h.of_con (fun hb=>ht hb m β w a r) (fun hb=>hf hb m β w a r)
theorem AN{id:Nat}{l:List Oper}(h:ay K l.toArray l Q S):iC K (.region id l.toArray false) Q S:=
 fun m β w a r=>wpIn_region_lit (h m β w a r)
theorem aM{ops:Array Oper}(h:Q .normal S):ay K ops [] Q S:=fun _ _ _ _ r=>wpListIn_nil ⟨rfl,S,_,_,h,r⟩
theorem ir{I:Machine->Prop}{P:Program}{M X T:Machine}(h:StepsIn I P M T)(hx:step P M=.next X)(hne:M≠T):StepsIn I P X T:=by
 cases h<;>simp_all
theorem t8{id:Nat}:∀{k k':List Item},exitTo id k=some k'->k'.length<k.length:=by
 intro k
 induction k with
 |nil=>simp_all[exitTo]
 |cons x k ih=>
  intro k' h;unfold exitTo at h
  grind
theorem mI{b:Frame}{a a':Act}{k k':List Item}{cs:List Frame}{w w':World}(h:lone (b.atR a k) cs w=lone (b.atR a' k') cs w'):k=k':=by
 simp_all[lone,Frame.atR]
theorem ph{F:Fence}{P:Program}{c:Code}{R:Exit->Act->World->Prop}{a:Act}{w:World}(hR:∀e a w,R e a w->jR e=true)
  (h:c.wpIn F 0 P (Exit.then ((Code.loop c).wpIn F 0 P R) R) a w):(Code.loop c).wpIn F 0 P R a w:=by
 intro b k cs hro hb hr;have h0:(lone (b.atR a (.code (.loop c)::k)) cs w).fenced P F:=fenced_calm hb hr rfl;obtain⟨e,a₁,w₁,hq,harr⟩:=h b (.inLoop c::k) cs hro hb hr;cases e with
 |normal=>
  obtain⟨e₂,a₂,w₂,hq₂,harr₂⟩:=hq b k cs hro hb hr;have h1:(lone (b.atR a₁ (.inLoop c::k)) cs w₁).fenced P F:=fenced_calm hb hr rfl;refine⟨e₂,a₂,w₂,hq₂,.of_steps (.head h0 stepR_loop (StepsIn.trans harr (.one h1 stepR_inLoop))) ?_⟩;have hs:=stepR_loop (P:=P) (b:=b) (a:=a₁) (k:=k) (cs:=cs) (w:=w₁) (c:=c);have hp:=hR _ _ _ hq₂;cases e₂ with
  |normal=>
   refine ir harr₂ hs (fun e=>?_);have:=congrArg List.length (mI e);grind
  |exit id=>
   refine⟨fun k' hk=>ir (harr₂.1 k' hk) hs (fun e=>?_),fun hro' hk=>?_⟩
   ·have:=congrArg List.length (mI e);have:=t8 hk;grind
   ·obtain⟨k₁,g1,g2⟩:=harr₂.2 hro' hk<;>grind [ir,mI]
  |goto l=>simp[jR] at hp
  |ret=>
   refine⟨fun hn=>?_,fun hn=>?_⟩
   ·obtain⟨todo,hst⟩:=harr₂.1 hn<;>grind [ir,lone,Frame.atR]
   ·obtain⟨k₁,hst⟩:=harr₂.2 hn<;>grind [ir,mI]
  |panic ch=>
   obtain⟨todo,hst⟩:=harr₂;refine⟨todo,ir hst hs (fun e=>?_)⟩;simp[lone,Frame.atR] at e
  |outgrown=>simp[jR] at hp
 |exit id=>exact⟨_,a₁,w₁,hq,.of_steps (.one h0 stepR_loop) (.pass (x:=.inLoop c) rfl (fun _ _=>.inl (by simp)) harr)⟩
 |goto l=>exact⟨_,a₁,w₁,hq,.of_steps (.one h0 stepR_loop) (.pass (x:=.inLoop c) rfl (fun _ _=>.inl (by simp)) harr)⟩
 |ret=>exact⟨_,a₁,w₁,hq,.of_steps (.one h0 stepR_loop) (.pass (x:=.inLoop c) rfl (fun _ _=>.inl (by simp)) harr)⟩
 |panic ch=>exact⟨_,a₁,w₁,hq,.of_steps (.one h0 stepR_loop) (.pass (x:=.inLoop c) rfl (fun _ _=>.inl (by simp)) harr)⟩
 |outgrown=>exact⟨_,a₁,w₁,hq,.of_steps (.one h0 stepR_loop) (.pass (x:=.inLoop c) rfl (fun _ _=>.inl (by simp)) harr)⟩
theorem fY{K:cR}{o:Oper}{a:Act}{w:World}{next:Act->World->Prop}{Q:Exit->Act->World->Prop}(hnd:K.rd=none\/∀c,o.op≠.defer c)(h:o.wp K.P a w next Q):o.wpIn K.fc 0 K.P a w next Q:=by
 refine⟨fun _ _=>trivial,?_⟩
 have hs:o.semAt K.fc.round a.eval=execOp a.eval o:=by
  rcases hnd with h|h
  ·simp_all[Oper.semAt]
  ·grind [Oper.semAt_eq]
 rw[hs];unfold Oper.wp at h;generalize (execOp a.eval o).run K.P w=res at *;cases res with
 |ok n w'=>
  cases n<;>simp only[Oper.upon] at h<;>simp only[Oper.uponIn]
  ·exact h
  ·exact h
  ·exact⟨fun h=>by simp[Fence.wide] at h,callsIn_wide.2 h⟩
  ·exact h
  ·refine⟨fun h=>by simp[Fence.wide] at h,fun c cs _=>?_⟩;obtain⟨v,w2,r,s⟩:=h c cs;exact⟨v,w2,r,stepsIn_wide.2 s⟩
 |halt x w'=>cases x<;>simp only[Oper.upon] at h<;>exact h
theorem kr{o:Oper}{ρ:Operand->Value}{P:Program}{w w':World}{x:Next}(h:(execOp ρ o).run P w=.ok x w')(hx:∀d,x≠.defer d):∀c,o.op≠.defer c:=by
 intro c hc;unfold execOp at h;rw[hc] at h;simp only[Sem.run_bind] at h;cases hr:(resolve ρ c o.type).run P w with
 |ok d w2=>rw[hr] at h;simp[pure] at h;grind
 |halt y w2=>simp_all
theorem yU{c:Code}(h:iC K c (Eh K (.loop c) Q) S):iC K (.loop c) Q S:=by
 intro m β w a r;refine ph (fun _ _ _ q=>q.1) (wpIn_mono (h m β w a r) ?_)
 rintro e a' w' ⟨p,S',m',β',q,r'⟩
 cases e with
 |normal=>exact q m' β' w' a' r'
 |_=>exact⟨p,S',m',β',q,r'⟩
end code
end Go.Pv
namespace Go.Pv
open Go
section
variable{K:cR}{Q:ca}{S:St}
def St.put(S:St)(d:Nat)(v:V):St:=⟨(d,v)::S.env,S.hp,S.nx⟩
theorem rS(a:Act)(d:Nat)(v:Value)(t:Nat)(hd:d<a.tmps.size):
  (a.put (some d) v).tmps.getD t undef=if d=t then v else a.tmps.getD t undef:=by
 simp only[Act.put,bm8,bq8]
 grind
theorem bX.put{m:bB}{β:ba}{w:World}{a:Act}(r:bX K m β w a S){d:Nat}(hd:Nat.blt d K.N=true){dv:V}{v:Value}(hv:br m β dv v):
  bX K m β w (a.put (some d) v) (S.put d dv) where
 imm:=r.imm
 ext:=r.ext
 mold:=r.mold
 frame:=r.frame
 size:=r.size
 same:=r.same
 tn:=by simp only[Act.put,Array.size_setIfInBounds];exact r.tn
 df:=r.df
 env:=by
  intro t;have hd':d<a.tmps.size:=by rw[r.tn];exact ax8 hd
  simp only[St.put];rw[cn,rS _ _ _ _ hd'];split
  ·exact hv
  ·exact r.env t
 own:=r.own
 priv:=r.priv
 inj:=r.inj
 hid:=r.hid
 nx:=r.nx
 pin:=r.pin
structure ur(m m':bB)(w w':World):Prop where
 le:m.le m'
 imm:∀b o,m' b=some o->w'.heap[b]? = some o
 mold:∀b,b<w.heap.size->m' b=m b
 heap:∀b,b<w.heap.size->w'.heap[b]? = w.heap[b]?
 size:w.heap.size<=w'.heap.size
 same:pL w w'
theorem pL.trans{a b c:World}(h:pL a b)(h':pL b c):pL a c:=⟨h'.os.trans h.os,h'.tape.trans h.tape,h'.output.trans h.output,trivial⟩
theorem bD{w:World}{b:Nat}{o:Obj}(h:w.heap[b]? = some o):b<w.heap.size:=by
 grind
theorem bn.mono{m m':bB}{β β':ba}{w w':World}{B:Nat->Prop}(hm:m.le m')(hb:β.le β')(hw:∀(b:Nat) (o:Obj),w.heap[b]? = some o->w'.heap[b]? = some o)(hB:∀x,B x->w'.heap[x]? = w.heap[x]?)
  {l:Option (Option (Nat×ol))} {ob:Ob} (h:bn m β w B l ob):bn m' β' w' B l ob:=by
 match l,ob,h with
 |none,.dead,_|some none,.dead,_|some (some (b,c)),.dead,_=>simp[bn]
 |none,.res,_=>trivial
 |some none,.res,h|some (some (b,c)),.res,h=>exact absurd h (by simp[bn])
 |some none,.arr e k rows,h=>exact h
 |some (some (b,cap)),.arr e k rows,h=>
  obtain⟨arr,bl,h1,h2,h3,h4,h5,hBl,h6⟩:=h;exact⟨arr,bl,hw _ _ h1,h2,h3,h4,h5,hBl,fun i j row c hi hj=>let ⟨v,a1,a2,a3⟩:=h6 i j row c hi hj;⟨v,a1,a2.mono hm hb (fun _ h=>h) (fun x hx=>hB x (hBl.1 _ x hx)),a3⟩⟩
 |some (some (b,cap)),.map es,h=>
  obtain⟨ents,clock,bl,h1,h2,hBl,h3⟩:=h;exact⟨ents,clock,bl,h1.mono (hw _),h2,hBl,fun i p e hi he=>⟨(h3 i p e hi he).1,(h3 i p e hi he).2.mono hm hb (fun _ h=>h) (fun x hx=>hB x (hBl.1 _ x hx))⟩⟩
 |some (some (b,cap)),.iter cur left,h=>
  obtain⟨bm,seen,E,clock,v,h0,h1,h2,h3,h4,h5,h6,h7⟩:=h;exact⟨bm,seen,E,clock,v,h0,hw _ _ h1,hm _ _ h2,h3,h4,h5,fun i p e hi he=>⟨(h6 i p e hi he).1,(h6 i p e hi he).2.mono hm⟩,fun p hp=>let ⟨e,a1,a2,a3,a4⟩:=h7 p hp;⟨e,a1,a2,a3,a4.mono hm⟩⟩
 |some (some (b,cap)),.bld T e bs _,h=>
  obtain⟨h0,h1,p,v,hf,h2,h3,h4⟩:=h;exact⟨h0,h1,p,v,hf,hw _ _ h2,h3,h4.imp id fun⟨g,c,cur,a1,a2,a3,a4,a5⟩=>⟨g,c,cur,a1,a2,a3,hw _ _ a4,a5⟩⟩
 |none,.arr ..,h|none,.map ..,h|some none,.map ..,h|none,.iter ..,h|some none,.iter ..,h|none,.bld ..,h|some none,.bld ..,h=>exact absurd h (by simp[bn])
theorem bn.dead'{m:bB}{β:ba}{w:World}{B:Nat->Prop}(l:Option (Option (Nat×ol))):bn m β w B l .dead:=by
 simp_all[bn]
theorem eL{m:bB}{β:ba}{w:World}{B:Nat->Prop}{id b:Nat}{cap:ol}{ob:Ob}(hl:ob≠.dead)(hb:β id=some (some (b,cap)))(h:bn m β w B (β id) ob):b<w.heap.size:=by
 rw[hb] at h;cases ob with
 |dead=>grind
 |res=>simp_all[bn]
 |arr e k rows=>obtain⟨arr,bl,h1,_⟩:=h<;>grind
 |map es=>obtain⟨ents,clock,bl,h1,_⟩:=h;obtain⟨x,h1⟩:=h1.some<;>grind
 |iter cu lf=>obtain⟨bm,seen,E,clock,v,_,h1,_⟩:=h<;>grind
 |bld T e bs fr=>obtain⟨_,_,p,v,_,h1,_⟩:=h<;>grind
theorem bX.grow{m m':bB}{β:ba}{w w':World}{a:Act}(r:bX K m β w a S)(g:ur m m' w w'):bX K m' β w' a S where
 imm:=g.imm
 ext:=bB.le_trans r.ext g.le
 mold:=fun b hb ho=>(g.mold b (ck8 hb r.size)).trans (r.mold b hb ho)
 frame:=fun b hb ho=>(g.heap b (ck8 hb r.size)).trans (r.frame b hb ho)
 size:=bw9 r.size g.size
 same:=r.same.trans g.same
 tn:=r.tn
 df:=r.df.mono g.le
 env:=fun t=>(r.env t).mono g.le (ba.le_refl _)
 own:=fun id=>by
  by_cases hd:ak S.hp id=.dead
  ·simp_all[bn.dead']
  ·exact bn.mono g.le (ba.le_refl _) (fun b o h=>by rw[g.heap b (bD h)];exact h) (fun x hx=>g.heap x (r.hid id x hd hx).lt) (r.own id)
 priv:=fun id b cap hl hb=>by
  have:=r.priv id b cap hl hb;rw[g.mold b (eL hl hb (r.own id))];exact this
 inj:=r.inj
 hid:=fun id x hl hx=>
  let h:=r.hid id x hl hx
  ⟨ck8 h.lt g.size,by rw[g.mold x h.lt];exact h.m,h.old,h.ne,h.un⟩
 nx:=r.nx
 pin:=r.pin
def P8(K:cR)(o:Oper)(S S':St):Prop:=∀m β w a,bX K m β w a S->∃v w' m' β',
 ((execOp a.eval o).run K.P w=.ok (.value v) w'\/v=undef/\(execOp a.eval o).run K.P w=.ok .skip w')/\bX K m' β' w' (a.put o.dst v) S'
def aN(ops:Array Oper)(S:St)(o:Oper)(b:Bool):Prop:=
 match o.guard with
 |none=>b=true
 |some (j,want)=>∃t,(ops[j]?).bind (·.dst)=some t/\((∃c,get S.env t=.con (.bool c)/\b=(c==want))\/get S.env t=.con undef/\b=false)
theorem aN.at{ops:Array Oper}{o:Oper}{b:Bool}(h:aN ops S o b){m:bB}{β:ba}{w:World}{a:Act}(r:bX K m β w a S):
  Region.wanted o (yielded ops a.tmps)=b:=by
 unfold aN at h;unfold Region.wanted;split at h
 ·grind
 ·rename_i j want hg;obtain⟨t,h1,h⟩:=h;rw[hg];have h4:=r.env t;rcases h with ⟨c,h2,h3⟩|⟨h2,h3⟩
  ·rw[h2] at h4;have h5:=h4.of_con
   have h6:t<a.tmps.size:=by
    by_cases hlt:t<a.tmps.size
    ·exact hlt
    ·simp_all[undef]
   simp_all[yielded]
  ·rw[h2] at h4;have h5:=h4.of_con;simp only[yielded,h1,by8,h3];by_cases hlt:t<a.tmps.size
   ·simp_all[undef]
   grind
end
def bB.drop(m:bB)(D:Nat):bB:=fun b=>if b=D then none else m b
theorem bB.drop_some{m:bB}{D b:Nat}{o:Obj}(h:m.drop D b=some o):b≠D/\m b=some o:=by
 simp_all[bB.drop]
theorem bB.drop_none{m:bB}{D b:Nat}(h:m b=none):m.drop D b=none:=by
 simp_all[bB.drop]
theorem bB.drop_ne{m:bB}{D b:Nat}(h:b≠D):m.drop D b=m b:=by simp_all[bB.drop]
section
variable{m:bB}{D:Nat}{x:Option (List Deferred)}
theorem bN.drop(hD:m D=some (.deferred x)){d:V}{v:Value}(h:bN m d v):bN (m.drop D) d v:=by
 induction h with
 |any v=>exact .any v
 |con v=>exact .con v
 |agg hl _ ih=>exact .agg hl ih
 |tup hl _ ih=>exact .tup hl ih
 |nil k a c=>exact .nil k a c
 |lst f h1 h2 h3 h4 h4b h5 h6 _ ih=>exact .lst f (by rw[bB.drop_ne (fun e=>by grind)];exact h1) h2 h3 h4 h4b h5 h6 ih
 |iptr f b h1 h2 h3 h4 _ ih=>exact .iptr f b (by rw[bB.drop_ne (fun e=>by grind)];exact h1) h2 h3 h4 ih
 | @imap es b ents clock h1 h2 h3 _ ih=>
  obtain⟨E,e1,e2,e3⟩:=h1;exact .imap ⟨E,by grind [bB.drop_ne],e2,e3⟩ h2 h3 ih
 |fn h1 h2 _ _ i1 i2=>exact .fn h1 h2 i1 i2
 |ifc _ ih=>exact .ifc ih
theorem br.drop{β:ba}(hD:m D=some (.deferred x)){d:V}{v:Value}(h:br m β d v):br (m.drop D) β d v:=by
 induction h with
 |imm h=>exact .imm (h.drop hD)
 |agg hl _ ih=>exact .agg hl ih
 |tup hl _ ih=>exact .tup hl ih
 |fn h1 h2 _ _ i1 i2=>exact .fn h1 h2 i1 i2
 |ptr h=>exact .ptr h
 |ownNil h=>exact .ownNil h
 |own h=>exact .own h
 |map h=>exact .map h
 |adrNil=>exact .adrNil
 |adr h=>exact .adr h
theorem gu.drop{w w':World}(hD:m D=some (.deferred x)){B:Nat->Prop}{c:V}{v:Value}(hw:∀x,B x->w'.heap[x]? = w.heap[x]?)(h:gu m w B c v):gu (m.drop D) w' B c v:=by
 induction h with
 |imm h=>exact .imm (h.drop hD)
 |nil e k a=>exact .nil e k a
 |sl bl f hb hbb hBl h1 h2 h3 h4 h5 h6 _ ih=>
  exact .sl bl f hb hbb hBl (by grind) h2 h3 h4 h5 h6 (fun i j row c hi hj=>ih i j row c hi hj (fun x hx=>hw x (hBl.1 _ x hx)))
 |mp bl hb hbb hBl h1 h2 h3 _ ih=>
  exact .mp bl hb hbb hBl (by rw[hw _ hb];exact h1) h2 h3 (fun i p e hi he=>ih i p e hi he (fun x hx=>hw x (hBl.1 _ x hx)))
 |pt bl f hb hbb hBl h1 h2 hn hc h3 _ ih=>
  exact .pt bl f hb hbb hBl (by grind) h2 hn hc h3 (fun j c hj=>ih j c hj (fun x hx=>hw x (hBl.1 _ x hx)))
 |dx _ ih=>exact .dx (ih hw)
theorem eU.drop{β:ba}{w w':World}(hD:m D=some (.deferred x)){B:Nat->Prop}{c:V}{v:Value}(hw:∀x,B x->w'.heap[x]? = w.heap[x]?)(h:eU m β w B c v):eU (m.drop D) β w' B c v:=
 h.elim (fun h=>.inl (h.drop hD)) (fun h=>.inr (h.drop hD hw))
theorem bn.drop{ob:Ob}{β:ba}{w w':World}(hD:m D=some (.deferred x))(hwD:w.heap[D]? = some (.deferred x)){B:Nat->Prop}(hB:ob≠.dead->¬B D)(hw:∀x,x≠D->w'.heap[x]? = w.heap[x]?){loc:Option (Option (Nat×ol))}(h:bn m β w B loc ob):bn (m.drop D) β w' B loc ob:=by
 have hwB:ob≠.dead->∀x,B x->w'.heap[x]? = w.heap[x]?:=fun ho x hx=>hw x (fun e=>hB ho (e ▸ hx))
 match loc,ob,h with
 |none,.dead,_=>trivial
 |some none,.dead,_=>trivial
 |some (some _),.dead,_=>trivial
 |none,.res,_=>trivial
 |some none,.arr _ _ rows,h=>exact h
 |some (some (b,cap)),.arr e k rows,h=>
  obtain⟨arr,bl,h1,h2,h3,h4,h5,h6,h7⟩:=h;have hb:b≠D:=fun e=>by grind
  refine⟨arr,bl,by grind,h2,h3,h4,h5,h6,fun i j row c hi hj=>?_⟩;obtain⟨v,a1,a2,a3⟩:=h7 i j row c hi hj;exact⟨v,a1,a2.drop hD (fun x hx=>hwB (by simp) x (h6.1 _ x hx)),a3⟩
 |some (some (b,_)),.map es,h=>
  obtain⟨ents,clock,bl,⟨E,h1,e2,e3⟩,h2,h6,h7⟩:=h;have hb:b≠D:=fun e=>by grind
  refine⟨ents,clock,bl,⟨E,by grind,e2,e3⟩,h2,h6,fun i p e hi he=>?_⟩;obtain⟨a1,a2⟩:=h7 i p e hi he;exact⟨a1,a2.drop hD (fun x hx=>hwB (by simp) x (h6.1 _ x hx))⟩
 |some (some (b,cap)),.iter cur left,h=>
  obtain⟨bm,seen,E,clock,v,h0,h1,h2,h3,h4,h5,h6,h7⟩:=h;have hb:b≠D:=fun e=>by grind
  have hb2:bm≠D:=fun e=>by grind
  exact⟨bm,seen,E,clock,v,h0,by grind,by simp_all[bB.drop_ne],h3,h4,h5,fun i p e hi he=>⟨(h6 i p e hi he).1,(h6 i p e hi he).2.drop hD⟩,fun p hp=>let ⟨e,q1,q2,q3,q4⟩:=h7 p hp;⟨e,q1,q2,q3,q4.drop hD⟩⟩
 |some (some (b,cap)),.bld T e bs fr,h=>
  obtain⟨h0,hne,p,v,hf,h1,h2,h3⟩:=h;have hb:b≠D:=fun e=>by grind
  refine⟨h0,hne,p,v,hf,by grind,h2,h3.imp id ?_⟩
  grind
end
section
variable{K:cR}{S:St}{β:ba}
theorem bX.close1{m:bB}{w:World}{a:Act}{ds:List Deferred}{d:Deferred}(r:bX K m β w a S)(hd:a.defers=d::ds):
  ∃D,d={ target:=.collected D,args:=#[] }/\(Instr.takeDeferred D).run K.P w=.ok [] (w.putObj D (.deferred none))/\bX K (m.drop D) β (w.putObj D (.deferred none)) { a with defers:=ds } S:=by
 have hm:=r.df;rw[hd] at hm;obtain⟨D,e1,e2,e3,e4⟩:=hm.at' d (by simp);have hw:=r.imm _ _ e4;have hne:∀x,x≠D->(w.putObj D (.deferred none)).heap[x]? = w.heap[x]?:=fun x hx=>World.putObj_heap_other hx
 have hh:∀id,ak S.hp id≠.dead->¬β.hid id D:=fun id hl hx=>by
  have:=(r.hid id D hl hx).m
  grind
 refine⟨D,e1,run_takeDeferred hw,?_⟩;constructor
 ·intro b o h;obtain⟨h1,h2⟩:=bB.drop_some h;rw[hne b h1];exact r.imm _ _ h2
 ·intro b o h;have hb:b≠D:=fun e=>by grind
  rw[bB.drop_ne hb];exact r.ext _ _ h
 ·intro b hb ho;rw[bB.drop_ne (by omega)];exact r.mold b hb ho
 ·intro b hb ho;rw[hne b (by omega)];exact r.frame b hb ho
 ·grind [World.putObj_size]
 ·exact⟨r.same.os,r.same.tape,r.same.output,r.same.drawn⟩
 ·exact r.tn
 ·refine⟨fun d' hd'=>?_,(aa9.1 hm.nd).2,fun h=>by have:=hm.em h;cases this⟩;obtain⟨D',f1,f2,f3,f4⟩:=hm.at' d' (by simp[hd']);refine⟨D',f1,f2,f3,?_⟩;rw[bB.drop_ne]
  ·exact f4
  ·intro e;apply (aa9.1 hm.nd).1
   grind
 ·exact fun t=>(r.env t).drop e4
 ·exact fun id=>bn.drop e4 hw (hh id) hne (r.own id)
 ·intro id b cap hl hb;obtain⟨p1,p2⟩:=r.priv id b cap hl hb<;>grind [bB.drop_none]
 ·exact r.inj
 ·intro id x hl hx;have q:=r.hid id x hl hx;exact⟨by rw[World.putObj_size];exact q.lt,bB.drop_none q.m,q.old,q.ne,q.un⟩
 ·exact r.nx
 ·exact r.pin
theorem bX.leave{fn:Func}{tmps:Array Value}{R:Ending->World->Prop}:∀(l:List Deferred) (m:bB) (w:World) (a:Act),a.defers=l->bX K m β w a S->
  (∀m' w',bX K m' β w' { a with defers:=[] } S->∃v,(results fn tmps).run K.P w'=.ok v w'/\R (.returned v) w')->LeavesInM Fence.wide 0 K.P fn tmps R l .returning w
 |[],m,w,a,hl,r,h=>by
  have:a={ a with defers:=[] }:=by cases a;simp at hl;subst hl;rfl
  rw[this] at r;exact h m w r
 |d::ds,m,w,a,hl,r,h=>by
  obtain⟨D,e1,e2,e3⟩:=r.close1 hl;refine⟨by simp,.inl ⟨D,_,by rw[e1],e2,?_⟩⟩;exact bX.leave ds _ _ { a with defers:=ds } Y e3 (fun m' w' r'=>h m' w' r')
theorem jA{P:Program}{f:FuncId}{fn:Func}{c:Code}{args:Array Value}{w:World}{R:Ending->World->Prop}(hf:P.funcs[f]? = some fn)(hb:fn.body=some c)
  (h:c.wpIn Fence.wide 0 P (fun e a w=>(e=.ret\/e=.normal)/\LeavesInM Fence.wide 0 P fn a.tmps R a.defers .returning w) { tmps:=args++Array.replicate (fn.ntmps - args.size) undef,defers:=[] } w):Calls P f args w R:=by
 refine callsIn_wide.1 (callsIn_of_wp_marks (n:=0) hf hb trivial (wpIn_mono h ?_))
 rintro e a w ⟨he,hl⟩
 rcases he with rfl|rfl
 ·exact hl
 ·exact hl
end
section
variable{K:cR}{Q:ca}{S:St}{ops:Array Oper}{rest:List Oper}{op:Op}{ty:TypeId}{pos:String}{after:Array Edge}{g:Option (Nat×Bool)}
theorem cm{o:Oper}{S':St}(hw:aN ops S o true)(h:P8 K o S S')(k:ay K ops rest Q S'):ay K ops (o::rest) Q S:=by
 intro m β w a r;unfold wpListIn;rw[if_pos (hw.at r)];obtain⟨v,w',m',β',h1,r'⟩:=h m β w a r;rcases h1 with h1|⟨rfl,h1⟩
 ·refine fY (.inr (kr h1 (fun d e=>by cases e))) ?_;unfold Oper.wp;rw[h1];exact k m' β' w' _ r'
 ·refine fY (.inr (kr h1 (fun d e=>by cases e))) ?_;unfold Oper.wp;rw[h1];exact k m' β' w' _ r'
theorem pJ{o:Oper}{d:Nat}(hw:aN ops S o false)(hd:o.dst=some d)(hN:Nat.blt d K.N=true)(k:ay K ops rest Q (S.put d (.con undef))):
  ay K ops (o::rest) Q S:=by
 intro m β w a r;unfold wpListIn;rw[if_neg (by rw[hw.at r];simp),hd];exact⟨fun _ _=>trivial,k m β w _ (r.put hN (.imm (.con _)))⟩
theorem aX{d:Nat}(dv:V)(hw:aN ops S ⟨some d,op,ty,pos,after,g⟩ true)(hN:Nat.blt d K.N=true)
  (h:∀m β w a,bX K m β w a S->∃v,(execOp a.eval ⟨some d,op,ty,pos,after,g⟩).run K.P w=.ok (.value v) w/\br m β dv v)
  (k:ay K ops rest Q (S.put d dv)):ay K ops (⟨some d,op,ty,pos,after,g⟩::rest) Q S:=
 cm hw (fun m β w a r=>let ⟨v,h1,h2⟩:=h m β w a r;⟨v,w,m,β,.inl h1,r.put hN h2⟩) k
theorem af{d:Option Nat}:aN ops S ⟨d,op,ty,pos,after,none⟩ true:=rfl
theorem gf{d:Option Nat}{j:Nat}{want c b:Bool}(t:Nat)(ht:(ops[j]?).bind (·.dst)=some t)(hc:get S.env t=.con (.bool c))(hb:c=b):
  aN ops S ⟨d,op,ty,pos,after,some (j,want)⟩ (b==want):=⟨t,ht,.inl ⟨c,hc,by rw[hb]⟩⟩
theorem Dk{d:Nat}{x:Operand}(dv:V)(hw:aN ops S ⟨some d,.move x,ty,pos,after,g⟩ true)(hx:evl K S x=dv)(hN:Nat.blt d K.N=true)
  (k:ay K ops rest Q (S.put d dv)):ay K ops (⟨some d,.move x,ty,pos,after,g⟩::rest) Q S:=
 aX dv hw hN (fun m β w a r=>⟨a.eval x,rfl,by rw[<-hx];exact r.reads x⟩) k
theorem zh{d:Nat}{x:Operand}(dv:V)(hw:aN ops S ⟨some d,.assign x,ty,pos,after,g⟩ true)(hx:evl K S x=dv)(hN:Nat.blt d K.N=true)
  (k:ay K ops rest Q (S.put d dv)):ay K ops (⟨some d,.assign x,ty,pos,after,g⟩::rest) Q S:=
 aX dv hw hN (fun m β w a r=>⟨a.eval x,rfl,by rw[<-hx];exact r.reads x⟩) k
theorem bX.con{m:bB}{β:ba}{w:World}{a:Act}(r:bX K m β w a S){x:Operand}{v:Value}(h:evl K S x=.con v):a.eval x=v:=by
 have:=r.reads x;rw[h] at this;exact this.of_con
theorem ve{d:Nat}{c x y:Operand}(b:Bool){cb:Bool}(dv:V)(hw:aN ops S ⟨some d,.pick c x y,ty,pos,after,g⟩ true)(hc:evl K S c=.con (.bool cb))(hb:cb=b)
  (hx:evl K S (if b then x else y)=dv) (hN:Nat.blt d K.N=true)
  (k:ay K ops rest Q (S.put d dv)):ay K ops (⟨some d,.pick c x y,ty,pos,after,g⟩::rest) Q S:=
 aX dv hw hN (fun m β w a r=>⟨a.eval (if b then x else y),by
  subst hb;simp only[execOp,r.con hc,asBool];cases cb<;>rfl,by rw[<-hx];exact r.reads _⟩) k
def IS(op:BinOp):Value->Value->Option Value
 | .int k a,.int k' b=>
  match op with
  | .shl=>if b<0 then none else some (.int k (k.wrap (a*2 ^ (min b.toNat k.bits))))
  | .shr=>if b<0 then none else some (.int k (a.fdiv (2 ^ (min b.toNat k.bits))))
  | .add=>if k=k' then some (.int k (k.wrap (a+b))) else none
  | .sub=>if k=k' then some (.int k (k.wrap (a - b))) else none
  | .mul=>if k=k' then some (.int k (k.wrap (a*b))) else none
  | .quo=>if k=k'/\b≠0 then some (.int k (k.wrap (a.tdiv b))) else none
  | .rem=>if k=k'/\b≠0 then some (.int k (a.tmod b)) else none
  | .and=>if k=k' then some (.int k (k.wrap (BitVec.ofInt k.bits a &&& BitVec.ofInt k.bits b).toNat)) else none
  | .or=>if k=k' then some (.int k (k.wrap (BitVec.ofInt k.bits a ||| BitVec.ofInt k.bits b).toNat)) else none
  | .xor=>if k=k' then some (.int k (k.wrap (BitVec.ofInt k.bits a ^^^ BitVec.ofInt k.bits b).toNat)) else none
  | .andNot=>if k=k' then some (.int k (k.wrap (BitVec.ofInt k.bits a &&& ~~~BitVec.ofInt k.bits b).toNat)) else none
  | .eql=>if k=k' then some (.bool (a==b)) else none
  | .neq=>if k=k' then some (.bool (a != b)) else none
  | .lss=>if k=k' then some (.bool (decide (a<b))) else none
  | .leq=>if k=k' then some (.bool (decide (a<=b))) else none
  | .gtr=>if k=k' then some (.bool (decide (a>b))) else none
  | .geq=>if k=k' then some (.bool (decide (a>=b))) else none
 |_,_=>none
theorem EY{P:Program}{w:World}{op:BinOp}{T:TypeId}{x y:Operand}{a b v:Value}(h:IS op a b=some v):
  (do eqGuard op T x y a b;binOp op T a b:Sem Value).run P w=.ok v w:=by
 unfold IS at h;split at h
 ·rename_i k a k' b
  have hg:(eqGuard op T x y (.int k a) (.int k' b)).run P w=.ok () w:=by
   unfold eqGuard;cases op<;>simp[pure]
  rw[Sem.run_bind,hg,Result.andThen_ok];cases op<;>simp only[binOp,Op.shift,Op.intArith,Op.intDiv,Op.intBits,Op.intCmp] at h ⊢
  all_goals first|(simp at h;done)|skip
  all_goals (split at h<;>simp only[ax9,reduceCtorEq] at h)
  all_goals subst h
  all_goals first
   |(rename_i hk;obtain⟨rfl,hb⟩:=hk;simp[hb,pure];done)
   |(rename_i hk;subst hk;simp[pure];done)
   |(rename_i hk;simp[hk,pure];done)
 ·simp at h
theorem bk{P:Program}{w:World}{s:Sem Value}{v:Value}(h:s.run P w=.ok v w):(do pure (Next.value (<-s)):Sem Next).run P w=.ok (.value v) w:=by
 simp_all
theorem GZ{d:Nat}{bop:BinOp}{x y:Operand}{T T':TypeId}{vx vy:Value}(v:Value)(hw:aN ops S ⟨some d,.binOp bop T x y T',ty,pos,after,g⟩ true)
  (hx:evl K S x=.con vx) (hy:evl K S y=.con vy) (hv:IS bop vx vy=some v) (hN:Nat.blt d K.N=true)
  (k:ay K ops rest Q (S.put d (.con v))):ay K ops (⟨some d,.binOp bop T x y T',ty,pos,after,g⟩::rest) Q S:=
 aX (.con v) hw hN (fun m β w a r=>⟨v,by
  simp only[execOp,r.con hx,r.con hy];exact bk (EY hv),.imm (.con v)⟩) k
theorem zg{d:Nat}{x y:Operand}{T T':TypeId}{a b:Bool}(neg:Bool)(hw:aN ops S ⟨some d,.binOp (if neg then .neq else .eql) T x y T',ty,pos,after,g⟩ true)
  (hT:K.P.underlying T=some .bool)
  (hx:evl K S x=.con (.bool a)) (hy:evl K S y=.con (.bool b)) (hN:Nat.blt d K.N=true)
  (k:ay K ops rest Q (S.put d (.con (.bool (if neg then a != b else a==b))))):ay K ops (⟨some d,.binOp (if neg then .neq else .eql) T x y T',ty,pos,after,g⟩::rest) Q S:=
 aX _ hw hN (fun m β w a' r=>⟨_,by
  simp only[execOp,r.con hx,r.con hy];refine bk (v:=.bool (if neg then a != b else a==b)) ?_
  have he:∀(op:BinOp),(eqGuard op T x y (.bool a) (.bool b)).run K.P w=.ok () w:=by
   intro op;unfold eqGuard;simp_all
  have hq:(Op.equal T (.bool a) (.bool b)).run K.P w=.ok (a==b) w:=by
   have hd:Op.maxDepth=9999+1:=rfl;rw[Op.equal,hd,Op.equalIn];simp only[Sem.run_bind,run_underlying hT,Result.andThen_ok];rfl
  rw[Sem.run_bind,he,Result.andThen_ok];cases neg
  ·simp_all[binOp]
  ·simp only[if_true,binOp,Sem.run_bind,hq,Result.andThen_ok];rfl,.imm (.con _)⟩) k
theorem GV{d:Nat}{x:Operand}{T:TypeId}{b:Bool}(hw:aN ops S ⟨some d,.unOp .not T x,ty,pos,after,g⟩ true)
  (hx:evl K S x=.con (.bool b)) (hN:Nat.blt d K.N=true)
  (k:ay K ops rest Q (S.put d (.con (.bool (!b))))):ay K ops (⟨some d,.unOp .not T x,ty,pos,after,g⟩::rest) Q S:=
 aX _ hw hN (fun m β w a r=>⟨_,by simp only[execOp,r.con hx];simp_all[Op.unary],.imm (.con _)⟩) k
theorem GW{d:Nat}{x:Operand}{T:TypeId}{k:IntKind}{n:Int}(hw:aN ops S ⟨some d,.unOp .neg T x,ty,pos,after,g⟩ true)
  (hx:evl K S x=.con (.int k n)) (hN:Nat.blt d K.N=true)
  (kk:ay K ops rest Q (S.put d (.con (.int k (k.wrap (0 - n)))))):ay K ops (⟨some d,.unOp .neg T x,ty,pos,after,g⟩::rest) Q S:=
 aX _ hw hN (fun m β w a r=>⟨_,by simp only[execOp,r.con hx];simp_all[Op.unary,Op.intArith],.imm (.con _)⟩) kk
theorem w8{d:Nat}{x:Operand}{i:Nat}{vs:List V}(dv:V)(hw:aN ops S ⟨some d,.extract x i,ty,pos,after,g⟩ true)
  (hx:evl K S x=.tup vs) (hi:vs[i]? = some dv) (hN:Nat.blt d K.N=true)
  (k:ay K ops rest Q (S.put d dv)):ay K ops (⟨some d,.extract x i,ty,pos,after,g⟩::rest) Q S:=
 aX dv hw hN (fun m β w a r=>by
  have h:=r.reads x;rw[hx] at h;generalize hex:a.eval x=ex at h
  have key:∃us:Array Value,ex=.tuple us/\vs.length=us.size/\∀v,us[i]? = some v->br m β dv v:=by
   cases h with
   |imm h=>cases h with|tup hl h=>exact⟨_,rfl,hl,fun v hv=>.imm (h i dv v hi hv)⟩
   |tup hl h=>grind
  obtain⟨us,h1,h2,h3⟩:=key;have hlt:i<us.size:=by rw[<-h2];exact(bd9.1 hi).1
  simp_all[execOp,Instr.extract]) k
def zy(P:Program)(T:TypeId)(k:Nat):Bool:=
 (match P.underlying T with|some (.struct _)|some (.array _ _)=>true|_=>false)&&(match P.info? T with|some i=>i.size==k|none=>false)
def ri(P:Program)(T:TypeId):Bool:=
 (match P.underlying T with|some (.struct _)|some (.array _ _)=>false|some _=>true|none=>false)&&(match P.info? T with|some i=>i.size==1|none=>false)
def HL(P:Program)(T:TypeId)(f off:Nat):Bool:=
 match P.underlying T with
 |some (.struct fs)=>(match fs[f]? with|some x=>x.offset==off&&(match P.info? x.type with|some i=>i.size != 0|none=>false)|none=>false)
 |_=>false
def nC(P:Program)(T n k e:Nat):Bool:=match P.underlying T with|some (.array l e')=>l==n&&e'==e&&zy P e k|_=>false
theorem zM{P:Program}{T n k e:Nat}(h:nC P T n k e=true):P.underlying T=some (.array n e)/\zy P e k=true:=by
 unfold nC at h
 grind
def pj(P:Program)(T n e:Nat):Bool:=match P.underlying T with|some (.array l e')=>l==n&&e'==e&&ri P e|_=>false
theorem zL{P:Program}{T n e:Nat}(h:pj P T n e=true):P.underlying T=some (.array n e)/\ri P e=true:=by
 unfold pj at h
 grind
theorem vB{P:Program}{T k}(h:zy P T k=true)(w:World):(isAgg T).run P w=.ok true w/\(sizeOf T).run P w=.ok k w:=by
 unfold zy at h;simp only[aq9] at h;obtain⟨h1,h2⟩:=h;constructor
 ·cases hu:P.underlying T with
  |none=>grind
  |some d=>
   rw[hu] at h1;cases d<;>simp at h1
   all_goals simp_all[isAgg,run_underlying]
 grind [run_sizeOf,Program.cellsOf]
theorem mC{P:Program}{T}(h:ri P T=true)(w:World):(isAgg T).run P w=.ok false w/\(sizeOf T).run P w=.ok 1 w:=by
 unfold ri at h;simp only[aq9] at h;obtain⟨h1,h2⟩:=h;constructor
 ·cases hu:P.underlying T with
  |none=>grind
  |some d=>
   rw[hu] at h1;cases d<;>simp at h1
   all_goals simp_all[isAgg,run_underlying]
 grind [run_sizeOf,Program.cellsOf]
theorem dX{b o n:Nat}:(⟨b,o,none⟩:Addr).add n=⟨b,o+n,none⟩:=by
 simp_all[Addr.add]
theorem Bk{P:Program}{T f off:Nat}(h:HL P T f off=true)(w:World)(b o:Nat):
  (Instr.fieldAt T (.pointer (some ⟨b,o,none⟩)) f).run P w=.ok (.pointer (some ⟨b,o+off,none⟩)) w:=by
 unfold HL at h;cases hu:P.underlying T with
 |none=>grind
 |some d=>
  rw[hu] at h;cases d<;>simp only[cj8] at h;rename_i fs;cases hf:fs[f]? with
  |none=>grind
  |some x=>
   rw[hf] at h;simp only[aq9] at h;obtain⟨h1,h2⟩:=h;cases hi:P.info? x.type<;>simp_all[fieldPlace,run_sizeOf,Program.cellsOf,dX,Instr.fieldAt,run_underlying,Instr.sureAddr]
end
end Go.Pv
