/- The framework of walks over abstract values (own text), part A. -/
import Derived.WalkKit
import Derived.Scope
import Derived.Laws.AppendOwn
namespace Go.Pv
open Go
/-- What is known of a value: 'any': nothing; 'con': the value itself; 'lst': a slice in memory that nobody writes any more, row by row; 'iptr': a pointer into such memory; 'own', 'ptr', 'map': memory of the call's own, by number. -/
inductive V where
  | any
  | con (v : Value)
  | agg (cs : List V)
  | tup (cs : List V)
  | lst (k : Nat) (rows : List (List V))
  | iptr (row : List V) (off : Nat)
  | imap (es : List (Value × V))
  | fn (f : Fn) (first captured : List V)
  | ptr (id k i off : Nat)
  | own (id n : Nat)
  | map (id : Nat)
  | adr (id : Nat)
  | dsl (e k : Nat) (rows : List (List V))
  | dmp (es : List (Value × V))
  | dpt (e : Nat) (row : List V)
/-- What lies in memory that an object of the call's own alone leads to. -/
def V.deep : V → Bool
  | .dsl _ _ _ => true
  | .dmp _ => true
  | .dpt _ _ => true
  | _ => false
abbrev Mem := Nat → Option Obj
inductive IRel (m : Mem) : V → Value → Prop
  | any (v : Value) : IRel m .any v
  | con (v : Value) : IRel m (.con v) v
  | agg {cs : List V} {vs : Array Value} (hl : cs.length = vs.size)
      (h : ∀ (i : Nat) (c : V) (v : Value), cs[i]? = some c → vs[i]? = some v → IRel m c v) : IRel m (.agg cs) (.agg vs)
  | tup {cs : List V} {vs : Array Value} (hl : cs.length = vs.size)
      (h : ∀ (i : Nat) (c : V) (v : Value), cs[i]? = some c → vs[i]? = some v → IRel m c v) : IRel m (.tup cs) (.tuple vs)
  | nil (k : Nat) (a : Option Addr) (cap : Nat) : IRel m (.lst k []) (.slice a 0 cap)
  | lst {k : Nat} {rows : List (List V)} {a : Addr} {n cap : Nat} {arr : Array Value} {T : TypeId} {fr : Nat × Nat} (f : Nat → Value)
      (hm : m a.block = some (.cells arr T fr)) (hs : a.spot = none) (hn : rows.length = n) (hcap : n ≤ cap) (hbd : n ≤ maxLen)
      (hk : ∀ row, row ∈ rows → row.length = k)
      (hf : ∀ i, i < rows.length * k → arr[a.off + i]? = some (f i))
      (h : ∀ (i j : Nat) (row : List V) (c : V), rows[i]? = some row → row[j]? = some c → IRel m c (f (i * k + j))) :
      IRel m (.lst k rows) (.slice (some a) n cap)
  | iptr {row : List V} {off : Nat} {a : Addr} {arr : Array Value} {T : TypeId} {fr : Nat × Nat} (f : Nat → Value)
      (base : Nat) (hm : m a.block = some (.cells arr T fr)) (hs : a.spot = none) (ho : a.off = base + off)
      (hf : ∀ i, i < row.length → arr[base + i]? = some (f i))
      (h : ∀ (j : Nat) (c : V), row[j]? = some c → IRel m c (f j)) : IRel m (.iptr row off) (.pointer (some a))
  | imap {es : List (Value × V)} {b : Nat} {ents : Array MapEntry} {clock : Nat}
      (hm : m b = some (.map ents clock)) (hl : es.length = ents.size)
      (hk : ∀ (i : Nat) (p : Value × V) (e : MapEntry), es[i]? = some p → ents[i]? = some e → e.key = p.1)
      (h : ∀ (i : Nat) (p : Value × V) (e : MapEntry), es[i]? = some p → ents[i]? = some e → IRel m p.2 e.val) :
      IRel m (.imap es) (.map (some b))
  | fn {f : Fn} {first captured : List V} {fs cs : Array Value} (hl : first.length = fs.size) (hl' : captured.length = cs.size)
      (h : ∀ (i : Nat) (c : V) (v : Value), first[i]? = some c → fs[i]? = some v → IRel m c v)
      (h' : ∀ (i : Nat) (c : V) (v : Value), captured[i]? = some c → cs[i]? = some v → IRel m c v) :
      IRel m (.fn f first captured) (.func f fs cs)
def Mem.le (m m' : Mem) : Prop := ∀ b o, m b = some o → m' b = some o
theorem Mem.le_refl (m : Mem) : m.le m := fun _ _ h => h
theorem Mem.le_trans {a b c : Mem} (h : a.le b) (h' : b.le c) : a.le c := fun _ _ x => h' _ _ (h _ _ x)
theorem IRel.mono {m m' : Mem} (hm : m.le m') {d : V} {v : Value} (h : IRel m d v) : IRel m' d v := by
  induction h with
  | any v => exact .any v
  | con v => exact .con v
  | agg hl _ ih => exact .agg hl ih
  | tup hl _ ih => exact .tup hl ih
  | nil k a c => exact .nil k a c
  | lst f h1 h2 h3 h4 h4b h5 h6 _ ih => exact .lst f (hm _ _ h1) h2 h3 h4 h4b h5 h6 ih
  | iptr f b h1 h2 h3 h4 _ ih => exact .iptr f b (hm _ _ h1) h2 h3 h4 ih
  | imap h1 h2 h3 _ ih => exact .imap (hm _ _ h1) h2 h3 ih
  | fn h1 h2 _ _ i1 i2 => exact .fn h1 h2 i1 i2
/-- How far a view of a block reaches: its rows, and the cell at which it begins. -/
structure Cap where
  n : Nat
  off : Nat
/-- Where the call's own memory lies: the block and the view ('some none': a nil slice); and the blocks to which each object alone leads. -/
structure Locs where
  f : Nat → Option (Option (Nat × Cap))
  hid : Nat → Nat → Prop
instance : CoeFun Locs (fun _ => Nat → Option (Option (Nat × Cap))) := ⟨Locs.f⟩
def Locs.le (β β' : Locs) : Prop := ∀ i l, β i = some l → β' i = some l
theorem Locs.le_refl (β : Locs) : β.le β := fun _ _ h => h
inductive VRel (m : Mem) (β : Locs) : V → Value → Prop
  | imm {d : V} {v : Value} (h : IRel m d v) : VRel m β d v
  | agg {cs : List V} {vs : Array Value} (hl : cs.length = vs.size)
      (h : ∀ (i : Nat) (c : V) (v : Value), cs[i]? = some c → vs[i]? = some v → VRel m β c v) : VRel m β (.agg cs) (.agg vs)
  | tup {cs : List V} {vs : Array Value} (hl : cs.length = vs.size)
      (h : ∀ (i : Nat) (c : V) (v : Value), cs[i]? = some c → vs[i]? = some v → VRel m β c v) : VRel m β (.tup cs) (.tuple vs)
  | fn {f : Fn} {first captured : List V} {fs cs : Array Value} (hl : first.length = fs.size) (hl' : captured.length = cs.size)
      (h : ∀ (i : Nat) (c : V) (v : Value), first[i]? = some c → fs[i]? = some v → VRel m β c v)
      (h' : ∀ (i : Nat) (c : V) (v : Value), captured[i]? = some c → cs[i]? = some v → VRel m β c v) :
      VRel m β (.fn f first captured) (.func f fs cs)
  | ptr {id k i off b : Nat} {cap : Cap} (h : β id = some (some (b, cap))) : VRel m β (.ptr id k i off) (.pointer (some ⟨b, cap.off + (i * k + off), none⟩))
  | ownNil {id : Nat} {ad : Option Addr} (h : β id = some none) : VRel m β (.own id 0) (.slice ad 0 0)
  | own {id n b : Nat} {cap : Cap} (h : β id = some (some (b, cap))) : VRel m β (.own id n) (.slice (some ⟨b, cap.off, none⟩) n cap.n)
  | map {id b : Nat} {cap : Cap} (h : β id = some (some (b, cap))) : VRel m β (.map id) (.map (some b))
  | adrNil {id : Nat} : VRel m β (.adr id) (.pointer none)
  | adr {id b : Nat} {cap : Cap} (h : β id = some (some (b, cap))) : VRel m β (.adr id) (.pointer (some ⟨b, cap.off, none⟩))
theorem VRel.mono {m m' : Mem} {β β' : Locs} (hm : m.le m') (hb : β.le β') {d : V} {v : Value} (h : VRel m β d v) : VRel m' β' d v := by
  induction h with
  | imm h => exact .imm (h.mono hm)
  | agg hl _ ih => exact .agg hl ih
  | tup hl _ ih => exact .tup hl ih
  | fn h1 h2 _ _ i1 i2 => exact .fn h1 h2 i1 i2
  | ptr h => exact .ptr (hb _ _ h)
  | ownNil h => exact .ownNil (hb _ _ h)
  | own h => exact .own (hb _ _ h)
  | map h => exact .map (hb _ _ h)
  | adrNil => exact .adrNil
  | adr h => exact .adr (hb _ _ h)
/-- Sets of blocks, one a cell: none in two of them, all in B. -/
def Bls (B : Nat → Prop) (bl : Nat → Nat → Prop) : Prop := (∀ p x, bl p x → B x) ∧ ∀ p q x, bl p x → bl q x → p = q
inductive DRel (m : Mem) (w : World) : (Nat → Prop) → V → Value → Prop
  | imm {B : Nat → Prop} {c : V} {v : Value} (h : IRel m c v) : DRel m w B c v
  | nil {B : Nat → Prop} (e k : Nat) (a : Option Addr) : DRel m w B (.dsl e k []) (.slice a 0 0)
  | sl {B : Nat → Prop} {k b cap off : Nat} {e : TypeId} {rows : List (List V)} {arr : Array Value} (bl : Nat → Nat → Prop) (f : Nat → Value) (hb : B b) (hbb : ∀ p, ¬ bl p b) (hB : Bls B bl)
      (hw : w.heap[b]? = some (.cells arr e (0, 0))) (hs : arr.size = off + cap * k) (hr : rows.length ≤ cap) (hcap : cap ≤ maxLen) (hk : ∀ row, row ∈ rows → row.length = k)
      (hf : ∀ (i j : Nat) (row : List V) (c : V), rows[i]? = some row → row[j]? = some c → arr[off + (i * k + j)]? = some (f (i * k + j)) ∧ (f (i * k + j)).oneCell' = true)
      (h : ∀ (i j : Nat) (row : List V) (c : V), rows[i]? = some row → row[j]? = some c → DRel m w (bl (i * k + j)) c (f (i * k + j))) :
      DRel m w B (.dsl e k rows) (.slice (some ⟨b, off, none⟩) rows.length cap)
  | mp {B : Nat → Prop} {b : Nat} {es : List (Value × V)} {ents : Array MapEntry} {clock : Nat} (bl : Nat → Nat → Prop) (hb : B b) (hbb : ∀ p, ¬ bl p b) (hB : Bls B bl)
      (hw : w.heap[b]? = some (.map ents clock)) (hl : es.length = ents.size)
      (hk : ∀ (i : Nat) (p : Value × V) (e : MapEntry), es[i]? = some p → ents[i]? = some e → e.key = p.1)
      (h : ∀ (i : Nat) (p : Value × V) (e : MapEntry), es[i]? = some p → ents[i]? = some e → DRel m w (bl i) p.2 e.val) : DRel m w B (.dmp es) (.map (some b))
  | pt {B : Nat → Prop} {b : Nat} {row : List V} {T : TypeId} {arr : Array Value} (bl : Nat → Nat → Prop) (f : Nat → Value) (hb : B b) (hbb : ∀ p, ¬ bl p b) (hB : Bls B bl)
      (hw : w.heap[b]? = some (.cells arr T (0, 0))) (hs : arr.size = row.length)
      (hf : ∀ (j : Nat) (c : V), row[j]? = some c → arr[j]? = some (f j) ∧ (f j).oneCell' = true)
      (h : ∀ (j : Nat) (c : V), row[j]? = some c → DRel m w (bl j) c (f j)) : DRel m w B (.dpt T row) (.pointer (some ⟨b, 0, none⟩))
theorem DRel.mono {m m' : Mem} {w w' : World} {B B' : Nat → Prop} {c : V} {v : Value} (hm : m.le m') (hB : ∀ x, B x → B' x) (hw : ∀ x, B x → w'.heap[x]? = w.heap[x]?) (h : DRel m w B c v) : DRel m' w' B' c v := by
  induction h generalizing B' with
  | imm h => exact .imm (h.mono hm)
  | nil e k a => exact .nil e k a
  | sl bl f hb hbb hBl h1 h2 h3 h4 h5 h6 _ ih =>
    exact .sl bl f (hB _ hb) hbb ⟨fun p x hx => hB _ (hBl.1 p x hx), hBl.2⟩ (by rw [hw _ hb]; exact h1) h2 h3 h4 h5 h6 (fun i j row c hi hj => ih i j row c hi hj (fun _ hx => hx) (fun x hx => hw x (hBl.1 _ x hx)))
  | mp bl hb hbb hBl h1 h2 h3 _ ih =>
    exact .mp bl (hB _ hb) hbb ⟨fun p x hx => hB _ (hBl.1 p x hx), hBl.2⟩ (by rw [hw _ hb]; exact h1) h2 h3 (fun i p e hi he => ih i p e hi he (fun _ hx => hx) (fun x hx => hw x (hBl.1 _ x hx)))
  | pt bl f hb hbb hBl h1 h2 h3 _ ih =>
    exact .pt bl f (hB _ hb) hbb ⟨fun p x hx => hB _ (hBl.1 p x hx), hBl.2⟩ (by rw [hw _ hb]; exact h1) h2 h3 (fun j c hj => ih j c hj (fun _ hx => hx) (fun x hx => hw x (hBl.1 _ x hx)))
/-- A cell of an object. -/
def CRel (m : Mem) (β : Locs) (w : World) (B : Nat → Prop) (c : V) (v : Value) : Prop := VRel m β c v ∨ DRel m w B c v
theorem CRel.v {m : Mem} {β : Locs} {w : World} {B : Nat → Prop} {c : V} {v : Value} (h : CRel m β w B c v) (hd : c.deep = false) : VRel m β c v := by
  rcases h with h | h
  · exact h
  · cases h with
    | imm h => exact .imm h
    | _ => simp [V.deep] at hd
theorem CRel.mono {m m' : Mem} {β β' : Locs} {w w' : World} {B B' : Nat → Prop} {c : V} {v : Value} (hm : m.le m') (hb : β.le β') (hB : ∀ x, B x → B' x) (hw : ∀ x, B x → w'.heap[x]? = w.heap[x]?) (h : CRel m β w B c v) : CRel m' β' w' B' c v :=
  h.elim (fun h => .inl (h.mono hm hb)) (fun h => .inr (h.mono hm hB hw))
/-- The rows of an object of the call's own. -/
inductive Ob where
  | arr (e : TypeId) (k : Nat) (rows : List (List V))
  | map (es : List (Value × V))
  | res
  | dead
abbrev Env := List (Nat × V)
abbrev Heap := List (Nat × Ob)
def get : Env → Nat → V
  | [], _ => .any
  | (k, v) :: e, t => bif Nat.beq k t then v else get e t
def hget : Heap → Nat → Ob
  | [], _ => .dead
  | (k, v) :: e, t => bif Nat.beq k t then v else hget e t
theorem get_put (e : Env) (d : Nat) (v : V) (t : Nat) : get ((d, v) :: e) t = if d = t then v else get e t := by
  simp only [get]; by_cases h : d = t
  · subst h; simp
  · have : Nat.beq d t = false := by cases hb : Nat.beq d t; rfl; exact absurd (Nat.eq_of_beq_eq_true hb) h
    simp [this, h]
theorem hget_put (e : Heap) (d : Nat) (v : Ob) (t : Nat) : hget ((d, v) :: e) t = if d = t then v else hget e t := by
  simp only [hget]; by_cases h : d = t
  · subst h; simp
  · have : Nat.beq d t = false := by cases hb : Nat.beq d t; rfl; exact absurd (Nat.eq_of_beq_eq_true hb) h
    simp [this, h]
def ObOk (m : Mem) (β : Locs) (w : World) (B : Nat → Prop) : Option (Option (Nat × Cap)) → Ob → Prop
  | _, .dead => True
  | none, .res => True
  | some none, .arr _ _ rows => rows = []
  | some (some (b, cap)), .arr e k rows => ∃ arr bl, w.heap[b]? = some (.cells arr e (0, 0)) ∧ arr.size = cap.off + cap.n * k ∧ rows.length ≤ cap.n ∧ cap.n ≤ maxLen ∧
      (∀ row, row ∈ rows → row.length = k) ∧ Bls B bl ∧
      ∀ (i j : Nat) (row : List V) (c : V), rows[i]? = some row → row[j]? = some c → ∃ v, arr[cap.off + (i * k + j)]? = some v ∧ CRel m β w (bl (i * k + j)) c v ∧ v.oneCell' = true
  | some (some (b, _)), .map es => ∃ ents clock bl, w.heap[b]? = some (.map ents clock) ∧ es.length = ents.size ∧ Bls B bl ∧
      (∀ (i : Nat) (p : Value × V) (e : MapEntry), es[i]? = some p → ents[i]? = some e → e.key = p.1 ∧ CRel m β w (bl i) p.2 e.val)
  | _, _ => False
/-- Package-level variables whose memory nobody writes: their cells. -/
abbrev Gl := List (Nat × List V)
def glk : Gl → Nat → Option (List V)
  | [], _ => none
  | (k, v) :: e, t => bif Nat.beq k t then some v else glk e t
def GlAt (m : Mem) (g : Nat) (row : List V) : Prop := IRel m (.iptr row 0) (.pointer (some ⟨g, 0, none⟩)) ∧ ∃ arr T fr, m g = some (.cells arr T fr) ∧ arr.size = row.length
def GlOk (gl : Gl) (m : Mem) : Prop := ∀ g row, glk gl g = some row → GlAt m g row
theorem GlOk.mono {gl : Gl} {m m' : Mem} (h : GlOk gl m) (hm : m.le m') : GlOk gl m' := fun g row hg => let ⟨a, T, fr, h1, h2⟩ := (h g row hg).2; ⟨(h g row hg).1.mono hm, a, T, fr, hm _ _ h1, h2⟩
theorem GlOk.nil {m : Mem} : GlOk [] m := fun g row h => by simp [glk] at h
structure Ctx where
  P : Program
  N : Nat
  w0 : World
  m0 : Mem
  old : Nat → Prop
  pins : Nat
  loc : Nat → Option (Option (Nat × Cap))
  gl : Gl
  glok : GlOk gl m0
structure St where
  env : Env
  hp : Heap
  nx : Nat
structure Same (w0 w : World) : Prop where
  os : w.os = w0.os
  tape : w.tape = w0.tape
  output : w.output = w0.output
/-- A block to which the object id alone leads. -/
structure Hid (K : Ctx) (m : Mem) (β : Locs) (w : World) (hp : Heap) (id x : Nat) : Prop where
  lt : x < w.heap.size
  m : m x = none
  old : x < K.w0.heap.size → ¬ K.old x
  ne : ∀ i b cap, hget hp i ≠ .dead → β i = some (some (b, cap)) → x ≠ b
  un : ∀ i, hget hp i ≠ .dead → β.hid i x → i = id
theorem Hid.weak {K : Ctx} {m : Mem} {β : Locs} {w : World} {hp hp' : Heap} {id x : Nat} (q : Hid K m β w hp id x) (hl : ∀ i, hget hp' i ≠ .dead → hget hp i ≠ .dead) : Hid K m β w hp' id x :=
  ⟨q.lt, q.m, q.old, fun i b c h => q.ne i b c (hl i h), fun i h => q.un i (hl i h)⟩
structure Rel (K : Ctx) (m : Mem) (β : Locs) (w : World) (a : Act) (S : St) : Prop where
  imm : ∀ b o, m b = some o → w.heap[b]? = some o
  ext : K.m0.le m
  mold : ∀ b, b < K.w0.heap.size → K.old b → m b = K.m0 b
  frame : ∀ b, b < K.w0.heap.size → K.old b → w.heap[b]? = K.w0.heap[b]?
  size : K.w0.heap.size ≤ w.heap.size
  same : Same K.w0 w
  tn : a.tmps.size = K.N
  df : a.defers = []
  env : ∀ t, VRel m β (get S.env t) (a.tmps.getD t undef)
  own : ∀ id, ObOk m β w (β.hid id) (β id) (hget S.hp id)
  priv : ∀ id b cap, hget S.hp id ≠ .dead → β id = some (some (b, cap)) → m b = none ∧ (b < K.w0.heap.size → ¬ K.old b)
  inj : ∀ id id' b cap cap', hget S.hp id ≠ .dead → hget S.hp id' ≠ .dead → β id = some (some (b, cap)) → β id' = some (some (b, cap')) → id = id'
  hid : ∀ id x, hget S.hp id ≠ .dead → β.hid id x → Hid K m β w S.hp id x
  nx : ∀ id, S.nx ≤ id → β id = none
  pin : ∀ q, q < K.pins → q < S.nx ∧ β q = K.loc q
abbrev Post := Exit → St → Prop
def plainExit : Exit → Bool
  | .goto _ | .outgrown => false
  | _ => true
def Post.at (K : Ctx) (Q : Post) : Exit → Act → World → Prop := fun e a w => plainExit e = true ∧ ∃ S m β, Q e S ∧ Rel K m β w a S
def AWP (K : Ctx) (c : Code) (Q : Post) (S : St) : Prop := ∀ m β w a, Rel K m β w a S → c.wp K.P (Q.at K) a w
def AOps (K : Ctx) (ops : Array Oper) (l : List Oper) (Q : Post) (S : St) : Prop := ∀ m β w a, Rel K m β w a S → wpList K.P ops (Q.at K) l a w
section code
variable {K : Ctx} {Q : Post} {S : St}
def thenQ (K : Ctx) (y : Code) (Q : Post) : Post
  | .normal, S => AWP K y Q S
  | e, S => Q e S
def blockQ (id : Nat) (Q : Post) : Post
  | .exit i, S => if i = id then Q .normal S else Q (.exit i) S
  | e, S => Q e S
theorem awp_seq {x y : Code} (h : AWP K x (thenQ K y Q) S) : AWP K (.seq x y) Q S := by
  intro m β w a r
  refine wp_seq (wp_mono (h m β w a r) ?_)
  rintro e a' w' ⟨p, S', m', β', q, r'⟩
  cases e with
  | normal => exact q m' β' w' a' r'
  | _ => exact ⟨p, S', m', β', q, r'⟩
theorem awp_block {id : Nat} {c : Code} (h : AWP K c (blockQ id Q) S) : AWP K (.block id c) Q S := by
  intro m β w a r
  refine wp_block (wp_mono (h m β w a r) ?_)
  rintro e a' w' ⟨p, S', m', β', q, r'⟩
  cases e with
  | exit i =>
    simp only [blockQ] at q
    simp only [Exit.inBlock]
    split
    · rename_i h; rw [if_pos h] at q; exact ⟨rfl, S', m', β', q, r'⟩
    · rename_i h; rw [if_neg h] at q; exact ⟨rfl, S', m', β', q, r'⟩
  | _ => exact ⟨p, S', m', β', q, r'⟩
theorem awp_skip (h : Q .normal S) : AWP K .skip Q S := fun _ _ _ _ r => wp_skip ⟨rfl, S, _, _, h, r⟩
theorem awp_scope {c : Code} (h : AWP K c Q S) : AWP K (.scope c) Q S := fun m β w a r => wp_scope_straight (wp_mono (h m β w a r) fun e _ _ ⟨p, q⟩ => by
  cases e with
  | goto l => simp [plainExit] at p
  | _ => exact ⟨p, q⟩)
theorem awp_label {l : Nat} (h : Q .normal S) : AWP K (.label l) Q S := fun _ _ _ _ r => wp_label ⟨rfl, S, _, _, h, r⟩
theorem awp_ret (h : Q .ret S) : AWP K .ret Q S := fun _ _ _ _ r => wp_ret ⟨rfl, S, _, _, h, r⟩
theorem awp_exit {id : Nat} (h : Q (.exit id) S) : AWP K (.exit id) Q S := fun _ _ _ _ r => wp_exit ⟨rfl, S, _, _, h, r⟩
def evl (K : Ctx) (S : St) : Operand → V
  | .tmp t => get S.env t
  | .const v => .con v
  | .global g => match glk K.gl g with | some row => .iptr row 0 | none => .con (.pointer (some ⟨g, 0, none⟩))
  | .func f => .fn (.func f) [] []
theorem Rel.reads {m : Mem} {β : Locs} {w : World} {a : Act} (r : Rel K m β w a S) (x : Operand) : VRel m β (evl K S x) (a.eval x) := by
  cases x with
  | tmp t => exact r.env t
  | const v => exact .imm (.con v)
  | global g =>
    simp only [evl]
    split
    · rename_i row h; exact .imm (((K.glok.mono r.ext) g row h).1)
    · exact .imm (.con _)
  | func f => exact .imm (.fn rfl rfl (by simp) (by simp))
theorem VRel.of_con {m : Mem} {β : Locs} {v x : Value} (h : VRel m β (.con v) x) : x = v := by
  cases h with | imm h => cases h; rfl
theorem awp_cond {c : Operand} {x y : Code} (b : Bool) (hc : evl K S c = .con (.bool b)) (ht : b = true → AWP K x Q S) (hf : b = false → AWP K y Q S) :
    AWP K (.cond c x y) Q S := by
  intro m β w a r
  have h := r.reads c
  rw [hc] at h
  refine wp_cond_split h.of_con (fun hb => ht hb m β w a r) (fun hb => hf hb m β w a r)
theorem awp_region {id : Nat} {l : List Oper} (h : AOps K l.toArray l Q S) : AWP K (.region id l.toArray false) Q S :=
  fun m β w a r => wp_region_lit (h m β w a r)
theorem aops_nil {ops : Array Oper} (h : Q .normal S) : AOps K ops [] Q S := fun _ _ _ _ r => wpList_nil ⟨rfl, S, _, _, h, r⟩
theorem steps_det {P : Program} {M X T : Machine} (h : Steps P M T) (hx : step P M = .next X) (hne : M ≠ T) : Steps P X T := by
  obtain ⟨n, hn⟩ := h
  cases n with
  | zero => simp [runN] at hn; exact absurd hn hne
  | succ n => simp only [runN, hx] at hn; exact ⟨n, hn⟩
theorem exitTo_length {id : Nat} : ∀ {k k' : List Item}, exitTo id k = some k' → k'.length < k.length := by
  intro k
  induction k with
  | nil => intro k' h; simp [exitTo] at h
  | cons x k ih =>
    intro k' h
    unfold exitTo at h
    split at h
    · rename_i heq; simp only [List.cons.injEq] at heq; obtain ⟨_, rfl⟩ := heq
      split at h
      · simp only [Option.some.injEq] at h; subst h; simp
      · have := ih h; simp; omega
    · rename_i heq; simp only [List.cons.injEq] at heq; obtain ⟨_, rfl⟩ := heq
      have := ih h; simp; omega
    · simp at h
theorem lone_todo {b : Frame} {a a' : Act} {k k' : List Item} {cs : List Frame} {w w' : World} (h : lone (b.at a k) cs w = lone (b.at a' k') cs w') : k = k' := by
  simp only [lone, Frame.at, Machine.mk.injEq] at h
  have h2 := h.2.1
  simp at h2
  exact h2.2.1
theorem wp_loop_unroll {P : Program} {c : Code} {R : Exit → Act → World → Prop} {a : Act} {w : World} (hR : ∀ e a w, R e a w → plainExit e = true)
    (h : c.wp P (Exit.then ((Code.loop c).wp P R) R) a w) : (Code.loop c).wp P R a w := by
  intro b k cs
  obtain ⟨e, a₁, w₁, hq, harr⟩ := h b (.inLoop c :: k) cs
  cases e with
  | normal =>
    obtain ⟨e₂, a₂, w₂, hq₂, harr₂⟩ := hq b k cs
    refine ⟨e₂, a₂, w₂, hq₂, .of_steps (.head step_loop (Steps.trans harr (.one step_inLoop))) ?_⟩
    have hs := step_loop (P := P) (b := b) (a := a₁) (k := k) (cs := cs) (w := w₁) (c := c)
    have hp := hR _ _ _ hq₂
    cases e₂ with
    | normal =>
      refine steps_det harr₂ hs (fun e => ?_)
      have := congrArg List.length (lone_todo e); simp at this
    | exit id =>
      refine fun k' hk => steps_det (harr₂ k' hk) hs (fun e => ?_)
      have := congrArg List.length (lone_todo e); have := exitTo_length hk; simp at *; omega
    | goto l => simp [plainExit] at hp
    | ret =>
      obtain ⟨todo, hst⟩ := harr₂
      refine ⟨todo, steps_det hst hs (fun e => ?_)⟩
      simp [lone, Frame.at] at e
    | panic ch =>
      obtain ⟨todo, hst⟩ := harr₂
      refine ⟨todo, steps_det hst hs (fun e => ?_)⟩
      simp [lone, Frame.at] at e
    | outgrown => simp [plainExit] at hp
  | exit id => exact ⟨_, a₁, w₁, hq, .of_steps (.one step_loop) (.pass (x := .inLoop c) rfl (fun _ _ => .inl (by simp)) harr)⟩
  | goto l => exact ⟨_, a₁, w₁, hq, .of_steps (.one step_loop) (.pass (x := .inLoop c) rfl (fun _ _ => .inl (by simp)) harr)⟩
  | ret => exact ⟨_, a₁, w₁, hq, .of_steps (.one step_loop) (.pass (x := .inLoop c) rfl (fun _ _ => .inl (by simp)) harr)⟩
  | panic ch => exact ⟨_, a₁, w₁, hq, .of_steps (.one step_loop) (.pass (x := .inLoop c) rfl (fun _ _ => .inl (by simp)) harr)⟩
  | outgrown => exact ⟨_, a₁, w₁, hq, .of_steps (.one step_loop) (.pass (x := .inLoop c) rfl (fun _ _ => .inl (by simp)) harr)⟩
theorem awp_loop {c : Code} (h : AWP K c (thenQ K (.loop c) Q) S) : AWP K (.loop c) Q S := by
  intro m β w a r
  refine wp_loop_unroll (fun _ _ _ q => q.1) (wp_mono (h m β w a r) ?_)
  rintro e a' w' ⟨p, S', m', β', q, r'⟩
  cases e with
  | normal => exact q m' β' w' a' r'
  | _ => exact ⟨p, S', m', β', q, r'⟩
end code
end Go.Pv
