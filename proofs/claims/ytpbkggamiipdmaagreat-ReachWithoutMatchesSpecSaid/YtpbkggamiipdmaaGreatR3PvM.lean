/- The framework of walks over abstract values (own text), part M. -/
import Derived.Test.YtpbkggamiipdmaaGreatR3PvL
namespace Go.Pv
open Go
section
variable {K : Ctx} {Q : Post} {S S' : St} {ops : Array Oper} {rest : List Oper} {op : Op} {ty : TypeId} {pos : String} {after : Array Edge} {g : Option (Nat × Bool)}
variable {m : Mem} {β : Locs} {w : World} {a : Act}
/-- What a map's operations ask of the type of its keys. -/
structure KeyT (P : Program) (T : TypeId) (good : Value → Prop) : Prop where
  check : ∀ (b : Bool) (w : World) (v : Value), good v → (Instr.checkKey b 10000 T v).run P w = .ok () w
  find : ∀ (w : World) (x : Value), good x → ∀ es : List MapEntry, (∀ e, e ∈ es → good e.key) →
    ((Instr.findKey T x es).run P w = .ok none w ∧ ∀ e, e ∈ es → e.key ≠ x) ∨
    ∃ j e, (Instr.findKey T x es).run P w = .ok (some (j, e.val)) w ∧ es[j]? = some e ∧ e.key = x ∧ ∀ i e', i < j → es[i]? = some e' → e'.key ≠ x
  stays : ∀ (w : World) (v : Value), good v → (Instr.keyThatStays v v).run P w = .ok v w
/-- Keys of one kind. -/
theorem find_now {kind : TypeDesc} {good : Value → Prop} {x : Value} (h : ∀ v, good v → (v = x ∧ Instr.sameNow kind x v = some true) ∨ (v ≠ x ∧ Instr.sameNow kind x v = some false)) :
    ∀ (es : List MapEntry) (n : Nat), (∀ e, e ∈ es → good e.key) →
    (Instr.findNow kind x es n = some none ∧ ∀ e, e ∈ es → e.key ≠ x) ∨
    ∃ j e, Instr.findNow kind x es n = some (some (n + j, e.val)) ∧ es[j]? = some e ∧ e.key = x ∧ ∀ i e', i < j → es[i]? = some e' → e'.key ≠ x
  | [], n, _ => .inl ⟨rfl, by simp⟩
  | e :: es, n, hg => by
    rcases h e.key (hg e (by simp)) with ⟨h1, h2⟩ | ⟨h1, h2⟩
    · exact .inr ⟨0, e, by simp [Instr.findNow, h2], rfl, h1, by simp⟩
    · rcases find_now h es (n + 1) (fun e' he' => hg e' (by simp [he'])) with ⟨a1, a2⟩ | ⟨j, e', a1, a2, a3, a4⟩
      · refine .inl ⟨by simp [Instr.findNow, h2, a1], fun e' he' => ?_⟩
        rcases List.mem_cons.1 he' with rfl | he'
        · exact h1
        · exact a2 e' he'
      · refine .inr ⟨j + 1, e', by simp [Instr.findNow, h2, a1]; omega, by simpa using a2, a3, fun i e'' hi he'' => ?_⟩
        cases i with
        | zero => simp at he''; subst he''; exact h1
        | succ i => exact a4 i e'' (by omega) (by simpa using he'')
theorem keyT_of_now {P : Program} {T : TypeId} {kind : TypeDesc} {good : Value → Prop} (hu : P.underlying T = some kind)
    (hc : ∀ (b : Bool) (w : World) (v : Value), good v → (Instr.checkKey b 10000 T v).run P w = .ok () w)
    (h : ∀ x, good x → ∀ v, good v → (v = x ∧ Instr.sameNow kind x v = some true) ∨ (v ≠ x ∧ Instr.sameNow kind x v = some false))
    (hs : ∀ v, good v → Instr.sameBits 10000 v v = true) : KeyT P T good where
  check := hc
  find := by
    intro w x hx es hes
    rcases find_now (h x hx) es 0 hes with ⟨a1, a2⟩ | ⟨j, e, a1, a2, a3, a4⟩
    · exact .inl ⟨by simp only [Instr.findKey, Sem.run_bind, run_underlying hu, Result.andThen_ok, a1]; rfl, a2⟩
    · exact .inr ⟨j, e, by simp only [Instr.findKey, Sem.run_bind, run_underlying hu, Result.andThen_ok, a1, Nat.zero_add]; rfl, a2, a3, a4⟩
  stays := by
    intro w v hv
    simp only [Instr.keyThatStays, hs v hv, if_true]; rfl
def isInt (k : IntKind) (v : Value) : Prop := ∃ n, v = .int k n
def isStr (v : Value) : Prop := ∃ s, v = .string s
theorem bytes_beq (a b : ByteArray) : (a == b) = decide (a = b) := by
  obtain ⟨a⟩ := a
  obtain ⟨b⟩ := b
  show (a == b) = _
  by_cases h : a = b
  · subst h; simp
  · simp [h]
theorem keyT_str {P : Program} {T : TypeId} (hu : P.underlying T = some .string) : KeyT P T isStr := by
  refine keyT_of_now hu ?_ ?_ ?_
  · rintro b w v ⟨n, rfl⟩
    have : (10000 : Nat) = 9999 + 1 := rfl
    rw [this, Instr.checkKey]
    simp only [Sem.run_bind, run_underlying hu, Result.andThen_ok]; rfl
  · rintro x ⟨n, rfl⟩ v ⟨n', rfl⟩
    by_cases h : n = n'
    · subst h; exact .inl ⟨rfl, by simp [Instr.sameNow, bytes_beq]⟩
    · exact .inr ⟨by intro e; cases e; exact h rfl, by simp [Instr.sameNow, bytes_beq, h]⟩
  · rintro v ⟨n, rfl⟩; simp [Instr.sameBits, bytes_beq]
/-- Does the map have the key, and with what? By the first entry that has it. -/
inductive Look (x : Value) : List (Value × V) → Option V → Prop
  | nil : Look x [] none
  | here {v : V} {es : List (Value × V)} : Look x ((x, v) :: es) (some v)
  | there {k : Value} {v : V} {es : List (Value × V)} {r : Option V} (h : k ≠ x) (h' : Look x es r) : Look x ((k, v) :: es) r
theorem Look.none_of {x : Value} {es : List (Value × V)} {r : Option V} (h : Look x es r) (hn : ∀ p, p ∈ es → p.1 ≠ x) : r = none := by
  induction h with
  | nil => rfl
  | here => exact absurd rfl (hn _ List.mem_cons_self)
  | there _ _ ih => exact ih fun p hp => hn p (by simp [hp])
theorem Look.some_of {x : Value} {es : List (Value × V)} {r : Option V} (h : Look x es r) : ∀ (j : Nat) (v : V), es[j]? = some (x, v) → (∀ i p, i < j → es[i]? = some p → p.1 ≠ x) → r = some v := by
  induction h with
  | nil => intro j v h; simp at h
  | here =>
    intro j v hj hi
    cases j with
    | zero => simp at hj; rw [hj]
    | succ j => exact absurd rfl (hi 0 _ (by omega) rfl)
  | there h _ ih =>
    intro j v hj hi
    cases j with
    | zero => simp at hj; exact absurd hj.1 h
    | succ j => exact ih j v (by simpa using hj) fun i p hi' hp => hi (i + 1) p (by omega) (by simpa using hp)
/-- What a store makes of a map's entries. -/
inductive Puts (x : Value) (v : V) : List (Value × V) → List (Value × V) → Prop
  | nil : Puts x v [] [(x, v)]
  | here {v' : V} {es : List (Value × V)} : Puts x v ((x, v') :: es) ((x, v) :: es)
  | there {k : Value} {v' : V} {es es' : List (Value × V)} (h : k ≠ x) (h' : Puts x v es es') : Puts x v ((k, v') :: es) ((k, v') :: es')
theorem Puts.none_of {x : Value} {v : V} {es es' : List (Value × V)} (h : Puts x v es es') (hn : ∀ p, p ∈ es → p.1 ≠ x) : es' = es ++ [(x, v)] := by
  induction h with
  | nil => rfl
  | here => exact absurd rfl (hn _ List.mem_cons_self)
  | there _ _ ih => rw [ih fun p hp => hn p (by simp [hp])]; rfl
theorem Puts.some_of {x : Value} {v : V} {es es' : List (Value × V)} (h : Puts x v es es') : ∀ (j : Nat) (v' : V), es[j]? = some (x, v') → (∀ i p, i < j → es[i]? = some p → p.1 ≠ x) → es' = es.set j (x, v) := by
  induction h with
  | nil => intro j v h; simp at h
  | here =>
    intro j v' hj hi
    cases j with
    | zero => rfl
    | succ j => exact absurd rfl (hi 0 _ (by omega) rfl)
  | there h _ ih =>
    intro j v' hj hi
    cases j with
    | zero => simp at hj; exact absurd hj.1 h
    | succ j => rw [ih j v' (by simpa using hj) fun i p hi' hp => hi (i + 1) p (by omega) (by simpa using hp)]; rfl
def tyMap (P : Program) (T k e : TypeId) : Bool := match P.underlying T with | some (.map k' e') => k' == k && e' == e | _ => false
theorem tyMap_inv {P : Program} {T k e : TypeId} (h : tyMap P T k e = true) : P.underlying T = some (.map k e) := by
  unfold tyMap at h
  cases hu : P.underlying T with
  | none => simp [hu] at h
  | some d =>
    rw [hu] at h
    cases d <;> simp only [Bool.false_eq_true] at h
    simp only [Bool.and_eq_true, beq_iff_eq] at h
    obtain ⟨rfl, rfl⟩ := h
    rfl
theorem aops_makeMap {d : Nat} {T : TypeId} (hw : Wants ops S ⟨some d, .makeMap T none, ty, pos, after, g⟩ true) (hN : Nat.blt d K.N = true)
    (kk : AOps K ops rest Q ⟨(d, .map S.nx) :: S.env, (S.nx, .map []) :: S.hp, S.nx + 1⟩) : AOps K ops (⟨some d, .makeMap T none, ty, pos, after, g⟩ :: rest) Q S := by
  refine aops_runs hw (fun m β w a r => ?_) kk
  obtain ⟨β', hle, hnx, r2⟩ := r.alloc (.map #[] 0) (.map []) ⟨0, 0⟩ _ rfl (fun β' hle => ⟨#[], 0, fun _ _ => False, by simp, rfl, bls_none, by simp⟩)
  refine ⟨.map (some w.heap.size), { w with heap := w.heap.push (.map #[] 0) }, m, β', .inl ?_, Rel.put r2 hN (.map hnx)⟩
  simp only [execOp, Option.map_none]
  rw [Sem.run_bind]
  rfl
theorem VRel.conAgg {vs : List Value} {x : Value} (h : VRel m β (.agg (vs.map .con)) x) : x = .agg vs.toArray := by
  have key : ∀ us : Array Value, (vs.map V.con).length = us.size → (∀ (i : Nat) (c : V) (v : Value), (vs.map V.con)[i]? = some c → us[i]? = some v → VRel m β c v) → us = vs.toArray := by
    intro us hl hh
    apply Array.ext'
    apply List.ext_getElem?
    intro i
    simp only [List.length_map] at hl
    cases hv : vs[i]? with
    | none =>
      have : vs.length ≤ i := List.getElem?_eq_none_iff.1 hv
      rw [List.getElem?_eq_none (by simp; omega)]
    | some v =>
      have hi := (List.getElem?_eq_some_iff.1 hv).1
      have hu : us[i]? = some (us[i]'(by omega)) := Array.getElem?_eq_getElem (by omega)
      have := (hh i (.con v) _ (by simp [hv]) hu).of_con
      rw [Array.getElem?_toList, hu, this]
  cases h with
  | imm h => cases h with | agg hl hh => rw [key _ hl fun i c v a b => .imm (hh i c v a b)]
  | agg hl hh => rw [key _ hl hh]
theorem irel_con (v : Value) : ∀ m : Mem, IRel m (.con v) v := fun _ => .con v
/-- A key that is known. -/
inductive KeyIs (K : Ctx) (S : St) (y : Operand) : Value → Prop
  | con {kv : Value} (h : evl K S y = .con kv) : KeyIs K S y kv
  | agg (xs : List Value) (h : evl K S y = .agg (xs.map .con)) : KeyIs K S y (.agg xs.toArray)
theorem KeyIs.read {y : Operand} {kv : Value} (h : KeyIs K S y kv) (r : Rel K m β w a S) : a.eval y = kv := by
  cases h with
  | con h => exact r.con h
  | agg xs h =>
    have := r.reads y
    rw [h] at this
    exact this.conAgg
/-- The entries of a map that is known. -/
inductive MapIs (S : St) : V → List (Value × V) → Prop
  | own {id : Nat} {es : List (Value × V)} (h : hget S.hp id = .map es) : MapIs S (.map id) es
  | imm {es : List (Value × V)} : MapIs S (.imap es) es
theorem MapIs.read {x : V} {es : List (Value × V)} (h : MapIs S x es) (r : Rel K m β w a S) {v : Value} (hv : VRel m β x v) :
    ∃ b ents clock, v = .map (some b) ∧ w.heap[b]? = some (.map ents clock) ∧ es.length = ents.size ∧ ∀ (i : Nat) (p : Value × V) (e : MapEntry), es[i]? = some p → ents[i]? = some e → e.key = p.1 ∧ (p.2.deep = false → VRel m β p.2 e.val) := by
  cases h with
  | @own id _ ho =>
    cases hv with
    | imm h => cases h
    | @map _ b cap hb =>
      have := r.own id
      rw [hb, ho] at this
      obtain ⟨ents, clock, bl, h1, h2, _, h3⟩ := this
      exact ⟨b, ents, clock, rfl, h1, h2, fun i p e a b => ⟨(h3 i p e a b).1, fun hd => (h3 i p e a b).2.v hd⟩⟩
  | imm =>
    cases hv with
    | imm h => cases h with
      | imap hm hl hk h => exact ⟨_, _, _, rfl, r.imm _ _ hm, hl, fun i p e a b => ⟨hk i p e a b, fun _ => .imm (h i p e a b)⟩⟩
theorem found {P : Program} {T : TypeId} {good : Value → Prop} (hK : KeyT P T good) {w : World} {x : Value} (hx : good x) {es : List (Value × V)} {ents : Array MapEntry} (hl : es.length = ents.size)
    (hr : ∀ (i : Nat) (p : Value × V) (e : MapEntry), es[i]? = some p → ents[i]? = some e → e.key = p.1) (hg : ∀ p, p ∈ es → good p.1) :
    ((Instr.findKey T x ents.toList).run P w = .ok none w ∧ ∀ p, p ∈ es → p.1 ≠ x) ∨
    ∃ j p e, (Instr.findKey T x ents.toList).run P w = .ok (some (j, e.val)) w ∧ ents[j]? = some e ∧ es[j]? = some p ∧ p.1 = x ∧ ∀ i p', i < j → es[i]? = some p' → p'.1 ≠ x := by
  have corr : ∀ (i : Nat) (e : MapEntry), ents[i]? = some e → ∃ p, es[i]? = some p ∧ e.key = p.1 := by
    intro i e he
    have : i < es.length := by rw [hl]; exact (Array.getElem?_eq_some_iff.1 he).1
    exact ⟨es[i], List.getElem?_eq_getElem this, hr i _ e (List.getElem?_eq_getElem this) he⟩
  have corr' : ∀ (i : Nat) p, es[i]? = some p → ∃ e, ents[i]? = some e ∧ e.key = p.1 := by
    intro i p hp
    have : i < ents.size := by rw [← hl]; exact (List.getElem?_eq_some_iff.1 hp).1
    exact ⟨ents[i], Array.getElem?_eq_getElem this, hr i p _ hp (Array.getElem?_eq_getElem this)⟩
  have hge : ∀ e, e ∈ ents.toList → good e.key := by
    intro e he
    obtain ⟨i, hi⟩ := List.getElem?_of_mem he
    obtain ⟨p, h1, h2⟩ := corr i e (by simpa using hi)
    rw [h2]; exact hg p (List.mem_of_getElem? h1)
  rcases hK.find w x hx ents.toList hge with ⟨a1, a2⟩ | ⟨j, e, a1, a2, a3, a4⟩
  · refine .inl ⟨a1, fun p hp => ?_⟩
    obtain ⟨i, hi⟩ := List.getElem?_of_mem hp
    obtain ⟨e, h1, h2⟩ := corr' i p hi
    rw [← h2]; exact a2 e (List.mem_of_getElem? (by simpa using h1))
  · obtain ⟨p, h1, h2⟩ := corr j e (by simpa using a2)
    refine .inr ⟨j, p, e, a1, by simpa using a2, h1, by rw [← h2]; exact a3, fun i p' hi hp' => ?_⟩
    obtain ⟨e', h3, h4⟩ := corr' i p' hp'
    rw [← h4]; exact a4 i e' hi (by simpa using h3)
theorem aops_lookup {d : Nat} {T k e : TypeId} {x y : Operand} {good : Value → Prop} {kv zv : Value} {mv : V} {es : List (Value × V)} (res : Option V) (zd dv : V) (hT : tyMap K.P T k e = true) (hK : KeyT K.P k good)
    (hz : (K.P.info? e).bind (·.zero) = some zv) (hzd : ∀ m, IRel m zd zv)
    (hw : Wants ops S ⟨some d, .lookup T x y false, ty, pos, after, g⟩ true) (hx : evl K S x = mv) (hm : MapIs S mv es) (hy : KeyIs K S y kv) (hg : good kv) (hges : ∀ p, p ∈ es → good p.1)
    (hl : Look kv es res) (hd : res.getD zd = dv) (hN : Nat.blt d K.N = true)
    (kk : AOps K ops rest Q (S.put d dv)) (hdd : dv.deep = false := by rfl) : AOps K ops (⟨some d, .lookup T x y false, ty, pos, after, g⟩ :: rest) Q S :=
  aops_val _ hw hN (fun m β w a r => by
    have h := r.reads x
    rw [hx] at h
    obtain ⟨b, ents, clock, e1, e2, e3, e4⟩ := hm.read r h
    have hobj : (getObj b).run K.P w = .ok (.map ents clock) w := by simp [getObj, Sem.run, e2]
    have hzr : (zeroValue e).run K.P w = .ok zv w := by
      cases hi : K.P.info? e with
      | none => simp [hi] at hz
      | some i =>
        simp [hi] at hz
        simp only [zeroValue, Sem.run_bind, run_typeInfo w hi, Result.andThen_ok, hz]; rfl
    rcases found hK hg e3 (fun i p e a b => (e4 i p e a b).1) hges (w := w) with ⟨a1, a2⟩ | ⟨j, p, en, a1, a2, a3, a4, a5⟩
    · refine ⟨zv, ?_, ?_⟩
      · simp only [execOp, e1, hy.read r]
        refine run_value ?_
        simp only [Instr.lookup, Sem.run_bind, run_underlying (tyMap_inv hT), Result.andThen_ok, hobj, pure, Sem.run, hK.check _ w kv hg, a1, hzr]
        rfl
      · rw [← hd, hl.none_of a2]; exact .imm (hzd m)
    · refine ⟨en.val, ?_, ?_⟩
      · simp only [execOp, e1, hy.read r]
        refine run_value ?_
        simp only [Instr.lookup, Sem.run_bind, run_underlying (tyMap_inv hT), Result.andThen_ok, hobj, pure, Sem.run, hK.check _ w kv hg, a1]
        rfl
      · have : p = (kv, p.2) := by rw [← a4]
        rw [this] at a3
        have hr := hl.some_of j p.2 a3 a5
        rw [hr] at hd
        have hd : p.2 = dv := hd
        rw [← hd]
        exact (e4 j _ en a3 a2).2 (by rw [← hd] at hdd; exact hdd)) kk
theorem aops_lookup_ok {d : Nat} {T k e : TypeId} {x y : Operand} {good : Value → Prop} {kv zv : Value} {mv : V} {es : List (Value × V)} (res : Option V) (zd dv : V) (hT : tyMap K.P T k e = true) (hK : KeyT K.P k good)
    (hz : (K.P.info? e).bind (·.zero) = some zv) (hzd : ∀ m, IRel m zd zv)
    (hw : Wants ops S ⟨some d, .lookup T x y true, ty, pos, after, g⟩ true) (hx : evl K S x = mv) (hm : MapIs S mv es) (hy : KeyIs K S y kv) (hg : good kv) (hges : ∀ p, p ∈ es → good p.1)
    (hl : Look kv es res) (hd : res.getD zd = dv) (hN : Nat.blt d K.N = true)
    (kk : AOps K ops rest Q (S.put d (.tup [dv, .con (.bool res.isSome)]))) (hdd : dv.deep = false := by rfl) : AOps K ops (⟨some d, .lookup T x y true, ty, pos, after, g⟩ :: rest) Q S :=
  aops_val _ hw hN (fun m β w a r => by
    have h := r.reads x
    rw [hx] at h
    obtain ⟨b, ents, clock, e1, e2, e3, e4⟩ := hm.read r h
    have hobj : (getObj b).run K.P w = .ok (.map ents clock) w := by simp [getObj, Sem.run, e2]
    have hzr : (zeroValue e).run K.P w = .ok zv w := by
      cases hi : K.P.info? e with
      | none => simp [hi] at hz
      | some i =>
        simp [hi] at hz
        simp only [zeroValue, Sem.run_bind, run_typeInfo w hi, Result.andThen_ok, hz]; rfl
    have tup : ∀ v b, VRel m β dv v → res.isSome = b → VRel m β (.tup [dv, .con (.bool res.isSome)]) (.tuple #[v, .bool b]) := by
      rintro v b hv rfl
      refine .tup rfl fun i c u hi hu => ?_
      match i with
      | 0 => simp at hi hu; subst hi; subst hu; exact hv
      | 1 => simp at hi hu; subst hi; subst hu; exact .imm (.con _)
      | i + 2 => simp at hi
    rcases found hK hg e3 (fun i p e a b => (e4 i p e a b).1) hges (w := w) with ⟨a1, a2⟩ | ⟨j, p, en, a1, a2, a3, a4, a5⟩
    · have hres := hl.none_of a2
      refine ⟨.tuple #[zv, .bool false], ?_, tup _ _ (by rw [← hd, hres]; exact .imm (hzd m)) (by rw [hres]; rfl)⟩
      simp only [execOp, e1, hy.read r]
      refine run_value ?_
      simp only [Instr.lookup, Sem.run_bind, run_underlying (tyMap_inv hT), Result.andThen_ok, hobj, pure, Sem.run, hK.check _ w kv hg, a1, hzr]
      rfl
    · have : p = (kv, p.2) := by rw [← a4]
      rw [this] at a3
      have hres := hl.some_of j p.2 a3 a5
      refine ⟨.tuple #[en.val, .bool true], ?_, tup _ _ (by rw [hres] at hd; have hd : p.2 = dv := hd; rw [← hd]; exact (e4 j _ en a3 a2).2 (by rw [← hd] at hdd; exact hdd)) (by rw [hres]; rfl)⟩
      simp only [execOp, e1, hy.read r]
      refine run_value ?_
      simp only [Instr.lookup, Sem.run_bind, run_underlying (tyMap_inv hT), Result.andThen_ok, hobj, pure, Sem.run, hK.check _ w kv hg, a1]
      rfl) kk
theorem aops_mapPut {T k e : TypeId} {x y z : Operand} {good : Value → Prop} {kv : Value} {id : Nat} {dv : V} {es : List (Value × V)} {op : Op} (hop : op = .mapUpdate T x y z ∨ op = .insert T x y z) (es' : List (Value × V)) (hT : tyMap K.P T k e = true) (hK : KeyT K.P k good)
    (hw : Wants ops S ⟨none, op, ty, pos, after, g⟩ true) (hx : evl K S x = .map id) (ho : hget S.hp id = .map es) (hy : KeyIs K S y kv) (hg : good kv) (hges : ∀ p, p ∈ es → good p.1) (hz : evl K S z = dv)
    (hp : Puts kv dv es es') (kk : AOps K ops rest Q ⟨S.env, (id, .map es') :: S.hp, S.nx⟩) : AOps K ops (⟨none, op, ty, pos, after, g⟩ :: rest) Q S := by
  refine aops_runs hw (fun m β w a r => ?_) kk
  have h := r.reads x
  rw [hx] at h
  have hzv := r.reads z
  rw [hz] at hzv
  generalize hv : a.eval x = v at h
  cases h with
  | imm h => cases h
  | @map _ b cap hb =>
  have h0 := r.own id
  rw [hb, ho] at h0
  obtain ⟨ents, clock, bl, e2, e3, eB, e4⟩ := h0
  have hobj : (getObj b).run K.P w = .ok (.map ents clock) w := by simp [getObj, Sem.run, e2]
  have hset : ∀ o, (setObj b o).run K.P w = .ok () { w with heap := w.heap.setIfInBounds b o } := by intro o; simp [setObj, Sem.run, e2]
  have hbl := lt_of_some e2
  have heap' : ∀ o b', b' ≠ b → ({ w with heap := w.heap.setIfInBounds b o } : World).heap[b']? = w.heap[b']? := by
    intro o b' hne; simp only [Array.getElem?_setIfInBounds]; rw [if_neg (Ne.symm hne)]
  have self' : ∀ o, ({ w with heap := w.heap.setIfInBounds b o } : World).heap[b]? = some o := by
    intro o; simp [hbl]
  rcases found hK hg e3 (fun i p e a b => (e4 i p e a b).1) hges (w := w) with ⟨a1, a2⟩ | ⟨j, p, en, a1, a2, a3, a4, a5⟩
  · have hes := hp.none_of a2
    refine ⟨undef, { w with heap := w.heap.setIfInBounds b (.map (ents.push { key := kv, val := a.eval z, born := clock }) (clock + 1)) }, m, β, .inr ⟨rfl, ?_⟩,
      r.update (by rw [ho]; simp) hb _ (.map es') (heap' _) (by simp) ⟨rfl, rfl, rfl⟩ (fun hkeep => ⟨_, _, bl, self' _, by rw [hes]; simp [e3], eB, fun i p e hi he => ?_⟩)⟩
    · rcases hop with rfl | rfl <;> simp only [execOp, hy.read r] <;> rw [Sem.run_bind]
      all_goals
        have : (Instr.mapUpdate T (a.eval x) kv (a.eval z)).run K.P w = .ok () { w with heap := w.heap.setIfInBounds b (.map (ents.push { key := kv, val := a.eval z, born := clock }) (clock + 1)) } := by
          rw [hv]
          simp only [Instr.mapUpdate, Sem.run_bind, run_underlying (tyMap_inv hT), Result.andThen_ok, hobj, hK.check _ w kv hg, a1, hset]
        rw [this]; rfl
    · rw [hes] at hi
      rw [Array.getElem?_push] at he
      by_cases hlast : i = ents.size
      · rw [if_pos hlast] at he
        rw [List.getElem?_append_right (by omega), hlast, e3] at hi
        simp at hi he
        subst hi; subst he
        exact ⟨rfl, .inl hzv⟩
      · rw [if_neg hlast] at he
        have : i < es.length := by rw [e3]; exact (Array.getElem?_eq_some_iff.1 he).1
        rw [List.getElem?_append_left this] at hi
        exact ⟨(e4 i p e hi he).1, (e4 i p e hi he).2.mono (Mem.le_refl _) (Locs.le_refl _) (fun _ h => h) (fun x hx => hkeep x (eB.1 _ x hx))⟩
  · have hpp : p = (kv, p.2) := by rw [← a4]
    rw [hpp] at a3
    have hes := hp.some_of j p.2 a3 a5
    have hek : en.key = kv := by rw [(e4 j _ en a3 a2).1]
    refine ⟨undef, { w with heap := w.heap.setIfInBounds b (.map (ents.modify j fun e => { e with key := kv, val := a.eval z }) clock) }, m, β, .inr ⟨rfl, ?_⟩,
      r.update (by rw [ho]; simp) hb _ (.map es') (heap' _) (by simp) ⟨rfl, rfl, rfl⟩ (fun hkeep => ⟨_, _, bl, self' _, by rw [hes]; simp [e3], eB, fun i p e hi he => ?_⟩)⟩
    · rcases hop with rfl | rfl <;> simp only [execOp, hy.read r] <;> rw [Sem.run_bind]
      all_goals
        have : (Instr.mapUpdate T (a.eval x) kv (a.eval z)).run K.P w = .ok () { w with heap := w.heap.setIfInBounds b (.map (ents.modify j fun e => { e with key := kv, val := a.eval z }) clock) } := by
          rw [hv]
          simp only [Instr.mapUpdate, Sem.run_bind, run_underlying (tyMap_inv hT), Result.andThen_ok, hobj, hK.check _ w kv hg, a1, a2, Option.map_some, Option.getD_some, hek, hK.stays w kv hg, hset]
        rw [this]; rfl
    · rw [hes, List.getElem?_set] at hi
      rw [Array.getElem?_modify] at he
      by_cases hji : j = i
      · subst hji
        rw [if_pos rfl] at he
        rw [if_pos rfl, if_pos (by rw [e3]; exact (Array.getElem?_eq_some_iff.1 a2).1)] at hi
        rw [a2] at he
        simp at hi he
        subst hi; subst he
        exact ⟨rfl, .inl hzv⟩
      · rw [if_neg hji] at hi he
        exact ⟨(e4 i p e hi he).1, (e4 i p e hi he).2.mono (Mem.le_refl _) (Locs.le_refl _) (fun _ h => h) (fun x hx => hkeep x (eB.1 _ x hx))⟩
theorem aops_mapUpdate {T k e : TypeId} {x y z : Operand} {good : Value → Prop} {kv : Value} {id : Nat} {dv : V} {es : List (Value × V)} (es' : List (Value × V)) (hT : tyMap K.P T k e = true) (hK : KeyT K.P k good)
    (hw : Wants ops S ⟨none, .mapUpdate T x y z, ty, pos, after, g⟩ true) (hx : evl K S x = .map id) (ho : hget S.hp id = .map es) (hy : KeyIs K S y kv) (hg : good kv) (hges : ∀ p, p ∈ es → good p.1) (hz : evl K S z = dv)
    (hp : Puts kv dv es es') (kk : AOps K ops rest Q ⟨S.env, (id, .map es') :: S.hp, S.nx⟩) : AOps K ops (⟨none, .mapUpdate T x y z, ty, pos, after, g⟩ :: rest) Q S := aops_mapPut (.inl rfl) es' hT hK hw hx ho hy hg hges hz hp kk
theorem aops_insert {T k e : TypeId} {x y z : Operand} {good : Value → Prop} {kv : Value} {id : Nat} {dv : V} {es : List (Value × V)} (es' : List (Value × V)) (hT : tyMap K.P T k e = true) (hK : KeyT K.P k good)
    (hw : Wants ops S ⟨none, .insert T x y z, ty, pos, after, g⟩ true) (hx : evl K S x = .map id) (ho : hget S.hp id = .map es) (hy : KeyIs K S y kv) (hg : good kv) (hges : ∀ p, p ∈ es → good p.1) (hz : evl K S z = dv)
    (hp : Puts kv dv es es') (kk : AOps K ops rest Q ⟨S.env, (id, .map es') :: S.hp, S.nx⟩) : AOps K ops (⟨none, .insert T x y z, ty, pos, after, g⟩ :: rest) Q S := aops_mapPut (.inr rfl) es' hT hK hw hx ho hy hg hges hz hp kk
end
end Go.Pv
