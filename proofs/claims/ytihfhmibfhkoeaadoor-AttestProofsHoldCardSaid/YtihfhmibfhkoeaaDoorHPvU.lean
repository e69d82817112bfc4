/- The framework of walks over abstract values (own text), part U. -/
import Derived.Test.YtihfhmibfhkoeaaDoorHPvS
namespace Go.Pv
open Go
section
variable {K : Ctx} {Q : Post} {S S' : St} {ops : Array Oper} {rest : List Oper} {op : Op} {ty : TypeId} {pos : String} {after : Array Edge} {g : Option (Nat × Bool)}
variable {m : Mem} {β : Locs} {w : World} {a : Act}
theorem run_eqNil {P : Program} {T : TypeId} {x y : Operand} (neg : Bool) (hT : tySlice P T = true) (ad : Option Addr) (n c : Nat) :
    ∃ b : Bool, (n ≠ 0 → ad.isSome = true → b = false) ∧ (ad = none → b = true) ∧
      (do eqGuard (if neg then .neq else .eql) T x y (.slice ad n c) (.slice none 0 0); binOp (if neg then .neq else .eql) T (.slice ad n c) (.slice none 0 0) : Sem Value).run P w = .ok (.bool (if neg then !b else b)) w := by
  obtain ⟨e, hu⟩ : ∃ e, P.underlying T = some (.slice e) := by
    unfold tySlice at hT
    split at hT
    · exact ⟨_, ‹_›⟩
    · simp at hT
  have hd : (10000 : Nat) = 9999 + 1 := rfl
  have hg : ∀ op : BinOp, (eqGuard op T x y (.slice ad n c) (.slice none 0 0)).run P w = .ok () w := by
    intro op; unfold eqGuard; cases op <;> simp [pure]
  have hq : (Op.equal T (.slice ad n c) (.slice none 0 0)).run P w = .ok ad.isNone w := by
    rw [Op.equal, Op.maxDepth, hd, Op.equalIn]
    simp only [Sem.run_bind, run_underlying hu, Result.andThen_ok]
    cases ad <;> rfl
  refine ⟨ad.isNone, fun _ h => by cases ad <;> simp_all, fun h => by simp [h], ?_⟩
  rw [Sem.run_bind, hg, Result.andThen_ok]
  cases neg
  · simp only [Bool.false_eq_true, if_false, binOp, Sem.run_bind, hq, Result.andThen_ok]; rfl
  · simp only [if_true, binOp, Sem.run_bind, hq, Result.andThen_ok]; rfl
theorem aops_nilNil {d : Nat} {x y : Operand} {T T' : TypeId} (neg : Bool) (hT : tySlice K.P T = true) (hw : Wants ops S ⟨some d, .binOp (if neg then .neq else .eql) T x y T', ty, pos, after, g⟩ true)
    (hx : evl K S x = nV) (hy : evl K S y = nV) (hN : Nat.blt d K.N = true)
    (k : AOps K ops rest Q (S.put d (bV (if neg then false else true)))) : AOps K ops (⟨some d, .binOp (if neg then .neq else .eql) T x y T', ty, pos, after, g⟩ :: rest) Q S :=
  aops_val _ hw hN (fun m β w a r => by
    obtain ⟨b, _, hb, hr⟩ := run_eqNil (P := K.P) (w := w) (x := x) (y := y) neg hT none 0 0
    rw [hb rfl] at hr
    refine ⟨.bool (if neg then !true else true), ?_, ?_⟩
    · simp only [execOp, r.con hx, r.con hy]
      exact run_value hr
    · cases neg <;> exact .imm (.con _)) k
def cellVal (agg : Bool) (l : List Value) : Value := if agg then .agg l.toArray else l.headD undef
structure EqOk (P : Program) (d : Nat) (t : TypeId) (k : Nat) (agg : Bool) (good : List Value → Prop) : Prop where
  len : ∀ l, good l → l.length = k
  kind : ∀ w, (isAgg t).run P w = .ok agg w ∧ (sizeOf t).run P w = .ok k w
  eq : ∀ w xs ys, good xs → good ys → ∃ b, (Op.equalIn d t (cellVal agg xs) (cellVal agg ys)).run P w = .ok b w ∧ (b = true ↔ xs = ys)
  key : ∀ b w xs, good xs → (Instr.checkKey b d t (cellVal agg xs)).run P w = .ok () w
  bits : ∀ xs, good xs → xs.all (fun v => Instr.sameBits 0 v v) = true
  guard : P.eqGuardType d t = false
theorem EqOk.weaken {P : Program} {d k : Nat} {t : TypeId} {agg : Bool} {good good' : List Value → Prop} (h : EqOk P d t k agg good) (hg : ∀ l, good' l → good l) : EqOk P d t k agg good' :=
  ⟨fun l hl => h.len l (hg l hl), h.kind, fun w xs ys hx hy => h.eq w xs ys (hg _ hx) (hg _ hy), fun b w xs hx => h.key b w xs (hg _ hx), fun xs hx => h.bits xs (hg _ hx), h.guard⟩
theorem eqOk_str {P : Program} {d : Nat} {t : TypeId} (hu : P.underlying t = some .string) (hc : tyC P t = true) : EqOk P (d + 1) t 1 false (fun l => ∃ s, l = [.string s]) where
  len := by rintro l ⟨n, rfl⟩; rfl
  kind := fun w => tyC_run hc w
  eq := by
    rintro w xs ys ⟨n, rfl⟩ ⟨n', rfl⟩
    refine ⟨_, run_equalIn_string w d t n n' hu, ?_⟩
    rw [← beq_toListBytes, bytes_beq]; simp
  key := by
    rintro b w xs ⟨n, rfl⟩
    simp only [cellVal, Bool.false_eq_true, if_false, List.headD_cons]
    rw [Instr.checkKey]
    simp only [Sem.run_bind, run_underlying hu, Result.andThen_ok]; rfl
  bits := by rintro xs ⟨n, rfl⟩; simp [Instr.sameBits, bytes_beq]
  guard := by simp [Program.eqGuardType, hu]
/-- The fields from a cell on. -/
def GoodF (g1 g2 : List Value → Prop) (l : List Value) : Prop := ∃ a b, l = a ++ b ∧ g1 a ∧ g2 b
structure EqF (P : Program) (d N : Nat) (fs : List Field) (off : Nat) (good : List Value → Prop) : Prop where
  len : ∀ l, good l → off + l.length = N
  eq : ∀ w (xs ys : List Value), good (xs.drop off) → good (ys.drop off) → ∃ b, (Op.eqFields d xs.toArray ys.toArray fs).run P w = .ok b w ∧ (b = true ↔ xs.drop off = ys.drop off)
  key : ∀ b w (xs : List Value), good (xs.drop off) → ∀ f, f ∈ fs → f.name ≠ "_" → ∃ v, (part f.type xs.toArray f.offset).run P w = .ok v w ∧ (Instr.checkKey b d f.type v).run P w = .ok () w
  bits : ∀ l, good l → l.all (fun v => Instr.sameBits 0 v v) = true
  guard : fs.any (fun f => f.name != "_" && P.eqGuardType d f.type) = false
theorem part_run {P : Program} {d : Nat} {t : TypeId} {k : Nat} {agg : Bool} {good : List Value → Prop} (h : EqOk P d t k agg good) (w : World) (xs : List Value) (off : Nat) {a b : List Value} (hd : xs.drop off = a ++ b) (hg : good a)
    (h1 : agg = false → k = 1) : (part t xs.toArray off).run P w = .ok (cellVal agg a) w := by
  have hl := h.len _ hg
  unfold part
  simp only [Sem.run_bind, (h.kind w).1, Result.andThen_ok]
  cases agg with
  | true =>
    simp only [if_true, Sem.run_bind, (h.kind w).2, Result.andThen_ok, cellVal]
    have : (xs.toArray.extract off (off + k)) = a.toArray := by
      apply Array.ext'
      simp only [List.extract_toArray, List.extract_eq_take_drop]
      rw [hd, Nat.add_sub_cancel_left, ← hl]
      simp
    rw [this]; rfl
  | false =>
    have hk := h1 rfl
    rw [hk] at hl
    match a, hl with
    | [v], _ =>
      have : xs[off]? = some v := by
        have := congrArg (fun l => l[0]?) hd
        simpa using this
      simp [this, cellVal, pure]
theorem eqF_nil {P : Program} {d N : Nat} : EqF P d N [] N (fun l => l = []) where
  len := by rintro l rfl; rfl
  eq := by
    rintro w xs ys hx hy
    exact ⟨true, rfl, by simp [hx, hy]⟩
  key := by intro b w xs _ f hf; simp at hf
  bits := by rintro l rfl; rfl
  guard := rfl
theorem eqF_cons {P : Program} {d N off k : Nat} {f : Field} {fs : List Field} {agg : Bool} {g1 g2 : List Value → Prop} (h : EqOk P d f.type k agg g1) (h1 : agg = false → k = 1) (hf : f.offset = off) (hn : f.name ≠ "_")
    (hr : EqF P d N fs (off + k) g2) : EqF P d N (f :: fs) off (GoodF g1 g2) where
  len := by
    rintro l ⟨a, b, rfl, ha, hb⟩
    have e1 := h.len a ha
    have e2 := hr.len b hb
    simp only [List.length_append]; omega
  eq := by
    rintro w xs ys ⟨a, b, ha, ga, gb⟩ ⟨a', b', ha', ga', gb'⟩
    have e1 := h.len a ga
    have e2 := h.len a' ga'
    have db : xs.drop (off + k) = b := by rw [← List.drop_drop, ha, ← e1]; simp
    have db' : ys.drop (off + k) = b' := by rw [← List.drop_drop, ha', ← e2]; simp
    obtain ⟨r1, hr1, ir1⟩ := h.eq w a a' ga ga'
    obtain ⟨r2, hr2, ir2⟩ := hr.eq w xs ys (by rw [db]; exact gb) (by rw [db']; exact gb')
    rw [db, db'] at ir2
    rw [ha, ha']
    refine ⟨r1 && r2, ?_, ?_⟩
    · simp only [Op.eqFields]
      rw [if_pos hn]
      simp only [Sem.run_bind, hf, part_run h w xs off ha ga h1, part_run h w ys off ha' ga' h1, Result.andThen_ok, hr1]
      cases r1
      · rfl
      · simpa using hr2
    · rw [Bool.and_eq_true, ir1, ir2]
      constructor
      · rintro ⟨rfl, rfl⟩; rfl
      · intro e
        exact List.append_inj e (by rw [e1, e2])
  key := by
    rintro b w xs ⟨a, c, ha, ga, gc⟩ f' hf' hn'
    have e1 := h.len a ga
    have dc : xs.drop (off + k) = c := by rw [← List.drop_drop, ha, ← e1]; simp
    rcases List.mem_cons.1 hf' with rfl | hm
    · exact ⟨_, by rw [hf]; exact part_run h w xs off ha ga h1, h.key b w a ga⟩
    · exact hr.key b w xs (by rw [dc]; exact gc) f' hm hn'
  bits := by
    rintro l ⟨a, b, rfl, ga, gb⟩
    rw [List.all_append, h.bits a ga, hr.bits b gb]; rfl
  guard := by
    rw [List.any_cons, hr.guard, h.guard]; simp
theorem forIn_ok {P : Program} {w : World} {β : Type} (f : Field → β → Sem (ForInStep β)) : ∀ (fs : List Field) (x : β), (∀ g, g ∈ fs → (f g x).run P w = .ok (.yield x) w) → (forIn fs x f).run P w = .ok x w
  | [], x, _ => rfl
  | g :: fs, x, h => by
    rw [List.forIn_cons, Sem.run_bind, h g (by simp)]
    exact forIn_ok f fs x fun g' hg' => h g' (by simp [hg'])
theorem eqOk_struct {P : Program} {d t N : Nat} {good : List Value → Prop} {fs : List Field} (hf : (P.fieldsOf t).toList = fs) (hu : P.underlying t = some (.struct (P.fieldsOf t))) (hc : tyA P t N = true) (hp : P.stoodInHeld t = false)
    (h : EqF P d N fs 0 good) : EqOk P (d + 1) t N true good where
  len := fun l hl => by have := h.len l hl; omega
  kind := fun w => tyA_run hc w
  eq := by
    intro w xs ys hx hy
    simp only [cellVal, if_true]
    rw [run_equalIn_agg w d t _ _ hu hp, hf]
    exact h.eq w xs ys hx hy
  key := by
    intro b w xs hx
    simp only [cellVal, if_true]
    rw [Instr.checkKey]
    simp only [Sem.run_bind, run_underlying hu, Result.andThen_ok]
    rw [← Array.forIn_toList, hf]
    rw [forIn_ok]
    · rfl
    · intro f hf'
      by_cases hn : f.name = "_"
      · simp [hn]
      · obtain ⟨v, h1, h2⟩ := h.key b w xs hx f hf' hn
        simp [hn, Sem.run_bind, h1, h2]
  bits := h.bits
  guard := by
    simp only [Program.eqGuardType, hu]
    rw [← Array.any_toList, hf]
    exact h.guard
end
theorem eq_b {α β : Type} [DecidableEq α] (cv : α → β) (u v : α) (inj : cv u = cv v → u = v) : cv u = cv v ↔ decide (u = v) = true := by
  rw [decide_eq_true_eq]
  exact ⟨inj, fun h => by rw [h]⟩
theorem aops_eqS {K : Ctx} {Q : Post} {S : St} {ops : Array Oper} {rest : List Oper} {ty : TypeId} {pos : String} {after : Array Edge} {g : Option (Nat × Bool)}
    {d k : Nat} {x y : Operand} {T T' : TypeId} {xs ys : List Value} (neg : Bool) {b : Bool} {good : List Value → Prop} (h : EqOk K.P 10000 T k true good)
    (gx : good xs) (gy : good ys) (hb : xs = ys ↔ b = true) (hg : K.P.eqGuardType K.P.depth T = false) (hw : Wants ops S ⟨some d, .binOp (if neg then .neq else .eql) T x y T', ty, pos, after, g⟩ true)
    (hx : evl K S x = .agg (xs.map .con)) (hy : evl K S y = .agg (ys.map .con)) (hN : Nat.blt d K.N = true)
    (kk : AOps K ops rest Q (S.put d (.con (.bool (if neg then !b else b))))) : AOps K ops (⟨some d, .binOp (if neg then .neq else .eql) T x y T', ty, pos, after, g⟩ :: rest) Q S :=
  aops_eqA neg hg (fun w => by
    obtain ⟨r, h1, h2⟩ := h.eq w xs ys gx gy
    simp only [cellVal, if_true] at h1
    have : r = b := by
      cases r <;> cases b <;> simp_all
    rw [h1, this]) hw hx hy rfl rfl hN kk
section
variable {K : Ctx} {Q : Post} {S S' : St} {ops : Array Oper} {rest : List Oper} {op : Op} {ty : TypeId} {pos : String} {after : Array Edge} {g : Option (Nat × Bool)}
variable {m : Mem} {β : Locs} {w : World} {a : Act}
theorem ghost_res : Ghost K S ⟨S.env, (S.nx, .res) :: S.hp, S.nx + 1⟩ := by
  intro m β w a r
  refine ⟨m, β, r.imm, r.ext, r.mold, r.frame, r.size, r.same, r.tn, r.df, r.env, ?_, ?_, ?_, fun id h => r.nx id (Nat.le_of_succ_le h), fun q hq => ⟨Nat.lt_succ_of_lt (r.pin q hq).1, (r.pin q hq).2⟩⟩
  · intro id
    rw [hget_put]
    split
    · rename_i h; subst h; rw [r.nx _ (Nat.le_refl _)]; trivial
    · exact r.own id
  · intro id b cap hl hb
    rw [hget_put] at hl
    split at hl
    · rename_i h; subst h; rw [r.nx _ (Nat.le_refl _)] at hb; simp at hb
    · exact r.priv id b cap hl hb
  · intro id id' b c c' hl hl' hb hb'
    rw [hget_put] at hl hl'
    split at hl
    · rename_i h; subst h; rw [r.nx _ (Nat.le_refl _)] at hb; simp at hb
    · split at hl'
      · rename_i h; subst h; rw [r.nx _ (Nat.le_refl _)] at hb'; simp at hb'
      · exact r.inj id id' b c c' hl hl' hb hb'
theorem Rel.free (r : Rel K m β w a S) {id : Nat} (h : hget S.hp id = .res) : β id = none := by
  have := r.own id
  rw [h] at this
  cases hb : β id with
  | none => rfl
  | some l => rw [hb] at this; cases l with
    | none => simp [ObOk] at this
    | some p => simp [ObOk] at this
theorem Rel.allocAt (r : Rel K m β w a S) (id : Nat) (hid : id < S.nx) (hpid : K.pins ≤ id) (hres : hget S.hp id = .res) (o : Obj) (ob : Ob) (cap : Nat) (w' : World) (hw' : w' = { w with heap := w.heap.push o })
    (hok : ∀ β', β.le β' → ObOk m β' w' (some (some (w.heap.size, cap))) ob) :
    ∃ β', β.le β' ∧ β' id = some (some (w.heap.size, cap)) ∧ Rel K m β' w' a ⟨S.env, (id, ob) :: S.hp, S.nx⟩ := by
  have hfree := r.free hres
  let β' : Locs := fun i => if i = id then some (some (w.heap.size, cap)) else β i
  have hle : β.le β' := by
    intro i l h
    show (if i = id then _ else _) = _
    rw [if_neg]
    · exact h
    · intro e; rw [e, hfree] at h; simp at h
  have hheap : ∀ (b : Nat) (o' : Obj), w.heap[b]? = some o' → w'.heap[b]? = some o' := by
    intro b o' h
    have := lt_of_some h
    rw [hw']; simp only [Array.getElem?_push]; rw [if_neg (by omega)]; exact h
  refine ⟨β', hle, by simp [β'], ?_⟩
  constructor
  · exact fun b o' h => hheap _ _ (r.imm b o' h)
  · exact r.ext
  · exact r.mold
  · intro b hb ho
    have h1 := r.frame b hb ho
    have h2 : b < w.heap.size := Nat.lt_of_lt_of_le hb r.size
    rw [hw']; simp only [Array.getElem?_push]; rw [if_neg (by omega)]; exact h1
  · rw [hw']; simp only [Array.size_push]; have := r.size; omega
  · rw [hw']; exact ⟨r.same.os, r.same.tape, r.same.output⟩
  · exact r.tn
  · exact r.df
  · exact fun t => (r.env t).mono (Mem.le_refl _) hle
  · intro i
    simp only [hget_put]
    by_cases h : id = i
    · subst h; rw [if_pos rfl]; simp only [β', if_true]; exact hok β' hle
    · rw [if_neg h]
      have : β' i = β i := by simp [β', Ne.symm h]
      rw [this]; exact ObOk.mono (Mem.le_refl _) hle hheap (r.own i)
  · intro i b c hl hb
    simp only [hget_put] at hl
    by_cases h : id = i
    · subst h
      simp only [β', if_true, Option.some.injEq, Prod.mk.injEq] at hb
      obtain ⟨rfl, _⟩ := hb
      constructor
      · cases hm : m w.heap.size with
        | none => rfl
        | some o' => have := lt_of_some (r.imm _ _ hm); omega
      · intro hlt; have := r.size; omega
    · rw [if_neg h] at hl
      have : β' i = β i := by simp [β', Ne.symm h]
      rw [this] at hb
      exact r.priv i b c hl hb
  · intro i i' b c c' hl hl' hb hb'
    simp only [hget_put] at hl hl'
    by_cases h : id = i <;> by_cases h' : id = i'
    · rw [← h, ← h']
    · exfalso
      rw [if_neg h'] at hl'
      have e2 : β' i' = β i' := by simp [β', Ne.symm h']
      rw [e2] at hb'
      have := live_lt hl' hb' (r.own i')
      subst h; simp only [β', if_true, Option.some.injEq, Prod.mk.injEq] at hb
      omega
    · exfalso
      rw [if_neg h] at hl
      have e2 : β' i = β i := by simp [β', Ne.symm h]
      rw [e2] at hb
      have := live_lt hl hb (r.own i)
      subst h'; simp only [β', if_true, Option.some.injEq, Prod.mk.injEq] at hb'
      omega
    · rw [if_neg h] at hl; rw [if_neg h'] at hl'
      have e1 : β' i = β i := by simp [β', Ne.symm h]
      have e2 : β' i' = β i' := by simp [β', Ne.symm h']
      rw [e1] at hb; rw [e2] at hb'
      exact r.inj i i' b c c' hl hl' hb hb'
  · intro i hi
    show (if i = id then _ else _) = _
    have hi' : S.nx ≤ i := hi
    rw [if_neg (by omega)]
    exact r.nx i hi'
  · intro q hq
    obtain ⟨h1, h2⟩ := r.pin q hq
    refine ⟨h1, ?_⟩
    show (if q = id then _ else _) = _
    by_cases e : q = id
    · omega
    · rw [if_neg e]; exact h2
/-- What a literal of a slice runs to. -/
theorem run_buildSlice {d T e k bytes n : Nat} {parts : Array (Nat × Operand)} {zs : List Value} (ps : List (Nat × V)) (rows : List (List V)) (hT : tyEl K.P T e k bytes = true) (hz : zeroCells K.P e = some zs)
    (h1 : zs.all (·.oneCell') = true) (hk : 0 < k) (hnn : 0 < n) (hbig : n * k ≤ 16777216)
    (hps : parts.toList.map (fun p => (p.1, evl K S p.2)) = ps) (hf : fillV (fun i => some (i * k, k)) (((List.range (n * k)).map fun i => zs.getD (i % k) undef).map .con) ps = some (flat rows))
    (hrl : rows.length = n) (hrk : ∀ row, row ∈ rows → row.length = k) (r : Rel K m β w a S) :
    ∃ cells' : Array Value, cells'.size = n * k ∧ (∀ (i j : Nat) (row : List V) (c : V), rows[i]? = some row → row[j]? = some c → ∃ v, cells'[i * k + j]? = some v ∧ VRel m β c v ∧ v.oneCell' = true) ∧
      (execOp a.eval ⟨some d, .buildSlice T n parts, ty, pos, after, g⟩).run K.P w = .ok (.value (.slice (some ⟨w.heap.size, 0, none⟩) n n)) { w with heap := w.heap.push (.cells cells' e (0, 0)) } := by
  obtain ⟨hl, hr⟩ := parts_rel r parts ps hps
  obtain ⟨i, z, hu, hi, hs, hby, hzz, hzk⟩ := tyEl_inv hT
  obtain ⟨z', hz1, hz2⟩ := zero_run hz w
  have hzl : zs.length = k := by
    have : zeroCells K.P e = some z.cells.toList := by simp [zeroCells, hi, hzz]
    rw [hz] at this; simp only [Option.some.injEq] at this; rw [this]; simp [hzk]
  have hkk : K.P.cellsOf e = k := by simp [Program.cellsOf, hi, hs]
  have hrows : 0 < n * k := Nat.mul_pos hnn hk
  have hall : ∀ v, v ∈ zs → v.oneCell' = true := fun v hv => List.all_eq_true.1 h1 v hv
  have hzc : (Array.range (n * k)).map (fun x => (z'.cells)[x % z'.cells.size]!) = (((List.range (n * k)).map fun i => zs.getD (i % k) undef)).toArray := by
    apply Array.ext'
    simp only [Array.toList_map, Array.toList_range, hz2, List.size_toArray, hzl]
    apply List.map_congr_left
    intro x _
    have : x % k < zs.length := by rw [hzl]; exact Nat.mod_lt _ hk
    simp [this]
  obtain ⟨cells', f1, f2⟩ := fill_rel ps _ _ (flat rows) (((List.range (n * k)).map fun i => zs.getD (i % k) undef)).toArray hf (zero_cells (by
    rw [List.all_eq_true]
    intro v hv
    simp only [List.mem_map, List.mem_range] at hv
    obtain ⟨p, _, rfl⟩ := hv
    have : p % k < zs.length := by rw [hzl]; exact Nat.mod_lt _ hk
    simp only [List.getD_eq_getElem?_getD, List.getElem?_eq_getElem this, Option.getD_some]
    exact hall _ (List.getElem_mem _)) m β) hl hr
  have hsize : cells'.size = n * k := by rw [← f2.1, flat_length rows hrk, hrl]
  refine ⟨cells', hsize, ?_, ?_⟩
  · intro i j row c hi hj
    have hg := flat_get rows hrk i j row c hi hj
    have hlt : i * k + j < cells'.size := by rw [← f2.1]; exact (List.getElem?_eq_some_iff.1 hg).1
    obtain ⟨a1, a2⟩ := f2.2 _ c cells'[i * k + j] hg (by simp [hlt])
    exact ⟨cells'[i * k + j], by simp [hlt], a1, a2⟩
  · simp only [execOp]
    rw [Sem.run_bind]
    have : (Instr.buildSlice T n (parts.map fun (i, x) => (i, a.eval x))).run K.P w = .ok (.slice (some ⟨w.heap.size, 0, none⟩) n n) { w with heap := w.heap.push (.cells cells' e (0, 0)) } := by
      simp only [Instr.buildSlice, Sem.run_bind, run_underlying hu, Result.andThen_ok, run_sizeOf w hi, hkk]
      rw [if_neg (by omega), if_neg (by omega)]
      simp only [Sem.run_bind, hz1, Result.andThen_ok, pure, Sem.run, hzc, f1, newRow, newObj]
    rw [this]
    rfl
theorem aops_buildSlice_imm {d T e k bytes n : Nat} {parts : Array (Nat × Operand)} {zs : List Value} (ps : List (Nat × V)) (rows : List (List V)) (hT : tyEl K.P T e k bytes = true) (hz : zeroCells K.P e = some zs)
    (hw : Wants ops S ⟨some d, .buildSlice T n parts, ty, pos, after, g⟩ true)
    (h1 : zs.all (·.oneCell') = true) (hk : Nat.blt 0 k = true) (hnn : Nat.blt 0 n = true) (hbig : Nat.ble (n * k) 16777216 = true)
    (hps : parts.toList.map (fun p => (p.1, evl K S p.2)) = ps) (hf : fillV (fun i => some (i * k, k)) (((List.range (n * k)).map fun i => zs.getD (i % k) undef).map .con) ps = some (flat rows))
    (hrl : rows.length = n) (hrk : ∀ row, row ∈ rows → row.length = k) (him : ∀ row, row ∈ rows → Imms row) (hN : Nat.blt d K.N = true)
    (kk : AOps K ops rest Q (S.put d (.lst k rows))) :
    AOps K ops (⟨some d, .buildSlice T n parts, ty, pos, after, g⟩ :: rest) Q S := by
  refine aops_runs hw (fun m β w a r => ?_) kk
  have hk := Nat.le_of_ble_eq_true hk
  have hnn := Nat.le_of_ble_eq_true hnn
  have hbig := Nat.le_of_ble_eq_true hbig
  obtain ⟨cells', hsize, hcl, hrun⟩ := run_buildSlice (d := d) (ty := ty) (pos := pos) (after := after) (g := g) ps rows hT hz h1 hk hnn hbig hps hf hrl hrk r
  let m' : Mem := fun b => if b = w.heap.size then some (.cells cells' e (0, 0)) else m b
  have hnone : m w.heap.size = none := by
    cases hm : m w.heap.size with
    | none => rfl
    | some o' => have := lt_of_some (r.imm _ _ hm); omega
  have hle : m.le m' := by
    intro b o h
    have : b ≠ w.heap.size := by intro e; rw [e, hnone] at h; simp at h
    simp [m', this, h]
  have hg : Grew m m' w { w with heap := w.heap.push (.cells cells' e (0, 0)) } := by
    refine ⟨hle, ?_, ?_, ?_, by simp, ⟨rfl, rfl, rfl⟩⟩
    · intro b o h
      by_cases hb : b = w.heap.size
      · subst hb; simp [m'] at h; simp [h]
      · simp [m', hb] at h
        have := lt_of_some (r.imm _ _ h)
        simp only [Array.getElem?_push]; rw [if_neg hb]; exact r.imm _ _ h
    · intro b hb
      have : b ≠ w.heap.size := by omega
      simp [m', this]
    · intro b hb
      simp only [Array.getElem?_push]; rw [if_neg (by omega)]
  refine ⟨_, _, m', β, .inl hrun, Rel.put (r.grow hg) hN (.imm (.lst (arr := cells') (T := e) (fr := (0, 0)) (fun i => (cells'[i]?).getD undef) (by simp [m']) rfl hrl (Nat.le_refl _) (Nat.le_trans (Nat.le_trans (Nat.le_mul_of_pos_right n hk) hbig) (by unfold maxLen; omega)) hrk ?_ ?_))⟩
  · intro i hi
    rw [hrl] at hi
    simp [show i < cells'.size by omega]
  · intro i j row c hi hj
    obtain ⟨v, h1, h2, h3⟩ := hcl i j row c hi hj
    simp only [h1, Option.getD_some]
    exact (him row (List.mem_of_getElem? hi) c (List.mem_of_getElem? hj) m β v h2).mono hle
end
end Go.Pv
