/- The framework of walks over abstract values (own text), part U. -/
import Derived.Test.YtihfhmibfhkoeaaDoorPPvS
namespace Go.Pv
open Go
section
variable {K : Ctx} {Q : Post} {S S' : St} {ops : Array Oper} {rest : List Oper} {op : Op} {ty : TypeId} {pos : String} {after : Array Edge} {g : Option (Nat × Bool)}
variable {m : Mem} {β : Locs} {w : World} {a : Act}
theorem run_eqNil {P : Program} {T : TypeId} {x y : Operand} (neg : Bool) (hT : tySlice P T = true) (ad : Option Addr) (n c : Nat) :
    ∃ b : Bool, (n ≠ 0 → ad.isSome = true → b = false) ∧ (ad = none → b = true) ∧
      (do eqGuard (if neg then .neq else .eql) T x y (.slice ad n c) (.slice none 0 0); binOp (if neg then .neq else .eql) T (.slice ad n c) (.slice none 0 0) : Sem Value).run P w = .ok (.bool (if neg then !b else b)) w := by
  obtain ⟨e, hu⟩ : ∃ e, P.underlying T = some (.slice e) := by
    unfold tySlice at hT
    split at hT
    · exact ⟨_, ‹_›⟩
    · simp at hT
  have hd : (10000 : Nat) = 9999 + 1 := rfl
  have hg : ∀ op : BinOp, (eqGuard op T x y (.slice ad n c) (.slice none 0 0)).run P w = .ok () w := by
    intro op; unfold eqGuard; cases op <;> simp [pure]
  have hq : (Op.equal T (.slice ad n c) (.slice none 0 0)).run P w = .ok ad.isNone w := by
    rw [Op.equal, Op.maxDepth, hd, Op.equalIn]
    simp only [Sem.run_bind, run_underlying hu, Result.andThen_ok]
    cases ad <;> rfl
  refine ⟨ad.isNone, fun _ h => by cases ad <;> simp_all, fun h => by simp [h], ?_⟩
  rw [Sem.run_bind, hg, Result.andThen_ok]
  cases neg
  · simp only [Bool.false_eq_true, if_false, binOp, Sem.run_bind, hq, Result.andThen_ok]; rfl
  · simp only [if_true, binOp, Sem.run_bind, hq, Result.andThen_ok]; rfl
theorem aops_nilNil {d : Nat} {x y : Operand} {T T' : TypeId} (neg : Bool) (hT : tySlice K.P T = true) (hw : Wants ops S ⟨some d, .binOp (if neg then .neq else .eql) T x y T', ty, pos, after, g⟩ true)
    (hx : evl K S x = nV) (hy : evl K S y = nV) (hN : Nat.blt d K.N = true)
    (k : AOps K ops rest Q (S.put d (bV (if neg then false else true)))) : AOps K ops (⟨some d, .binOp (if neg then .neq else .eql) T x y T', ty, pos, after, g⟩ :: rest) Q S :=
  aops_val _ hw hN (fun m β w a r => by
    obtain ⟨b, _, hb, hr⟩ := run_eqNil (P := K.P) (w := w) (x := x) (y := y) neg hT none 0 0
    rw [hb rfl] at hr
    refine ⟨.bool (if neg then !true else true), ?_, ?_⟩
    · simp only [execOp, r.con hx, r.con hy]
      exact run_value hr
    · cases neg <;> exact .imm (.con _)) k
def cellVal (agg : Bool) (l : List Value) : Value := if agg then .agg l.toArray else l.headD undef
structure EqOk (P : Program) (d : Nat) (t : TypeId) (k : Nat) (agg : Bool) (good : List Value → Prop) : Prop where
  len : ∀ l, good l → l.length = k
  kind : ∀ w, (isAgg t).run P w = .ok agg w ∧ (sizeOf t).run P w = .ok k w
  eq : ∀ w xs ys, good xs → good ys → ∃ b, (Op.equalIn d t (cellVal agg xs) (cellVal agg ys)).run P w = .ok b w ∧ (b = true ↔ xs = ys)
  key : ∀ b w xs, good xs → (Instr.checkKey b d t (cellVal agg xs)).run P w = .ok () w
  bits : ∀ xs, good xs → xs.all (fun v => Instr.sameBits 0 v v) = true
  guard : P.eqGuardType d t = false
theorem EqOk.weaken {P : Program} {d k : Nat} {t : TypeId} {agg : Bool} {good good' : List Value → Prop} (h : EqOk P d t k agg good) (hg : ∀ l, good' l → good l) : EqOk P d t k agg good' :=
  ⟨fun l hl => h.len l (hg l hl), h.kind, fun w xs ys hx hy => h.eq w xs ys (hg _ hx) (hg _ hy), fun b w xs hx => h.key b w xs (hg _ hx), fun xs hx => h.bits xs (hg _ hx), h.guard⟩
theorem eqOk_str {P : Program} {d : Nat} {t : TypeId} (hu : P.underlying t = some .string) (hc : tyC P t = true) : EqOk P (d + 1) t 1 false (fun l => ∃ s, l = [.string s]) where
  len := by rintro l ⟨n, rfl⟩; rfl
  kind := fun w => tyC_run hc w
  eq := by
    rintro w xs ys ⟨n, rfl⟩ ⟨n', rfl⟩
    refine ⟨_, run_equalIn_string w d t n n' hu, ?_⟩
    rw [← beq_toListBytes, bytes_beq]; simp
  key := by
    rintro b w xs ⟨n, rfl⟩
    simp only [cellVal, Bool.false_eq_true, if_false, List.headD_cons]
    rw [Instr.checkKey]
    simp only [Sem.run_bind, run_underlying hu, Result.andThen_ok]; rfl
  bits := by rintro xs ⟨n, rfl⟩; simp [Instr.sameBits, bytes_beq]
  guard := by simp [Program.eqGuardType, hu]
/-- The fields from a cell on. -/
def GoodF (g1 g2 : List Value → Prop) (l : List Value) : Prop := ∃ a b, l = a ++ b ∧ g1 a ∧ g2 b
structure EqF (P : Program) (d N : Nat) (fs : List Field) (off : Nat) (good : List Value → Prop) : Prop where
  len : ∀ l, good l → off + l.length = N
  eq : ∀ w (xs ys : List Value), good (xs.drop off) → good (ys.drop off) → ∃ b, (Op.eqFields d xs.toArray ys.toArray fs).run P w = .ok b w ∧ (b = true ↔ xs.drop off = ys.drop off)
  key : ∀ b w (xs : List Value), good (xs.drop off) → ∀ f, f ∈ fs → f.name ≠ "_" → ∃ v, (part f.type xs.toArray f.offset).run P w = .ok v w ∧ (Instr.checkKey b d f.type v).run P w = .ok () w
  bits : ∀ l, good l → l.all (fun v => Instr.sameBits 0 v v) = true
  guard : fs.any (fun f => f.name != "_" && P.eqGuardType d f.type) = false
theorem part_run {P : Program} {d : Nat} {t : TypeId} {k : Nat} {agg : Bool} {good : List Value → Prop} (h : EqOk P d t k agg good) (w : World) (xs : List Value) (off : Nat) {a b : List Value} (hd : xs.drop off = a ++ b) (hg : good a)
    (h1 : agg = false → k = 1) : (part t xs.toArray off).run P w = .ok (cellVal agg a) w := by
  have hl := h.len _ hg
  unfold part
  simp only [Sem.run_bind, (h.kind w).1, Result.andThen_ok]
  cases agg with
  | true =>
    simp only [if_true, Sem.run_bind, (h.kind w).2, Result.andThen_ok, cellVal]
    have : (xs.toArray.extract off (off + k)) = a.toArray := by
      apply Array.ext'
      simp only [List.extract_toArray, List.extract_eq_take_drop]
      rw [hd, Nat.add_sub_cancel_left, ← hl]
      simp
    rw [this]; rfl
  | false =>
    have hk := h1 rfl
    rw [hk] at hl
    match a, hl with
    | [v], _ =>
      have : xs[off]? = some v := by
        have := congrArg (fun l => l[0]?) hd
        simpa using this
      simp [this, cellVal, pure]
theorem eqF_nil {P : Program} {d N : Nat} : EqF P d N [] N (fun l => l = []) where
  len := by rintro l rfl; rfl
  eq := by
    rintro w xs ys hx hy
    exact ⟨true, rfl, by simp [hx, hy]⟩
  key := by intro b w xs _ f hf; simp at hf
  bits := by rintro l rfl; rfl
  guard := rfl
theorem eqF_cons {P : Program} {d N off k : Nat} {f : Field} {fs : List Field} {agg : Bool} {g1 g2 : List Value → Prop} (h : EqOk P d f.type k agg g1) (h1 : agg = false → k = 1) (hf : f.offset = off) (hn : f.name ≠ "_")
    (hr : EqF P d N fs (off + k) g2) : EqF P d N (f :: fs) off (GoodF g1 g2) where
  len := by
    rintro l ⟨a, b, rfl, ha, hb⟩
    have e1 := h.len a ha
    have e2 := hr.len b hb
    simp only [List.length_append]; omega
  eq := by
    rintro w xs ys ⟨a, b, ha, ga, gb⟩ ⟨a', b', ha', ga', gb'⟩
    have e1 := h.len a ga
    have e2 := h.len a' ga'
    have db : xs.drop (off + k) = b := by rw [← List.drop_drop, ha, ← e1]; simp
    have db' : ys.drop (off + k) = b' := by rw [← List.drop_drop, ha', ← e2]; simp
    obtain ⟨r1, hr1, ir1⟩ := h.eq w a a' ga ga'
    obtain ⟨r2, hr2, ir2⟩ := hr.eq w xs ys (by rw [db]; exact gb) (by rw [db']; exact gb')
    rw [db, db'] at ir2
    rw [ha, ha']
    refine ⟨r1 && r2, ?_, ?_⟩
    · simp only [Op.eqFields]
      rw [if_pos hn]
      simp only [Sem.run_bind, hf, part_run h w xs off ha ga h1, part_run h w ys off ha' ga' h1, Result.andThen_ok, hr1]
      cases r1
      · rfl
      · simpa using hr2
    · rw [Bool.and_eq_true, ir1, ir2]
      constructor
      · rintro ⟨rfl, rfl⟩; rfl
      · intro e
        exact List.append_inj e (by rw [e1, e2])
  key := by
    rintro b w xs ⟨a, c, ha, ga, gc⟩ f' hf' hn'
    have e1 := h.len a ga
    have dc : xs.drop (off + k) = c := by rw [← List.drop_drop, ha, ← e1]; simp
    rcases List.mem_cons.1 hf' with rfl | hm
    · exact ⟨_, by rw [hf]; exact part_run h w xs off ha ga h1, h.key b w a ga⟩
    · exact hr.key b w xs (by rw [dc]; exact gc) f' hm hn'
  bits := by
    rintro l ⟨a, b, rfl, ga, gb⟩
    rw [List.all_append, h.bits a ga, hr.bits b gb]; rfl
  guard := by
    rw [List.any_cons, hr.guard, h.guard]; simp
theorem forIn_ok {P : Program} {w : World} {β : Type} (f : Field → β → Sem (ForInStep β)) : ∀ (fs : List Field) (x : β), (∀ g, g ∈ fs → (f g x).run P w = .ok (.yield x) w) → (forIn fs x f).run P w = .ok x w
  | [], x, _ => rfl
  | g :: fs, x, h => by
    rw [List.forIn_cons, Sem.run_bind, h g (by simp)]
    exact forIn_ok f fs x fun g' hg' => h g' (by simp [hg'])
theorem eqOk_struct {P : Program} {d t N : Nat} {good : List Value → Prop} {fs : List Field} (hf : (P.fieldsOf t).toList = fs) (hu : P.underlying t = some (.struct (P.fieldsOf t))) (hc : tyA P t N = true) (hp : P.stoodInHeld t = false)
    (h : EqF P d N fs 0 good) : EqOk P (d + 1) t N true good where
  len := fun l hl => by have := h.len l hl; omega
  kind := fun w => tyA_run hc w
  eq := by
    intro w xs ys hx hy
    simp only [cellVal, if_true]
    rw [run_equalIn_agg w d t _ _ hu hp, hf]
    exact h.eq w xs ys hx hy
  key := by
    intro b w xs hx
    simp only [cellVal, if_true]
    rw [Instr.checkKey]
    simp only [Sem.run_bind, run_underlying hu, Result.andThen_ok]
    rw [← Array.forIn_toList, hf]
    rw [forIn_ok]
    · rfl
    · intro f hf'
      by_cases hn : f.name = "_"
      · simp [hn]
      · obtain ⟨v, h1, h2⟩ := h.key b w xs hx f hf' hn
        simp [hn, Sem.run_bind, h1, h2]
  bits := h.bits
  guard := by
    simp only [Program.eqGuardType, hu]
    rw [← Array.any_toList, hf]
    exact h.guard
end
theorem eq_b {α β : Type} [DecidableEq α] (cv : α → β) (u v : α) (inj : cv u = cv v → u = v) : cv u = cv v ↔ decide (u = v) = true := by
  rw [decide_eq_true_eq]
  exact ⟨inj, fun h => by rw [h]⟩
theorem aops_eqS {K : Ctx} {Q : Post} {S : St} {ops : Array Oper} {rest : List Oper} {ty : TypeId} {pos : String} {after : Array Edge} {g : Option (Nat × Bool)}
    {d k : Nat} {x y : Operand} {T T' : TypeId} {xs ys : List Value} (neg : Bool) {b : Bool} {good : List Value → Prop} (h : EqOk K.P 10000 T k true good)
    (gx : good xs) (gy : good ys) (hb : xs = ys ↔ b = true) (hg : K.P.eqGuardType K.P.depth T = false) (hw : Wants ops S ⟨some d, .binOp (if neg then .neq else .eql) T x y T', ty, pos, after, g⟩ true)
    (hx : evl K S x = .agg (xs.map .con)) (hy : evl K S y = .agg (ys.map .con)) (hN : Nat.blt d K.N = true)
    (kk : AOps K ops rest Q (S.put d (.con (.bool (if neg then !b else b))))) : AOps K ops (⟨some d, .binOp (if neg then .neq else .eql) T x y T', ty, pos, after, g⟩ :: rest) Q S :=
  aops_eqA neg hg (fun w => by
    obtain ⟨r, h1, h2⟩ := h.eq w xs ys gx gy
    simp only [cellVal, if_true] at h1
    have : r = b := by
      cases r <;> cases b <;> simp_all
    rw [h1, this]) hw hx hy rfl rfl hN kk
section
variable {K : Ctx} {Q : Post} {S S' : St} {ops : Array Oper} {rest : List Oper} {op : Op} {ty : TypeId} {pos : String} {after : Array Edge} {g : Option (Nat × Bool)}
variable {m : Mem} {β : Locs} {w : World} {a : Act}
end
end Go.Pv
