/- Part of the proof: U. -/
import Derived.Test.YtpbkggamiipdmaaR5PvS
namespace Go.Pv
open Go
section
variable {K : Ctx} {Q : Post} {S S' : St} {ops : Array Oper} {rest : List Oper} {op : Op} {ty : TypeId} {pos : String} {after : Array Edge} {g : Option (Nat × Bool)}
variable {m : Mem} {β : Locs} {w : World} {a : Act}
theorem run_eqNil {P : Program} {T : TypeId} {x y : Operand} (neg : Bool) (hT : tySlice P T = true) (ad : Option Addr) (n c : Nat) :
    ∃ b : Bool, (n ≠ 0 → ad.isSome = true → b = false) ∧ (ad = none → b = true) ∧
      (do eqGuard (if neg then .neq else .eql) T x y (.slice ad n c) (.slice none 0 0); binOp (if neg then .neq else .eql) T (.slice ad n c) (.slice none 0 0) : Sem Value).run P w = .ok (.bool (if neg then !b else b)) w := by
  obtain ⟨e, hu⟩ : ∃ e, P.underlying T = some (.slice e) := by
    unfold tySlice at hT
    split at hT
    · exact ⟨_, ‹_›⟩
    · simp at hT
  have hd : (10000 : Nat) = 9999 + 1 := rfl
  have hg : ∀ op : BinOp, (eqGuard op T x y (.slice ad n c) (.slice none 0 0)).run P w = .ok () w := by
    intro op; unfold eqGuard; cases op <;> simp [pure]
  have hq : (Op.equal T (.slice ad n c) (.slice none 0 0)).run P w = .ok ad.isNone w := by
    rw [Op.equal, Op.maxDepth, hd, Op.equalIn]
    simp only [Sem.run_bind, run_underlying hu, Result.andThen_ok]
    cases ad <;> rfl
  refine ⟨ad.isNone, fun _ h => by cases ad <;> simp_all, fun h => by simp [h], ?_⟩
  rw [Sem.run_bind, hg, Result.andThen_ok]
  cases neg
  · simp only [Bool.false_eq_true, if_false, binOp, Sem.run_bind, hq, Result.andThen_ok]; rfl
  · simp only [if_true, binOp, Sem.run_bind, hq, Result.andThen_ok]; rfl
theorem aops_nilNil {d : Nat} {x y : Operand} {T T' : TypeId} (neg : Bool) (hT : tySlice K.P T = true) (hw : Wants ops S ⟨some d, .binOp (if neg then .neq else .eql) T x y T', ty, pos, after, g⟩ true)
    (hx : evl K S x = nV) (hy : evl K S y = nV) (hN : Nat.blt d K.N = true)
    (k : AOps K ops rest Q (S.put d (bV (if neg then false else true)))) : AOps K ops (⟨some d, .binOp (if neg then .neq else .eql) T x y T', ty, pos, after, g⟩ :: rest) Q S :=
  aops_val _ hw hN (fun m β w a r => by
    obtain ⟨b, _, hb, hr⟩ := run_eqNil (P := K.P) (w := w) (x := x) (y := y) neg hT none 0 0
    rw [hb rfl] at hr
    refine ⟨.bool (if neg then !true else true), ?_, ?_⟩
    · simp only [execOp, r.con hx, r.con hy]
      exact run_value hr
    · cases neg <;> exact .imm (.con _)) k
def snil : V → Option Nat
  | .lst _ rows => some rows.length
  | .own _ n => some n
  | _ => none
theorem aops_isNil {d n : Nat} {x y : Operand} {T T' : TypeId} {v : V} (neg : Bool) (hT : tySlice K.P T = true) (hw : Wants ops S ⟨some d, .binOp (if neg then .neq else .eql) T x y T', ty, pos, after, g⟩ true)
    (hx : evl K S x = v) (hy : evl K S y = nV) (hn : snil v = some n) (hN : Nat.blt d K.N = true)
    (k : ∀ b : Bool, (n ≠ 0 → b = false) → AOps K ops rest Q (S.put d (bV (if neg then !b else b)))) : AOps K ops (⟨some d, .binOp (if neg then .neq else .eql) T x y T', ty, pos, after, g⟩ :: rest) Q S := by
  intro m β w a r
  have h := r.reads x
  rw [hx] at h
  have key : ∃ ad c, a.eval x = .slice ad n c ∧ (n ≠ 0 → ad.isSome = true) := by
    generalize hv : a.eval x = u at h
    cases v with
    | lst k rows =>
      simp only [snil, Option.some.injEq] at hn
      cases h with
      | imm h =>
        cases h with
        | nil _ ad cap => subst hn; exact ⟨ad, cap, rfl, by simp⟩
        | lst f hm hs hl => exact ⟨_, _, by rw [← hn, hl], fun _ => rfl⟩
    | own id n' =>
      simp only [snil, Option.some.injEq] at hn
      subst hn
      cases h with
      | imm h => cases h
      | ownNil => exact ⟨_, _, rfl, by simp⟩
      | own => exact ⟨_, _, rfl, fun _ => rfl⟩
    | _ => simp [snil] at hn
  obtain ⟨ad, c, hv, hs⟩ := key
  obtain ⟨b, hb, _, hr⟩ := run_eqNil (P := K.P) (w := w) (x := x) (y := y) neg hT ad n c
  have kk := k b fun hn => hb hn (hs hn)
  unfold wpList
  rw [if_pos (hw.at r)]
  left
  unfold Oper.wp
  have hrun : (execOp a.eval ⟨some d, .binOp (if neg then .neq else .eql) T x y T', ty, pos, after, g⟩).run K.P w = .ok (.value (.bool (if neg then !b else b))) w := by
    simp only [execOp, hv, r.con hy]
    exact run_value hr
  rw [hrun]
  exact kk m β w _ (r.put hN (.imm (.con _)))
theorem aops_emptySlice {d T e k bytes : Nat} (hT : tyEl K.P T e k bytes = true) (hw : Wants ops S ⟨some d, .buildSlice T 0 #[], ty, pos, after, g⟩ true) (hN : Nat.blt d K.N = true)
    (kk : AOps K ops rest Q ⟨(d, .own S.nx 0) :: S.env, (S.nx, .arr e k []) :: S.hp, S.nx + 1⟩) : AOps K ops (⟨some d, .buildSlice T 0 #[], ty, pos, after, g⟩ :: rest) Q S := by
  refine aops_runs hw (fun m β w a r => ?_) kk
  obtain ⟨i, z, hu, hi, hs, hby, hzz, hzk⟩ := tyEl_inv hT
  obtain ⟨β', hle, hnx, r2⟩ := r.alloc (.cells #[] e (0, 0)) (.arr e k []) ⟨0, 0⟩ _ rfl (fun β' hle => by
    exact obok_new0 (vs := #[]) (by simp) (by simp) (by simp) (by unfold maxLen; omega) (by simp) (by simp))
  refine ⟨.slice (some ⟨w.heap.size, 0, none⟩) 0 0, { w with heap := w.heap.push (.cells #[] e (0, 0)) }, m, β', .inl ?_, Rel.put r2 hN (.own hnx)⟩
  simp only [execOp]
  rw [Sem.run_bind]
  have : (Instr.buildSlice T 0 ((#[] : Array (Nat × Operand)).map fun (i, x) => (i, a.eval x))).run K.P w = .ok (.slice (some ⟨w.heap.size, 0, none⟩) 0 0) { w with heap := w.heap.push (.cells #[] e (0, 0)) } := by
    simp only [Instr.buildSlice, Sem.run_bind, run_underlying hu, Result.andThen_ok, run_sizeOf w hi]
    simp [pure, Sem.run, Instr.fill, newRow, newObj, Sem.run_bind, Result.andThen]
    have e0 : (Array.map (fun _ => (default : Value)) (Array.range 0)) = #[] := by apply Array.ext'; simp
    rw [e0]
  rw [this]
  rfl
def cellVal (agg : Bool) (l : List Value) : Value := if agg then .agg l.toArray else l.headD undef
structure EqOk (P : Program) (d : Nat) (t : TypeId) (k : Nat) (agg : Bool) (good : List Value → Prop) : Prop where
  len : ∀ l, good l → l.length = k
  kind : ∀ w, (isAgg t).run P w = .ok agg w ∧ (sizeOf t).run P w = .ok k w
  eq : ∀ w xs ys, good xs → good ys → ∃ b, (Op.equalIn d t (cellVal agg xs) (cellVal agg ys)).run P w = .ok b w ∧ (b = true ↔ xs = ys)
  key : ∀ b w xs, good xs → (Instr.checkKey b d t (cellVal agg xs)).run P w = .ok () w
  bits : ∀ xs, good xs → xs.all (fun v => Instr.sameBits 0 v v) = true
  guard : P.eqGuardType d t = false
theorem EqOk.weaken {P : Program} {d k : Nat} {t : TypeId} {agg : Bool} {good good' : List Value → Prop} (h : EqOk P d t k agg good) (hg : ∀ l, good' l → good l) : EqOk P d t k agg good' :=
  ⟨fun l hl => h.len l (hg l hl), h.kind, fun w xs ys hx hy => h.eq w xs ys (hg _ hx) (hg _ hy), fun b w xs hx => h.key b w xs (hg _ hx), fun xs hx => h.bits xs (hg _ hx), h.guard⟩
theorem eqOk_int {P : Program} {d : Nat} {t : TypeId} {k : IntKind} (hu : P.underlying t = some (.int k)) (hc : tyC P t = true) : EqOk P (d + 1) t 1 false (fun l => ∃ n, l = [.int k n]) where
  len := by rintro l ⟨n, rfl⟩; rfl
  kind := fun w => tyC_run hc w
  eq := by
    rintro w xs ys ⟨n, rfl⟩ ⟨n', rfl⟩
    exact ⟨_, run_equalIn_int w d t k k n n' hu, by simp⟩
  key := by
    rintro b w xs ⟨n, rfl⟩
    simp only [cellVal, Bool.false_eq_true, if_false, List.headD_cons]
    rw [Instr.checkKey]
    simp only [Sem.run_bind, run_underlying hu, Result.andThen_ok]; rfl
  bits := by rintro xs ⟨n, rfl⟩; simp [Instr.sameBits]
  guard := by simp [Program.eqGuardType, hu]
theorem eqOk_str {P : Program} {d : Nat} {t : TypeId} (hu : P.underlying t = some .string) (hc : tyC P t = true) : EqOk P (d + 1) t 1 false (fun l => ∃ s, l = [.string s]) where
  len := by rintro l ⟨n, rfl⟩; rfl
  kind := fun w => tyC_run hc w
  eq := by
    rintro w xs ys ⟨n, rfl⟩ ⟨n', rfl⟩
    refine ⟨_, run_equalIn_string w d t n n' hu, ?_⟩
    rw [← beq_toListBytes, bytes_beq]; simp
  key := by
    rintro b w xs ⟨n, rfl⟩
    simp only [cellVal, Bool.false_eq_true, if_false, List.headD_cons]
    rw [Instr.checkKey]
    simp only [Sem.run_bind, run_underlying hu, Result.andThen_ok]; rfl
  bits := by rintro xs ⟨n, rfl⟩; simp [Instr.sameBits, bytes_beq]
  guard := by simp [Program.eqGuardType, hu]
/-- The fields from a cell on. -/
def GoodF (g1 g2 : List Value → Prop) (l : List Value) : Prop := ∃ a b, l = a ++ b ∧ g1 a ∧ g2 b
structure EqF (P : Program) (d N : Nat) (fs : List Field) (off : Nat) (good : List Value → Prop) : Prop where
  len : ∀ l, good l → off + l.length = N
  eq : ∀ w (xs ys : List Value), good (xs.drop off) → good (ys.drop off) → ∃ b, (Op.eqFields d xs.toArray ys.toArray fs).run P w = .ok b w ∧ (b = true ↔ xs.drop off = ys.drop off)
  key : ∀ b w (xs : List Value), good (xs.drop off) → ∀ f, f ∈ fs → f.name ≠ "_" → ∃ v, (part f.type xs.toArray f.offset).run P w = .ok v w ∧ (Instr.checkKey b d f.type v).run P w = .ok () w
  bits : ∀ l, good l → l.all (fun v => Instr.sameBits 0 v v) = true
  guard : fs.any (fun f => f.name != "_" && P.eqGuardType d f.type) = false
theorem part_run {P : Program} {d : Nat} {t : TypeId} {k : Nat} {agg : Bool} {good : List Value → Prop} (h : EqOk P d t k agg good) (w : World) (xs : List Value) (off : Nat) {a b : List Value} (hd : xs.drop off = a ++ b) (hg : good a)
    (h1 : agg = false → k = 1) : (part t xs.toArray off).run P w = .ok (cellVal agg a) w := by
  have hl := h.len _ hg
  unfold part
  simp only [Sem.run_bind, (h.kind w).1, Result.andThen_ok]
  cases agg with
  | true =>
    simp only [if_true, Sem.run_bind, (h.kind w).2, Result.andThen_ok, cellVal]
    have : (xs.toArray.extract off (off + k)) = a.toArray := by
      apply Array.ext'
      simp only [List.extract_toArray, List.extract_eq_take_drop]
      rw [hd, Nat.add_sub_cancel_left, ← hl]
      simp
    rw [this]; rfl
  | false =>
    have hk := h1 rfl
    rw [hk] at hl
    match a, hl with
    | [v], _ =>
      have : xs[off]? = some v := by
        have := congrArg (fun l => l[0]?) hd
        simpa using this
      simp [this, cellVal, pure]
theorem eqF_nil {P : Program} {d N : Nat} : EqF P d N [] N (fun l => l = []) where
  len := by rintro l rfl; rfl
  eq := by
    rintro w xs ys hx hy
    exact ⟨true, rfl, by simp [hx, hy]⟩
  key := by intro b w xs _ f hf; simp at hf
  bits := by rintro l rfl; rfl
  guard := rfl
theorem eqF_cons {P : Program} {d N off k : Nat} {f : Field} {fs : List Field} {agg : Bool} {g1 g2 : List Value → Prop} (h : EqOk P d f.type k agg g1) (h1 : agg = false → k = 1) (hf : f.offset = off) (hn : f.name ≠ "_")
    (hr : EqF P d N fs (off + k) g2) : EqF P d N (f :: fs) off (GoodF g1 g2) where
  len := by
    rintro l ⟨a, b, rfl, ha, hb⟩
    have e1 := h.len a ha
    have e2 := hr.len b hb
    simp only [List.length_append]; omega
  eq := by
    rintro w xs ys ⟨a, b, ha, ga, gb⟩ ⟨a', b', ha', ga', gb'⟩
    have e1 := h.len a ga
    have e2 := h.len a' ga'
    have db : xs.drop (off + k) = b := by rw [← List.drop_drop, ha, ← e1]; simp
    have db' : ys.drop (off + k) = b' := by rw [← List.drop_drop, ha', ← e2]; simp
    obtain ⟨r1, hr1, ir1⟩ := h.eq w a a' ga ga'
    obtain ⟨r2, hr2, ir2⟩ := hr.eq w xs ys (by rw [db]; exact gb) (by rw [db']; exact gb')
    rw [db, db'] at ir2
    rw [ha, ha']
    refine ⟨r1 && r2, ?_, ?_⟩
    · simp only [Op.eqFields]
      rw [if_pos hn]
      simp only [Sem.run_bind, hf, part_run h w xs off ha ga h1, part_run h w ys off ha' ga' h1, Result.andThen_ok, hr1]
      cases r1
      · rfl
      · simpa using hr2
    · rw [Bool.and_eq_true, ir1, ir2]
      constructor
      · rintro ⟨rfl, rfl⟩; rfl
      · intro e
        exact List.append_inj e (by rw [e1, e2])
  key := by
    rintro b w xs ⟨a, c, ha, ga, gc⟩ f' hf' hn'
    have e1 := h.len a ga
    have dc : xs.drop (off + k) = c := by rw [← List.drop_drop, ha, ← e1]; simp
    rcases List.mem_cons.1 hf' with rfl | hm
    · exact ⟨_, by rw [hf]; exact part_run h w xs off ha ga h1, h.key b w a ga⟩
    · exact hr.key b w xs (by rw [dc]; exact gc) f' hm hn'
  bits := by
    rintro l ⟨a, b, rfl, ga, gb⟩
    rw [List.all_append, h.bits a ga, hr.bits b gb]; rfl
  guard := by
    rw [List.any_cons, hr.guard, h.guard]; simp
theorem forIn_ok {P : Program} {w : World} {β : Type} (f : Field → β → Sem (ForInStep β)) : ∀ (fs : List Field) (x : β), (∀ g, g ∈ fs → (f g x).run P w = .ok (.yield x) w) → (forIn fs x f).run P w = .ok x w
  | [], x, _ => rfl
  | g :: fs, x, h => by
    rw [List.forIn_cons, Sem.run_bind, h g (by simp)]
    exact forIn_ok f fs x fun g' hg' => h g' (by simp [hg'])
theorem eqOk_struct {P : Program} {d t N : Nat} {good : List Value → Prop} {fs : List Field} (hf : (P.fieldsOf t).toList = fs) (hu : P.underlying t = some (.struct (P.fieldsOf t))) (hc : tyA P t N = true) (hp : P.stoodInHeld t = false)
    (h : EqF P d N fs 0 good) : EqOk P (d + 1) t N true good where
  len := fun l hl => by have := h.len l hl; omega
  kind := fun w => tyA_run hc w
  eq := by
    intro w xs ys hx hy
    simp only [cellVal, if_true]
    rw [run_equalIn_agg w d t _ _ hu hp, hf]
    exact h.eq w xs ys hx hy
  key := by
    intro b w xs hx
    simp only [cellVal, if_true]
    rw [Instr.checkKey]
    simp only [Sem.run_bind, run_underlying hu, Result.andThen_ok]
    rw [← Array.forIn_toList, hf]
    rw [forIn_ok]
    · rfl
    · intro f hf'
      by_cases hn : f.name = "_"
      · simp [hn]
      · obtain ⟨v, h1, h2⟩ := h.key b w xs hx f hf' hn
        simp [hn, Sem.run_bind, h1, h2]
  bits := h.bits
  guard := by
    simp only [Program.eqGuardType, hu]
    rw [← Array.any_toList, hf]
    exact h.guard
end
theorem sameBits_mono : ∀ (v : Value), Instr.sameBits 0 v v = true → Instr.sameBits 9999 v v = true := by
  intro v h
  cases v <;> simp [Instr.sameBits] at h ⊢ <;> exact h
theorem findAsk {P : Program} {t : TypeId} {k : Nat} {good : List Value → Prop} (h : EqOk P 10000 t k true good) (w : World) (xs : List Value) (hx : good xs) : ∀ (es : List MapEntry) (n : Nat), (∀ e, e ∈ es → ∃ ys, good ys ∧ e.key = .agg ys.toArray) →
    ((Instr.findAsking t (.agg xs.toArray) es n).run P w = .ok none w ∧ ∀ e, e ∈ es → e.key ≠ .agg xs.toArray) ∨
    ∃ j e, (Instr.findAsking t (.agg xs.toArray) es n).run P w = .ok (some (n + j, e.val)) w ∧ es[j]? = some e ∧ e.key = .agg xs.toArray ∧ ∀ i e', i < j → es[i]? = some e' → e'.key ≠ .agg xs.toArray
  | [], n, _ => .inl ⟨rfl, by simp⟩
  | e :: es, n, hg => by
    obtain ⟨ys, hy, he⟩ := hg e (by simp)
    obtain ⟨b, hb, ib⟩ := h.eq w xs ys hx hy
    simp only [cellVal, if_true] at hb
    have hstep : (Instr.findAsking t (.agg xs.toArray) (e :: es) n).run P w = if b = true then .ok (some (n, e.val)) w else (Instr.findAsking t (.agg xs.toArray) es (n + 1)).run P w := by
      rw [Instr.findAsking, he, Op.equal, Op.maxDepth]
      simp only [Sem.run_bind, hb, Result.andThen_ok]
      cases b <;> rfl
    by_cases hbt : b = true
    · refine .inr ⟨0, e, by rw [hstep, if_pos hbt]; rfl, rfl, by rw [he, ib.1 hbt], by simp⟩
    · have hne : e.key ≠ .agg xs.toArray := by
        rw [he]
        intro e'
        simp only [Value.agg.injEq] at e'
        have : xs = ys := by have := congrArg Array.toList e'; simpa using this.symm
        exact hbt (ib.2 this)
      rcases findAsk h w xs hx es (n + 1) (fun e' he' => hg e' (by simp [he'])) with ⟨a1, a2⟩ | ⟨j, e', a1, a2, a3, a4⟩
      · refine .inl ⟨by rw [hstep, if_neg hbt, a1], fun e' he' => ?_⟩
        rcases List.mem_cons.1 he' with rfl | he'
        · exact hne
        · exact a2 e' he'
      · refine .inr ⟨j + 1, e', by rw [hstep, if_neg hbt, a1, show n + 1 + j = n + (j + 1) by omega], by simpa using a2, a3, fun i e'' hi he'' => ?_⟩
        cases i with
        | zero => simp at he''; subst he''; exact hne
        | succ i => exact a4 i e'' (by omega) (by simpa using he'')
theorem keyT_agg {P : Program} {t : TypeId} {k : Nat} {good : List Value → Prop} {gv : Value → Prop} (h : EqOk P 10000 t k true good) (hu : P.underlying t = some (.struct (P.fieldsOf t))) (hg : ∀ v, gv v → ∃ xs, good xs ∧ v = .agg xs.toArray) : KeyT P t gv where
  check := by
    intro b w v hv
    obtain ⟨xs, hx, rfl⟩ := hg v hv
    exact h.key b w xs hx
  find := by
    intro w x hx es hes
    obtain ⟨xs, hxs, rfl⟩ := hg x hx
    have hnow : ∀ es : List MapEntry, Instr.findNow (.struct (P.fieldsOf t)) (.agg xs.toArray) es 0 = none ∨ es = [] := by
      intro es
      cases es with
      | nil => exact .inr rfl
      | cons e es =>
        left
        simp [Instr.findNow, Instr.sameNow]
    have hfk : (Instr.findKey t (.agg xs.toArray) es).run P w = (Instr.findAsking t (.agg xs.toArray) es 0).run P w := by
      simp only [Instr.findKey, Sem.run_bind, run_underlying hu, Result.andThen_ok]
      rcases hnow es with hn | rfl
      · rw [hn]
      · rfl
    rw [hfk]
    rcases findAsk h w xs hxs es 0 (fun e he => by obtain ⟨ys, h1, h2⟩ := hg e.key (hes e he); exact ⟨ys, h1, h2⟩) with h1 | ⟨j, e, h1, h2⟩
    · exact .inl h1
    · exact .inr ⟨j, e, by rw [h1]; simp, h2⟩
  stays := by
    intro w v hv
    obtain ⟨xs, hx, rfl⟩ := hg v hv
    have hb := h.bits xs hx
    have : Instr.sameBits 10000 (.agg xs.toArray) (.agg xs.toArray) = true := by
      rw [show (10000 : Nat) = 9999 + 1 from rfl, Instr.sameBits]
      simp only [beq_self_eq_true, Bool.true_and, List.all_eq_true]
      rintro ⟨x, y⟩ hxy
      have hxy' : x = y ∧ x ∈ xs := by
        obtain ⟨i, hi⟩ := List.mem_iff_getElem?.1 hxy
        rw [List.getElem?_zip_eq_some] at hi
        simp only at hi
        obtain ⟨h1, h2⟩ := hi
        rw [h1] at h2
        exact ⟨Option.some.inj h2, List.mem_of_getElem? (by simpa using h1)⟩
      obtain ⟨rfl, hm⟩ := hxy'
      exact sameBits_mono x (List.all_eq_true.1 hb x hm)
    simp only [Instr.keyThatStays, this, if_true]; rfl
section
variable {K : Ctx} {Q : Post} {S S' : St} {ops : Array Oper} {rest : List Oper} {op : Op} {ty : TypeId} {pos : String} {after : Array Edge} {g : Option (Nat × Bool)}
variable {m : Mem} {β : Locs} {w : World} {a : Act}
theorem ghost_res : Ghost K S ⟨S.env, (S.nx, .res) :: S.hp, S.nx + 1⟩ := by
  intro m β w a r
  let β' : Locs := ⟨β.f, fun i => if i = S.nx then fun _ => False else β.hid i⟩
  have hle : β.le β' := fun _ _ h => h
  have hn : β'.hid S.nx = fun _ => False := by show (if _ then _ else _) = _; rw [if_pos rfl]
  have hho : ∀ i, i ≠ S.nx → β'.hid i = β.hid i := fun i h => by show (if _ then _ else _) = _; rw [if_neg h]
  have hlive : ∀ i, i ≠ S.nx → hget ((S.nx, Ob.res) :: S.hp) i ≠ .dead → hget S.hp i ≠ .dead := by
    intro i h hi
    rw [hget_put, if_neg (Ne.symm h)] at hi; exact hi
  refine ⟨m, β', r.imm, r.ext, r.mold, r.frame, r.size, r.same, r.tn, r.df, fun t => (r.env t).mono (Mem.le_refl _) hle, ?_, ?_, ?_, ?_, fun id h => r.nx id (Nat.le_of_succ_le h), fun q hq => ⟨Nat.lt_succ_of_lt (r.pin q hq).1, (r.pin q hq).2⟩⟩
  · intro id
    show ObOk m β' w (β'.hid id) (β id) (hget ((S.nx, Ob.res) :: S.hp) id)
    rw [hget_put]
    split
    · rename_i h; subst h; rw [r.nx _ (Nat.le_refl _)]; trivial
    · rename_i h; rw [hho id (Ne.symm h)]; exact ObOk.mono (Mem.le_refl _) hle (fun _ _ h => h) (fun _ _ => rfl) (r.own id)
  · intro id b cap hl hb
    rw [hget_put] at hl
    split at hl
    · rename_i h; subst h; have hb : β S.nx = some (some (b, cap)) := hb; rw [r.nx _ (Nat.le_refl _)] at hb; simp at hb
    · exact r.priv id b cap hl hb
  · intro id id' b c c' hl hl' hb hb'
    rw [hget_put] at hl hl'
    split at hl
    · rename_i h; subst h; have hb : β S.nx = some (some (b, c)) := hb; rw [r.nx _ (Nat.le_refl _)] at hb; simp at hb
    · split at hl'
      · rename_i h; subst h; have hb' : β S.nx = some (some (b, c')) := hb'; rw [r.nx _ (Nat.le_refl _)] at hb'; simp at hb'
      · exact r.inj id id' b c c' hl hl' hb hb'
  · intro id x hl hx
    by_cases h : id = S.nx
    · subst h; rw [hn] at hx; exact hx.elim
    · rw [hho id h] at hx
      have q := r.hid id x (hlive id h hl) hx
      refine ⟨q.lt, q.m, q.old, fun i b c hi hb => ?_, fun i hi hx' => ?_⟩
      · by_cases h' : i = S.nx
        · subst h'; have hb : β S.nx = some (some (b, c)) := hb; rw [r.nx _ (Nat.le_refl _)] at hb; simp at hb
        · exact q.ne i b c (hlive i h' hi) hb
      · by_cases h' : i = S.nx
        · subst h'; rw [hn] at hx'; exact hx'.elim
        · rw [hho i h'] at hx'; exact q.un i (hlive i h' hi) hx'
theorem Rel.free (r : Rel K m β w a S) {id : Nat} (h : hget S.hp id = .res) : β id = none := by
  have := r.own id
  rw [h] at this
  cases hb : β id with
  | none => rfl
  | some l => rw [hb] at this; cases l with
    | none => simp [ObOk] at this
    | some p => simp [ObOk] at this
theorem Rel.allocAt (r : Rel K m β w a S) (id : Nat) (hid : id < S.nx) (hpid : K.pins ≤ id) (hres : hget S.hp id = .res) (o : Obj) (ob : Ob) (cap : Cap) (w' : World) (hw' : w' = { w with heap := w.heap.push o })
    (hok : ∀ β', β.le β' → ObOk m β' w' (fun _ => False) (some (some (w.heap.size, cap))) ob) :
    ∃ β' : Locs, β.le β' ∧ β' id = some (some (w.heap.size, cap)) ∧ Rel K m β' w' a ⟨S.env, (id, ob) :: S.hp, S.nx⟩ :=
  r.allocG id S.nx (r.free hres) (fun q hq => by omega) hid (Nat.le_refl _) o ob cap w' hw' (fun _ => False) (fun _ h => h.elim) hok
theorem aops_alloc_at {d n nx : Nat} {T : TypeId} {zs : List Value} (id : Nat) (hid : (Nat.blt id nx && Nat.ble K.pins id) = true) (hnx : S.nx = nx) (hres : hget S.hp id = .res) (hz : zeroCells K.P T = some zs) (hn : zs.length = n) (h1 : zs.all (·.oneCell') = true) (hw : Wants ops S ⟨some d, .alloc T, ty, pos, after, g⟩ true)
    (hN : Nat.blt d K.N = true)
    (kk : AOps K ops rest Q ⟨(d, .ptr id n 0 0) :: S.env, (id, .arr T n [zs.map .con]) :: S.hp, S.nx⟩) :
    AOps K ops (⟨some d, .alloc T, ty, pos, after, g⟩ :: rest) Q S := by
  refine aops_runs hw (fun m β w a r => ?_) kk
  subst hn
  obtain ⟨z, hz1, hz2⟩ := zero_run hz w
  obtain ⟨β', hle, hn, r'⟩ := r.allocAt id (by rw [hnx]; exact Nat.le_of_ble_eq_true (Bool.and_eq_true_iff.1 hid).1) (Nat.le_of_ble_eq_true (Bool.and_eq_true_iff.1 hid).2) hres (.cells z.cells T) (.arr T zs.length [zs.map .con]) ⟨1, 0⟩ _ rfl (fun β' hle => by
    refine obok_new0 (vs := z.cells) (by simp) (by simp [hz2]) (by simp) (by unfold maxLen; omega) (by simp) ?_
    · intro i j row c hi hj
      cases i with
      | succ i => simp at hi
      | zero =>
        simp at hi; subst hi
        rw [List.getElem?_map] at hj
        cases hzj : zs[j]? with
        | none => simp [hzj] at hj
        | some v =>
          simp [hzj] at hj; subst hj
          refine ⟨v, by simp [hz2, hzj], .imm (.con v), List.all_eq_true.1 h1 v (List.mem_of_getElem? hzj)⟩)
  refine ⟨.pointer (some ⟨w.heap.size, 0, none⟩), { w with heap := w.heap.push (.cells z.cells T) }, m, β', .inl ?_, ?_⟩
  rotate_left
  · exact Rel.put r' hN (by have := VRel.ptr (m := m) (k := zs.length) (i := 0) (off := 0) hn; simpa using this)
  · simp only [execOp, Instr.alloc]
    simp only [Sem.run_bind, hz1, Result.andThen_ok]
    rfl
theorem aops_box_at {d nx : Nat} {x : Operand} {T : TypeId} {dv : V} (id : Nat) (hid : (Nat.blt id nx && Nat.ble K.pins id) = true) (hnx : S.nx = nx) (hres : hget S.hp id = .res) (cs : List V) (hw : Wants ops S ⟨some d, .box T x, ty, pos, after, g⟩ true)
    (hx : evl K S x = dv) (hcs : vcells dv = cs) (h1 : cs.all oneV = true) (hN : Nat.blt d K.N = true)
    (kk : AOps K ops rest Q ⟨(d, .ptr id cs.length 0 0) :: S.env, (id, .arr T cs.length [cs]) :: S.hp, S.nx⟩) :
    AOps K ops (⟨some d, .box T x, ty, pos, after, g⟩ :: rest) Q S := by
  refine aops_runs hw (fun m β w a r => ?_) kk
  have h := r.reads x
  rw [hx] at h
  obtain ⟨c1, c2, c3⟩ := h.cells (by rw [hcs]; exact h1)
  rw [hcs] at c1 c2
  obtain ⟨β', hle, hn, r'⟩ := r.allocAt id (by rw [hnx]; exact Nat.le_of_ble_eq_true (Bool.and_eq_true_iff.1 hid).1) (Nat.le_of_ble_eq_true (Bool.and_eq_true_iff.1 hid).2) hres (.cells (a.eval x).cells T) (.arr T cs.length [cs]) ⟨1, 0⟩ _ rfl (fun β' hle => by
    refine obok_new0 (vs := (a.eval x).cells) (by simp) (by simp [← c1]) (by simp) (by unfold maxLen; omega) (by simp) ?_
    · intro i j row c hi hj
      cases i with
      | succ i => simp at hi
      | zero =>
        simp at hi; subst hi
        have hj' : j < (a.eval x).cells.size := by rw [← c1]; exact (List.getElem?_eq_some_iff.1 hj).1
        refine ⟨(a.eval x).cells[j], by simp [hj'], (c2 j c _ hj (by simp [hj'])).mono (Mem.le_refl _) hle, c3 _ (by simp)⟩)
  refine ⟨.pointer (some ⟨w.heap.size, 0, none⟩), { w with heap := w.heap.push (.cells (a.eval x).cells T) }, m, β', .inl ?_, ?_⟩
  rotate_left
  · exact Rel.put r' hN (by have := VRel.ptr (m := m) (k := cs.length) (i := 0) (off := 0) hn; simpa using this)
  · simp only [execOp]
    rfl
theorem aops_makeMap_at {d nx : Nat} {T : TypeId} (id : Nat) (hid : (Nat.blt id nx && Nat.ble K.pins id) = true) (hnx : S.nx = nx) (hres : hget S.hp id = .res) (hw : Wants ops S ⟨some d, .makeMap T none, ty, pos, after, g⟩ true) (hN : Nat.blt d K.N = true)
    (kk : AOps K ops rest Q ⟨(d, .map id) :: S.env, (id, .map []) :: S.hp, S.nx⟩) : AOps K ops (⟨some d, .makeMap T none, ty, pos, after, g⟩ :: rest) Q S := by
  refine aops_runs hw (fun m β w a r => ?_) kk
  obtain ⟨β', hle, hn, r2⟩ := r.allocAt id (by rw [hnx]; exact Nat.le_of_ble_eq_true (Bool.and_eq_true_iff.1 hid).1) (Nat.le_of_ble_eq_true (Bool.and_eq_true_iff.1 hid).2) hres (.map #[] 0) (.map []) ⟨0, 0⟩ _ rfl (fun β' hle => ⟨#[], 0, fun _ _ => False, mapAt_nil (by simp), rfl, bls_none, by simp⟩)
  refine ⟨.map (some w.heap.size), { w with heap := w.heap.push (.map #[] 0) }, m, β', .inl ?_, Rel.put r2 hN (.map hn)⟩
  simp only [execOp, Option.map_none]
  rw [Sem.run_bind]
  rfl
theorem aops_emptySlice_at {d T e k bytes nx : Nat} (id : Nat) (hid : (Nat.blt id nx && Nat.ble K.pins id) = true) (hnx : S.nx = nx) (hres : hget S.hp id = .res) (hT : tyEl K.P T e k bytes = true) (hw : Wants ops S ⟨some d, .buildSlice T 0 #[], ty, pos, after, g⟩ true) (hN : Nat.blt d K.N = true)
    (kk : AOps K ops rest Q ⟨(d, .own id 0) :: S.env, (id, .arr e k []) :: S.hp, S.nx⟩) : AOps K ops (⟨some d, .buildSlice T 0 #[], ty, pos, after, g⟩ :: rest) Q S := by
  refine aops_runs hw (fun m β w a r => ?_) kk
  obtain ⟨i, z, hu, hi, hs, hby, hzz, hzk⟩ := tyEl_inv hT
  obtain ⟨β', hle, hn, r2⟩ := r.allocAt id (by rw [hnx]; exact Nat.le_of_ble_eq_true (Bool.and_eq_true_iff.1 hid).1) (Nat.le_of_ble_eq_true (Bool.and_eq_true_iff.1 hid).2) hres (.cells #[] e (0, 0)) (.arr e k []) ⟨0, 0⟩ _ rfl (fun β' hle => by
    exact obok_new0 (vs := #[]) (by simp) (by simp) (by simp) (by unfold maxLen; omega) (by simp) (by simp))
  refine ⟨.slice (some ⟨w.heap.size, 0, none⟩) 0 0, { w with heap := w.heap.push (.cells #[] e (0, 0)) }, m, β', .inl ?_, Rel.put r2 hN (.own hn)⟩
  simp only [execOp]
  rw [Sem.run_bind]
  have : (Instr.buildSlice T 0 ((#[] : Array (Nat × Operand)).map fun (i, x) => (i, a.eval x))).run K.P w = .ok (.slice (some ⟨w.heap.size, 0, none⟩) 0 0) { w with heap := w.heap.push (.cells #[] e (0, 0)) } := by
    simp only [Instr.buildSlice, Sem.run_bind, run_underlying hu, Result.andThen_ok, run_sizeOf w hi]
    simp [pure, Sem.run, Instr.fill, newRow, newObj, Sem.run_bind, Result.andThen]
    have e0 : (Array.map (fun _ => (default : Value)) (Array.range 0)) = #[] := by apply Array.ext'; simp
    rw [e0]
  rw [this]
  rfl
/-- What a literal of a slice runs to. -/
theorem run_buildSlice {d T e k bytes n : Nat} {parts : Array (Nat × Operand)} {zs : List Value} (ps : List (Nat × V)) (rows : List (List V)) (hT : tyEl K.P T e k bytes = true) (hz : zeroCells K.P e = some zs)
    (h1 : zs.all (·.oneCell') = true) (hk : 0 < k) (hnn : 0 < n) (hbig : n * k ≤ 16777216)
    (hps : parts.toList.map (fun p => (p.1, evl K S p.2)) = ps) (hf : fillV (fun i => some (i * k, k)) (((List.range (n * k)).map fun i => zs.getD (i % k) undef).map .con) ps = some (flat rows))
    (hrl : rows.length = n) (hrk : ∀ row, row ∈ rows → row.length = k) (r : Rel K m β w a S) :
    ∃ cells' : Array Value, cells'.size = n * k ∧ (∀ (i j : Nat) (row : List V) (c : V), rows[i]? = some row → row[j]? = some c → ∃ v, cells'[i * k + j]? = some v ∧ VRel m β c v ∧ v.oneCell' = true) ∧
      (execOp a.eval ⟨some d, .buildSlice T n parts, ty, pos, after, g⟩).run K.P w = .ok (.value (.slice (some ⟨w.heap.size, 0, none⟩) n n)) { w with heap := w.heap.push (.cells cells' e (0, 0)) } := by
  obtain ⟨hl, hr⟩ := parts_rel r parts ps hps
  obtain ⟨i, z, hu, hi, hs, hby, hzz, hzk⟩ := tyEl_inv hT
  obtain ⟨z', hz1, hz2⟩ := zero_run hz w
  have hzl : zs.length = k := by
    have : zeroCells K.P e = some z.cells.toList := by simp [zeroCells, hi, hzz]
    rw [hz] at this; simp only [Option.some.injEq] at this; rw [this]; simp [hzk]
  have hkk : K.P.cellsOf e = k := by simp [Program.cellsOf, hi, hs]
  have hrows : 0 < n * k := Nat.mul_pos hnn hk
  have hall : ∀ v, v ∈ zs → v.oneCell' = true := fun v hv => List.all_eq_true.1 h1 v hv
  have hzc : (Array.range (n * k)).map (fun x => (z'.cells)[x % z'.cells.size]!) = (((List.range (n * k)).map fun i => zs.getD (i % k) undef)).toArray := by
    apply Array.ext'
    simp only [Array.toList_map, Array.toList_range, hz2, List.size_toArray, hzl]
    apply List.map_congr_left
    intro x _
    have : x % k < zs.length := by rw [hzl]; exact Nat.mod_lt _ hk
    simp [this]
  obtain ⟨cells', f1, f2⟩ := fill_rel ps _ _ (flat rows) (((List.range (n * k)).map fun i => zs.getD (i % k) undef)).toArray hf (zero_cells (by
    rw [List.all_eq_true]
    intro v hv
    simp only [List.mem_map, List.mem_range] at hv
    obtain ⟨p, _, rfl⟩ := hv
    have : p % k < zs.length := by rw [hzl]; exact Nat.mod_lt _ hk
    simp only [List.getD_eq_getElem?_getD, List.getElem?_eq_getElem this, Option.getD_some]
    exact hall _ (List.getElem_mem _)) m β) hl hr
  have hsize : cells'.size = n * k := by rw [← f2.1, flat_length rows hrk, hrl]
  refine ⟨cells', hsize, ?_, ?_⟩
  · intro i j row c hi hj
    have hg := flat_get rows hrk i j row c hi hj
    have hlt : i * k + j < cells'.size := by rw [← f2.1]; exact (List.getElem?_eq_some_iff.1 hg).1
    obtain ⟨a1, a2⟩ := f2.2 _ c cells'[i * k + j] hg (by simp [hlt])
    exact ⟨cells'[i * k + j], by simp [hlt], a1, a2⟩
  · simp only [execOp]
    rw [Sem.run_bind]
    have : (Instr.buildSlice T n (parts.map fun (i, x) => (i, a.eval x))).run K.P w = .ok (.slice (some ⟨w.heap.size, 0, none⟩) n n) { w with heap := w.heap.push (.cells cells' e (0, 0)) } := by
      simp only [Instr.buildSlice, Sem.run_bind, run_underlying hu, Result.andThen_ok, run_sizeOf w hi, hkk]
      rw [if_neg (by omega), if_neg (by omega)]
      simp only [Sem.run_bind, hz1, Result.andThen_ok, pure, Sem.run, hzc, f1, newRow, newObj]
    rw [this]
    rfl
theorem aops_buildSlice_at {d T e k bytes n nx : Nat} {parts : Array (Nat × Operand)} {zs : List Value} (id : Nat) (hid : (Nat.blt id nx && Nat.ble K.pins id) = true) (hnx : S.nx = nx) (hres : hget S.hp id = .res) (ps : List (Nat × V)) (rows : List (List V)) (hT : tyEl K.P T e k bytes = true) (hz : zeroCells K.P e = some zs)
    (hw : Wants ops S ⟨some d, .buildSlice T n parts, ty, pos, after, g⟩ true)
    (h1 : zs.all (·.oneCell') = true) (hk : Nat.blt 0 k = true) (hnn : Nat.blt 0 n = true) (hbig : Nat.ble (n * k) 16777216 = true)
    (hps : parts.toList.map (fun p => (p.1, evl K S p.2)) = ps) (hf : fillV (fun i => some (i * k, k)) (((List.range (n * k)).map fun i => zs.getD (i % k) undef).map .con) ps = some (flat rows))
    (hrl : rows.length = n) (hrk : ∀ row, row ∈ rows → row.length = k) (hN : Nat.blt d K.N = true)
    (kk : AOps K ops rest Q ⟨(d, .own id n) :: S.env, (id, .arr e k rows) :: S.hp, S.nx⟩) :
    AOps K ops (⟨some d, .buildSlice T n parts, ty, pos, after, g⟩ :: rest) Q S := by
  refine aops_runs hw (fun m β w a r => ?_) kk
  have hk := Nat.le_of_ble_eq_true hk
  have hnn := Nat.le_of_ble_eq_true hnn
  have hbig := Nat.le_of_ble_eq_true hbig
  obtain ⟨cells', hsize, hcl, hrun⟩ := run_buildSlice (d := d) (ty := ty) (pos := pos) (after := after) (g := g) ps rows hT hz h1 hk hnn hbig hps hf hrl hrk r
  obtain ⟨β', hle, hn, r2⟩ := r.allocAt id (by rw [hnx]; exact Nat.le_of_ble_eq_true (Bool.and_eq_true_iff.1 hid).1) (Nat.le_of_ble_eq_true (Bool.and_eq_true_iff.1 hid).2) hres (.cells cells' e (0, 0)) (.arr e k rows) ⟨n, 0⟩ _ rfl (fun β' hle => by
    refine obok_new0 (vs := cells') (by simp) hsize (by omega) (by unfold maxLen; have := Nat.le_mul_of_pos_right n hk; omega) hrk ?_
    intro i j row c hi hj
    obtain ⟨v, h1, h2, h3⟩ := hcl i j row c hi hj
    exact ⟨v, h1, h2.mono (Mem.le_refl _) hle, h3⟩)
  exact ⟨_, _, m, β', .inl hrun, Rel.put r2 hN (.own hn)⟩
theorem aops_buildSlice_imm {d T e k bytes n : Nat} {parts : Array (Nat × Operand)} {zs : List Value} (ps : List (Nat × V)) (rows : List (List V)) (hT : tyEl K.P T e k bytes = true) (hz : zeroCells K.P e = some zs)
    (hw : Wants ops S ⟨some d, .buildSlice T n parts, ty, pos, after, g⟩ true)
    (h1 : zs.all (·.oneCell') = true) (hk : Nat.blt 0 k = true) (hnn : Nat.blt 0 n = true) (hbig : Nat.ble (n * k) 16777216 = true)
    (hps : parts.toList.map (fun p => (p.1, evl K S p.2)) = ps) (hf : fillV (fun i => some (i * k, k)) (((List.range (n * k)).map fun i => zs.getD (i % k) undef).map .con) ps = some (flat rows))
    (hrl : rows.length = n) (hrk : ∀ row, row ∈ rows → row.length = k) (him : ∀ row, row ∈ rows → Imms row) (hN : Nat.blt d K.N = true)
    (kk : AOps K ops rest Q (S.put d (.lst k rows))) :
    AOps K ops (⟨some d, .buildSlice T n parts, ty, pos, after, g⟩ :: rest) Q S := by
  refine aops_runs hw (fun m β w a r => ?_) kk
  have hk := Nat.le_of_ble_eq_true hk
  have hnn := Nat.le_of_ble_eq_true hnn
  have hbig := Nat.le_of_ble_eq_true hbig
  obtain ⟨cells', hsize, hcl, hrun⟩ := run_buildSlice (d := d) (ty := ty) (pos := pos) (after := after) (g := g) ps rows hT hz h1 hk hnn hbig hps hf hrl hrk r
  let m' : Mem := fun b => if b = w.heap.size then some (.cells cells' e (0, 0)) else m b
  have hnone : m w.heap.size = none := by
    cases hm : m w.heap.size with
    | none => rfl
    | some o' => have := lt_of_some (r.imm _ _ hm); omega
  have hle : m.le m' := by
    intro b o h
    have : b ≠ w.heap.size := by intro e; rw [e, hnone] at h; simp at h
    simp [m', this, h]
  have hg : Grew m m' w { w with heap := w.heap.push (.cells cells' e (0, 0)) } := by
    refine ⟨hle, ?_, ?_, ?_, by simp, ⟨rfl, rfl, rfl⟩⟩
    · intro b o h
      by_cases hb : b = w.heap.size
      · subst hb; simp [m'] at h; simp [h]
      · simp [m', hb] at h
        have := lt_of_some (r.imm _ _ h)
        simp only [Array.getElem?_push]; rw [if_neg hb]; exact r.imm _ _ h
    · intro b hb
      have : b ≠ w.heap.size := by omega
      simp [m', this]
    · intro b hb
      simp only [Array.getElem?_push]; rw [if_neg (by omega)]
  refine ⟨_, _, m', β, .inl hrun, Rel.put (r.grow hg) hN (.imm (.lst (arr := cells') (T := e) (fr := (0, 0)) (fun i => (cells'[i]?).getD undef) (by simp [m']) rfl hrl (Nat.le_refl _) (Nat.le_trans (Nat.le_trans (Nat.le_mul_of_pos_right n hk) hbig) (by unfold maxLen; omega)) hrk ?_ ?_))⟩
  · intro i hi
    rw [hrl] at hi
    simp [show i < cells'.size by omega]
  · intro i j row c hi hj
    obtain ⟨v, h1, h2, h3⟩ := hcl i j row c hi hj
    simp only [h1, Option.getD_some]
    exact ((him row (List.mem_of_getElem? hi) c (List.mem_of_getElem? hj)).2 m β v h2).mono hle
end
end Go.Pv
