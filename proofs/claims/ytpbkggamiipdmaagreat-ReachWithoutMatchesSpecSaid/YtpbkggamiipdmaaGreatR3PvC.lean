/- The framework of walks over abstract values (own text), part C. -/
import Derived.Test.YtpbkggamiipdmaaGreatR3PvB
namespace Go.Pv
open Go
section
variable {K : Ctx} {Q : Post} {S : St} {ops : Array Oper} {rest : List Oper} {op : Op} {ty : TypeId} {pos : String} {after : Array Edge} {g : Option (Nat × Bool)}
theorem aops_runs {o : Oper} {S' : St} (hw : Wants ops S o true) (h : Runs K o S S') (k : AOps K ops rest Q S') : AOps K ops (o :: rest) Q S := by
  intro m β w a r
  unfold wpList
  rw [if_pos (hw.at r)]
  left
  obtain ⟨v, w', m', β', h1, r'⟩ := h m β w a r
  unfold Oper.wp
  rcases h1 with h1 | ⟨rfl, h1⟩
  · rw [h1]; exact k m' β' w' _ r'
  · rw [h1]; exact k m' β' w' _ r'
/-- An operation that is not wanted. -/
theorem aops_skip {o : Oper} {d : Nat} (hw : Wants ops S o false) (hd : o.dst = some d) (hN : Nat.blt d K.N = true) (k : AOps K ops rest Q (S.put d (.con undef))) :
    AOps K ops (o :: rest) Q S := by
  intro m β w a r
  unfold wpList
  rw [if_neg (by rw [hw.at r]; simp), hd]
  exact k m β w _ (r.put hN (.imm (.con _)))
/-- An operation that only computes a value. -/
theorem aops_val {d : Nat} (dv : V) (hw : Wants ops S ⟨some d, op, ty, pos, after, g⟩ true) (hN : Nat.blt d K.N = true)
    (h : ∀ m β w a, Rel K m β w a S → ∃ v, (execOp a.eval ⟨some d, op, ty, pos, after, g⟩).run K.P w = .ok (.value v) w ∧ VRel m β dv v)
    (k : AOps K ops rest Q (S.put d dv)) : AOps K ops (⟨some d, op, ty, pos, after, g⟩ :: rest) Q S :=
  aops_runs hw (fun m β w a r => let ⟨v, h1, h2⟩ := h m β w a r; ⟨v, w, m, β, .inl h1, r.put hN h2⟩) k
theorem wants_none {d : Option Nat} : Wants ops S ⟨d, op, ty, pos, after, none⟩ true := rfl
theorem wants_some {d : Option Nat} {j : Nat} {want c b : Bool} (t : Nat) (ht : (ops[j]?).bind (·.dst) = some t) (hc : get S.env t = .con (.bool c)) (hb : c = b) :
    Wants ops S ⟨d, op, ty, pos, after, some (j, want)⟩ (b == want) := ⟨t, ht, .inl ⟨c, hc, by rw [hb]⟩⟩
theorem aops_move {d : Nat} {x : Operand} (dv : V) (hw : Wants ops S ⟨some d, .move x, ty, pos, after, g⟩ true) (hx : evl K S x = dv) (hN : Nat.blt d K.N = true)
    (k : AOps K ops rest Q (S.put d dv)) : AOps K ops (⟨some d, .move x, ty, pos, after, g⟩ :: rest) Q S :=
  aops_val dv hw hN (fun m β w a r => ⟨a.eval x, rfl, by rw [← hx]; exact r.reads x⟩) k
theorem aops_assign {d : Nat} {x : Operand} (dv : V) (hw : Wants ops S ⟨some d, .assign x, ty, pos, after, g⟩ true) (hx : evl K S x = dv) (hN : Nat.blt d K.N = true)
    (k : AOps K ops rest Q (S.put d dv)) : AOps K ops (⟨some d, .assign x, ty, pos, after, g⟩ :: rest) Q S :=
  aops_val dv hw hN (fun m β w a r => ⟨a.eval x, rfl, by rw [← hx]; exact r.reads x⟩) k
theorem Rel.con {m : Mem} {β : Locs} {w : World} {a : Act} (r : Rel K m β w a S) {x : Operand} {v : Value} (h : evl K S x = .con v) : a.eval x = v := by
  have := r.reads x; rw [h] at this; exact this.of_con
theorem aops_pick {d : Nat} {c x y : Operand} (b : Bool) {cb : Bool} (dv : V) (hw : Wants ops S ⟨some d, .pick c x y, ty, pos, after, g⟩ true) (hc : evl K S c = .con (.bool cb)) (hb : cb = b)
    (hx : evl K S (if b then x else y) = dv) (hN : Nat.blt d K.N = true)
    (k : AOps K ops rest Q (S.put d dv)) : AOps K ops (⟨some d, .pick c x y, ty, pos, after, g⟩ :: rest) Q S :=
  aops_val dv hw hN (fun m β w a r => ⟨a.eval (if b then x else y), by
    subst hb
    simp only [execOp, r.con hc, asBool]
    cases cb <;> rfl, by rw [← hx]; exact r.reads _⟩) k
def binS (op : BinOp) : Value → Value → Option Value
  | .int k a, .int k' b =>
    match op with
    | .shl => if b < 0 then none else some (.int k (k.wrap (a * 2 ^ (min b.toNat k.bits))))
    | .shr => if b < 0 then none else some (.int k (a.fdiv (2 ^ (min b.toNat k.bits))))
    | .add => if k = k' then some (.int k (k.wrap (a + b))) else none
    | .sub => if k = k' then some (.int k (k.wrap (a - b))) else none
    | .mul => if k = k' then some (.int k (k.wrap (a * b))) else none
    | .quo => if k = k' ∧ b ≠ 0 then some (.int k (k.wrap (a.tdiv b))) else none
    | .rem => if k = k' ∧ b ≠ 0 then some (.int k (a.tmod b)) else none
    | .and => if k = k' then some (.int k (k.wrap (BitVec.ofInt k.bits a &&& BitVec.ofInt k.bits b).toNat)) else none
    | .or => if k = k' then some (.int k (k.wrap (BitVec.ofInt k.bits a ||| BitVec.ofInt k.bits b).toNat)) else none
    | .xor => if k = k' then some (.int k (k.wrap (BitVec.ofInt k.bits a ^^^ BitVec.ofInt k.bits b).toNat)) else none
    | .andNot => if k = k' then some (.int k (k.wrap (BitVec.ofInt k.bits a &&& ~~~BitVec.ofInt k.bits b).toNat)) else none
    | .eql => if k = k' then some (.bool (a == b)) else none
    | .neq => if k = k' then some (.bool (a != b)) else none
    | .lss => if k = k' then some (.bool (decide (a < b))) else none
    | .leq => if k = k' then some (.bool (decide (a ≤ b))) else none
    | .gtr => if k = k' then some (.bool (decide (a > b))) else none
    | .geq => if k = k' then some (.bool (decide (a ≥ b))) else none
  | _, _ => none
theorem run_binS {P : Program} {w : World} {op : BinOp} {T : TypeId} {x y : Operand} {a b v : Value} (h : binS op a b = some v) :
    (do eqGuard op T x y a b; binOp op T a b : Sem Value).run P w = .ok v w := by
  unfold binS at h
  split at h
  · rename_i k a k' b
    have hg : (eqGuard op T x y (.int k a) (.int k' b)).run P w = .ok () w := by
      unfold eqGuard; cases op <;> simp [pure]
    rw [Sem.run_bind, hg, Result.andThen_ok]
    cases op <;> simp only [binOp, Op.shift, Op.intArith, Op.intDiv, Op.intBits, Op.intCmp] at h ⊢
    all_goals first | (simp at h; done) | skip
    all_goals (split at h <;> simp only [Option.some.injEq, reduceCtorEq] at h)
    all_goals subst h
    all_goals first
      | (rename_i hk; obtain ⟨rfl, hb⟩ := hk; simp [hb, pure]; done)
      | (rename_i hk; subst hk; simp [pure]; done)
      | (rename_i hk; simp [hk, pure]; done)
  · simp at h
theorem run_value {P : Program} {w : World} {s : Sem Value} {v : Value} (h : s.run P w = .ok v w) : (do pure (Next.value (← s)) : Sem Next).run P w = .ok (.value v) w := by
  rw [Sem.run_bind, h, Result.andThen_ok]; rfl
theorem aops_bin {d : Nat} {bop : BinOp} {x y : Operand} {T T' : TypeId} {vx vy : Value} (v : Value) (hw : Wants ops S ⟨some d, .binOp bop T x y T', ty, pos, after, g⟩ true)
    (hx : evl K S x = .con vx) (hy : evl K S y = .con vy) (hv : binS bop vx vy = some v) (hN : Nat.blt d K.N = true)
    (k : AOps K ops rest Q (S.put d (.con v))) : AOps K ops (⟨some d, .binOp bop T x y T', ty, pos, after, g⟩ :: rest) Q S :=
  aops_val (.con v) hw hN (fun m β w a r => ⟨v, by
    simp only [execOp, r.con hx, r.con hy]
    exact run_value (run_binS hv), .imm (.con v)⟩) k
/-- '==' | '!=' on bools. -/
theorem aops_beq {d : Nat} {x y : Operand} {T T' : TypeId} {a b : Bool} (neg : Bool) (hw : Wants ops S ⟨some d, .binOp (if neg then .neq else .eql) T x y T', ty, pos, after, g⟩ true)
    (hT : K.P.underlying T = some .bool)
    (hx : evl K S x = .con (.bool a)) (hy : evl K S y = .con (.bool b)) (hN : Nat.blt d K.N = true)
    (k : AOps K ops rest Q (S.put d (.con (.bool (if neg then a != b else a == b))))) : AOps K ops (⟨some d, .binOp (if neg then .neq else .eql) T x y T', ty, pos, after, g⟩ :: rest) Q S :=
  aops_val _ hw hN (fun m β w a' r => ⟨_, by
    simp only [execOp, r.con hx, r.con hy]
    refine run_value (v := .bool (if neg then a != b else a == b)) ?_
    have he : ∀ (op : BinOp), (eqGuard op T x y (.bool a) (.bool b)).run K.P w = .ok () w := by
      intro op; unfold eqGuard; cases op <;> simp [pure]
    have hq : (Op.equal T (.bool a) (.bool b)).run K.P w = .ok (a == b) w := by
      have hd : Op.maxDepth = 9999 + 1 := rfl
      rw [Op.equal, hd, Op.equalIn]
      simp only [Sem.run_bind, run_underlying hT, Result.andThen_ok]; rfl
    rw [Sem.run_bind, he, Result.andThen_ok]
    cases neg
    · simp only [Bool.false_eq_true, if_false, binOp, Sem.run_bind, hq, Result.andThen_ok]; rfl
    · simp only [if_true, binOp, Sem.run_bind, hq, Result.andThen_ok]; rfl, .imm (.con _)⟩) k
theorem aops_not {d : Nat} {x : Operand} {T : TypeId} {b : Bool} (hw : Wants ops S ⟨some d, .unOp .not T x, ty, pos, after, g⟩ true)
    (hx : evl K S x = .con (.bool b)) (hN : Nat.blt d K.N = true)
    (k : AOps K ops rest Q (S.put d (.con (.bool (!b))))) : AOps K ops (⟨some d, .unOp .not T x, ty, pos, after, g⟩ :: rest) Q S :=
  aops_val _ hw hN (fun m β w a r => ⟨_, by simp only [execOp, r.con hx]; exact run_value (by simp only [Op.unary]; rfl), .imm (.con _)⟩) k
theorem aops_neg {d : Nat} {x : Operand} {T : TypeId} {k : IntKind} {n : Int} (hw : Wants ops S ⟨some d, .unOp .neg T x, ty, pos, after, g⟩ true)
    (hx : evl K S x = .con (.int k n)) (hN : Nat.blt d K.N = true)
    (kk : AOps K ops rest Q (S.put d (.con (.int k (k.wrap (0 - n)))))) : AOps K ops (⟨some d, .unOp .neg T x, ty, pos, after, g⟩ :: rest) Q S :=
  aops_val _ hw hN (fun m β w a r => ⟨_, by simp only [execOp, r.con hx]; exact run_value (by simp only [Op.unary, Op.intArith]; rfl), .imm (.con _)⟩) kk
theorem aops_extract {d : Nat} {x : Operand} {i : Nat} {vs : List V} (dv : V) (hw : Wants ops S ⟨some d, .extract x i, ty, pos, after, g⟩ true)
    (hx : evl K S x = .tup vs) (hi : vs[i]? = some dv) (hN : Nat.blt d K.N = true)
    (k : AOps K ops rest Q (S.put d dv)) : AOps K ops (⟨some d, .extract x i, ty, pos, after, g⟩ :: rest) Q S :=
  aops_val dv hw hN (fun m β w a r => by
    have h := r.reads x
    rw [hx] at h
    generalize hex : a.eval x = ex at h
    have key : ∃ us : Array Value, ex = .tuple us ∧ vs.length = us.size ∧ ∀ v, us[i]? = some v → VRel m β dv v := by
      cases h with
      | imm h => cases h with | tup hl h => exact ⟨_, rfl, hl, fun v hv => .imm (h i dv v hi hv)⟩
      | tup hl h => exact ⟨_, rfl, hl, fun v hv => h i dv v hi hv⟩
    obtain ⟨us, h1, h2, h3⟩ := key
    have hlt : i < us.size := by rw [← h2]; exact (List.getElem?_eq_some_iff.1 hi).1
    refine ⟨us[i], ?_, h3 _ (by simp [hlt])⟩
    simp only [execOp, hex, h1, Instr.extract, Array.getElem?_eq_getElem hlt]
    exact run_value rfl) k
/-- A struct or array type of k cells. -/
def tyA (P : Program) (T : TypeId) (k : Nat) : Bool :=
  (match P.underlying T with | some (.struct _) | some (.array _ _) => true | _ => false) && (match P.info? T with | some i => i.size == k | none => false)
/-- A type of one cell. -/
def tyC (P : Program) (T : TypeId) : Bool :=
  (match P.underlying T with | some (.struct _) | some (.array _ _) => false | some _ => true | none => false) && (match P.info? T with | some i => i.size == 1 | none => false)
def tyF (P : Program) (T : TypeId) (f off : Nat) : Bool :=
  match P.underlying T with
  | some (.struct fs) => (match fs[f]? with | some x => x.offset == off && (match P.info? x.type with | some i => i.size != 0 | none => false) | none => false)
  | _ => false
def tyArrA (P : Program) (T n k e : Nat) : Bool := match P.underlying T with | some (.array l e') => l == n && e' == e && tyA P e k | _ => false
theorem tyArrA_inv {P : Program} {T n k e : Nat} (h : tyArrA P T n k e = true) : P.underlying T = some (.array n e) ∧ tyA P e k = true := by
  unfold tyArrA at h
  cases hu : P.underlying T with
  | none => simp [hu] at h
  | some d =>
    rw [hu] at h
    cases d <;> simp only [Bool.false_eq_true] at h
    rename_i l e'
    simp only [Bool.and_eq_true, beq_iff_eq] at h
    obtain ⟨⟨rfl, rfl⟩, h⟩ := h
    exact ⟨rfl, h⟩
def tyArrC (P : Program) (T n e : Nat) : Bool := match P.underlying T with | some (.array l e') => l == n && e' == e && tyC P e | _ => false
theorem tyArrC_inv {P : Program} {T n e : Nat} (h : tyArrC P T n e = true) : P.underlying T = some (.array n e) ∧ tyC P e = true := by
  unfold tyArrC at h
  cases hu : P.underlying T with
  | none => simp [hu] at h
  | some d =>
    rw [hu] at h
    cases d <;> simp only [Bool.false_eq_true] at h
    rename_i l e'
    simp only [Bool.and_eq_true, beq_iff_eq] at h
    obtain ⟨⟨rfl, rfl⟩, h⟩ := h
    exact ⟨rfl, h⟩
theorem tyA_run {P : Program} {T k} (h : tyA P T k = true) (w : World) : (isAgg T).run P w = .ok true w ∧ (sizeOf T).run P w = .ok k w := by
  unfold tyA at h
  simp only [Bool.and_eq_true] at h
  obtain ⟨h1, h2⟩ := h
  constructor
  · cases hu : P.underlying T with
    | none => simp [hu] at h1
    | some d =>
      rw [hu] at h1
      cases d <;> simp at h1
      all_goals (simp only [isAgg, Sem.run_bind, run_underlying hu, Result.andThen_ok]; rfl)
  · cases hi : P.info? T with
    | none => simp [hi] at h2
    | some i =>
      rw [hi] at h2
      simp at h2
      rw [run_sizeOf w hi]
      simp [Program.cellsOf, hi, h2]
theorem tyC_run {P : Program} {T} (h : tyC P T = true) (w : World) : (isAgg T).run P w = .ok false w ∧ (sizeOf T).run P w = .ok 1 w := by
  unfold tyC at h
  simp only [Bool.and_eq_true] at h
  obtain ⟨h1, h2⟩ := h
  constructor
  · cases hu : P.underlying T with
    | none => simp [hu] at h1
    | some d =>
      rw [hu] at h1
      cases d <;> simp at h1
      all_goals (simp only [isAgg, Sem.run_bind, run_underlying hu, Result.andThen_ok]; rfl)
  · cases hi : P.info? T with
    | none => simp [hi] at h2
    | some i =>
      rw [hi] at h2
      simp at h2
      rw [run_sizeOf w hi]
      simp [Program.cellsOf, hi, h2]
theorem add_spot {b o n : Nat} : (⟨b, o, none⟩ : Addr).add n = ⟨b, o + n, none⟩ := by
  unfold Addr.add; split <;> simp_all
theorem tyF_run {P : Program} {T f off : Nat} (h : tyF P T f off = true) (w : World) (b o : Nat) :
    (Instr.fieldAt T (.pointer (some ⟨b, o, none⟩)) f).run P w = .ok (.pointer (some ⟨b, o + off, none⟩)) w := by
  unfold tyF at h
  cases hu : P.underlying T with
  | none => simp [hu] at h
  | some d =>
    rw [hu] at h
    cases d <;> simp only [Bool.false_eq_true] at h
    rename_i fs
    cases hf : fs[f]? with
    | none => simp [hf] at h
    | some x =>
      rw [hf] at h
      simp only [Bool.and_eq_true] at h
      obtain ⟨h1, h2⟩ := h
      cases hi : P.info? x.type with
      | none => simp [hi] at h2
      | some i =>
        rw [hi] at h2
        simp only [bne_iff_ne, ne_eq, beq_iff_eq] at h1 h2
        subst h1
        have hs : (fieldPlace ⟨b, o, none⟩ x).run P w = .ok ⟨b, o + x.offset, none⟩ w := by
          simp only [fieldPlace, Sem.run_bind, run_sizeOf w hi, Result.andThen_ok]
          rw [if_neg (by simp [Program.cellsOf, hi]; exact h2), add_spot]; rfl
        simp only [Instr.fieldAt, Sem.run_bind, run_underlying hu, Result.andThen_ok, hf, Instr.sureAddr]
        simp only [pure, Sem.run, Result.andThen_ok, hs]
end
end Go.Pv
