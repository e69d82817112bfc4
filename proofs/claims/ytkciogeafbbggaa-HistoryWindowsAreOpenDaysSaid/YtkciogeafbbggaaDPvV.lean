/- The framework of walks over abstract values (own text), part V. -/
import Derived.Test.YtkciogeafbbggaaDPvN
namespace Go.Pv
open Go
section
variable {K : Ctx} {Q : Post} {S : St}
variable {m : Mem} {β : Locs} {w : World} {a : Act}
variable {ops : Array Oper} {rest : List Oper} {ty : TypeId} {pos : String} {after : Array Edge} {g : Option (Nat × Bool)}
end
theorem slL_lo {α β : Type} {f : α → β} {l : List α} {b : Nat} : ((l.map f).drop 0).take (b - 0) = (l.take b).map f := by simp
section
variable {K : Ctx} {Q : Post} {S : St}
variable {ops : Array Oper} {rest : List Oper} {ty : TypeId} {pos : String} {after : Array Edge} {g : Option (Nat × Bool)}
theorem aops_lookup_okB {d : Nat} {T k e : TypeId} {x y : Operand} {good : Value → Prop} {kv zv : Value} {mv : V} {es : List (Value × V)} (res : Option V) (zd dv : V) (hT : tyMap K.P T k e = true) (hK : KeyT K.P k good)
    (hz : (K.P.info? e).bind (·.zero) = some zv) (hzd : ∀ m, IRel m zd zv)
    (hw : Wants ops S ⟨some d, .lookup T x y true, ty, pos, after, g⟩ true) (hx : evl S x = mv) (hm : MapIs S mv es) (hy : KeyIs S y kv) (hg : good kv) (hges : ∀ p, p ∈ es → good p.1)
    (hl : Look kv es res) (hd : res.getD zd = dv) {b : Bool} (hb : res.isSome = b) (hN : Nat.blt d K.N = true)
    (kk : AOps K ops rest Q (S.put d (.tup [dv, .con (.bool b)]))) : AOps K ops (⟨some d, .lookup T x y true, ty, pos, after, g⟩ :: rest) Q S :=
  by subst hb; exact aops_lookup_ok res zd dv hT hK hz hzd hw hx hm hy hg hges hl hd hN kk
end
section
variable {K : Ctx} {Q : Post} {S : St}
theorem awp_len {c : Code} {α : Type} {k : Nat} {A : List α} {enc : α → List V} (t : Nat) (ht : get S.env t = .lst k (A.map enc)) (h : A.length ≤ maxLen → AWP K c Q S) : AWP K c Q S := by
  intro m β w a r
  refine h ?_ m β w a r
  have := r.env t
  rw [ht] at this
  generalize a.tmps.getD t undef = v at this
  generalize hrows : A.map enc = rows at this
  cases this with
  | imm h =>
    cases h with
    | nil => have : A = [] := by simpa using hrows
             subst this; simp
    | lst f h1 h2 h3 h4 h5 => rw [← hrows, List.length_map] at h3; omega
theorem awp_lenO {c : Code} {α : Type} {e k : Nat} {A : List α} {enc : α → List V} (id : Nat) (ht : hget S.hp id = .arr e k (A.map enc)) (h : A.length ≤ maxLen → AWP K c Q S) : AWP K c Q S := by
  intro m β w a r
  refine h ?_ m β w a r
  have := r.own id
  rw [ht] at this
  generalize hrows : A.map enc = rows at this
  cases hb : β id with
  | none => rw [hb] at this; simp [ObOk] at this
  | some l =>
    rw [hb] at this
    cases l with
    | none =>
      have : rows = [] := this
      subst this
      have : A = [] := by simpa using hrows
      subst this; simp
    | some p =>
      obtain ⟨b, cap⟩ := p
      obtain ⟨arr, h1, h2, h3, h4, _⟩ := this
      rw [← hrows, List.length_map] at h3
      omega
/-- The loop goes over A; it stands at the index N, and 'X rest N' holds. -/
def RG {α : Type} (A : List α) (X : List α → Int → Prop) (n : Nat) (N : Int) : Prop := ∃ j : Nat, N = j ∧ j ≤ A.length ∧ A.length - j < n ∧ X (A.drop j) N
theorem RG.zero {α : Type} {A : List α} {X : List α → Int → Prop} {N : Int} : ¬ RG A X 0 N := fun ⟨_, _, _, h, _⟩ => by omega
theorem RG.start {α : Type} {A : List α} {X : List α → Int → Prop} (h : X A 0) : RG A X (A.length + 1) 0 := ⟨0, rfl, Nat.zero_le _, by omega, h⟩
theorem w64_nat {n : Nat} (h : n ≤ maxLen) : IntKind.wrap .i64 (n : Int) = n := by
  have h : n ≤ 9223372036854775807 := h
  have : IntKind.wrap .i64 (n : Int) = if (n : Int) % 18446744073709551616 ≥ 9223372036854775808 then (n : Int) % 18446744073709551616 - 18446744073709551616 else (n : Int) % 18446744073709551616 := by
    simp [IntKind.wrap, IntKind.signed, IntKind.bits]
  rw [this]
  split <;> omega
theorem RG.t {α : Type} {A : List α} {X : List α → Int → Prop} {n : Nat} {N : Int} (hA : A.length ≤ maxLen) (h : RG A X (n + 1) N) (hb : decide (N < ((A.length : Nat) : Int)) = true) :
    ∃ x l, idx A N = some x ∧ X (x :: l) N ∧ ∀ X' : List α → Int → Prop, X' l (N + 1) → RG A X' n (IntKind.wrap .i64 (N + 1)) := by
  obtain ⟨j, rfl, h1, h2, h3⟩ := h
  have hj : j < A.length := by have := of_decide_eq_true hb; omega
  refine ⟨A[j], A.drop (j + 1), by simp [idx, hj], by rw [← List.drop_eq_getElem_cons hj]; exact h3, fun X' h => ?_⟩
  have e : IntKind.wrap .i64 ((j : Int) + 1) = ((j + 1 : Nat) : Int) := w64_nat (n := j + 1) (by omega)
  rw [e]
  exact ⟨j + 1, rfl, hj, by omega, h⟩
theorem RG.f {α : Type} {A : List α} {X : List α → Int → Prop} {n : Nat} {N : Int} (h : RG A X (n + 1) N) (hb : decide (N < ((A.length : Nat) : Int)) = false) : X [] N := by
  obtain ⟨j, rfl, h1, h2, h3⟩ := h
  have hj : ¬ j < A.length := by have := of_decide_eq_false hb; omega
  rwa [List.drop_eq_nil_of_le (by omega)] at h3
/-- The loop counts up to B; it stands at N, and 'X (what is left) N' holds. -/
def RC (B : Int) (X : Nat → Int → Prop) (n : Nat) (N : Int) : Prop := ∃ j : Nat, N = j ∧ j ≤ B.toNat ∧ B.toNat - j < n ∧ X (B.toNat - j) N
theorem RC.zero {B : Int} {X : Nat → Int → Prop} {N : Int} : ¬ RC B X 0 N := fun ⟨_, _, _, h, _⟩ => by omega
theorem RC.start {B : Int} {X : Nat → Int → Prop} (h : X B.toNat 0) : RC B X (B.toNat + 1) 0 := ⟨0, rfl, Nat.zero_le _, by omega, h⟩
theorem RC.t {B : Int} {X : Nat → Int → Prop} {n : Nat} {N : Int} (hB : B ≤ 9223372036854775807) (h : RC B X (n + 1) N) (hb : decide (N < B) = true) :
    ∃ l, X (l + 1) N ∧ ∀ X' : Nat → Int → Prop, X' l (N + 1) → RC B X' n (IntKind.wrap .i64 (N + 1)) := by
  obtain ⟨j, rfl, h1, h2, h3⟩ := h
  have hj : j < B.toNat := by have := of_decide_eq_true hb; omega
  refine ⟨B.toNat - (j + 1), by rw [show B.toNat - (j + 1) + 1 = B.toNat - j by omega]; exact h3, fun X' h => ?_⟩
  have e : IntKind.wrap .i64 ((j : Int) + 1) = ((j + 1 : Nat) : Int) := w64_nat (n := j + 1) (by unfold maxLen; omega)
  rw [e]
  exact ⟨j + 1, rfl, hj, by omega, h⟩
theorem RC.f {B : Int} {X : Nat → Int → Prop} {n : Nat} {N : Int} (h : RC B X (n + 1) N) (hb : decide (N < B) = false) : X 0 N := by
  obtain ⟨j, rfl, h1, h2, h3⟩ := h
  have hj : ¬ (j : Int) < B := of_decide_eq_false hb
  rwa [show B.toNat - j = 0 by omega] at h3
end
section
variable {K : Ctx} {Q : Post} {S : St}
variable {ops : Array Oper} {rest : List Oper} {ty : TypeId} {pos : String} {after : Array Edge} {g : Option (Nat × Bool)}
theorem am {d : Nat} {x : Operand} (dv : V) (hx : evl S x = dv) (hN : Nat.blt d K.N = true)
    (kk : AOps K ops rest Q (S.put d dv)) : AOps K ops (⟨some d, .move x, ty, pos, after, none⟩ :: rest) Q S := aops_move dv wants_none hx hN kk
theorem aa {d : Nat} {x : Operand} (dv : V) (hx : evl S x = dv) (hN : Nat.blt d K.N = true)
    (kk : AOps K ops rest Q (S.put d dv)) : AOps K ops (⟨some d, .assign x, ty, pos, after, none⟩ :: rest) Q S := aops_assign dv wants_none hx hN kk
theorem an {ops : Array Oper} (h : Q .normal S) : AOps K ops [] Q S := aops_nil h
theorem sq {x y : Code} (h : AWP K x (thenQ K y Q) S) : AWP K (.seq x y) Q S := awp_seq h
theorem rg {id : Nat} {l : List Oper} (h : AOps K l.toArray l Q S) : AWP K (.region id l.toArray false) Q S := awp_region h
theorem sr {id : Nat} {l : List Oper} {y : Code} (h : AOps K l.toArray l (thenQ K y Q) S) : AWP K (.seq (.region id l.toArray false) y) Q S := awp_seq (awp_region h)
def skipE : List Oper → Env → Env
  | [], e => e
  | o :: l, e => skipE l ((o.dst.getD 0, .con undef) :: e)
def skipOk (N j : Nat) (want : Bool) (t : Nat) : List Oper → Bool
  | [] => true
  | o :: l => (match o.guard, o.dst with
    | some (i, v), some d => Nat.beq i j && (match v, want with | true, true => true | false, false => true | _, _ => false) && Nat.blt d N && !(Nat.beq d t)
    | _, _ => false) && skipOk N j want t l
theorem aops_skips (n j t : Nat) (want : Bool) {c b : Bool} {l : List Oper} (ht : (ops[j]?).bind (·.dst) = some t) (hc : get S.env t = .con (.bool c)) (hb : c = b) (hw : (b == want) = false)
    (hl : skipOk K.N j want t (l.take n) = true) (kk : AOps K ops (l.drop n) Q ⟨skipE (l.take n) S.env, S.hp, S.nx⟩) : AOps K ops l Q S := by
  subst hb
  induction n generalizing l S with
  | zero => simpa [skipE] using kk
  | succ n ih =>
    cases l with
    | nil => simpa [skipE] using kk
    | cons o l =>
      simp only [List.take_succ_cons, skipOk, Bool.and_eq_true] at hl
      obtain ⟨h1, h2⟩ := hl
      cases hg : o.guard with
      | none => simp [hg] at h1
      | some p =>
        obtain ⟨i, v⟩ := p
        cases hd : o.dst with
        | none => simp [hg, hd] at h1
        | some d =>
          simp only [hg, hd, Bool.and_eq_true, Bool.not_eq_true'] at h1
          obtain ⟨⟨⟨a1, a2⟩, a3⟩, a4⟩ := h1
          have hi := Nat.eq_of_beq_eq_true a1
          have hv : v = want := by cases v <;> cases want <;> simp_all
          subst hi; subst hv
          refine aops_skip (d := d) ?_ hd a3 (ih (S := S.put d (.con undef)) (by simp only [St.put]; rw [get_put, if_neg (fun e => by subst e; simp at a4)]; exact hc) h2 ?_)
          · unfold Wants
            rw [hg]
            exact ⟨t, ht, .inl ⟨c, hc, hw.symm⟩⟩
          · simp only [List.take_succ_cons, List.drop_succ_cons, skipE, hd, Option.getD_some] at kk
            exact kk
end
end Go.Pv
