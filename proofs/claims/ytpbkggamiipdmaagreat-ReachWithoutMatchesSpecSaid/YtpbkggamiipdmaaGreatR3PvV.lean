/- The framework of walks over abstract values (own text), part V. -/
import Derived.Test.YtpbkggamiipdmaaGreatR3PvN
namespace Go.Pv
open Go
section
variable {K : Ctx} {Q : Post} {S : St}
variable {m : Mem} {β : Locs} {w : World} {a : Act}
variable {ops : Array Oper} {rest : List Oper} {ty : TypeId} {pos : String} {after : Array Edge} {g : Option (Nat × Bool)}
theorem aops_append_at {d T T' e k bytes n n' id nx : Nat} {s x : Operand} {sv : V} {rows : List (List V)} (idn : Nat) (hid : (Nat.blt idn nx && Nat.ble K.pins idn) = true) (hnxx : S.nx = nx) (hres : hget S.hp idn = .res) (rows2 rows' : List (List V)) (hT : tyEl K.P T e k bytes = true) (hT' : tySlice K.P T' = true)
    (hpos : Nat.blt 0 bytes = true) (hkp : Nat.blt 0 k = true)
    (hw : Wants ops S ⟨some d, .call ⟨.builtin .append, #[s, x], #[T, T']⟩, ty, pos, after, g⟩ true)
    (hs : evl K S s = .own id n) (ho : hget S.hp id = .arr e k rows) (hn : rows.length = n) (hx : evl K S x = sv) (hsrc : Src S k sv rows2)
    (hr : rows ++ rows2 = rows') (hn' : rows'.length = n') (hb : n' * bytes ≤ 140737488355328) (hN : Nat.blt d K.N = true)
    (kk : AOps K ops rest Q ⟨(d, .own idn n') :: S.env, (idn, .arr e k rows') :: (id, .dead) :: S.hp, S.nx⟩) :
    AOps K ops (⟨some d, .call ⟨.builtin .append, #[s, x], #[T, T']⟩, ty, pos, after, g⟩ :: rest) Q S :=
  aops_appendG idn S.nx (fun _ _ _ _ r => ⟨r.free hres, fun q hq => by have := Nat.le_of_ble_eq_true (Bool.and_eq_true_iff.1 hid).2; omega⟩) (by rw [hnxx]; exact Nat.le_of_ble_eq_true (Bool.and_eq_true_iff.1 hid).1) (Nat.le_refl _) rows2 rows' hT hT' hpos hkp hw hs ho hn hx hsrc hr hn' hb hN kk
end
section
variable {K : Ctx} {Q : Post} {S : St}
variable {ops : Array Oper} {rest : List Oper} {ty : TypeId} {pos : String} {after : Array Edge} {g : Option (Nat × Bool)}
theorem aops_lookup_okB {d : Nat} {T k e : TypeId} {x y : Operand} {good : Value → Prop} {kv zv : Value} {mv : V} {es : List (Value × V)} (res : Option V) (zd dv : V) (hT : tyMap K.P T k e = true) (hK : KeyT K.P k good)
    (hz : (K.P.info? e).bind (·.zero) = some zv) (hzd : ∀ m, IRel m zd zv)
    (hw : Wants ops S ⟨some d, .lookup T x y true, ty, pos, after, g⟩ true) (hx : evl K S x = mv) (hm : MapIs S mv es) (hy : KeyIs K S y kv) (hg : good kv) (hges : ∀ p, p ∈ es → good p.1)
    (hl : Look kv es res) (hd : res.getD zd = dv) {b : Bool} (hb : res.isSome = b) (hN : Nat.blt d K.N = true)
    (kk : AOps K ops rest Q (S.put d (.tup [dv, .con (.bool b)]))) (hdd : dv.deep = false := by rfl) : AOps K ops (⟨some d, .lookup T x y true, ty, pos, after, g⟩ :: rest) Q S :=
  by subst hb; exact aops_lookup_ok res zd dv hT hK hz hzd hw hx hm hy hg hges hl hd hN kk hdd
end
section
variable {K : Ctx} {Q : Post} {S : St}
theorem awp_len {c : Code} {α : Type} {k : Nat} {A : List α} {enc : α → List V} (t : Nat) (ht : get S.env t = .lst k (A.map enc)) (h : A.length ≤ maxLen → AWP K c Q S) : AWP K c Q S := by
  intro m β w a r
  refine h ?_ m β w a r
  have := r.env t
  rw [ht] at this
  generalize a.tmps.getD t undef = v at this
  generalize hrows : A.map enc = rows at this
  cases this with
  | imm h =>
    cases h with
    | nil => have : A = [] := by simpa using hrows
             subst this; simp
    | lst f h1 h2 h3 h4 h5 => rw [← hrows, List.length_map] at h3; omega
/-- The loop goes over A; it stands at the index N, and 'X rest N' holds. -/
def RG {α : Type} (A : List α) (X : List α → Int → Prop) (n : Nat) (N : Int) : Prop := ∃ j : Nat, N = j ∧ j ≤ A.length ∧ A.length - j < n ∧ X (A.drop j) N
theorem RG.zero {α : Type} {A : List α} {X : List α → Int → Prop} {N : Int} : ¬ RG A X 0 N := fun ⟨_, _, _, h, _⟩ => by omega
theorem RG.start {α : Type} {A : List α} {X : List α → Int → Prop} (h : X A 0) : RG A X (A.length + 1) 0 := ⟨0, rfl, Nat.zero_le _, by omega, h⟩
theorem w64_nat {n : Nat} (h : n ≤ maxLen) : IntKind.wrap .i64 (n : Int) = n := by
  have h : n ≤ 9223372036854775807 := h
  have : IntKind.wrap .i64 (n : Int) = if (n : Int) % 18446744073709551616 ≥ 9223372036854775808 then (n : Int) % 18446744073709551616 - 18446744073709551616 else (n : Int) % 18446744073709551616 := by
    simp [IntKind.wrap, IntKind.signed, IntKind.bits]
  rw [this]
  split <;> omega
theorem RG.t {α : Type} {A : List α} {X : List α → Int → Prop} {n : Nat} {N : Int} (hA : A.length ≤ maxLen) (h : RG A X (n + 1) N) (hb : decide (N < ((A.length : Nat) : Int)) = true) :
    ∃ x l, idx A N = some x ∧ X (x :: l) N ∧ ∀ X' : List α → Int → Prop, X' l (N + 1) → RG A X' n (IntKind.wrap .i64 (N + 1)) := by
  obtain ⟨j, rfl, h1, h2, h3⟩ := h
  have hj : j < A.length := by have := of_decide_eq_true hb; omega
  refine ⟨A[j], A.drop (j + 1), by simp [idx, hj], by rw [← List.drop_eq_getElem_cons hj]; exact h3, fun X' h => ?_⟩
  have e : IntKind.wrap .i64 ((j : Int) + 1) = ((j + 1 : Nat) : Int) := w64_nat (n := j + 1) (by omega)
  rw [e]
  exact ⟨j + 1, rfl, hj, by omega, h⟩
theorem RG.f {α : Type} {A : List α} {X : List α → Int → Prop} {n : Nat} {N : Int} (h : RG A X (n + 1) N) (hb : decide (N < ((A.length : Nat) : Int)) = false) : X [] N := by
  obtain ⟨j, rfl, h1, h2, h3⟩ := h
  have hj : ¬ j < A.length := by have := of_decide_eq_false hb; omega
  rwa [List.drop_eq_nil_of_le (by omega)] at h3
/-- The loop counts up to B; it stands at N, and 'X (what is left) N' holds. -/
def RC (B : Int) (X : Nat → Int → Prop) (n : Nat) (N : Int) : Prop := ∃ j : Nat, N = j ∧ j ≤ B.toNat ∧ B.toNat - j < n ∧ X (B.toNat - j) N
theorem RC.zero {B : Int} {X : Nat → Int → Prop} {N : Int} : ¬ RC B X 0 N := fun ⟨_, _, _, h, _⟩ => by omega
theorem RC.start {B : Int} {X : Nat → Int → Prop} (h : X B.toNat 0) : RC B X (B.toNat + 1) 0 := ⟨0, rfl, Nat.zero_le _, by omega, h⟩
theorem RC.t {B : Int} {X : Nat → Int → Prop} {n : Nat} {N : Int} (hB : B ≤ 9223372036854775807) (h : RC B X (n + 1) N) (hb : decide (N < B) = true) :
    ∃ l, X (l + 1) N ∧ ∀ X' : Nat → Int → Prop, X' l (N + 1) → RC B X' n (IntKind.wrap .i64 (N + 1)) := by
  obtain ⟨j, rfl, h1, h2, h3⟩ := h
  have hj : j < B.toNat := by have := of_decide_eq_true hb; omega
  refine ⟨B.toNat - (j + 1), by rw [show B.toNat - (j + 1) + 1 = B.toNat - j by omega]; exact h3, fun X' h => ?_⟩
  have e : IntKind.wrap .i64 ((j : Int) + 1) = ((j + 1 : Nat) : Int) := w64_nat (n := j + 1) (by unfold maxLen; omega)
  rw [e]
  exact ⟨j + 1, rfl, hj, by omega, h⟩
theorem RC.f {B : Int} {X : Nat → Int → Prop} {n : Nat} {N : Int} (h : RC B X (n + 1) N) (hb : decide (N < B) = false) : X 0 N := by
  obtain ⟨j, rfl, h1, h2, h3⟩ := h
  have hj : ¬ (j : Int) < B := of_decide_eq_false hb
  rwa [show B.toNat - j = 0 by omega] at h3
end
end Go.Pv
