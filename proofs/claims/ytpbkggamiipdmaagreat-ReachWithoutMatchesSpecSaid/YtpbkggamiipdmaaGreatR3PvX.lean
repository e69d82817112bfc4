/- The framework of walks over abstract values (own text), part X. -/
import Derived.Test.YtpbkggamiipdmaaGreatR3PvV
import Derived.Test.YtpbkggamiipdmaaGreatR3PvQ
namespace Go.Pv
open Go
theorem bl_cons (x : UInt8) (a : List UInt8) (y : UInt8) (b : List UInt8) : Op.bytesLess (x :: a) (y :: b) = (decide (x < y) || (x == y && Op.bytesLess a b)) := by
  rw [Op.bytesLess]
theorem bl_irrefl : ∀ a : List UInt8, Op.bytesLess a a = false
  | [] => by simp [Op.bytesLess]
  | x :: a => by rw [bl_cons, bl_irrefl a]; simp
theorem bl_trans : ∀ {a b c : List UInt8}, Op.bytesLess a b = true → Op.bytesLess b c = true → Op.bytesLess a c = true
  | [], [], _, h, _ => by simp [Op.bytesLess] at h
  | [], y :: b, [], _, h => by simp [Op.bytesLess] at h
  | [], y :: b, z :: c, _, _ => by simp [Op.bytesLess]
  | x :: a, [], _, h, _ => by simp [Op.bytesLess] at h
  | x :: a, y :: b, [], _, h => by simp [Op.bytesLess] at h
  | x :: a, y :: b, z :: c, h, g => by
    rw [bl_cons] at *
    simp only [Bool.or_eq_true, decide_eq_true_eq, Bool.and_eq_true, beq_iff_eq, UInt8.lt_iff_toNat_lt] at *
    rcases h with h | ⟨rfl, h⟩ <;> rcases g with g | ⟨rfl, g⟩
    · exact .inl (by omega)
    · exact .inl h
    · exact .inl g
    · exact .inr ⟨rfl, bl_trans h g⟩
theorem bl_tri : ∀ a b : List UInt8, Op.bytesLess a b = true ∨ a = b ∨ Op.bytesLess b a = true
  | [], [] => by simp
  | [], y :: b => by simp [Op.bytesLess]
  | x :: a, [] => by simp [Op.bytesLess]
  | x :: a, y :: b => by
    rw [bl_cons, bl_cons]
    simp only [Bool.or_eq_true, decide_eq_true_eq, Bool.and_eq_true, beq_iff_eq, UInt8.lt_iff_toNat_lt, List.cons.injEq]
    rcases Nat.lt_trichotomy x.toNat y.toNat with h | h | h
    · exact .inl (.inl h)
    · have := UInt8.toNat_inj.1 h
      subst this
      rcases bl_tri a b with h | h | h
      · exact .inl (.inr ⟨rfl, h⟩)
      · exact .inr (.inl ⟨rfl, h⟩)
      · exact .inr (.inr (.inr ⟨rfl, h⟩))
    · exact .inr (.inr (.inl h))
theorem bl_asymm {a b : List UInt8} (h : Op.bytesLess a b = true) : Op.bytesLess b a = false := by
  cases h' : Op.bytesLess b a with
  | false => rfl
  | true => have := bl_trans h h'; rw [bl_irrefl] at this; simp at this
theorem bl_ne {a b : List UInt8} (h : Op.bytesLess a b = true) : a ≠ b := by rintro rfl; rw [bl_irrefl] at h; simp at h
/-- 'where is the first one?' -/
theorem idxL {α : Type} {g : List α → Int → Option Int} {k : Option Int} (p : α → Bool) (h0 : ∀ n, g [] n = k) (h1 : ∀ x l n, g (x :: l) n = if p x = true then some n else g l (n + 1)) :
    ∀ l (n : Nat), g l n = if l.any p = true then some ((n + l.findIdx p : Nat) : Int) else k
  | [], n => by simp [h0]
  | x :: l, n => by
    have e : ((n : Int) + 1) = ((n + 1 : Nat) : Int) := rfl
    rw [h1, e, idxL p h0 h1 l (n + 1)]
    cases h : p x
    · have e2 : n + 1 + l.findIdx p = n + (l.findIdx p + 1) := by omega
      simp only [List.any_cons, h, Bool.false_or, List.findIdx_cons, cond_false, e2, Bool.false_eq_true, if_false]
    · simp [List.findIdx_cons, h]
/-- A text every byte of which is right: a count over its indices. -/
theorem bytesL {β : Type} {g : Nat → Int → Option β} {k : Option β} {f : β} (s : List UInt8) (p : UInt8 → Bool) (h0 : ∀ n, g 0 n = k)
    (h1 : ∀ m n, g (m + 1) n = (idx s n).bind fun c => if p c = true then g m (n + 1) else some f) :
    ∀ (m n : Nat), n + m = s.length → g m n = if (s.drop n).all p = true then k else some f
  | 0, n, h => by rw [h0, List.drop_eq_nil_of_le (by omega)]; simp
  | m + 1, n, h => by
    have hn : n < s.length := by omega
    have e : ((n : Int) + 1) = ((n + 1 : Nat) : Int) := rfl
    rw [h1, idx_nat hn, Option.bind_some, e, bytesL s p h0 h1 m (n + 1) (by omega), List.drop_eq_getElem_cons hn, List.all_cons]
    cases h : p s[n]
    · simp only [Bool.false_and, Bool.false_eq_true, if_false]
    · simp only [Bool.true_and, if_true]
theorem ite2 {α : Type} {p q : Prop} [Decidable p] [Decidable q] {x y : Option α} {a b : α} (h : p ↔ q) (h1 : q → x = some a) (h2 : ¬ q → y = some b) : (if p then x else y) = some (if q then a else b) := by
  by_cases hq : q
  · rw [if_pos (h.2 hq), if_pos hq, h1 hq]
  · rw [if_neg (fun hp => hq (h.1 hp)), if_neg hq, h2 hq]
theorem ne0 {n : Int} : (n != 0) = true ↔ n ≠ 0 := by simp
end Go.Pv
