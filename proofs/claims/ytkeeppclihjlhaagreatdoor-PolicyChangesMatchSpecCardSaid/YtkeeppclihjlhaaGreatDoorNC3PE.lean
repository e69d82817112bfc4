/- Part of the proof: C3PB, C3PC, C3PD, C3PE. -/
import Derived.Test.YtkeeppclihjlhaaGreatDoorNC3PA
namespace Go.Proofs.YtkeeppclihjlhaaGreatDoor
open Go Go.Pv
set_option linter.unusedVariables false
set_option linter.unusedSimpArgs false
set_option maxRecDepth 100000
def txC (a : List (List UInt8)) : List (List UInt8) → Nat → Int
 | [], _ => 0
 | x :: l, n => if (!valB x) = true then 2 else if (decide (0 < n) && (Op.bytesLess x (a.getD (n - 1) []) || x == a.getD (n - 1) [])) = true then 10 else txC a l (n + 1)
theorem idx_prev {α : Type} {a : List α} {n : Nat} {d : α} (h0 : 0 < n) (h : n ≤ a.length) (hl : a.length ≤ maxLen) : idx a (w64 ((n : Int) - 1)) = some (a.getD (n - 1) d) := by
 have hm : maxLen = 9223372036854775807 := by decide
 rw [hm] at hl
 rw [w64_id (by omega) (by omega), show ((n : Int) - 1) = ((n - 1 : Nat) : Int) by omega, idx_nat (by omega)]
 simp [List.getD, List.getElem?_eq_getElem (show n - 1 < a.length by omega)]
theorem txL {g : List (List UInt8) → Int → Option Int} {k : Option Int} {a : List (List UInt8)} (hl : a.length ≤ maxLen) (h0 : ∀ n, g [] n = k)
  (h1 : ∀ x l (n : Nat), a[n]? = some x → x ∈ a → g (x :: l) n = if (!valB x) = true then some 2 else if decide ((n : Int) > 0) = true then (idx a (w64 ((n : Int) - 1))).bind fun y => if (Op.bytesLess x y || x == y) = true then some 10 else g l (n + 1) else g l (n + 1)) :
  ∀ (l : List (List UInt8)) (n : Nat), a.drop n = l → g l n = if (txC a l n != 0) = true then some (txC a l n) else k
 | [], n, _ => by simp [h0, txC]
 | x :: l, n, h => by
  have hn : n < a.length := by
   rcases Nat.lt_or_ge n a.length with h2 | h2
   ·exact h2
   ·rw [List.drop_eq_nil_of_le h2] at h; cases h
  rw [List.drop_eq_getElem_cons hn] at h
  injection h with hx hd
  have e : ((n : Int) + 1) = ((n + 1 : Nat) : Int) := rfl
  rw [h1 x l n (by rw [List.getElem?_eq_getElem hn, hx]) (by rw [← hx]; exact List.getElem_mem _), e, txL hl h0 h1 l (n + 1) hd]
  rw [txC]
  cases valB x
  ·simp
  ·simp only [Bool.not_true, Bool.false_eq_true, if_false]
   by_cases h2 : 0 < n
   ·rw [if_pos (decide_eq_true (by omega)), idx_prev (d := []) h2 (by omega) hl, Option.bind_some, decide_eq_true h2]
    simp only [Bool.true_and]
    cases (Op.bytesLess x (a.getD (n - 1) []) || x == a.getD (n - 1) []) <;> simp
   ·rw [decide_eq_false h2, if_neg (by simp; omega)]; simp
def txF (a : List (List UInt8)) : Int := if a.length = 0 then 13 else if 50 < a.length then 3 else txC a a 0
def okX (x : TTest) : Prop := okS x.Name ∧ (∀ s, s ∈ x.Texts → okS s) ∧ x.Texts.length ≤ maxLen ∧ x.Kids.length ≤ maxLen
theorem M67_eq (F : Nat) (a : List (List UInt8)) (ha : ∀ s, s ∈ a → okS s) (hl : a.length ≤ maxLen) : M67 F a = some (txF a) := by
 unfold M67 txF
 have h := txL (g := M67_L1 F a (some 0)) (k := some 0) hl (fun n => rfl) (fun x l n h1 h2 => by
  rw [M67_L1, M35_eq F x (ha x h2), Option.bind_some, jn_def]) a 0 rfl
 rw [show ((0 : Nat) : Int) = 0 from rfl] at h
 rw [jn_def, h]
 by_cases h1 : a.length = 0
 ·simp [h1]
 ·have h3 : (((a.length : Nat) : Int) == 0) = false := beq_false_of_ne (by omega)
  rw [h3, if_neg h1, if_neg (by simp : ¬ (false = true))]
  by_cases h2 : 50 < a.length
  ·rw [if_pos h2, if_pos (decide_eq_true (by omega))]
  ·have h5 : decide (((a.length : Nat) : Int) > 50) = false := decide_eq_false (by omega)
   rw [if_neg h2, h5]
   by_cases h4 : txC a a 0 = 0 <;> simp [h4]
theorem M36_eq (F : Nat) (n : Int) : M36 F n = some (decide (-1000000000000 ≤ n) && decide (n ≤ 1000000000000)) := by
 unfold M36
 by_cases h : -1000000000000 ≤ n
 ·simp [h, show n ≥ -1000000000000 from h]
 ·simp [h, show ¬ n ≥ -1000000000000 from h]
theorem M39_eq (F : Nat) (a b c : Int) : M39 F a b c = some (decide (a < b) || decide (a > c)) := by
 unfold M39
 by_cases h : a < b <;> simp [h]
theorem M68_L1_eq : ∀ (F : Nat) (x : TTest) (k : Option Int) (hx : okX x), M68_L1 F x k x.Texts ((0 : Nat) : Int) = if (txC x.Texts x.Texts 0 != 0) = true then some (txC x.Texts x.Texts 0) else k := (fun (F : Nat) (x : TTest) (k : Option Int) (hx : okX x) => txL (g := M68_L1 F x k) (k := k) hx.2.2.1 (fun n => rfl) (fun y l n h1 h2 => by
  have hn : n < x.Texts.length := (List.getElem?_eq_some_iff.1 h1).1
  have hi : idx x.Texts (n : Int) = some y := by rw [idx_nat hn]; exact (List.getElem?_eq_getElem hn).symm.trans h1
  show jn _ _ = _
  rw [jn_def, M38_eq F y (hx.2.1 y h2), Option.bind_some, hi]
  cases valB y <;> rfl) x.Texts 0 rfl)
theorem M68_L2_eq : ∀ (F : Nat) (x : TTest) (k : Option Int) (hx : okX x), M68_L2 F x k x.Texts ((0 : Nat) : Int) = if (txC x.Texts x.Texts 0 != 0) = true then some (txC x.Texts x.Texts 0) else k := (fun (F : Nat) (x : TTest) (k : Option Int) (hx : okX x) => txL (g := M68_L2 F x k) (k := k) hx.2.2.1 (fun n => rfl) (fun y l n h1 h2 => by
  have hn : n < x.Texts.length := (List.getElem?_eq_some_iff.1 h1).1
  have hi : idx x.Texts (n : Int) = some y := by rw [idx_nat hn]; exact (List.getElem?_eq_getElem hn).symm.trans h1
  show jn _ _ = _
  rw [jn_def, M38_eq F y (hx.2.1 y h2), Option.bind_some, hi]
  cases valB y <;> rfl) x.Texts 0 rfl)
def outN (n : Int) : Bool := decide (n < -1000000000000) || decide (n > 1000000000000)
theorem M39_N (F : Nat) (n : Int) : M39 F n (-1000000000000) 1000000000000 = some (outN n) := M39_eq F n _ _
theorem M39_18 (F : Nat) (n : Int) : M39 F n 1 8 = some (decide (n < 1) || decide (n > 8)) := M39_eq F n _ _
theorem M39_15 (F : Nat) (n : Int) : M39 F n 1 5 = some (decide (n < 1) || decide (n > 5)) := M39_eq F n _ _
theorem M36_N (F : Nat) (n : Int) : M36 F n = some (!outN n) := by
 rw [M36_eq, outN, Bool.not_or, ← decide_not, ← decide_not]
 exact congrArg some (congr (congrArg and (decide_eq_decide.2 (by omega))) (decide_eq_decide.2 (by omega)))
def nodeV (x : TTest) : Int :=
 if x.Kind < 1 ∨ 8 < x.Kind then 7
 else if !(decide (2 ≤ x.Kind) && decide (x.Kind ≤ 5)) && !(x.Name == []) || !(x.Kind == 2 || x.Kind == 3) && decide (0 < x.Texts.length) || !(x.Kind == 5) && (x.Op != 0 || x.N != 0) ||
  !(if x.Kind = 6 then x.Kids.length == 1 else if 7 ≤ x.Kind then decide (2 ≤ x.Kids.length) else x.Kids.length == 0) then 2
 else if (decide (2 ≤ x.Kind) && decide (x.Kind ≤ 5)) && !nameB x.Name then 8
 else if x.Kind = 2 ∨ x.Kind = 3 then txF x.Texts
 else if x.Kind = 5 then (if x.Op < 1 ∨ 5 < x.Op then 7 else if outN x.N = true then 9 else 0)
 else 0
theorem kid0 {n : Nat} : (((n : Nat) : Int) == 0) = (n == 0) := by
 by_cases h : n = 0
 ·simp [h]
 ·rw [beq_false_of_ne h, beq_false_of_ne (by omega)]
theorem kid1 {n : Nat} : (((n : Nat) : Int) == 1) = (n == 1) := by
 by_cases h : n = 1
 ·simp [h]
 ·rw [beq_false_of_ne h, beq_false_of_ne (by omega)]
theorem gt0 {n : Nat} : decide (((n : Nat) : Int) > 0) = decide (0 < n) := decide_eq_decide.2 (by omega)
theorem ge2 {n : Nat} : decide (((n : Nat) : Int) ≥ 2) = decide (2 ≤ n) := decide_eq_decide.2 (by omega)
theorem gt50 {n : Nat} : decide (((n : Nat) : Int) > 50) = decide (50 < n) := decide_eq_decide.2 (by omega)
noncomputable def usesA : Nat → Tpolicy_uses := (M65 0).get rfl
theorem M65_eq (F : Nat) : M65 F = some usesA := rfl
theorem uses_1 : usesA 1 = ⟨false, false, false, 0⟩ := rfl
theorem uses_2 : usesA 2 = ⟨true, true, false, 0⟩ := rfl
theorem uses_3 : usesA 3 = ⟨true, true, false, 0⟩ := rfl
theorem uses_4 : usesA 4 = ⟨true, false, false, 0⟩ := rfl
theorem uses_5 : usesA 5 = ⟨true, false, true, 0⟩ := rfl
theorem uses_6 : usesA 6 = ⟨false, false, false, 1⟩ := rfl
theorem uses_7 : usesA 7 = ⟨false, false, false, -1⟩ := rfl
theorem uses_8 : usesA 8 = ⟨false, false, false, -1⟩ := rfl
def fm (u : Tpolicy_uses) (x : TTest) : Bool := (u.name || (x.Name == [])) && (u.texts || !decide (0 < x.Texts.length)) && (u.number || ((x.Op == 0) && (x.N == 0))) && (if u.kids < 0 then decide (2 ≤ x.Kids.length) else (((x.Kids.length : Nat) : Int) == u.kids))
theorem M66_eq (F : Nat) (x : TTest) (h : 0 ≤ x.Kind ∧ x.Kind.toNat < 9) : M66 F x = some (fm (usesA x.Kind.toNat) x) := by
 unfold M66 fm
 rw [M65_eq, Option.bind_some, if_pos h]
 generalize usesA x.Kind.toNat = u
 simp only [gt0, ge2]
 by_cases hk : u.kids < 0
 ·simp only [if_pos hk, decide_eq_true hk]
  cases u.name <;> cases u.texts <;> cases u.number <;> by_cases a1 : x.Name = [] <;> by_cases a2 : 0 < x.Texts.length <;> by_cases a3 : x.Op = 0 <;> by_cases a4 : x.N = 0 <;> simp [a1, a2, a3, a4]
 ·simp only [if_neg hk, decide_eq_false hk]
  cases u.name <;> cases u.texts <;> cases u.number <;> by_cases a1 : x.Name = [] <;> by_cases a2 : 0 < x.Texts.length <;> by_cases a3 : x.Op = 0 <;> by_cases a4 : x.N = 0 <;> simp [a1, a2, a3, a4]
def nodeU (u : Tpolicy_uses) (x : TTest) : Int := if !fm u x then 2 else if u.name && !nameB x.Name then 8 else if u.texts && txF x.Texts != 0 then txF x.Texts else if u.number && (decide (x.Op < 1) || decide (x.Op > 5)) then 7 else if u.number && outN x.N then 9 else 0
theorem M41_B_u (F : Nat) (R : TTest → Option Int) (x : TTest) (hx : okX x) (h : 1 ≤ x.Kind ∧ x.Kind ≤ 8) : M41_B R F x = if (nodeU (usesA x.Kind.toNat) x != 0) = true then some (nodeU (usesA x.Kind.toNat) x) else M41_L1 R F (some 0) x.Kids := by
 have h9 : 0 ≤ x.Kind ∧ x.Kind.toNat < 9 := by omega
 unfold M41_B nodeU
 rw [M66_eq F x h9, M65_eq, Option.bind_some, if_pos h9, Option.bind_some, M34_eq F x.Name hx.1, M67_eq F x.Texts hx.2.1 hx.2.2.1, M36_N, decide_eq_false (show ¬ x.Kind < 1 by omega), decide_eq_false (show ¬ x.Kind > 8 by omega)]
 simp only [jn_def, Option.bind_some]
 generalize usesA x.Kind.toNat = u
 generalize M41_L1 R F (some 0) x.Kids = L
 generalize fm u x = b0
 generalize nameB x.Name = b1
 generalize txF x.Texts = t1
 generalize outN x.N = b2
 generalize decide (x.Op < 1) = b3
 generalize decide (x.Op > 5) = b4
 by_cases h0 : t1 = 0 <;> cases b0 <;> cases u.name <;> cases u.texts <;> cases u.number <;> cases b1 <;> cases b2 <;> cases b3 <;> cases b4 <;> simp [h0]
theorem M68_k1 {F : Nat} {nm : List UInt8} {tx : List (List UInt8)} {op n : Int} {ks : List KRow} (hn : M37 F nm = some (nameB nm)) : M68 F ⟨1, nm, tx, op, n, ks⟩ = some (nodeV ⟨1, nm, tx, op, n, ks⟩) := by
 have e4 : tx = [] ↔ tx.length = 0 := List.length_eq_zero_iff.symm
 have e5 : ks = [] ↔ ks.length = 0 := List.length_eq_zero_iff.symm
 simp only [M68, M88, M39_18, M39_15, M39_N, jn_def, nodeV, gt0, gt50, kid0, hn]
 by_cases a1 : nm = [] <;> by_cases a2 : 0 < tx.length <;> by_cases a3 : op = 0 <;> by_cases a4 : n = 0 <;> by_cases a5 : ks.length = 0 <;> simp [a1, a2, a3, a4, a5, e4, e5]
theorem nodeU_k1 {nm : List UInt8} {tx : List (List UInt8)} {op n : Int} {ks : List KRow} : nodeU (usesA 1) ⟨1, nm, tx, op, n, ks⟩ = nodeV ⟨1, nm, tx, op, n, ks⟩ := by
 have e5 : ks = [] ↔ ks.length = 0 := List.length_eq_zero_iff.symm
 rw [uses_1]
 simp only [nodeU, fm, nodeV, gt0, kid0]
 by_cases a1 : nm = [] <;> by_cases a2 : 0 < tx.length <;> by_cases a3 : op = 0 <;> by_cases a4 : n = 0 <;> by_cases a5 : ks.length = 0 <;> simp [a1, a2, a3, a4, a5, e5, kid0]
theorem M68_k2 {F : Nat} {nm : List UInt8} {tx : List (List UInt8)} {op n : Int} {ks : List KRow} (hn : M37 F nm = some (nameB nm)) (h1 : ∀ k, M68_L1 F ⟨2, nm, tx, op, n, ks⟩ k tx 0 = if (txC tx tx 0 != 0) = true then some (txC tx tx 0) else k) : M68 F ⟨2, nm, tx, op, n, ks⟩ = some (nodeV ⟨2, nm, tx, op, n, ks⟩) := by
 have e4 : tx = [] ↔ tx.length = 0 := List.length_eq_zero_iff.symm
 have e5 : ks = [] ↔ ks.length = 0 := List.length_eq_zero_iff.symm
 simp only [M68, M88, M39_18, M39_15, M39_N, jn_def, nodeV, gt0, gt50, kid0, hn, h1, txF]
 by_cases a1 : nameB nm = true <;> by_cases a2 : tx.length = 0 <;> by_cases a3 : 50 < tx.length <;> by_cases a4 : op = 0 <;> by_cases a5 : n = 0 <;> by_cases a6 : ks.length = 0 <;> by_cases a7 : txC tx tx 0 = 0 <;> simp [a1, a2, a3, a4, a5, a6, a7, e4, e5]
theorem nodeU_k2 {nm : List UInt8} {tx : List (List UInt8)} {op n : Int} {ks : List KRow} : nodeU (usesA 2) ⟨2, nm, tx, op, n, ks⟩ = nodeV ⟨2, nm, tx, op, n, ks⟩ := by
 have e5 : ks = [] ↔ ks.length = 0 := List.length_eq_zero_iff.symm
 rw [uses_2]
 simp only [nodeU, fm, nodeV, gt0, kid0]
 by_cases a1 : nameB nm = true <;> by_cases a2 : op = 0 <;> by_cases a3 : n = 0 <;> by_cases a4 : ks.length = 0 <;> by_cases a5 : txF tx = 0 <;> simp [a1, a2, a3, a4, a5, e5, kid0]
theorem M68_k3 {F : Nat} {nm : List UInt8} {tx : List (List UInt8)} {op n : Int} {ks : List KRow} (hn : M37 F nm = some (nameB nm)) (h1 : ∀ k, M68_L2 F ⟨3, nm, tx, op, n, ks⟩ k tx 0 = if (txC tx tx 0 != 0) = true then some (txC tx tx 0) else k) : M68 F ⟨3, nm, tx, op, n, ks⟩ = some (nodeV ⟨3, nm, tx, op, n, ks⟩) := by
 have e4 : tx = [] ↔ tx.length = 0 := List.length_eq_zero_iff.symm
 have e5 : ks = [] ↔ ks.length = 0 := List.length_eq_zero_iff.symm
 simp only [M68, M88, M39_18, M39_15, M39_N, jn_def, nodeV, gt0, gt50, kid0, hn, h1, txF]
 by_cases a1 : nameB nm = true <;> by_cases a2 : tx.length = 0 <;> by_cases a3 : 50 < tx.length <;> by_cases a4 : op = 0 <;> by_cases a5 : n = 0 <;> by_cases a6 : ks.length = 0 <;> by_cases a7 : txC tx tx 0 = 0 <;> simp [a1, a2, a3, a4, a5, a6, a7, e4, e5]
theorem nodeU_k3 {nm : List UInt8} {tx : List (List UInt8)} {op n : Int} {ks : List KRow} : nodeU (usesA 3) ⟨3, nm, tx, op, n, ks⟩ = nodeV ⟨3, nm, tx, op, n, ks⟩ := by
 have e5 : ks = [] ↔ ks.length = 0 := List.length_eq_zero_iff.symm
 rw [uses_3]
 simp only [nodeU, fm, nodeV, gt0, kid0]
 by_cases a1 : nameB nm = true <;> by_cases a2 : op = 0 <;> by_cases a3 : n = 0 <;> by_cases a4 : ks.length = 0 <;> by_cases a5 : txF tx = 0 <;> simp [a1, a2, a3, a4, a5, e5, kid0]
theorem M68_k4 {F : Nat} {nm : List UInt8} {tx : List (List UInt8)} {op n : Int} {ks : List KRow} (hn : M37 F nm = some (nameB nm)) : M68 F ⟨4, nm, tx, op, n, ks⟩ = some (nodeV ⟨4, nm, tx, op, n, ks⟩) := by
 have e4 : tx = [] ↔ tx.length = 0 := List.length_eq_zero_iff.symm
 have e5 : ks = [] ↔ ks.length = 0 := List.length_eq_zero_iff.symm
 simp only [M68, M88, M39_18, M39_15, M39_N, jn_def, nodeV, gt0, gt50, kid0, hn]
 by_cases a1 : nameB nm = true <;> by_cases a2 : 0 < tx.length <;> by_cases a3 : op = 0 <;> by_cases a4 : n = 0 <;> by_cases a5 : ks.length = 0 <;> simp [a1, a2, a3, a4, a5, e4, e5]
theorem nodeU_k4 {nm : List UInt8} {tx : List (List UInt8)} {op n : Int} {ks : List KRow} : nodeU (usesA 4) ⟨4, nm, tx, op, n, ks⟩ = nodeV ⟨4, nm, tx, op, n, ks⟩ := by
 have e5 : ks = [] ↔ ks.length = 0 := List.length_eq_zero_iff.symm
 rw [uses_4]
 simp only [nodeU, fm, nodeV, gt0, kid0]
 by_cases a1 : nameB nm = true <;> by_cases a2 : 0 < tx.length <;> by_cases a3 : op = 0 <;> by_cases a4 : n = 0 <;> by_cases a5 : ks.length = 0 <;> simp [a1, a2, a3, a4, a5, e5, kid0]
theorem M88_k5 {F : Nat} {nm : List UInt8} {tx : List (List UInt8)} {op n : Int} {ks : List KRow} : M88 F ⟨5, nm, tx, op, n, ks⟩ = some (if decide (0 < tx.length) = true then 2 else if (ks.length == 0) = true then 0 else 2) := by
 have e5 : ks = [] ↔ ks.length = 0 := List.length_eq_zero_iff.symm
 simp only [M88, M39_18, jn_def, gt0, kid0]
 by_cases a2 : 0 < tx.length <;> by_cases a3 : ks.length = 0 <;> simp [a2, a3, e5]
theorem M68_k5 {F : Nat} {nm : List UInt8} {tx : List (List UInt8)} {op n : Int} {ks : List KRow} (hn : M37 F nm = some (nameB nm)) : M68 F ⟨5, nm, tx, op, n, ks⟩ = some (nodeV ⟨5, nm, tx, op, n, ks⟩) := by
 have hv : nodeV ⟨5, nm, tx, op, n, ks⟩ = if (if decide (0 < tx.length) = true then (2 : Int) else if (ks.length == 0) = true then 0 else 2) = 2 then 2 else if nameB nm = false then 8 else if (decide (op < 1) || decide (op > 5)) = true then 7 else if outN n = true then 9 else 0 := by
  simp only [nodeV]
  generalize outN n = c1
  by_cases a1 : nameB nm = true <;> by_cases a2 : 0 < tx.length <;> by_cases a3 : ks.length = 0 <;> simp [a1, a2, a3]
 rw [hv]
 unfold M68
 rw [M88_k5, Option.bind_some]
 have hz : (if decide (0 < tx.length) = true then (2 : Int) else if (ks.length == 0) = true then 0 else 2) = 0 ∨ (if decide (0 < tx.length) = true then (2 : Int) else if (ks.length == 0) = true then 0 else 2) = 2 := by
  split
  ·exact Or.inr rfl
  ·split
   ·exact Or.inl rfl
   ·exact Or.inr rfl
 generalize (if decide (0 < tx.length) = true then (2 : Int) else if (ks.length == 0) = true then 0 else 2) = z at hz ⊢
 clear hv
 rcases hz with rfl | rfl
 ·rw [if_neg (show ¬ ((0 : Int) != 0) = true by decide), if_neg (show ¬ (0 : Int) = 2 by decide)]
  dsimp only
  rw [if_pos (show decide ((5 : Int) ≥ 2) = true from rfl), if_pos (show decide ((5 : Int) ≤ 5) = true from rfl), hn, Option.bind_some]
  cases nameB nm
  ·rfl
  ·rw [if_neg (show ¬ (!true) = true by decide), if_neg (show ¬ ((5 : Int) == 2) = true by decide), if_neg (show ¬ true = false by decide)]
   simp only [jn_def]
   rw [if_neg (show ¬ ((5 : Int) == 3) = true by decide), if_pos (show ((5 : Int) == 5) = true from rfl), M39_15, Option.bind_some, M39_N, Option.bind_some]
   cases decide (op < 1) || decide (op > 5)
   ·cases outN n <;> rfl
   ·rfl
 ·rfl
theorem nodeU_k5 {nm : List UInt8} {tx : List (List UInt8)} {op n : Int} {ks : List KRow} : nodeU (usesA 5) ⟨5, nm, tx, op, n, ks⟩ = nodeV ⟨5, nm, tx, op, n, ks⟩ := by
 have e5 : ks = [] ↔ ks.length = 0 := List.length_eq_zero_iff.symm
 rw [uses_5]
 simp only [nodeU, fm, nodeV, gt0, kid0]
 generalize outN n = c1
 by_cases a1 : nameB nm = true <;> by_cases a2 : 0 < tx.length <;> by_cases a3 : ks.length = 0 <;> by_cases a4 : op < 1 <;> by_cases a5 : 5 < op <;> cases c1 <;> simp [a1, a2, a3, a4, a5, e5, kid0]
theorem M68_k6 {F : Nat} {nm : List UInt8} {tx : List (List UInt8)} {op n : Int} {ks : List KRow} (hn : M37 F nm = some (nameB nm)) : M68 F ⟨6, nm, tx, op, n, ks⟩ = some (nodeV ⟨6, nm, tx, op, n, ks⟩) := by
 have e4 : tx = [] ↔ tx.length = 0 := List.length_eq_zero_iff.symm
 have e5 : ks = [] ↔ ks.length = 0 := List.length_eq_zero_iff.symm
 simp only [M68, M88, M39_18, M39_15, M39_N, jn_def, nodeV, gt0, gt50, kid1, hn]
 by_cases a1 : nm = [] <;> by_cases a2 : 0 < tx.length <;> by_cases a3 : op = 0 <;> by_cases a4 : n = 0 <;> by_cases a5 : ks.length = 1 <;> simp [a1, a2, a3, a4, a5, e4, e5]
theorem nodeU_k6 {nm : List UInt8} {tx : List (List UInt8)} {op n : Int} {ks : List KRow} : nodeU (usesA 6) ⟨6, nm, tx, op, n, ks⟩ = nodeV ⟨6, nm, tx, op, n, ks⟩ := by
 have e5 : ks = [] ↔ ks.length = 0 := List.length_eq_zero_iff.symm
 rw [uses_6]
 simp only [nodeU, fm, nodeV, gt0, kid1]
 by_cases a1 : nm = [] <;> by_cases a2 : 0 < tx.length <;> by_cases a3 : op = 0 <;> by_cases a4 : n = 0 <;> by_cases a5 : ks.length = 1 <;> simp [a1, a2, a3, a4, a5, e5, kid1]
theorem M68_k7 {F : Nat} {nm : List UInt8} {tx : List (List UInt8)} {op n : Int} {ks : List KRow} (hn : M37 F nm = some (nameB nm)) : M68 F ⟨7, nm, tx, op, n, ks⟩ = some (nodeV ⟨7, nm, tx, op, n, ks⟩) := by
 have e4 : tx = [] ↔ tx.length = 0 := List.length_eq_zero_iff.symm
 have e5 : ks = [] ↔ ks.length = 0 := List.length_eq_zero_iff.symm
 simp only [M68, M88, M39_18, M39_15, M39_N, jn_def, nodeV, gt0, gt50, kid0, ge2, hn]
 by_cases a1 : nm = [] <;> by_cases a2 : 0 < tx.length <;> by_cases a3 : op = 0 <;> by_cases a4 : n = 0 <;> by_cases a5 : 2 ≤ ks.length <;> simp [a1, a2, a3, a4, a5, e4, e5]
theorem nodeU_k7 {nm : List UInt8} {tx : List (List UInt8)} {op n : Int} {ks : List KRow} : nodeU (usesA 7) ⟨7, nm, tx, op, n, ks⟩ = nodeV ⟨7, nm, tx, op, n, ks⟩ := by
 have e5 : ks = [] ↔ ks.length = 0 := List.length_eq_zero_iff.symm
 rw [uses_7]
 simp only [nodeU, fm, nodeV, gt0, kid0, ge2]
 by_cases a1 : nm = [] <;> by_cases a2 : 0 < tx.length <;> by_cases a3 : op = 0 <;> by_cases a4 : n = 0 <;> by_cases a5 : 2 ≤ ks.length <;> simp [a1, a2, a3, a4, a5, e5, kid0, ge2]
theorem M68_k8 {F : Nat} {nm : List UInt8} {tx : List (List UInt8)} {op n : Int} {ks : List KRow} (hn : M37 F nm = some (nameB nm)) : M68 F ⟨8, nm, tx, op, n, ks⟩ = some (nodeV ⟨8, nm, tx, op, n, ks⟩) := by
 have e4 : tx = [] ↔ tx.length = 0 := List.length_eq_zero_iff.symm
 have e5 : ks = [] ↔ ks.length = 0 := List.length_eq_zero_iff.symm
 simp only [M68, M88, M39_18, M39_15, M39_N, jn_def, nodeV, gt0, gt50, kid0, ge2, hn]
 by_cases a1 : nm = [] <;> by_cases a2 : 0 < tx.length <;> by_cases a3 : op = 0 <;> by_cases a4 : n = 0 <;> by_cases a5 : 2 ≤ ks.length <;> simp [a1, a2, a3, a4, a5, e4, e5]
theorem nodeU_k8 {nm : List UInt8} {tx : List (List UInt8)} {op n : Int} {ks : List KRow} : nodeU (usesA 8) ⟨8, nm, tx, op, n, ks⟩ = nodeV ⟨8, nm, tx, op, n, ks⟩ := by
 have e5 : ks = [] ↔ ks.length = 0 := List.length_eq_zero_iff.symm
 rw [uses_8]
 simp only [nodeU, fm, nodeV, gt0, kid0, ge2]
 by_cases a1 : nm = [] <;> by_cases a2 : 0 < tx.length <;> by_cases a3 : op = 0 <;> by_cases a4 : n = 0 <;> by_cases a5 : 2 ≤ ks.length <;> simp [a1, a2, a3, a4, a5, e5, kid0, ge2]
theorem M68_eq (F : Nat) (x : TTest) (hx : okX x) : M68 F x = some (nodeV x) := by
 have h1 : ∀ k, _ := fun k => M68_L1_eq F x k hx
 have h2 : ∀ k, _ := fun k => M68_L2_eq F x k hx
 rw [show ((0 : Nat) : Int) = 0 from rfl] at h1 h2
 have hn := M37_eq F x.Name hx.1
 obtain ⟨kd, nm, tx, op, n, ks⟩ := x
 by_cases hk : kd < 1 ∨ 8 < kd
 ·have : (decide (kd < 1) || decide (kd > 8)) = true := by simp; omega
  simp only [M68, M88, M39_18, M39_15, M39_N, this, Option.bind_some, if_true, nodeV, if_pos hk]; rfl
 ·have hk' : kd = 1 ∨ kd = 2 ∨ kd = 3 ∨ kd = 4 ∨ kd = 5 ∨ kd = 6 ∨ kd = 7 ∨ kd = 8 := by omega
  rcases hk' with rfl | rfl | rfl | rfl | rfl | rfl | rfl | rfl
  ·exact M68_k1 hn
  ·exact M68_k2 hn h1
  ·exact M68_k3 hn h2
  ·exact M68_k4 hn
  ·exact M68_k5 hn
  ·exact M68_k6 hn
  ·exact M68_k7 hn
  ·exact M68_k8 hn
theorem nodeU_eq (x : TTest) (h : 1 ≤ x.Kind ∧ x.Kind ≤ 8) : nodeU (usesA x.Kind.toNat) x = nodeV x := by
 obtain ⟨kd, nm, tx, op, n, ks⟩ := x
 simp only at h
 have hk' : kd = 1 ∨ kd = 2 ∨ kd = 3 ∨ kd = 4 ∨ kd = 5 ∨ kd = 6 ∨ kd = 7 ∨ kd = 8 := by omega
 rcases hk' with rfl | rfl | rfl | rfl | rfl | rfl | rfl | rfl
 ·exact nodeU_k1
 ·exact nodeU_k2
 ·exact nodeU_k3
 ·exact nodeU_k4
 ·exact nodeU_k5
 ·exact nodeU_k6
 ·exact nodeU_k7
 ·exact nodeU_k8
theorem M41_B_eq (F : Nat) (R : TTest → Option Int) (x : TTest) (hx : okX x) : M41_B R F x = if (nodeV x != 0) = true then some (nodeV x) else M41_L1 R F (some 0) x.Kids := by
 by_cases h : 1 ≤ x.Kind ∧ x.Kind ≤ 8
 ·rw [M41_B_u F R x hx h, nodeU_eq x h]
 ·have h7 : nodeV x = 7 := by unfold nodeV; rw [if_pos (by omega)]
  rw [h7]
  unfold M41_B
  by_cases h1 : x.Kind < 1
  ·rw [if_pos (decide_eq_true h1)]; rfl
  ·rw [if_neg (by simp [h1]), if_pos (decide_eq_true (by omega))]; rfl
end Go.Proofs.YtkeeppclihjlhaaGreatDoor
namespace Go.Proofs.YtkeeppclihjlhaaGreatDoor
open Go Go.Pv
set_option linter.unusedVariables false
set_option linter.unusedSimpArgs false
set_option maxRecDepth 100000
mutual
theorem Tr.ind {P : Tr → Prop} (h : ∀ a b c d e ks, (∀ t, t ∈ ks → P t) → P (.mk a b c d e ks)) : ∀ t : Tr, P t
 | .mk a b c d e ks => h a b c d e ks (Tr.inds h ks)
theorem Tr.inds {P : Tr → Prop} (h : ∀ a b c d e ks, (∀ t, t ∈ ks → P t) → P (.mk a b c d e ks)) : ∀ (ks : List Tr) (t : Tr), t ∈ ks → P t
 | [], _, hu => absurd hu (by simp)
 | t :: r, u, hu => by
  rcases List.mem_cons.1 hu with e | hu
  ·rw [e]; exact Tr.ind h t
  ·exact Tr.inds h r u hu
end
noncomputable section
mutual
def Tr.fu : Tr → Nat
 | .mk a b c d e ks => c.length + ks.length + 2 + Tr.fus ks
def Tr.fus : List Tr → Nat
 | [] => 0
 | t :: r => t.fu + Tr.fus r
end
mutual
def Tr.cnt : Tr → Nat
 | .mk a b c d e ks => 1 + Tr.cnts ks
def Tr.cnts : List Tr → Nat
 | [] => 0
 | t :: r => t.cnt + Tr.cnts r
end
mutual
def Tr.dep : Tr → Nat
 | .mk a b c d e ks => 1 + Tr.deps ks
def Tr.deps : List Tr → Nat
 | [] => 0
 | t :: r => max t.dep (Tr.deps r)
end
mutual
def Tr.flt : Tr → Int
 | .mk a b c d e ks => if nodeV ⟨a, b, c, d, e, Tr.toKs ks⟩ = 0 then Tr.flts ks else nodeV ⟨a, b, c, d, e, Tr.toKs ks⟩
def Tr.flts : List Tr → Int
 | [] => 0
 | t :: r => if t.flt = 0 then Tr.flts r else t.flt
end
def Tr.toK (t : Tr) : KRow := ⟨encTTest t.toT, imms_encTTest _, one_encTTest _⟩
end
theorem Tr.dec (t : Tr) : kdec encTTest t.toK = some t.toT := kdec_toK t
theorem Tr.toKs_map : ∀ ks : List Tr, Tr.toKs ks = ks.map Tr.toK
 | [] => by simp [Tr.toKs]
 | t :: r => by rw [Tr.toKs, Tr.toKs_map r]; rfl
theorem idx_toKs {ks : List Tr} {n : Nat} (h : n < ks.length) : idx (Tr.toKs ks) (n : Int) = some (ks[n].toK) := by
 rw [Tr.toKs_map, idx_nat (by simpa using h)]; simp
theorem Tr.fu_mem : ∀ {ks : List Tr} {t : Tr}, t ∈ ks → t.fu ≤ Tr.fus ks
 | u :: r, t, h => by
  rw [Tr.fus]
  rcases List.mem_cons.1 h with e | h
  ·subst e; omega
  ·have := Tr.fu_mem h; omega
theorem Tr.oks_mem : ∀ {ks : List Tr} {t : Tr}, Tr.oks ks → t ∈ ks → t.ok
 | u :: r, t, ho, h => by
  rw [Tr.oks] at ho
  rcases List.mem_cons.1 h with e | h
  ·subst e; exact ho.1
  ·exact Tr.oks_mem ho.2 h
theorem maxLen_eq : maxLen = 9223372036854775807 := by decide
theorem Tr.okX {a b c d e ks} (h : (Tr.mk a b c d e ks).ok) : okX ⟨a, b, c, d, e, Tr.toKs ks⟩ := by
 rw [Tr.ok] at h
 exact ⟨h.2.1, h.2.2.1.1, h.2.2.1.2, by rw [show (Tr.toKs ks).length = ks.length from Tr.toKs_len ks]; exact h.2.2.2.2.2.2⟩
theorem Tr.okks {a b c d e ks} (h : (Tr.mk a b c d e ks).ok) : Tr.oks ks ∧ ks.length ≤ 9223372036854775807 := by
 rw [Tr.ok, maxLen_eq] at h
 exact ⟨h.2.2.2.2.2.1, h.2.2.2.2.2.2⟩
theorem Tr.cnt_mem : ∀ {ks : List Tr} {t : Tr}, t ∈ ks → t.cnt ≤ Tr.cnts ks
 | u :: r, t, h => by
  rw [Tr.cnts]
  rcases List.mem_cons.1 h with e | h
  ·subst e; omega
  ·have := Tr.cnt_mem h; omega
theorem cnt_pos (t : Tr) : 1 ≤ t.cnt := by cases t; rw [Tr.cnt]; omega
theorem len_cnts : ∀ ks : List Tr, ks.length ≤ Tr.cnts ks
 | [] => by simp [Tr.cnts]
 | t :: r => by rw [Tr.cnts]; have := len_cnts r; have := cnt_pos t; simp; omega
theorem deps_le : ∀ (ks : List Tr), (∀ t, t ∈ ks → t.dep ≤ t.cnt) → Tr.deps ks ≤ Tr.cnts ks
 | [], _ => by simp [Tr.deps]
 | t :: r, h => by
  rw [Tr.deps, Tr.cnts]
  have h1 := h t (by simp)
  have h2 := deps_le r fun u hu => h u (by simp [hu])
  omega
theorem dep_le : ∀ t : Tr, t.dep ≤ t.cnt := Tr.ind fun a b c d e ks ih => by rw [Tr.dep, Tr.cnt]; have := deps_le ks ih; omega
theorem M41_tr : ∀ t : Tr, t.ok → ∀ F, t.fu ≤ F → M41 F t.toT = some t.flt := Tr.ind fun a b c d e ks ih ok F hF => by
 rw [Tr.fu] at hF
 obtain ⟨F, rfl⟩ : ∃ G, F = G + 1 := ⟨F - 1, by omega⟩
 show M41_B (M41 F) F (Tr.mk a b c d e ks).toT = _
 rw [Tr.toT, M41_B_eq F _ _ (Tr.okX ok), Tr.flt]
 have hl : ∀ l : List Tr, (∀ t, t ∈ l → t ∈ ks) → M41_L1 (M41 F) F (some 0) (Tr.toKs l) = some (Tr.flts l) := by
  intro l
  induction l with
  | nil => intro _; simp only [Tr.toKs, M41_L1, Tr.flts]
  | cons t r ihr =>
   intro hm
   have ht := hm t (by simp)
   rw [Tr.toKs_map, List.map_cons, M41_L1, Tr.dec, Option.bind_some, ih t ht (Tr.oks_mem (Tr.okks ok).1 ht) F (by have := Tr.fu_mem ht; omega), Option.bind_some, ← Tr.toKs_map, ihr fun u hu => hm u (by simp [hu]), Tr.flts]
   by_cases h0 : t.flt = 0 <;> simp [h0]
 rw [hl ks fun _ h => h]
 by_cases h0 : nodeV ⟨a, b, c, d, e, Tr.toKs ks⟩ = 0
 ·simp [h0]
 ·rw [if_neg h0, if_pos (by simp [h0])]
theorem M44_tr : ∀ t : Tr, t.ok → ∀ F, t.fu ≤ F → M44 F t.toT = some t.flt := Tr.ind fun a b c d e ks ih ok F hF => by
 rw [Tr.fu] at hF
 obtain ⟨F, rfl⟩ : ∃ G, F = G + 1 := ⟨F - 1, by omega⟩
 show M44_B (M44 F) F (Tr.mk a b c d e ks).toT = _
 rw [Tr.toT, M44_B, M68_eq F _ (Tr.okX ok), Option.bind_some, Tr.flt, jn_def]
 have hk := (Tr.okks ok).2
 have hlen : (TTest.mk a b c d e (Tr.toKs ks)).Kids.length = ks.length := Tr.toKs_len ks
 rw [hlen, if_pos (show ((ks.length : Nat) : Int) ≤ 9223372036854775807 by omega), show (((ks.length : Nat) : Int)).toNat = ks.length by omega]
 have hl : ∀ m n : Nat, n + m = ks.length → M44_L1 (M44 F) F ⟨a, b, c, d, e, Tr.toKs ks⟩ (some 0) m (n : Int) = some (Tr.flts (ks.drop n)) := by
  intro m
  induction m with
  | zero => intro n h; rw [M44_L1, List.drop_eq_nil_of_le (by omega), Tr.flts]
  | succ m ihm =>
   intro n h
   have hn : n < ks.length := by omega
   have ht : ks[n] ∈ ks := List.getElem_mem _
   rw [M44_L1, idx_toKs hn, Option.bind_some, Tr.dec, Option.bind_some, ih _ ht (Tr.oks_mem (Tr.okks ok).1 ht) F (by have := Tr.fu_mem ht; omega), Option.bind_some, show ((n : Int) + 1) = ((n + 1 : Nat) : Int) from rfl, ihm (n + 1) (by omega), List.drop_eq_getElem_cons hn, Tr.flts]
   by_cases h0 : ks[n].flt = 0 <;> simp [h0]
 have := hl ks.length 0 (by omega)
 rw [show ((0 : Nat) : Int) = 0 from rfl, List.drop_zero] at this
 rw [this]
 by_cases h0 : nodeV ⟨a, b, c, d, e, Tr.toKs ks⟩ = 0
 ·simp [h0]
 ·rw [if_neg h0, if_pos (by simp [h0])]
theorem M42_tr : ∀ t : Tr, t.ok → ∀ F, t.fu ≤ F → ∀ most : Nat, most ≤ 60 → M42 F t.toT (most : Int) = some ((min t.cnt (most + 1) : Nat) : Int) := Tr.ind fun a b c d e ks ih ok F hF most hmost => by
 rw [Tr.fu] at hF
 obtain ⟨F, rfl⟩ : ∃ G, F = G + 1 := ⟨F - 1, by omega⟩
 show M42_B (M42 F) F (Tr.mk a b c d e ks).toT (most : Int) = _
 rw [Tr.toT, M42_B, jn_def, Tr.cnt]
 have hk := (Tr.okks ok).2
 have hl : ∀ fuel n j : Nat, ks.length < fuel + j → j ≤ ks.length → n ≤ most + 1 → M42_L1 (M42 F) F ⟨a, b, c, d, e, Tr.toKs ks⟩ (most : Int) (fun n4 => some n4) fuel (n : Int) (j : Int) = some ((min (n + Tr.cnts (ks.drop j)) (most + 1) : Nat) : Int) := by
  intro fuel
  induction fuel with
  | zero => intro n j h1 h2; omega
  | succ fuel ihf =>
   intro n j h1 h2 h3
   rw [M42_L1]
   have hlen : (TTest.mk a b c d e (Tr.toKs ks)).Kids.length = ks.length := Tr.toKs_len ks
   rw [hlen]
   by_cases hj : j < ks.length
   ·rw [if_pos (decide_eq_true (by omega))]
    by_cases hn : n ≤ most
    ·have ht : ks[j] ∈ ks := List.getElem_mem _
     rw [if_pos (decide_eq_true (by omega)), idx_toKs hj, Option.bind_some, Tr.dec, Option.bind_some, w64_id (by omega) (by omega), show ((most : Int) - (n : Int)) = ((most - n : Nat) : Int) by omega,
      ih _ ht (Tr.oks_mem (Tr.okks ok).1 ht) F (by have := Tr.fu_mem ht; omega) (most - n) (by omega), Option.bind_some, w64_id (by omega) (by omega), w64_id (by omega) (by omega)]
     have := ihf (n + min ks[j].cnt (most - n + 1)) (j + 1) (by omega) (by omega) (by omega)
     rw [show ((n : Int) + ((min ks[j].cnt (most - n + 1) : Nat) : Int)) = ((n + min ks[j].cnt (most - n + 1) : Nat) : Int) by omega, show ((j : Int) + 1) = ((j + 1 : Nat) : Int) from rfl, this, List.drop_eq_getElem_cons hj, Tr.cnts]
     congr 2
     omega
    ·rw [if_neg (by simp; omega)]
     have : n = most + 1 := by omega
     subst this
     congr 2
     omega
   ·rw [if_neg (by simp; omega), List.drop_eq_nil_of_le (by omega), Tr.cnts]
    congr 2
    omega
 have := hl F 1 0 (by omega) (by omega) (by omega)
 rw [List.drop_zero] at this
 exact this
theorem M43_tr : ∀ t : Tr, t.ok → ∀ F, t.fu ≤ F → t.cnt ≤ 60 → M43 F t.toT = some (t.dep : Int) := Tr.ind fun a b c d e ks ih ok F hF hc => by
 rw [Tr.fu] at hF
 rw [Tr.cnt] at hc
 obtain ⟨F, rfl⟩ : ∃ G, F = G + 1 := ⟨F - 1, by omega⟩
 show M43_B (M43 F) F (Tr.mk a b c d e ks).toT = _
 have hlen : (TTest.mk a b c d e (Tr.toKs ks)).Kids.length = ks.length := Tr.toKs_len ks
 have hk := (Tr.okks ok).2
 rw [Tr.toT, M43_B, jn_def, hlen, if_pos (by omega), show (((ks.length : Nat) : Int)).toNat = ks.length by omega, Tr.dep]
 have hl : ∀ m n q : Nat, n + m = ks.length → M43_L1 (M43 F) F ⟨a, b, c, d, e, Tr.toKs ks⟩ (fun n3 => some (w64 (n3 + 1))) m (n : Int) (q : Int) = some (w64 (((max q (Tr.deps (ks.drop n)) : Nat) : Int) + 1)) := by
  intro m
  induction m with
  | zero => intro n q h; rw [M43_L1, List.drop_eq_nil_of_le (by omega), Tr.deps, Nat.max_zero]
  | succ m ihm =>
   intro n q h
   have hn : n < ks.length := by omega
   have ht : ks[n] ∈ ks := List.getElem_mem _
   rw [M43_L1, idx_toKs hn, Option.bind_some, Tr.dec, Option.bind_some, ih _ ht (Tr.oks_mem (Tr.okks ok).1 ht) F (by have := Tr.fu_mem ht; omega) (by have := Tr.cnt_mem ht; omega), Option.bind_some]
   rw [show (if (ks[n].dep : Int) > (q : Int) then (ks[n].dep : Int) else (q : Int)) = ((max q ks[n].dep : Nat) : Int) by split <;> omega, show ((n : Int) + 1) = ((n + 1 : Nat) : Int) from rfl, ihm (n + 1) _ (by omega), List.drop_eq_getElem_cons hn, Tr.deps, Nat.max_assoc]
 have := hl ks.length 0 0 (by omega)
 rw [List.drop_zero] at this
 rw [show ((0 : Nat) : Int) = 0 from rfl] at this
 rw [this]
 have h1 := deps_le ks fun t _ => dep_le t
 rw [w64_id (by omega) (by omega)]
 congr 1
 omega
theorem M40_tr : ∀ t : Tr, t.ok → ∀ F, t.fu ≤ F → ∀ lvl : Int, 1 ≤ lvl → lvl ≤ 13 → ∃ a b : Int, M40 F t.toT lvl = some (a, b) ∧ 1 ≤ a ∧ a ≤ 61 ∧ lvl ≤ b ∧ b ≤ 13 ∧ (12 < b ↔ 12 < lvl + t.dep - 1) ∧ (b ≤ 12 → a = min (t.cnt : Int) 61) := Tr.ind fun a b c d e ks ih ok F hF lvl h1 h13 => by
 rw [Tr.fu] at hF
 obtain ⟨F, rfl⟩ : ∃ G, F = G + 1 := ⟨F - 1, by omega⟩
 show ∃ p q : Int, M40_B (M40 F) F (Tr.mk a b c d e ks).toT lvl = some (p, q) ∧ _
 rw [Tr.toT, M40_B, Tr.dep, Tr.cnt]
 by_cases hq : lvl > 12
 ·rw [if_pos (decide_eq_true hq)]
  exact ⟨1, lvl, rfl, by omega, by omega, by omega, by omega, by omega, by omega⟩
 ·rw [if_neg (by simpa using hq), jn_def]
  have hl : ∀ l : List Tr, (∀ t, t ∈ l → t ∈ ks) → ∀ n q : Int, 1 ≤ n → n ≤ 61 → lvl ≤ q → q ≤ 13 → ∃ p r : Int, M40_L1 (M40 F) F lvl (fun n5 n6 => some (n5, n6)) (Tr.toKs l) n q = some (p, r) ∧ 1 ≤ p ∧ p ≤ 61 ∧ lvl ≤ r ∧ r ≤ 13 ∧ (12 < r ↔ 12 < q ∨ 12 < lvl + Tr.deps l) ∧ (r ≤ 12 → p = min (n + (Tr.cnts l : Nat)) 61) := by
   intro l
   induction l with
   | nil =>
    intro _ n q g1 g2 g3 g4
    refine ⟨n, q, by simp only [Tr.toKs, M40_L1], g1, g2, g3, g4, ?_, ?_⟩
    ·rw [Tr.deps]; omega
    ·rw [Tr.cnts]; omega
   | cons t r ihr =>
    intro hm n q g1 g2 g3 g4
    have ht := hm t (by simp)
    obtain ⟨p', q', e1, e2, e3, e4, e5, e6, e7⟩ := ih t ht (Tr.oks_mem (Tr.okks ok).1 ht) F (by have := Tr.fu_mem ht; omega) (lvl + 1) (by omega) (by omega)
    rw [Tr.toKs_map, List.map_cons, M40_L1, Tr.dec, Option.bind_some, w64_id (by omega) (by omega), e1, Option.bind_some, ← Tr.toKs_map]
    dsimp only
    rw [w64_id (by omega) (by omega)]
    obtain ⟨p, s, f1, f2, f3, f4, f5, f6, f7⟩ := ihr (fun u hu => hm u (by simp [hu])) (if 61 < n + p' then 61 else n + p') (if q' > q then q' else q) (by split <;> omega) (by split <;> omega) (by split <;> omega) (by split <;> omega)
    refine ⟨p, s, f1, f2, f3, f4, f5, ?_, ?_⟩
    ·rw [f6, Tr.deps]
     split <;> omega
    ·intro hs
     have h7 := f7 hs
     have hq' : ¬ 12 < s := by omega
     rw [f6] at hq'
     have : q' ≤ 12 := by split at hq' <;> omega
     have h8 := e7 this
     rw [h7, Tr.cnts]
     split <;> omega
  obtain ⟨p, r, e1, e2, e3, e4, e5, e6, e7⟩ := hl ks (fun _ h => h) 1 lvl (by omega) (by omega) (by omega) (by omega)
  refine ⟨p, r, e1, e2, e3, e4, e5, ?_, ?_⟩
  ·rw [e6]; omega
  ·intro h; rw [e7 h]; omega
noncomputable def vT (t : Tr) : Int := if 60 < t.cnt ∨ 12 < t.dep then 3 else t.flt
theorem M12_tr (t : Tr) (ok : t.ok) (F : Nat) (hF : t.fu ≤ F) : M12 F t.toT = some (vT t) := by
 obtain ⟨a, b, e1, e2, e3, e4, e5, e6, e7⟩ := M40_tr t ok F hF 1 (by omega) (by omega)
 unfold M12
 rw [e1, Option.bind_some]
 dsimp only
 unfold vT
 by_cases hb : 12 < b
 ·have hd := e6.1 hb
  rw [if_pos (show 60 < t.cnt ∨ 12 < t.dep by omega), if_pos (show decide (b > 12) = true from decide_eq_true (by omega))]
  by_cases ha : a > 60 <;> simp [ha]
 ·have h7 := e7 (by omega)
  have hd : ¬ (12 < t.dep) := fun h => hb (e6.2 (by omega))
  by_cases hc : 60 < t.cnt
  ·rw [if_pos (decide_eq_true (by omega)), if_pos (Or.inl hc)]
  ·rw [if_neg (by simp; omega), if_neg (by simp; omega), if_neg (by omega), M41_tr t ok F hF]; rfl
theorem M13_tr (t : Tr) (ok : t.ok) (F : Nat) (hF : t.fu ≤ F) : M13 F t.toT = some (vT t) := by
 have h := M42_tr t ok F hF 60 (by omega)
 rw [show ((60 : Nat) : Int) = 60 from rfl] at h
 unfold M13 vT
 rw [h, Option.bind_some]
 by_cases hc : 60 < t.cnt
 ·rw [if_pos (decide_eq_true (by omega)), if_pos (Or.inl hc)]
 ·rw [if_neg (by simp; omega), M43_tr t ok F hF (by omega), Option.bind_some]
  by_cases hd : 12 < t.dep
  ·rw [if_pos (decide_eq_true (by omega)), if_pos (Or.inr hd)]
  ·rw [if_neg (by simp; omega), if_neg (by omega), M44_tr t ok F hF]; rfl
end Go.Proofs.YtkeeppclihjlhaaGreatDoor
namespace Go.Proofs.YtkeeppclihjlhaaGreatDoor
open Go Go.Pv
set_option linter.unusedVariables false
set_option linter.unusedSimpArgs false
set_option maxRecDepth 100000
def okTFact' (f : TFact) : Prop := okS f.Kind ∧ okS f.Subject ∧ (∀ p, p ∈ f.Texts → okS p.Name ∧ okS p.Value) ∧ f.Texts.length ≤ maxLen ∧ (∀ p, p ∈ f.Numbers → okS p.Name) ∧ f.Numbers.length ≤ maxLen
def leN (a b : List UInt8) : Bool := Op.bytesLess a b || a == b
def tcF (a : List TPair) : List TPair → Nat → Int
 | [], _ => 0
 | x :: l, n => if nameB x.Name = false then 8 else if valB x.Value = false then 2 else if (decide (0 < n) && leN x.Name (a.getD (n - 1) ⟨[], []⟩).Name) = true then 10 else tcF a l (n + 1)
def ncF (a : List TAmount) : List TAmount → Nat → Int
 | [], _ => 0
 | x :: l, n => if nameB x.Name = false then 8 else if outN x.N = true then 9 else if (decide (0 < n) && leN x.Name (a.getD (n - 1) ⟨[], 0⟩).Name) = true then 10 else ncF a l (n + 1)
theorem drop_cons {α : Type} {a : List α} {x : α} {l : List α} {n : Nat} (h : a.drop n = x :: l) : n < a.length ∧ idx a (n : Int) = some x ∧ x ∈ a ∧ a.drop (n + 1) = l := by
 have hn : n < a.length := by
  rcases Nat.lt_or_ge n a.length with h2 | h2
  ·exact h2
  ·rw [List.drop_eq_nil_of_le h2] at h; cases h
 rw [List.drop_eq_getElem_cons hn] at h
 injection h with hx hd
 exact ⟨hn, by rw [idx_nat hn, hx], hx ▸ List.getElem_mem _, hd⟩
theorem M10_L1_eq (F : Nat) (f : TFact) (hf : okTFact' f) (k : Option Int) : ∀ (l : List TPair) (n : Nat), f.Texts.drop n = l → M10_L1 F f k l (n : Int) = if tcF f.Texts l n = 0 then k else some (tcF f.Texts l n)
 | [], n, _ => by simp [M10_L1, tcF]
 | x :: l, n, h => by
  obtain ⟨hn, hi, hm, hd⟩ := drop_cons h
  have hx := hf.2.2.1 x hm
  rw [M10_L1, M34_eq F _ hx.1, Option.bind_some, jn_def, show ((n : Int) + 1) = ((n + 1 : Nat) : Int) from rfl, M10_L1_eq F f hf k l (n + 1) hd, M35_eq F _ hx.2, tcF]
  cases nameB x.Name
  ·simp
  ·simp only [Bool.not_true, Bool.false_eq_true, if_false, Option.bind_some]
   cases valB x.Value
   ·simp
   ·simp only [Bool.not_true, Bool.false_eq_true, if_false]
    by_cases h0 : 0 < n
    ·rw [if_pos (decide_eq_true (by omega)), idx_prev (d := ⟨[], []⟩) h0 (by omega) hf.2.2.2.1, Option.bind_some, decide_eq_true h0]
     simp only [Bool.true_and, leN]
     cases (Op.bytesLess x.Name (f.Texts.getD (n - 1) ⟨[], []⟩).Name || x.Name == (f.Texts.getD (n - 1) ⟨[], []⟩).Name) <;> simp
    ·rw [if_neg (by simp; omega), decide_eq_false h0]; simp
theorem M11_L1_eq (F : Nat) (f : TFact) (hf : okTFact' f) (k : Option Int) : ∀ (l : List TPair) (n : Nat), f.Texts.drop n = l → M11_L1 F f k l (n : Int) = if tcF f.Texts l n = 0 then k else some (tcF f.Texts l n)
 | [], n, _ => by simp [M11_L1, tcF]
 | x :: l, n, h => by
  obtain ⟨hn, hi, hm, hd⟩ := drop_cons h
  have hx := hf.2.2.1 x hm
  rw [M11_L1, M37_eq F _ hx.1, Option.bind_some, jn_def, show ((n : Int) + 1) = ((n + 1 : Nat) : Int) from rfl, M11_L1_eq F f hf k l (n + 1) hd, hi, Option.bind_some, M38_eq F _ hx.2, tcF]
  cases nameB x.Name
  ·simp
  ·simp only [Bool.not_true, Bool.false_eq_true, if_false, Option.bind_some]
   cases valB x.Value
   ·simp
   ·simp only [Bool.not_true, Bool.false_eq_true, if_false]
    by_cases h0 : 0 < n
    ·rw [if_pos (decide_eq_true (by omega)), idx_prev (d := ⟨[], []⟩) h0 (by omega) hf.2.2.2.1, Option.bind_some, decide_eq_true h0]
     simp only [Bool.true_and, leN]
     cases (Op.bytesLess x.Name (f.Texts.getD (n - 1) ⟨[], []⟩).Name || x.Name == (f.Texts.getD (n - 1) ⟨[], []⟩).Name) <;> simp
    ·rw [if_neg (by simp; omega), decide_eq_false h0]; simp
theorem M10_L2_eq (F : Nat) (f : TFact) (hf : okTFact' f) (k : Option Int) : ∀ (l : List TAmount) (n : Nat), f.Numbers.drop n = l → M10_L2 F f k l (n : Int) = if ncF f.Numbers l n = 0 then k else some (ncF f.Numbers l n)
 | [], n, _ => by simp [M10_L2, ncF]
 | x :: l, n, h => by
  obtain ⟨hn, hi, hm, hd⟩ := drop_cons h
  have hx := hf.2.2.2.2.1 x hm
  rw [M10_L2, M34_eq F _ hx, Option.bind_some, jn_def, show ((n : Int) + 1) = ((n + 1 : Nat) : Int) from rfl, M10_L2_eq F f hf k l (n + 1) hd, M36_N, ncF]
  cases nameB x.Name
  ·simp
  ·simp only [Bool.not_true, Bool.false_eq_true, if_false, Option.bind_some]
   cases outN x.N
   ·simp only [Bool.not_true, Bool.not_false, Bool.false_eq_true, if_false]
    by_cases h0 : 0 < n
    ·rw [if_pos (decide_eq_true (by omega)), idx_prev (d := ⟨[], 0⟩) h0 (by omega) hf.2.2.2.2.2, Option.bind_some, decide_eq_true h0]
     simp only [Bool.true_and, leN]
     cases (Op.bytesLess x.Name (f.Numbers.getD (n - 1) ⟨[], 0⟩).Name || x.Name == (f.Numbers.getD (n - 1) ⟨[], 0⟩).Name) <;> simp
    ·rw [if_neg (by simp; omega), decide_eq_false h0]; simp
   ·simp
theorem M11_L2_eq (F : Nat) (f : TFact) (hf : okTFact' f) (k : Option Int) : ∀ (l : List TAmount) (n : Nat), f.Numbers.drop n = l → M11_L2 F f k l (n : Int) = if ncF f.Numbers l n = 0 then k else some (ncF f.Numbers l n)
 | [], n, _ => by simp [M11_L2, ncF]
 | x :: l, n, h => by
  obtain ⟨hn, hi, hm, hd⟩ := drop_cons h
  have hx := hf.2.2.2.2.1 x hm
  rw [M11_L2, M37_eq F _ hx, Option.bind_some, jn_def, show ((n : Int) + 1) = ((n + 1 : Nat) : Int) from rfl, M11_L2_eq F f hf k l (n + 1) hd, hi, Option.bind_some, M39_N, ncF]
  cases nameB x.Name
  ·simp
  ·simp only [Bool.not_true, Bool.false_eq_true, if_false, Option.bind_some]
   cases outN x.N
   ·simp only [Bool.not_true, Bool.not_false, Bool.false_eq_true, if_false]
    by_cases h0 : 0 < n
    ·rw [if_pos (decide_eq_true (by omega)), idx_prev (d := ⟨[], 0⟩) h0 (by omega) hf.2.2.2.2.2, Option.bind_some, decide_eq_true h0]
     simp only [Bool.true_and, leN]
     cases (Op.bytesLess x.Name (f.Numbers.getD (n - 1) ⟨[], 0⟩).Name || x.Name == (f.Numbers.getD (n - 1) ⟨[], 0⟩).Name) <;> simp
    ·rw [if_neg (by simp; omega), decide_eq_false h0]; simp
   ·simp
def vF (f : TFact) : Int := if nameB f.Kind = false then 8 else if valB f.Subject = false then 2 else if 30 < f.Texts.length then 3 else if tcF f.Texts f.Texts 0 = 0 then (if 30 < f.Numbers.length then 3 else ncF f.Numbers f.Numbers 0) else tcF f.Texts f.Texts 0
theorem M10_eq (F : Nat) (f : TFact) (hf : okTFact' f) : M10 F f = some (vF f) := by
 unfold M10 vF
 have h1 := fun k => M10_L1_eq F f hf k f.Texts 0 rfl
 have h2 := M10_L2_eq F f hf (some 0) f.Numbers 0 rfl
 rw [show ((0 : Nat) : Int) = 0 from rfl] at h1 h2
 rw [M34_eq F _ hf.1, M35_eq F _ hf.2.1]
 simp only [jn_def, h1, h2, Option.bind_some, show decide (((f.Texts.length : Nat) : Int) > 30) = decide (30 < f.Texts.length) from decide_eq_decide.2 (by omega), show decide (((f.Numbers.length : Nat) : Int) > 30) = decide (30 < f.Numbers.length) from decide_eq_decide.2 (by omega)]
 by_cases a1 : nameB f.Kind = true <;> by_cases a2 : valB f.Subject = true <;> by_cases a3 : 30 < f.Texts.length <;> by_cases a4 : tcF f.Texts f.Texts 0 = 0 <;> by_cases a5 : 30 < f.Numbers.length <;> by_cases a6 : ncF f.Numbers f.Numbers 0 = 0 <;> simp [a1, a2, a3, a4, a5, a6]
theorem M11_eq (F : Nat) (f : TFact) (hf : okTFact' f) : M11 F f = some (vF f) := by
 unfold M11 vF
 have h1 := fun k => M11_L1_eq F f hf k f.Texts 0 rfl
 have h2 := M11_L2_eq F f hf (some 0) f.Numbers 0 rfl
 rw [show ((0 : Nat) : Int) = 0 from rfl] at h1 h2
 rw [M37_eq F _ hf.1, M38_eq F _ hf.2.1]
 simp only [jn_def, h1, h2, Option.bind_some, show decide (((f.Texts.length : Nat) : Int) > 30) = decide (30 < f.Texts.length) from decide_eq_decide.2 (by omega), show decide (((f.Numbers.length : Nat) : Int) > 30) = decide (30 < f.Numbers.length) from decide_eq_decide.2 (by omega)]
 by_cases a1 : nameB f.Kind = true <;> by_cases a2 : valB f.Subject = true <;> by_cases a3 : 30 < f.Texts.length <;> by_cases a4 : tcF f.Texts f.Texts 0 = 0 <;> by_cases a5 : 30 < f.Numbers.length <;> by_cases a6 : ncF f.Numbers f.Numbers 0 = 0 <;> simp [a1, a2, a3, a4, a5, a6]
def fT (nm : List UInt8) : List TPair → Bool × List UInt8 → Bool × List UInt8
 | [], p => p
 | x :: l, p => if (x.Name == nm) = true then fT nm l (true, x.Value) else fT nm l p
def fN (nm : List UInt8) : List TAmount → Bool × Int → Bool × Int
 | [], p => p
 | x :: l, p => if (x.Name == nm) = true then fN nm l (true, x.N) else fN nm l p
def fld (f : TFact) (nm : List UInt8) : Tprovenderref9_field := ⟨(fT nm f.Texts (false, [])).1, (fN nm f.Numbers (false, 0)).1, (fT nm f.Texts (false, [])).2, (fN nm f.Numbers (false, 0)).2⟩
theorem M61_L1_eq (F : Nat) (f : TFact) (nm : List UInt8) (k : Bool → List UInt8 → Option Tprovenderref9_field) : ∀ (m n : Nat) (b : Bool) (s : List UInt8), n + m = f.Texts.length → M61_L1 F f nm k m (n : Int) b s = k (fT nm (f.Texts.drop n) (b, s)).1 (fT nm (f.Texts.drop n) (b, s)).2
 | 0, n, b, s, h => by rw [M61_L1, List.drop_eq_nil_of_le (by omega), fT]
 | m + 1, n, b, s, h => by
  have hn : n < f.Texts.length := by omega
  rw [M61_L1, idx_nat hn, Option.bind_some, jn_def, List.drop_eq_getElem_cons hn, fT]
  by_cases h0 : (f.Texts[n].Name == nm) = true
  ·rw [if_pos h0, if_pos h0, Option.bind_some]
   exact M61_L1_eq F f nm k m (n + 1) true _ (by omega)
  ·rw [if_neg h0, if_neg h0]
   exact M61_L1_eq F f nm k m (n + 1) b s (by omega)
theorem M61_L2_eq (F : Nat) (f : TFact) (nm : List UInt8) (k : Bool → Int → Option Tprovenderref9_field) : ∀ (m n : Nat) (b : Bool) (s : Int), n + m = f.Numbers.length → M61_L2 F f nm k m (n : Int) b s = k (fN nm (f.Numbers.drop n) (b, s)).1 (fN nm (f.Numbers.drop n) (b, s)).2
 | 0, n, b, s, h => by rw [M61_L2, List.drop_eq_nil_of_le (by omega), fN]
 | m + 1, n, b, s, h => by
  have hn : n < f.Numbers.length := by omega
  rw [M61_L2, idx_nat hn, Option.bind_some, jn_def, List.drop_eq_getElem_cons hn, fN]
  by_cases h0 : (f.Numbers[n].Name == nm) = true
  ·rw [if_pos h0, if_pos h0, Option.bind_some]
   exact M61_L2_eq F f nm k m (n + 1) true _ (by omega)
  ·rw [if_neg h0, if_neg h0]
   exact M61_L2_eq F f nm k m (n + 1) b s (by omega)
theorem M61_eq (F : Nat) (f : TFact) (nm : List UInt8) (hf : okTFact' f) : M61 F f nm = some (fld f nm) := by
 have h1 := hf.2.2.2.1; have h2 := hf.2.2.2.2.2
 rw [maxLen_eq] at h1 h2
 unfold M61
 simp only [jn_def]
 rw [if_pos (by omega), show (((f.Texts.length : Nat) : Int)).toNat = f.Texts.length by omega, show (((f.Numbers.length : Nat) : Int)).toNat = f.Numbers.length by omega]
 have e1 := fun k => M61_L1_eq F f nm k f.Texts.length 0 false [] (by omega)
 have e2 := fun k => M61_L2_eq F f nm k f.Numbers.length 0 false 0 (by omega)
 simp only [show ((0 : Nat) : Int) = 0 from rfl, List.drop_zero] at e1 e2
 rw [e1, if_pos (by omega), e2]
 rfl
def zV : Tpolicy_value := ⟨false, false, [], 0⟩
def gV (m : List (List UInt8 × Tpolicy_value)) (nm : List UInt8) : Tpolicy_value := (mget m nm).getD zV
def vlT : List TPair → List (List UInt8 × Tpolicy_value) → List (List UInt8 × Tpolicy_value)
 | [], m => m
 | x :: l, m => vlT l (mput m x.Name ⟨true, (gV m x.Name).hasNumber, x.Value, (gV m x.Name).number⟩)
def vlN : List TAmount → List (List UInt8 × Tpolicy_value) → List (List UInt8 × Tpolicy_value)
 | [], m => m
 | x :: l, m => vlN l (mput m x.Name ⟨(gV m x.Name).hasText, true, (gV m x.Name).text, x.N⟩)
def vals (f : TFact) : Tpolicy_values := ⟨vlN f.Numbers (vlT f.Texts []), ()⟩
theorem gV_put (m : List (List UInt8 × Tpolicy_value)) (k nm : List UInt8) (v : Tpolicy_value) : gV (mput m k v) nm = if k = nm then v else gV m nm := by
 unfold gV; rw [mget_mput]; split <;> rfl
theorem vlT_get (nm : List UInt8) : ∀ (l : List TPair) (m : List (List UInt8 × Tpolicy_value)), gV (vlT l m) nm = ⟨(fT nm l ((gV m nm).hasText, (gV m nm).text)).1, (gV m nm).hasNumber, (fT nm l ((gV m nm).hasText, (gV m nm).text)).2, (gV m nm).number⟩
 | [], m => by rw [vlT, fT]
 | x :: l, m => by
  rw [vlT, vlT_get nm l, gV_put, fT]
  by_cases h : x.Name = nm
  ·subst h; rw [if_pos rfl, if_pos (by simp)]
  ·rw [if_neg h, if_neg (by simp [h])]
theorem vlN_get (nm : List UInt8) : ∀ (l : List TAmount) (m : List (List UInt8 × Tpolicy_value)), gV (vlN l m) nm = ⟨(gV m nm).hasText, (fN nm l ((gV m nm).hasNumber, (gV m nm).number)).1, (gV m nm).text, (fN nm l ((gV m nm).hasNumber, (gV m nm).number)).2⟩
 | [], m => by rw [vlN, fN]
 | x :: l, m => by
  rw [vlN, vlN_get nm l, gV_put, fN]
  by_cases h : x.Name = nm
  ·subst h; rw [if_pos rfl, if_pos (by simp)]
  ·rw [if_neg h, if_neg (by simp [h])]
theorem vals_get (f : TFact) (nm : List UInt8) : gV (vals f).by_ nm = ⟨(fld f nm).isText, (fld f nm).isNumber, (fld f nm).text, (fld f nm).number⟩ := by
 unfold vals fld
 dsimp only
 rw [vlN_get, vlT_get]
 rfl
theorem M32_L1_eq (F : Nat) (k : List (List UInt8 × Tpolicy_value) → Option Tpolicy_values) : ∀ (l : List TPair) m, M32_L1 F k l m = k (vlT l m)
 | [], m => rfl
 | x :: l, m => by rw [M32_L1, M32_L1_eq F k l]; rfl
theorem M32_L2_eq (F : Nat) (k : List (List UInt8 × Tpolicy_value) → Option Tpolicy_values) : ∀ (l : List TAmount) m, M32_L2 F k l m = k (vlN l m)
 | [], m => rfl
 | x :: l, m => by rw [M32_L2, M32_L2_eq F k l]; rfl
theorem M32_eq (F : Nat) (f : TFact) : M32 F f = some (vals f) := by
 unfold M32
 simp only [jn_def, M32_L1_eq, M32_L2_eq]
 rfl
end Go.Proofs.YtkeeppclihjlhaaGreatDoor
namespace Go.Proofs.YtkeeppclihjlhaaGreatDoor
open Go Go.Pv
set_option linter.unusedVariables false
set_option linter.unusedSimpArgs false
set_option maxRecDepth 100000
noncomputable section
mutual
def Tr.cd : Tr → KV
 | .mk k nm tx op n ks =>
  if k = 2 then mkK 105 encTpolicy_condIs ⟨nm, tx⟩ else if k = 3 then mkK 106 encTpolicy_condBegins ⟨nm, tx⟩ else if k = 4 then mkK 108 encTpolicy_condHas ⟨nm⟩
  else if k = 5 then mkK 110 encTpolicy_condNumber ⟨nm, op, n⟩ else if k = 6 then mkK 112 encTpolicy_condNot ⟨(Tr.cds ks).headD ⟨0, .con (.bool true)⟩⟩ else if k = 7 then mkK 114 encTpolicy_condAll ⟨Tr.cds ks⟩
  else if k = 8 then mkK 115 encTpolicy_condAny ⟨Tr.cds ks⟩ else mkK 117 encTpolicy_condTrue ⟨⟩
def Tr.cds : List Tr → List KV
 | [] => []
 | t :: r => t.cd :: Tr.cds r
end
end
theorem flts_mem : ∀ {ks : List Tr} {t : Tr}, Tr.flts ks = 0 → t ∈ ks → t.flt = 0
 | u :: r, t, h, hm => by
  rw [Tr.flts] at h
  by_cases h0 : u.flt = 0
  ·rw [if_pos h0] at h
   rcases List.mem_cons.1 hm with e | hm
   ·rw [e]; exact h0
   ·exact flts_mem h hm
  ·rw [if_neg h0] at h; exact absurd h h0
theorem flt_zero {a b c d e ks} (h : (Tr.mk a b c d e ks).flt = 0) : nodeV ⟨a, b, c, d, e, Tr.toKs ks⟩ = 0 ∧ Tr.flts ks = 0 := by
 rw [Tr.flt] at h
 by_cases h0 : nodeV ⟨a, b, c, d, e, Tr.toKs ks⟩ = 0
 ·rw [if_pos h0] at h; exact ⟨h0, h⟩
 ·rw [if_neg h0] at h; exact absurd h h0
theorem node_kind {x : TTest} (h : nodeV x = 0) : 1 ≤ x.Kind ∧ x.Kind ≤ 8 := by
 unfold nodeV at h
 by_cases hk : x.Kind < 1 ∨ 8 < x.Kind
 ·rw [if_pos hk] at h; cases h
 ·omega
theorem node_not {x : TTest} (h : nodeV x = 0) (h6 : x.Kind = 6) : x.Kids.length = 1 := by
 unfold nodeV at h
 rw [if_neg (by omega)] at h
 by_cases h1 : x.Kids.length = 1
 ·exact h1
 ·have : (x.Kids.length == 1) = false := beq_false_of_ne h1
  rw [if_pos h6, this] at h
  simp at h
theorem M31_tr : ∀ t : Tr, t.ok → t.flt = 0 → t.cnt ≤ 60 → ∀ F, t.fu ≤ F → M31 F t.toT = some t.cd := Tr.ind fun k nm tx op n ks ih ok hz hc F hF => by
 rw [Tr.fu] at hF
 rw [Tr.cnt] at hc
 obtain ⟨hnode, hfl⟩ := flt_zero hz
 obtain ⟨F, rfl⟩ : ∃ G, F = G + 1 := ⟨F - 1, by omega⟩
 show M31_B (M31 F) F (Tr.mk k nm tx op n ks).toT = _
 have hl : ∀ (kk : List KV → Option KV) (l : List Tr), (∀ t, t ∈ l → t ∈ ks) → ∀ acc : List KV, acc.length + l.length ≤ 60 → M31_L1 (M31 F) F kk (Tr.toKs l) acc = kk (acc ++ Tr.cds l) := by
  intro kk l
  induction l with
  | nil => intro _ acc _; simp only [Tr.toKs, M31_L1, Tr.cds, List.append_nil]
  | cons t r ihr =>
   intro hm acc hlen
   simp only [List.length_cons] at hlen
   have ht := hm t (by simp)
   rw [Tr.toKs_map, List.map_cons, M31_L1, Tr.dec, Option.bind_some, ih t ht (Tr.oks_mem (Tr.okks ok).1 ht) (flts_mem hfl ht) (by have := Tr.cnt_mem ht; omega) F (by have := Tr.fu_mem ht; omega), Option.bind_some, ← Tr.toKs_map,
    if_pos (by simp; omega), ihr (fun u hu => hm u (by simp [hu])) _ (by simp; omega), Tr.cds]
   simp
 have hlen := len_cnts ks
 rw [Tr.toT, M31_B, jn_def, hl _ ks (fun _ h => h) [] (by simp; omega), Tr.cd, List.nil_append]
 dsimp only
 have b1 : ∀ q : Int, ((k == q) = true) ↔ k = q := fun q => beq_iff_eq
 simp only [b1]
 by_cases h2 : k = 2
 ·rw [if_pos h2, if_pos h2]
 rw [if_neg h2, if_neg h2]
 by_cases h2 : k = 3
 ·rw [if_pos h2, if_pos h2]
 rw [if_neg h2, if_neg h2]
 by_cases h2 : k = 4
 ·rw [if_pos h2, if_pos h2]
 rw [if_neg h2, if_neg h2]
 by_cases h2 : k = 5
 ·rw [if_pos h2, if_pos h2]
 rw [if_neg h2, if_neg h2]
 by_cases h2 : k = 6
 ·rw [if_pos h2, if_pos h2]
  have h1 : ks.length = 1 := by rw [← node_not hnode h2]; exact (Tr.toKs_len ks).symm
  match ks, h1 with
  | [t], _ => simp only [Tr.cds]; rfl
 rw [if_neg h2, if_neg h2]
 by_cases h2 : k = 7
 ·rw [if_pos h2, if_pos h2]
 rw [if_neg h2, if_neg h2]
 by_cases h2 : k = 8
 ·rw [if_pos h2, if_pos h2]
 rw [if_neg h2, if_neg h2]
def beg (s w : List UInt8) : Bool := decide (w.length ≤ s.length) && (s.take w.length == w)
def cmpO (a op b : Int) : Bool := if op = 1 then decide (a < b) else if op = 2 then decide (a ≤ b) else if op = 3 then a == b else if op = 4 then decide (a ≥ b) else decide (a > b)
def txT (k : Int) (s : List UInt8) (l : List (List UInt8)) : Bool := l.any fun w => w == s || (k == 3) && beg s w
def oneB (k op n : Int) (tx : List (List UInt8)) (x : Tprovenderref9_field) : Bool := if k = 4 then x.isText || x.isNumber else if k = 5 then x.isNumber && cmpO x.number op n else x.isText && txT k x.text tx
noncomputable section
mutual
def Tr.tru (f : TFact) : Tr → Bool
 | .mk k nm tx op n ks => if k = 1 then true else if k = 6 then !(Tr.allT f ks) else if k = 7 then Tr.allT f ks else if k = 8 then Tr.anyT f ks else oneB k op n tx (fld f nm)
def Tr.allT (f : TFact) : List Tr → Bool
 | [] => true
 | t :: r => Tr.tru f t && Tr.allT f r
def Tr.anyT (f : TFact) : List Tr → Bool
 | [] => false
 | t :: r => Tr.tru f t || Tr.anyT f r
end
end
theorem M86_eq (F : Nat) (op a b : Int) : M86 F op a b = some (cmpO a op b) := by
 unfold M86 cmpO
 simp only [beq_iff_eq]
 repeat (split; · rfl)
 rfl
theorem M187_eq (F : Nat) (a op b : Int) : M187 F a op b = some (cmpO a op b) := by
 unfold M187 cmpO
 simp only [beq_iff_eq]
 repeat (split; · rfl)
 rfl
theorem M87_eq (F : Nat) (s w : List UInt8) : M87 F s w = some (beg s w) := by
 unfold M87 beg
 by_cases h : w.length ≤ s.length
 ·rw [if_pos (decide_eq_true (by omega)), if_pos ⟨by omega, by omega⟩, decide_eq_true h, show ((w.length : Int)).toNat = w.length by omega]; rfl
 ·rw [if_neg (by simp; omega), decide_eq_false h]; rfl
theorem M114_eq (F : Nat) (s w : List UInt8) : M114 F s w = some (beg s w) := M87_eq F s w
theorem M93_eq (F : Nat) (s w : List UInt8) : M93 F s w = some (beg s w) := by unfold M93; rw [M114_eq]; rfl
theorem M60_L1_eq (F : Nat) (x : TTest) (v : Tprovenderref9_field) (hl : x.Texts.length ≤ 9223372036854775807) (hv : v.isText = true) : ∀ (fuel j : Nat), x.Texts.length < fuel + j → j ≤ x.Texts.length → M60_L1 F x v (some false) fuel (j : Int) = some (txT x.Kind v.text (x.Texts.drop j))
 | 0, j, h1, h2 => by omega
 | fuel + 1, j, h1, h2 => by
  rw [M60_L1]
  by_cases hj : j < x.Texts.length
  ·rw [if_pos (decide_eq_true (by omega)), if_pos hv, jn_def, idx_nat hj, Option.bind_some]
   dsimp only
   rw [w64_id (by omega) (by omega), show ((j : Int) + 1) = ((j + 1 : Nat) : Int) from rfl, M60_L1_eq F x v hl hv fuel (j + 1) (by omega) (by omega), List.drop_eq_getElem_cons hj]
   simp only [txT, List.any_cons, Option.bind_some, M87_eq]
   cases h3 : (x.Texts[j] == v.text)
   ·cases h4 : (x.Kind == 3)
    ·simp
    ·cases h5 : beg v.text x.Texts[j] <;> simp
   ·simp
  ·rw [if_neg (by simp; omega), List.drop_eq_nil_of_le (by omega)]; rfl
theorem M60_eq (F : Nat) (x : TTest) (v : Tprovenderref9_field) (hl : x.Texts.length ≤ 9223372036854775807) (hF : x.Texts.length < F) : M60 F x v = some (oneB x.Kind x.Op x.N x.Texts v) := by
 unfold M60 oneB
 simp only [beq_iff_eq]
 by_cases h4 : x.Kind = 4
 ·rw [if_pos h4, if_pos h4]; cases v.isText <;> rfl
 ·rw [if_neg h4, if_neg h4]
  by_cases h5 : x.Kind = 5
  ·rw [if_pos h5, if_pos h5, M86_eq]; cases v.isNumber <;> rfl
  ·rw [if_neg h5, if_neg h5, jn_def]
   cases hv : v.isText
   ·obtain ⟨G, rfl⟩ : ∃ G, F = G + 1 := ⟨F - 1, by omega⟩
    rw [M60_L1, hv]
    simp
   ·have := M60_L1_eq F x v hl hv F 0 (by omega) (by omega)
    rw [show ((0 : Nat) : Int) = 0 from rfl, List.drop_zero] at this
    rw [this]; rfl
theorem M33_tr (f : TFact) (hf : okTFact' f) : ∀ t : Tr, t.ok → t.flt = 0 → ∀ F, t.fu ≤ F → M33 F t.toT f = some (t.tru f) := Tr.ind fun k nm tx op n ks ih ok hz F hF => by
 rw [Tr.fu] at hF
 obtain ⟨hnode, hfl⟩ := flt_zero hz
 have hx := Tr.okX ok
 obtain ⟨F, rfl⟩ : ∃ G, F = G + 1 := ⟨F - 1, by omega⟩
 show M33_B (M33 F) F (Tr.mk k nm tx op n ks).toT f = _
 have hk := (Tr.okks ok).2
 have hkid : ∀ t, t ∈ ks → M33 F t.toT f = some (t.tru f) := fun t ht => ih t ht (Tr.oks_mem (Tr.okks ok).1 ht) (flts_mem hfl ht) F (by have := Tr.fu_mem ht; omega)
 have hl : ∀ m j : Nat, j + m = ks.length → M33_L1 (M33 F) F ⟨k, nm, tx, op, n, Tr.toKs ks⟩ f (some (k == 7)) m (j : Int) = some (if k = 7 then Tr.allT f (ks.drop j) else if k = 8 then Tr.anyT f (ks.drop j) else if (ks.drop j).all (fun t => !t.tru f) then false else false) ∨ ¬ (k = 7 ∨ k = 8) := by
  intro m
  by_cases hk78 : k = 7 ∨ k = 8
  case neg => intro j _; exact Or.inr hk78
  induction m with
  | zero =>
   intro j h
   left
   rw [M33_L1, List.drop_eq_nil_of_le (by omega), Tr.allT, Tr.anyT]
   rcases hk78 with e | e <;> subst e <;> rfl
  | succ m ihm =>
   intro j h
   left
   have hj : j < ks.length := by omega
   have ht : ks[j] ∈ ks := List.getElem_mem _
   have ih2 := (ihm (j + 1) (by omega)).resolve_right (fun h => h hk78)
   rw [M33_L1, idx_toKs hj, Option.bind_some, Tr.dec, Option.bind_some, hkid _ ht, Option.bind_some, show ((j : Int) + 1) = ((j + 1 : Nat) : Int) from rfl, ih2, List.drop_eq_getElem_cons hj, Tr.allT, Tr.anyT]
   rcases hk78 with e | e
   ·subst e; cases ks[j].tru f <;> simp
   ·subst e; cases ks[j].tru f <;> simp
 have hlen : (TTest.mk k nm tx op n (Tr.toKs ks)).Kids.length = ks.length := Tr.toKs_len ks
 rw [Tr.toT, M33_B, Tr.tru]
 simp only [jn_def, hlen]
 rw [M61_eq F f nm hf, Option.bind_some, M60_eq F _ _ (by have := hx.2.2.1; rw [maxLen_eq] at this; exact this) (by show tx.length < F; omega), Option.bind_some]
 dsimp only
 have hkk := node_kind hnode
 dsimp only at hkk
 have hk' : k = 1 ∨ k = 6 ∨ k = 7 ∨ k = 8 ∨ (k = 2 ∨ k = 3 ∨ k = 4 ∨ k = 5) := by omega
 have hrun := hl ks.length 0 (by omega)
 rw [show ((0 : Nat) : Int) = 0 from rfl, List.drop_zero] at hrun
 rcases hk' with e | e | e | e | e
 ·subst e; rfl
 ·subst e
  have h1 : ks.length = 1 := by rw [← node_not hnode rfl]; exact (Tr.toKs_len ks).symm
  match ks, h1, hkid with
  | [t], _, hkid =>
   have : idx (Tr.toKs [t]) 0 = some t.toK := idx_toKs (ks := [t]) (n := 0) (by simp)
   rw [if_neg (by decide), if_pos (by decide), this, Option.bind_some, Tr.dec, Option.bind_some, hkid t (by simp), if_neg (by decide), if_pos rfl, Tr.allT, Tr.allT]
   simp
 ·subst e
  have h2 := hrun.resolve_right (fun h => h (Or.inl rfl))
  rw [if_neg (by decide), if_neg (by decide), if_pos (by decide), if_pos (by decide), if_pos (by omega), show (((ks.length : Nat) : Int)).toNat = ks.length by omega, h2]
  rfl
 ·subst e
  have h2 := hrun.resolve_right (fun h => h (Or.inr rfl))
  rw [if_neg (by decide), if_neg (by decide), if_neg (by decide), if_pos (by decide), if_pos (by omega), show (((ks.length : Nat) : Int)).toNat = ks.length by omega, h2]
  rfl
 ·rcases e with e | e | e | e <;> subst e <;> rfl
end Go.Proofs.YtkeeppclihjlhaaGreatDoor
