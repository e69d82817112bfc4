/- Part of the proof: DW, H4Q1, H4Q2, H4Q3, H4Q4, H4Sh. -/
import Derived.Lib.SplitLaws
import Derived.Lib.Join
import Derived.Lib.ItoaLen
import Derived.Lib.Atoi
import Derived.Test.YtcoppoeibjkinaaDoorMH4P9
import Derived.Shelf.Strings.Builder1
import Derived.Shelf.Strings.Builder2
import Derived.Shelf.Strings.OnBuilder
import Derived.Shelf.Strings.BuilderF
import Derived.Shelf.Strings.BuilderK
import Derived.Shelf.Utf8.RuneCount
import Derived.Shelf.Strings.Builder2Cap
import Derived.Shelf.Strconv.Atoi
import Derived.Shelf.Strconv.Itoa0
import Derived.Shelf.Strconv.Itoa1
import Derived.Shelf.LaysM
import Derived.Shelf.Strconv.Itoa2
import Derived.Shelf.Strconv.Itoa3
import Derived.Shelf.Strconv.AtoiErrFast
import Derived.Shelf.Strconv.ParseIntEmpty
import Derived.Shelf.Strconv.AtoiFail
import Derived.Shelf.Strconv.SyntaxError
import Derived.Shelf.Strconv.Lower
import Derived.Shelf.Strconv.ParseUint10
import Derived.Shelf.Strconv.ParseUint10Empty
import Derived.Shelf.Strconv.RangeError
import Derived.Shelf.Strconv.ParseUintEmpty
import Derived.Shelf.Strconv.ParseUint10b64
import Derived.Shelf.Strconv.ParseUint10b32
import Derived.Shelf.Strconv.ParseUint10b16
import Derived.Shelf.Strconv.ParseUint10b8
import Derived.Shelf.Strings.Search1
import Derived.Shelf.Strings.Search2
import Derived.Shelf.Strings.Search3
import Derived.Shelf.Strings.Count
import Derived.Shelf.Strings.Shaped
import Derived.Shelf.Strings.Split
import Derived.Shelf.Strings.SplitShaped
import Derived.Shelf.Unicode.Decode
import Derived.Shelf.Strings.RuneCount
import Derived.Shelf.Strings.Explode
import Derived.Shelf.Unicode.DecodeSlow
import Derived.Shelf.Unicode.DecodeAny
import Derived.Ground.Names2Prog
import Derived.Shelf.Slices.SearchI
import Derived.Shelf.Slices.Empties
import Derived.Test.YtcoppoeibjkinaaDoorProg
namespace Go.Pv
open Go
set_option linter.unusedVariables false
theorem index_miss {c : UInt8} : ∀ {s : List UInt8}, c ∉ s → Lib.index s [c] = -1
 | [], _ => by simp [Lib.index]
 | b :: l, h => by
  have h1 : ¬ b = c := fun e => h (by simp [e])
  have h2 : c ∉ l := fun e => h (List.mem_cons_of_mem _ e)
  unfold Lib.index
  rw [index_miss h2]
  have h3 : (c == b) = false := by simp; exact fun e => h1 e.symm
  simp [List.isPrefixOf, h3]
theorem index_hit {c : UInt8} : ∀ {w r : List UInt8}, c ∉ w → Lib.index (w ++ c :: r) [c] = (w.length : Int)
 | [], r, _ => by simp [Lib.index, List.isPrefixOf]
 | b :: l, r, h => by
  have h1 : ¬ b = c := fun e => h (by simp [e])
  have h2 : c ∉ l := fun e => h (List.mem_cons_of_mem _ e)
  rw [List.cons_append]
  unfold Lib.index
  rw [index_hit h2]
  have h3 : (c == b) = false := by simp; exact fun e => h1 e.symm
  have h4 : ((l.length : Int) == -1) = false := by rw [beq_eq_false_iff_ne]; omega
  simp [List.isPrefixOf, h3, h4]
theorem split_miss {c : UInt8} {w : List UInt8} (h : c ∉ w) : Lib.split w [c] = [w] := by
 unfold Lib.split
 cases Lib.count w [c] with
 | zero => rfl
 | succ k => unfold Lib.splitK; rw [index_miss h]; rfl
theorem split_hit {c : UInt8} {w r : List UInt8} (h : c ∉ w) : Lib.split (w ++ c :: r) [c] = w :: Lib.split r [c] := by
 unfold Lib.split
 rw [Lib.count_one, Lib.count_one]
 have : (w ++ c :: r).count c = r.count c + 1 := by
  rw [List.count_append, List.count_cons_self, List.count_eq_zero_of_not_mem h]; omega
 rw [this, Lib.splitK, index_hit h]
 have h4 : ((w.length : Int) == -1) = false := by rw [beq_eq_false_iff_ne]; omega
 rw [h4]
 simp only [Bool.false_eq_true, if_false, Int.toNat_natCast, Nat.add_zero, List.take_left, List.length_singleton]
 rw [show (w ++ c :: r).drop (w.length + 1) = r by rw [← List.drop_drop, List.drop_left]; rfl]
def linesT (c : UInt8) (ls : List (List UInt8)) : List UInt8 := ls.flatMap fun l => l ++ [c]
theorem split_lines {c : UInt8} : ∀ {ls : List (List UInt8)}, (∀ l, l ∈ ls → c ∉ l) → Lib.split (linesT c ls) [c] = ls ++ [[]]
 | [], _ => split_miss (by simp [linesT])
 | l :: ls, h => by
  have e : linesT c (l :: ls) = l ++ c :: linesT c ls := by simp [linesT]
  rw [e, split_hit (h l (by simp)), split_lines (fun x hx => h x (List.mem_cons_of_mem _ hx))]; rfl
theorem split_join {c : UInt8} : ∀ {w : List UInt8} {ws : List (List UInt8)}, (∀ l, l ∈ w :: ws → c ∉ l) → Lib.split (Lib.join (w :: ws) [c]) [c] = w :: ws
 | w, [], h => by rw [Lib.join_one]; exact split_miss (h w (by simp))
 | w, v :: ws, h => by
  have e : Lib.join (w :: v :: ws) [c] = w ++ c :: Lib.join (v :: ws) [c] := by
   rw [Lib.join_cons, Lib.join_cons]; simp [Lib.joinTail]
  rw [e, split_hit (h w (by simp)), split_join (fun x hx => h x (List.mem_cons_of_mem _ hx))]
theorem not_mem_join {b c : UInt8} (hbc : b ≠ c) {ws : List (List UInt8)} (h : ∀ l, l ∈ ws → b ∉ l) : b ∉ Lib.join ws [c] := by
 cases ws with
 | nil => simp [Lib.join_nil]
 | cons w r =>
  rw [Lib.join_cons]
  simp only [List.mem_append, not_or]
  refine ⟨h w (by simp), ?_⟩
  unfold Lib.joinTail
  simp only [List.mem_flatten, List.mem_map, not_exists, not_and]
  rintro l ⟨x, hx, rfl⟩ hb
  rcases List.mem_append.1 hb with hb | hb
  ·simp at hb; exact hbc hb
  ·exact h x (List.mem_cons_of_mem _ hx) hb
theorem join_len {ws : List (List UInt8)} {c : UInt8} {n : Nat} (h : ∀ l, l ∈ ws → l.length ≤ n) : (Lib.join ws [c]).length ≤ ws.length * (n + 1) := by
 cases ws with
 | nil => simp [Lib.join_nil]
 | cons w r =>
  rw [Lib.join_cons, List.length_append, Lib.joinTail_length]
  have h1 := h w (by simp)
  have h2 : ∀ l : List (List UInt8), (∀ x, x ∈ l → x.length ≤ n) → Lib.lens l ≤ l.length * n := by
   intro l
   induction l with
   | nil => intro _; simp [Lib.lens]
   | cons a l ih =>
    intro hl
    have := ih (fun x hx => hl x (List.mem_cons_of_mem _ hx))
    have h3 := hl a (by simp)
    simp only [Lib.lens, List.map_cons, List.sum_cons, List.length_cons] at this ⊢
    rw [Nat.succ_mul]; omega
  have := h2 r (fun x hx => h x (List.mem_cons_of_mem _ hx))
  simp only [List.length_cons, List.length_nil, Nat.add_mul, Nat.mul_add] at *
  omega
theorem decFrom_app : ∀ (l : List UInt8) (acc n : Nat) (b : UInt8) (d : Nat), Lib.decFrom acc l = some n → Lib.digitVal b = some d → Lib.decFrom acc (l ++ [b]) = some (n * 10 + d)
 | [], acc, n, b, d, h, hb => by simp [Lib.decFrom] at h; subst h; simp [Lib.decFrom, hb]
 | x :: l, acc, n, b, d, h, hb => by
  rw [List.cons_append]
  unfold Lib.decFrom at h ⊢
  cases hx : Lib.digitVal x with
  | none => rw [hx] at h; cases h
  | some e => rw [hx] at h; exact decFrom_app l _ n b d h hb
theorem decFrom_digits (u : Nat) : Lib.decFrom 0 (Lib.decDigits u) = some u := by
 induction u using Nat.strongRecOn with
 | _ u ih =>
  have hd : ∀ v, v < 10 → Lib.digitVal (UInt8.ofNat (48 + v)) = some v := by
   intro v hv
   have : (UInt8.ofNat (48 + v)).toNat = 48 + v := by rw [UInt8.toNat_ofNat']; omega
   unfold Lib.digitVal
   rw [this, if_pos (by omega)]; congr 1; omega
  by_cases h : u < 10
  ·rw [Lib.decDigits, dif_pos h]
   unfold Lib.decFrom
   rw [hd u h]
   simp only [Lib.decFrom, Nat.zero_mul, Nat.zero_add]
  ·rw [Lib.decDigits, dif_neg h, decFrom_app _ 0 (u / 10) _ (u % 10) (ih (u / 10) (by omega)) (hd _ (Nat.mod_lt _ (by decide)))]
   congr 1; omega
theorem decDigits_ne (u : Nat) : Lib.decDigits u ≠ [] := by
 intro h
 have := Lib.decDigits_length u
 rw [h] at this
 have := Lib.nDigits_pos u
 simp at *; omega
theorem nDigits_lt {k : Nat} : ∀ {u : Nat}, u < 10 ^ (k + 1) → Lib.nDigits u ≤ k + 1 := by
 induction k with
 | zero => intro u h; rw [Lib.nDigits_small (by simpa using h)]; exact Nat.le_refl _
 | succ k ih =>
  intro u h
  by_cases h1 : u < 10
  ·rw [Lib.nDigits_small h1]; omega
  ·rw [Lib.nDigits_big h1]
   have := ih (u := u / 10) (by rw [Nat.pow_succ] at h; omega)
   omega
theorem decDigits_head {u : Nat} (h : 10 ≤ u) : (Lib.decDigits u).head? ≠ some 48 := by
 induction u using Nat.strongRecOn with
 | _ u ih =>
  rw [Lib.decDigits, dif_neg (by omega)]
  by_cases h1 : u / 10 < 10
  ·rw [Lib.decDigits, dif_pos h1]
   simp only [List.singleton_append, List.head?_cons, ne_eq, Option.some.injEq]
   intro e
   have := congrArg UInt8.toNat e
   rw [UInt8.toNat_ofNat'] at this
   simp at this; omega
  ·have := ih (u / 10) (by omega) (by omega)
   rw [List.head?_append]
   cases hd : (Lib.decDigits (u / 10)).head? with
   | none => exact absurd (List.head?_eq_none_iff.1 hd) (decDigits_ne _)
   | some x => rw [hd] at this; simpa using this
theorem itoa_nat (u : Nat) : Lib.itoa (u : Int) = Lib.decDigits u := by
 unfold Lib.itoa; rw [if_neg (by omega)]; simp
end Go.Pv
namespace Go.Proofs.YtcoppoeibjkinaaDoor
open Go Go.Pv
set_option linter.unusedVariables false
set_option linter.unusedSimpArgs false
def wordsE (x : TExposure) : List (List UInt8) := [wHAS, x.Advisory, x.Component, Lib.itoa x.Severity]
def wordsR (r : TRelease) : List (List UInt8) := [wREL, r.Version, Lib.itoa r.Day]
def wordsK (k : TPublished) : List (List UInt8) := [wKNO, k.Advisory, Lib.itoa k.Day] ++ (if k.Ended = -1 then [] else [Lib.itoa k.Ended])
def lineOf (ws : List (List UInt8)) : List UInt8 := Lib.join ws [32]
def relL (r : TRelease) : List (List (List UInt8)) := wordsR r :: r.Exposures.map wordsE
def wordsS (s : TStory) : List (List (List UInt8)) := [wSTO, s.Product, Lib.itoa s.Until] :: (s.Releases.flatMap relL ++ s.Known.map wordsK)
def txtL (l : List (List (List UInt8))) : List UInt8 := linesT 10 (l.map lineOf)
def txtS (s : TStory) : List UInt8 := txtL (wordsS s)
theorem txtL_cons (a : List (List UInt8)) (l : List (List (List UInt8))) : txtL (a :: l) = lineOf a ++ [10] ++ txtL l := by simp [txtL, linesT]
theorem txtL_app (a l : List (List (List UInt8))) : txtL (a ++ l) = txtL a ++ txtL l := by simp [txtL, linesT]
theorem txtL_nil : txtL [] = [] := rfl
def okW (l : List (List UInt8)) : Prop := l.length ≤ 4 ∧ ∀ x, x ∈ l → x.length ≤ 100
theorem okW_len {l : List (List UInt8)} (h : okW l) : (lineOf l ++ [10]).length ≤ 500 := by
 have := join_len (c := 32) h.2
 have := h.1
 have : l.length * 101 ≤ 4 * 101 := Nat.mul_le_mul_right _ h.1
 unfold lineOf
 rw [List.length_append, List.length_singleton]; omega
theorem txtL_len : ∀ {l : List (List (List UInt8))}, (∀ x, x ∈ l → okW x) → (txtL l).length ≤ 500 * l.length
 | [], _ => by simp [txtL_nil]
 | a :: l, h => by
  rw [txtL_cons, List.length_append, List.length_cons]
  have := okW_len (h a (by simp))
  have := txtL_len (l := l) (fun x hx => h x (List.mem_cons_of_mem _ hx))
  omega
theorem name_len {s : List UInt8} (h : name s = true) : s.length ≤ 100 := by
 unfold name at h; simp only [Bool.and_eq_true, decide_eq_true_eq] at h; omega
theorem itoa_len {n : Int} (h : 0 ≤ n ∧ n ≤ 1000000) : (Lib.itoa n).length ≤ 21 := Lib.itoa_length_le n (by omega) (by omega)
theorem M22_eq (F : Nat) {n : Int} (h : 0 ≤ n ∧ n ≤ 1000000) : M22 F n = some (Lib.itoa n) := by
 unfold M22; rw [if_pos (by omega)]
theorem M21_eq (F : Nat) {a s : List UInt8} (h : s.length + a.length ≤ 100000000000) : M21 F a s = some () := by
 unfold M21; rw [if_pos (by omega)]
theorem M45_eq (F : Nat) {l : List (List UInt8)} (h : okW l) : M45 F l [32] = some (lineOf l) := by
 unfold M45
 have := join_len (c := 32) h.2
 have h4 := h.1
 have : l.length * 101 ≤ 4 * 101 := Nat.mul_le_mul_right _ h.1
 rw [if_pos ⟨by omega, by omega⟩]; rfl
theorem M25_eq (F : Nat) {l : List (List UInt8)} (a : List UInt8) (h : okW l) (ha : a.length ≤ 1000000000) : M25 F l (a.map fun c => (c.toNat : Int)) = some ((a ++ (lineOf l ++ [10])).map fun (c : UInt8) => (c.toNat : Int)) := by
 have hl := okW_len h
 rw [List.length_append, List.length_singleton] at hl
 unfold M25
 rw [M45_eq F h, Option.bind_some, if_pos (by simp; omega), if_pos (by simp; omega)]
 simp
theorem okW_E {x : TExposure} (h : name x.Advisory = true ∧ name x.Component = true ∧ 0 ≤ x.Severity ∧ x.Severity ≤ 100) : okW (wordsE x) := by
 refine ⟨by simp [wordsE], fun y hy => ?_⟩
 simp only [wordsE, List.mem_cons, List.not_mem_nil, or_false] at hy
 rcases hy with rfl | rfl | rfl | rfl
 ·decide
 ·exact name_len h.1
 ·exact name_len h.2.1
 ·have := itoa_len (n := x.Severity) (by omega); omega
theorem okW_R {r : TRelease} (h : name r.Version = true ∧ 0 ≤ r.Day ∧ r.Day ≤ 1000000) : okW (wordsR r) := by
 refine ⟨by simp [wordsR], fun y hy => ?_⟩
 simp only [wordsR, List.mem_cons, List.not_mem_nil, or_false] at hy
 rcases hy with rfl | rfl | rfl
 ·decide
 ·exact name_len h.1
 ·have := itoa_len h.2; omega
theorem okW_K {k : TPublished} (h : name k.Advisory = true ∧ 0 ≤ k.Day ∧ k.Day ≤ 1000000 ∧ (k.Ended = -1 ∨ k.Day ≤ k.Ended ∧ k.Ended ≤ 1000000)) : okW (wordsK k) := by
 have h1 := itoa_len ⟨h.2.1, h.2.2.1⟩
 have h2 := name_len h.1
 unfold wordsK
 by_cases he : k.Ended = -1
 ·rw [if_pos he]
  refine ⟨by simp, fun y hy => ?_⟩
  simp only [List.append_nil, List.mem_cons, List.not_mem_nil, or_false] at hy
  rcases hy with rfl | rfl | rfl
  ·decide
  ·exact h2
  ·omega
 ·rw [if_neg he]
  have h3 := itoa_len (n := k.Ended) (by omega)
  refine ⟨by simp, fun y hy => ?_⟩
  simp only [List.cons_append, List.nil_append, List.mem_cons, List.not_mem_nil, or_false] at hy
  rcases hy with rfl | rfl | rfl | rfl
  ·decide
  ·exact h2
  ·omega
  ·omega
theorem rightE {s : TStory} (h : RightS s) {r : TRelease} (hr : r ∈ s.Releases) : ∀ x, x ∈ r.Exposures → name x.Advisory = true ∧ name x.Component = true ∧ 0 ≤ x.Severity ∧ x.Severity ≤ 100 := (exps_zero (h.rel r hr).2.2.2).2.2
theorem okW_rel {s : TStory} (h : RightS s) {r : TRelease} (hr : r ∈ s.Releases) : ∀ w, w ∈ relL r → okW w := by
 intro w hw
 rcases List.mem_cons.1 hw with rfl | hw
 ·have := h.rel r hr; have := h.unt; exact okW_R ⟨(h.rel r hr).1, (h.rel r hr).2.1, by omega⟩
 ·obtain ⟨x, hx, rfl⟩ := List.mem_map.1 hw
  exact okW_E (rightE h hr x hx)
theorem okW_S {s : TStory} (h : RightS s) : ∀ w, w ∈ wordsS s → okW w := by
 intro w hw
 rcases List.mem_cons.1 hw with rfl | hw
 ·refine ⟨by simp, fun y hy => ?_⟩
  simp only [List.mem_cons, List.not_mem_nil, or_false] at hy
  rcases hy with rfl | rfl | rfl
  ·decide
  ·exact name_len h.pr
  ·have := itoa_len h.unt; omega
 rcases List.mem_append.1 hw with hw | hw
 ·obtain ⟨r, hr, hw⟩ := List.mem_flatMap.1 hw; exact okW_rel h hr w hw
 ·obtain ⟨k, hk, rfl⟩ := List.mem_map.1 hw; exact okW_K (h.kn k hk)
theorem relL_len {s : TStory} (h : RightS s) {r : TRelease} (hr : r ∈ s.Releases) : (relL r).length ≤ 501 := by
 have := (exps_zero (h.rel r hr).2.2.2).1
 simp [relL]; omega
theorem lineE (x : TExposure) : (((((([104, 97, 115, 32] : List UInt8) ++ x.Advisory) ++ ([32] : List UInt8)) ++ x.Component) ++ ([32] : List UInt8)) ++ Lib.itoa x.Severity) ++ ([10] : List UInt8) = lineOf (wordsE x) ++ [10] := by
 simp [lineOf, wordsE, Lib.join_cons, Lib.joinTail]
theorem lineR (r : TRelease) : (((([114, 101, 108, 101, 97, 115, 101, 32] : List UInt8) ++ r.Version) ++ ([32] : List UInt8)) ++ Lib.itoa r.Day) ++ ([10] : List UInt8) = lineOf (wordsR r) ++ [10] := by
 simp [lineOf, wordsR, Lib.join_cons, Lib.joinTail]
abbrev PK := (List UInt8) → Option ((List UInt8) × Int)
theorem M9_L2_eq (F : Nat) (k : PK) : ∀ (l : List TExposure) (s : List UInt8), (∀ x, x ∈ l → name x.Advisory = true ∧ name x.Component = true ∧ 0 ≤ x.Severity ∧ x.Severity ≤ 100) → s.length + 500 * l.length ≤ 1000000000 →
  M9_L2 F k l s = k (s ++ txtL (l.map wordsE))
 | [], s, _, _ => by rw [M9_L2, List.map_nil, txtL_nil, List.append_nil]
 | x :: l, s, h, hs => by
  have hx := h x (by simp)
  have h1 := name_len hx.1
  have h2 := name_len hx.2.1
  have h3 := itoa_len (n := x.Severity) (by omega)
  rw [List.length_cons] at hs
  rw [M9_L2, if_pos (by simp; omega), if_pos (by simp; omega), if_pos (by simp; omega), if_pos (by simp; omega), M22_eq F (by omega), Option.bind_some, if_pos (by simp; omega), if_pos (by simp; omega), M21_eq F (by simp; omega), Option.bind_some, lineE,
   M9_L2_eq F k l _ (fun y hy => h y (List.mem_cons_of_mem _ hy)) (by have := okW_len (okW_E hx); rw [List.length_append]; omega), List.map_cons, txtL_cons, List.append_assoc]
theorem M9_L1_eq (F : Nat) (st : TStory) (hst : RightS st) (k : PK) : ∀ (l : List TRelease) (s : List UInt8), (∀ r, r ∈ l → r ∈ st.Releases) → s.length + 251000 * l.length ≤ 1000000000 → M9_L1 F k l s = k (s ++ txtL (l.flatMap relL))
 | [], s, _, _ => by rw [M9_L1, List.flatMap_nil, txtL_nil, List.append_nil]
 | r :: l, s, h, hs => by
  have hr := h r (by simp)
  have hq := hst.rel r hr
  have hu := hst.unt
  have h1 := name_len hq.1
  have h3 := itoa_len (n := r.Day) (by omega)
  have h5 := relL_len hst hr
  have h6 : (r.Exposures).length ≤ 500 := by simp only [relL, List.length_cons, List.length_map] at h5; omega
  rw [List.length_cons] at hs
  have h7 := okW_len (okW_R (r := r) ⟨hq.1, hq.2.1, by omega⟩)
  rw [M9_L1]
  simp only [jn_def]
  rw [if_pos (by simp; omega), if_pos (by simp; omega), M22_eq F (by omega), Option.bind_some, if_pos (by simp; omega), if_pos (by simp; omega), M21_eq F (by simp; omega), Option.bind_some, lineR,
   M9_L2_eq F _ r.Exposures _ (rightE hst hr) (by rw [List.length_append]; omega)]
  have e : s ++ (lineOf (wordsR r) ++ [10]) ++ txtL (r.Exposures.map wordsE) = s ++ txtL (relL r) := by rw [relL, txtL_cons, List.append_assoc]
  rw [e, M9_L1_eq F st hst k l _ (fun y hy => h y (List.mem_cons_of_mem _ hy)) (by have := txtL_len (okW_rel hst hr); rw [List.length_append]; omega), List.flatMap_cons, txtL_app, List.append_assoc]
theorem M9_L3_eq (F : Nat) (k : PK) : ∀ (l : List TPublished) (s : List UInt8), (∀ k, k ∈ l → name k.Advisory = true ∧ 0 ≤ k.Day ∧ k.Day ≤ 1000000 ∧ (k.Ended = -1 ∨ k.Day ≤ k.Ended ∧ k.Ended ≤ 1000000)) → s.length + 500 * l.length ≤ 1000000000 →
  M9_L3 F k l s = k (s ++ txtL (l.map wordsK))
 | [], s, _, _ => by rw [M9_L3, List.map_nil, txtL_nil, List.append_nil]
 | x :: l, s, h, hs => by
  have hx := h x (by simp)
  have h1 := name_len hx.1
  have h3 := itoa_len (n := x.Day) (by omega)
  rw [List.length_cons] at hs
  have h7 := okW_len (okW_K hx)
  have fin : ∀ t : List UInt8, t = s ++ (lineOf (wordsK x) ++ [10]) → M9_L3 F k l t = k (s ++ txtL ((x :: l).map wordsK)) := by
   rintro t rfl
   rw [M9_L3_eq F k l _ (fun y hy => h y (List.mem_cons_of_mem _ hy)) (by rw [List.length_append]; omega), List.map_cons, txtL_cons, List.append_assoc]
  rw [M9_L3]
  simp only [jn_def]
  rw [if_pos (by simp; omega), if_pos (by simp; omega), M22_eq F (by omega), Option.bind_some, if_pos (by simp; omega), M21_eq F (by simp; omega), Option.bind_some]
  by_cases he : x.Ended = -1
  ·rw [if_neg (by simp [he]), M21_eq F (by simp; omega), Option.bind_some]
   refine fin _ ?_
   simp [lineOf, wordsK, Lib.join_cons, Lib.joinTail, he]
  ·have h4 := itoa_len (n := x.Ended) (by omega)
   rw [if_pos (by simp [he]), M22_eq F (by omega), Option.bind_some, if_pos (by simp; omega), M21_eq F (by simp; omega), Option.bind_some, M21_eq F (by simp; omega), Option.bind_some]
   refine fin _ ?_
   simp [lineOf, wordsK, Lib.join_cons, Lib.joinTail, he]
theorem lineP (s : TStory) : ([] : List UInt8) ++ (((([115, 116, 111, 114, 121, 32] : List UInt8) ++ s.Product) ++ ([32] : List UInt8)) ++ Lib.itoa s.Until ++ ([10] : List UInt8)) = lineOf [wSTO, s.Product, Lib.itoa s.Until] ++ [10] := by
 simp [lineOf, Lib.join_cons, Lib.joinTail]
def printS (s : TStory) : List UInt8 × Int := if chk s ≠ 0 then ([], chk s) else if 1000000 < (txtS s).length then ([], 3) else (txtS s, 0)
theorem txtS_cons (s : TStory) : txtS s = lineOf [wSTO, s.Product, Lib.itoa s.Until] ++ [10] ++ txtL (s.Releases.flatMap relL) ++ txtL (s.Known.map wordsK) := by
 unfold txtS wordsS; rw [txtL_cons, txtL_app]; simp only [List.append_assoc]
theorem rels_len {s : TStory} (h : RightS s) : ∀ l : List TRelease, (∀ r, r ∈ l → r ∈ s.Releases) → (txtL (l.flatMap relL)).length ≤ 251000 * l.length
 | [], _ => by simp [txtL_nil]
 | r :: l, hl => by
  have h1 := rels_len h l (fun y hy => hl y (List.mem_cons_of_mem _ hy))
  have h2 := txtL_len (okW_rel h (hl r (by simp)))
  have h3 := relL_len h (hl r (by simp))
  rw [List.flatMap_cons, txtL_app, List.length_append, List.length_cons]; omega
theorem M9_eq (F : Nat) (s : TStory) (hs : okSt s) : M9 F s = some (printS s) := by
 unfold M9 printS
 rw [M14_eq F s hs, Option.bind_some]
 by_cases hc : chk s = 0
 ·have hr := right_of_chk hc
  have h1 := name_len hr.pr
  have h2 := itoa_len hr.unt
  have h7 := okW_len (okW_S hr [wSTO, s.Product, Lib.itoa s.Until] (by simp [wordsS]))
  have h8 := rels_len hr s.Releases (fun _ h => h)
  have h9 := hr.rlen
  have h10 := hr.klen
  rw [if_neg (show ¬ (chk s != 0) = true by simp [hc]), if_neg (show ¬ chk s ≠ 0 from fun h => h hc), if_pos (by simp; omega), if_pos (by simp; omega), M22_eq F hr.unt, Option.bind_some, if_pos (by simp; omega), if_pos (by simp; omega), M21_eq F (by simp; omega), Option.bind_some]
  simp only [jn_def]
  rw [lineP, M9_L1_eq F s hr _ s.Releases _ (fun _ h => h) (by omega), M9_L3_eq F _ s.Known _ hr.kn (by rw [List.length_append]; omega), ← txtS_cons]
  unfold M23 M24
  simp only [Option.bind_some]
  by_cases hl : 1000000 < (txtS s).length
  ·rw [if_pos (by simp; omega), if_pos hl]
  ·rw [if_neg (by simp; omega), if_neg hl]
 ·rw [if_pos (by simpa using hc), if_pos hc]
abbrev RK' := (List Int) → Option ((List UInt8) × Int)
def tI (s : List UInt8) : List Int := s.map fun c => (c.toNat : Int)
theorem tI_back (s : List UInt8) : (tI s).map (fun n => UInt8.ofNat n.toNat) = s := by
 unfold tI; rw [List.map_map]; conv => rhs; rw [← List.map_id s]
 apply List.map_congr_left; intro x _; simp
theorem M25_tI (F : Nat) {l : List (List UInt8)} (a : List UInt8) (h : okW l) (ha : a.length ≤ 1000000000) : M25 F l (tI a) = some (tI (a ++ (lineOf l ++ [10]))) := M25_eq F a h ha
theorem M10_L2_eq (F : Nat) (k : RK') : ∀ (l : List TExposure) (s : List UInt8), (∀ x, x ∈ l → name x.Advisory = true ∧ name x.Component = true ∧ 0 ≤ x.Severity ∧ x.Severity ≤ 100) → s.length + 500 * l.length ≤ 1000000000 →
  M10_L2 F k l (tI s) = k (tI (s ++ txtL (l.map wordsE)))
 | [], s, _, _ => by rw [M10_L2, List.map_nil, txtL_nil, List.append_nil]
 | x :: l, s, h, hs => by
  have hx := h x (by simp)
  rw [List.length_cons] at hs
  have h7 := okW_len (okW_E hx)
  rw [M10_L2, M22_eq F (by omega), Option.bind_some]
  rw [show ([([104, 97, 115] : List UInt8), x.Advisory, x.Component, Lib.itoa x.Severity] : List (List UInt8)) = wordsE x from rfl, M25_tI F s (okW_E hx) (by omega), Option.bind_some,
   M10_L2_eq F k l _ (fun y hy => h y (List.mem_cons_of_mem _ hy)) (by rw [List.length_append]; omega), List.map_cons, txtL_cons, List.append_assoc]
theorem M10_L1_eq (F : Nat) (st : TStory) (hst : RightS st) (k : RK') : ∀ (l : List TRelease) (s : List UInt8), (∀ r, r ∈ l → r ∈ st.Releases) → s.length + 251000 * l.length ≤ 1000000000 → M10_L1 F k l (tI s) = k (tI (s ++ txtL (l.flatMap relL)))
 | [], s, _, _ => by rw [M10_L1, List.flatMap_nil, txtL_nil, List.append_nil]
 | r :: l, s, h, hs => by
  have hr := h r (by simp)
  have hq := hst.rel r hr
  have hu := hst.unt
  have h5 := relL_len hst hr
  have h6 : (r.Exposures).length ≤ 500 := by simp only [relL, List.length_cons, List.length_map] at h5; omega
  rw [List.length_cons] at hs
  have hw : okW (wordsR r) := okW_R ⟨hq.1, hq.2.1, by omega⟩
  have h7 := okW_len hw
  rw [M10_L1]
  simp only [jn_def]
  rw [M22_eq F (by omega), Option.bind_some]
  rw [show ([([114, 101, 108, 101, 97, 115, 101] : List UInt8), r.Version, Lib.itoa r.Day] : List (List UInt8)) = wordsR r from rfl, M25_tI F s hw (by omega), Option.bind_some,
   M10_L2_eq F _ r.Exposures _ (rightE hst hr) (by rw [List.length_append]; omega)]
  have e : s ++ (lineOf (wordsR r) ++ [10]) ++ txtL (r.Exposures.map wordsE) = s ++ txtL (relL r) := by rw [relL, txtL_cons, List.append_assoc]
  rw [e, M10_L1_eq F st hst k l _ (fun y hy => h y (List.mem_cons_of_mem _ hy)) (by have := txtL_len (okW_rel hst hr); rw [List.length_append]; omega), List.flatMap_cons, txtL_app, List.append_assoc]
theorem M10_L3_eq (F : Nat) (k : RK') : ∀ (l : List TPublished) (s : List UInt8), (∀ k, k ∈ l → name k.Advisory = true ∧ 0 ≤ k.Day ∧ k.Day ≤ 1000000 ∧ (k.Ended = -1 ∨ k.Day ≤ k.Ended ∧ k.Ended ≤ 1000000)) → s.length + 500 * l.length ≤ 1000000000 →
  M10_L3 F k l (tI s) = k (tI (s ++ txtL (l.map wordsK)))
 | [], s, _, _ => by rw [M10_L3, List.map_nil, txtL_nil, List.append_nil]
 | x :: l, s, h, hs => by
  have hx := h x (by simp)
  rw [List.length_cons] at hs
  have h7 := okW_len (okW_K hx)
  have fin : (M25 F (wordsK x) (tI s)).bind (fun y56 => M10_L3 F k l y56) = k (tI (s ++ txtL ((x :: l).map wordsK))) := by
   rw [M25_tI F s (okW_K hx) (by omega), Option.bind_some, M10_L3_eq F k l _ (fun y hy => h y (List.mem_cons_of_mem _ hy)) (by rw [List.length_append]; omega), List.map_cons, txtL_cons, List.append_assoc]
  rw [M10_L3, M22_eq F (by omega), Option.bind_some]
  simp only [jn_def]
  by_cases he : x.Ended = -1
  ·rw [if_neg (by simp [he])]
   rw [show wordsK x = ([([107, 110, 111, 119, 110] : List UInt8), x.Advisory, Lib.itoa x.Day] : List (List UInt8)) by simp [wordsK, he]] at fin
   exact fin
  ·rw [if_pos (by simp [he]), M22_eq F (by omega), Option.bind_some, if_pos (by simp)]
   rw [show wordsK x = ([([107, 110, 111, 119, 110] : List UInt8), x.Advisory, Lib.itoa x.Day] : List (List UInt8)) ++ ([Lib.itoa x.Ended] : List (List UInt8)) by simp [wordsK, he]] at fin
   exact fin
theorem M10_eq (F : Nat) (s : TStory) (hs : okSt s) : M10 F s = some (printS s) := by
 unfold M10 printS
 have h16 : M16 F s = some (chk s) := M16_eq F s hs
 rw [h16, Option.bind_some]
 by_cases hc : chk s = 0
 ·have hr := right_of_chk hc
  have hw := okW_S hr [wSTO, s.Product, Lib.itoa s.Until] (by simp [wordsS])
  have h7 := okW_len hw
  have h8 := rels_len hr s.Releases (fun _ h => h)
  have h9 := hr.rlen
  have h10 := hr.klen
  rw [if_neg (show ¬ (chk s != 0) = true by simp [hc]), if_neg (show ¬ chk s ≠ 0 from fun h => h hc), M22_eq F hr.unt, Option.bind_some]
  have h25 := M25_tI F [] hw (by simp)
  rw [List.nil_append] at h25
  rw [show M25 F ([([115, 116, 111, 114, 121] : List UInt8), s.Product, Lib.itoa s.Until] : List (List UInt8)) ([] : List Int) = _ from h25, Option.bind_some]
  simp only [jn_def]
  rw [M10_L1_eq F s hr _ s.Releases _ (fun _ h => h) (by omega), M10_L3_eq F _ s.Known _ hr.kn (by rw [List.length_append]; omega), ← txtS_cons, tI_back]
  have hlen : (tI (txtS s)).length = (txtS s).length := by simp [tI]
  rw [hlen]
  by_cases hl : 1000000 < (txtS s).length
  ·rw [if_pos (by simp; omega), if_pos hl]
  ·rw [if_neg (by simp; omega), if_neg hl]
 ·rw [if_pos (by simpa using hc), if_pos hc]
theorem num_itoa {n : Int} (h : 0 ≤ n ∧ n ≤ 1000000) : num (Lib.itoa n) = (n, true) := by
 obtain ⟨u, rfl⟩ : ∃ u : Nat, n = u := ⟨n.toNat, by omega⟩
 rw [itoa_nat]
 unfold num
 have hl : (Lib.decDigits u).length ≤ 7 := by rw [Lib.decDigits_length]; exact nDigits_lt (k := 6) (by omega)
 rw [if_neg, decFrom_digits]
 ·rfl
 ·rintro (h0 | h0 | ⟨h0, h1⟩)
  ·exact decDigits_ne u h0
  ·omega
  ·refine decDigits_head ?_ h1
   rw [Lib.decDigits_length] at h0
   by_cases hu : u < 10
   ·rw [Lib.nDigits_small hu] at h0; omega
   ·omega
theorem wrd_name {s : List UInt8} (h : name s = true) : wrd s = true := by
 unfold name at h; unfold wrd
 simp only [Bool.and_eq_true, decide_eq_true_eq] at h ⊢
 refine ⟨h.1.1, ?_⟩
 cases s with
 | nil => simp at h
 | cons a l => rfl
def seen (s : List UInt8) : Prop := ∀ b, b ∈ s → 33 ≤ b.toNat ∧ b.toNat ≤ 126
theorem seen_wrd {s : List UInt8} (h : wrd s = true) : seen s := by
 intro b hb
 unfold wrd at h
 simp only [Bool.and_eq_true] at h
 have := List.all_eq_true.1 h.1 b hb
 unfold vis at this
 simpa using this
theorem seen_itoa {n : Int} (h : 0 ≤ n ∧ n ≤ 1000000) : seen (Lib.itoa n) := by
 have := num_word (s := Lib.itoa n) (by rw [num_itoa h])
 exact seen_wrd this
theorem seen_32 {s : List UInt8} (h : seen s) : (32 : UInt8) ∉ s := fun hb => by have := h _ hb; simp at this
theorem seen_10 {s : List UInt8} (h : seen s) : (10 : UInt8) ∉ s := fun hb => by have := h _ hb; simp at this
def seenL (l : List (List UInt8)) : Prop := l ≠ [] ∧ ∀ w, w ∈ l → seen w
theorem split_lineOf {l : List (List UInt8)} (h : seenL l) : Lib.split (lineOf l) [32] = l := by
 obtain ⟨h0, h⟩ := h
 cases l with
 | nil => exact absurd rfl h0
 | cons w r => exact split_join fun x hx => seen_32 (h x hx)
theorem lineOf_10 {l : List (List UInt8)} (h : seenL l) : (10 : UInt8) ∉ lineOf l := not_mem_join (by decide) fun x hx => seen_10 (h.2 x hx)
theorem seen_wSTO : seen wSTO := by intro b hb; revert b; decide
theorem seen_wREL : seen wREL := by intro b hb; revert b; decide
theorem seen_wHAS : seen wHAS := by intro b hb; revert b; decide
theorem seen_wKNO : seen wKNO := by intro b hb; revert b; decide
theorem seenL_E {x : TExposure} (h : name x.Advisory = true ∧ name x.Component = true ∧ 0 ≤ x.Severity ∧ x.Severity ≤ 100) : seenL (wordsE x) := by
 refine ⟨by simp [wordsE], fun y hy => ?_⟩
 simp only [wordsE, List.mem_cons, List.not_mem_nil, or_false] at hy
 rcases hy with rfl | rfl | rfl | rfl
 ·exact seen_wHAS
 ·exact seen_wrd (wrd_name h.1)
 ·exact seen_wrd (wrd_name h.2.1)
 ·exact seen_itoa (by omega)
theorem seenL_R {r : TRelease} (h : name r.Version = true ∧ 0 ≤ r.Day ∧ r.Day ≤ 1000000) : seenL (wordsR r) := by
 refine ⟨by simp [wordsR], fun y hy => ?_⟩
 simp only [wordsR, List.mem_cons, List.not_mem_nil, or_false] at hy
 rcases hy with rfl | rfl | rfl
 ·exact seen_wREL
 ·exact seen_wrd (wrd_name h.1)
 ·exact seen_itoa h.2
theorem seenL_K {k : TPublished} (h : name k.Advisory = true ∧ 0 ≤ k.Day ∧ k.Day ≤ 1000000 ∧ (k.Ended = -1 ∨ k.Day ≤ k.Ended ∧ k.Ended ≤ 1000000)) : seenL (wordsK k) := by
 refine ⟨by simp [wordsK], fun y hy => ?_⟩
 unfold wordsK at hy
 rcases List.mem_append.1 hy with hy | hy
 ·simp only [List.mem_cons, List.not_mem_nil, or_false] at hy
  rcases hy with rfl | rfl | rfl
  ·exact seen_wKNO
  ·exact seen_wrd (wrd_name h.1)
  ·exact seen_itoa ⟨h.2.1, h.2.2.1⟩
 ·split at hy
  ·simp at hy
  ·rw [List.mem_singleton] at hy; subst hy; exact seen_itoa (by omega)
theorem seenL_S {s : TStory} (h : RightS s) : ∀ w, w ∈ wordsS s → seenL w := by
 intro w hw
 have hu := h.unt
 rcases List.mem_cons.1 hw with rfl | hw
 ·refine ⟨by simp, fun y hy => ?_⟩
  simp only [List.mem_cons, List.not_mem_nil, or_false] at hy
  rcases hy with rfl | rfl | rfl
  ·exact seen_wSTO
  ·exact seen_wrd (wrd_name h.pr)
  ·exact seen_itoa h.unt
 rcases List.mem_append.1 hw with hw | hw
 ·obtain ⟨r, hr, hw⟩ := List.mem_flatMap.1 hw
  rcases List.mem_cons.1 hw with rfl | hw
  ·exact seenL_R ⟨(h.rel r hr).1, (h.rel r hr).2.1, by have := (h.rel r hr).2.2.1; omega⟩
  ·obtain ⟨x, hx, rfl⟩ := List.mem_map.1 hw
   exact seenL_E (rightE h hr x hx)
 ·obtain ⟨k, hk, rfl⟩ := List.mem_map.1 hw; exact seenL_K (h.kn k hk)
def runW : List (List (List UInt8)) → List TRelease × List TPublished → Option (List TRelease × List TPublished)
 | [], q => some q
 | w :: l, q => (lineS w q.1 q.2).bind (runW l)
theorem runW_app : ∀ (a b : List (List (List UInt8))) (q : List TRelease × List TPublished), runW (a ++ b) q = (runW a q).bind (runW b)
 | [], b, q => rfl
 | w :: a, b, q => by
  rw [List.cons_append]; unfold runW
  cases lineS w q.1 q.2 with
  | none => rfl
  | some q' => exact runW_app a b q'
theorem runS_W (p : List UInt8) (n : Int) : ∀ (l : List (List (List UInt8))) (i : Nat) (q q' : List TRelease × List TPublished), (∀ w, w ∈ l → seenL w) → runW l q = some q' → runS (l.map lineOf) (i + 1) (p, n, q.1, q.2) = .inr (p, n, q'.1, q'.2)
 | [], i, q, q', _, h => by simp [runW] at h; subst h; rfl
 | w :: l, i, q, q', hw, h => by
  unfold runW at h
  cases hq : lineS w q.1 q.2 with
  | none => rw [hq] at h; cases h
  | some q1 =>
   rw [hq] at h
   rw [List.map_cons, runS, split_lineOf (hw w (by simp))]
   have : takeS (i + 1 == 0) w p n q.1 q.2 = some (p, n, q1.1, q1.2) := by unfold takeS; simp [hq]
   simp only [this]
   exact runS_W p n l (i + 1) q1 q' (fun x hx => hw x (List.mem_cons_of_mem _ hx)) h
theorem lineS_R {r : TRelease} (h : name r.Version = true ∧ 0 ≤ r.Day ∧ r.Day ≤ 1000000) (R : List TRelease) : lineS (wordsR r) R [] = some (R ++ [⟨r.Version, r.Day, []⟩], []) := by
 unfold lineS wordsR
 simp only
 rw [num_itoa h.2]
 simp [wrd_name h.1]
theorem lineS_E {x : TExposure} (h : name x.Advisory = true ∧ name x.Component = true ∧ 0 ≤ x.Severity ∧ x.Severity ≤ 100) (R : List TRelease) (r : TRelease) : lineS (wordsE x) (R ++ [r]) [] = some (R ++ [{ r with Exposures := r.Exposures ++ [x] }], []) := by
 unfold lineS wordsE
 simp only
 rw [if_neg (by decide), num_itoa (by omega)]
 simp [wrd_name h.1, wrd_name h.2.1, addX]
theorem lineS_K {k : TPublished} (h : name k.Advisory = true ∧ 0 ≤ k.Day ∧ k.Day ≤ 1000000 ∧ (k.Ended = -1 ∨ k.Day ≤ k.Ended ∧ k.Ended ≤ 1000000)) (R : List TRelease) (K : List TPublished) : lineS (wordsK k) R K = some (R, K ++ [k]) := by
 obtain ⟨a, d, e⟩ := k
 simp only at h
 have hd := num_itoa ⟨h.2.1, h.2.2.1⟩
 have hw := wrd_name h.1
 unfold lineS wordsK
 by_cases he : e = -1
 ·subst he
  simp only [if_true, List.append_nil]
  rw [if_neg (by decide), if_neg (by decide)]
  simp [knS, hw, hd]
 ·have h3 := num_itoa (n := e) (by omega)
  rw [if_neg he]
  simp only [List.cons_append, List.nil_append]
  rw [if_neg (by decide), if_neg (by decide)]
  simp [knS, hw, hd, h3]
theorem runW_E : ∀ (l : List TExposure) (R : List TRelease) (r : TRelease), (∀ x, x ∈ l → name x.Advisory = true ∧ name x.Component = true ∧ 0 ≤ x.Severity ∧ x.Severity ≤ 100) → runW (l.map wordsE) (R ++ [r], []) = some (R ++ [{ r with Exposures := r.Exposures ++ l }], [])
 | [], R, r, _ => by simp [runW]
 | x :: l, R, r, h => by
  rw [List.map_cons, runW, lineS_E (h x (by simp)), Option.bind_some, runW_E l R _ (fun y hy => h y (List.mem_cons_of_mem _ hy))]
  simp
theorem runW_R {s : TStory} (h : RightS s) : ∀ (l : List TRelease) (R : List TRelease), (∀ r, r ∈ l → r ∈ s.Releases) → runW (l.flatMap relL) (R, []) = some (R ++ l, [])
 | [], R, _ => by simp [runW]
 | r :: l, R, hl => by
  have hr := hl r (by simp)
  have hq := h.rel r hr
  have hu := h.unt
  rw [List.flatMap_cons, runW_app, relL, runW, lineS_R ⟨hq.1, hq.2.1, by omega⟩, Option.bind_some, runW_E _ _ _ (rightE h hr), Option.bind_some, runW_R h l _ (fun y hy => hl y (List.mem_cons_of_mem _ hy))]
  simp
theorem runW_K : ∀ (l : List TPublished) (R : List TRelease) (K : List TPublished), (∀ k, k ∈ l → name k.Advisory = true ∧ 0 ≤ k.Day ∧ k.Day ≤ 1000000 ∧ (k.Ended = -1 ∨ k.Day ≤ k.Ended ∧ k.Ended ≤ 1000000)) → runW (l.map wordsK) (R, K) = some (R, K ++ l)
 | [], R, K, _ => by simp [runW]
 | k :: l, R, K, h => by
  rw [List.map_cons, runW, lineS_K (h k (by simp)), Option.bind_some, runW_K l _ _ (fun y hy => h y (List.mem_cons_of_mem _ hy))]
  simp
theorem read_print {s : TStory} (hc : chk s = 0) (hl : (txtS s).length ≤ 1000000) : readS (txtS s) = (s, 0, 0) := by
 have h := right_of_chk hc
 unfold readS
 rw [if_neg (by omega)]
 have hsp : Lib.split (txtS s) [10] = (wordsS s).map lineOf ++ [[]] := split_lines fun l hl => by
  obtain ⟨w, hw, rfl⟩ := List.mem_map.1 hl; exact lineOf_10 (seenL_S h w hw)
 rw [hsp, List.dropLast_concat, List.getLast?_concat]
 have hrun : runS ((wordsS s).map lineOf) 0 ([], 0, [], []) = .inr (s.Product, s.Until, s.Releases, s.Known) := by
  have hs1 := seenL_S h [wSTO, s.Product, Lib.itoa s.Until] (by simp [wordsS])
  have ht : takeS (0 == 0) [wSTO, s.Product, Lib.itoa s.Until] [] 0 [] [] = some (s.Product, s.Until, [], []) := by
   unfold takeS
   simp [num_itoa h.unt, wrd_name h.pr]
  rw [wordsS, List.map_cons, runS, split_lineOf hs1]
  simp only [ht]
  refine runS_W s.Product s.Until _ 0 ([], []) (s.Releases, s.Known) (fun w hw => seenL_S h w (List.mem_cons_of_mem _ hw)) ?_
  rw [runW_app, runW_R h s.Releases [] (fun _ h => h), Option.bind_some, runW_K _ _ _ h.kn]; simp
 rw [hrun]
 simp only
 rw [if_pos trivial, if_neg (by simp [wordsS])]
 unfold endS
 simp only
 rw [show TStory.mk s.Product s.Releases s.Known s.Until = s from rfl, if_neg (fun h => h hc)]
theorem plain4 (s : TStory) (hs : okSt s) : M4 1 s = some true := by
 unfold M4
 rw [M9_eq 1 s hs, M10_eq 1 s hs, Option.bind_some, Option.bind_some]
 rw [if_neg (by simp), if_neg (by simp), M8_eq]
 by_cases h0 : (printS s).2 = 0
 ·rw [if_neg (by simp [h0])]
  unfold printS at h0 ⊢
  by_cases hc : chk s = 0
  ·rw [if_neg (fun h => h hc)] at h0 ⊢
   by_cases hl : 1000000 < (txtS s).length
   ·rw [if_pos hl] at h0; simp at h0
   ·rw [if_neg hl, M5_eq, Option.bind_some, read_print hc (by omega)]
    simp [M7_refl]
  ·rw [if_pos hc] at h0; exact absurd h0 hc
 ·rw [if_pos (by simpa using h0)]; rfl
end Go.Proofs.YtcoppoeibjkinaaDoor
/-
 DERIVED: THE SHELF's CONTRACTS AT THIS DUMP, IN PLAIN WORDS (tools/lay-plain.mjs out of 'TrydShelf.lean', which tools/lay-shelf.mjs wrote): THE SAME DECLARATIONS UNDER THE SAME NAMES: 'import', 'namespace', 'open', 'def', 'theorem' AND NOTHING ELSE: no command of the shelf's: FOR A HAND-IN. Each laying: the table of numbers ('.._ren') and one theorem, a field a fact of the dump's own or the kernel's comparison; each contract: ONE APPLICATION.
-/
namespace Go.Proofs
open Go.Shelf
def Tryd.lays170_ren : Go.Shelf.Ren := ⟨fun | 170 => 23 | n => n, fun | 70 => 56 | 3 => 3 | 0 => 0 | 72 => 59 | 37 => 57 | 5 => 5 | n => n, fun | n => n⟩
theorem Tryd.lays170 : Go.Proofs.Lays.n170 Tryd.prog Tryd.lays170_ren := {
 mixed := by kernel_rfl
 f170 := Tryd.func23.trans (congrArg some (by kernel_rfl))
 t0 := Tryd.underlying0
 a0 := Tryd.isAgg0
 z0 := Tryd.sizeOf0
 v0 := Tryd.zeroValue0
 t3 := Tryd.underlying3
 a3 := Tryd.isAgg3
 z3 := Tryd.sizeOf3
 v3 := Tryd.zeroValue3
 t37 := Tryd.underlying57
 a37 := Tryd.isAgg57
 z37 := Tryd.sizeOf57
 v37 := Tryd.zeroValue57
 t70 := Tryd.underlying56
 a70 := Tryd.isAgg56
 z70 := Tryd.sizeOf56
 v70 := Tryd.zeroValue56
 t72 := Tryd.underlying59
 a72 := Tryd.isAgg59
 z72 := Tryd.sizeOf59
 v72 := Tryd.zeroValue59 }
open Go.RowKit in
theorem Tryd.Builder_Len (B b : Nat) (bs : List Value) (w : World) (h : Lib.IsBuilder 59 5 B b bs w) :
  Calls Tryd.prog 23 #[.pointer (some ⟨b, 0, none⟩)] w fun e w' => e = .returned (.int .i64 bs.length) ∧ w' = w := Any.Builder_Len Tryd.lays170 B b bs w h
def Tryd.lays169_ren : Go.Shelf.Ren := ⟨fun | 169 => 24 | n => n, fun | 70 => 56 | 9 => 9 | 0 => 0 | 72 => 59 | 37 => 57 | 127 => 88 | 3 => 3 | 5 => 5 | n => n, fun | n => n⟩
theorem Tryd.lays169 : Go.Proofs.Lays.n169 Tryd.prog Tryd.lays169_ren := {
 mixed := by kernel_rfl
 f169 := Tryd.func24.trans (congrArg some (by kernel_rfl))
 t0 := Tryd.underlying0
 a0 := Tryd.isAgg0
 z0 := Tryd.sizeOf0
 v0 := Tryd.zeroValue0
 t3 := Tryd.underlying3
 a3 := Tryd.isAgg3
 z3 := Tryd.sizeOf3
 v3 := Tryd.zeroValue3
 t9 := Tryd.underlying9
 a9 := Tryd.isAgg9
 z9 := Tryd.sizeOf9
 v9 := Tryd.zeroValue9
 t37 := Tryd.underlying57
 a37 := Tryd.isAgg57
 z37 := Tryd.sizeOf57
 v37 := Tryd.zeroValue57
 t70 := Tryd.underlying56
 a70 := Tryd.isAgg56
 z70 := Tryd.sizeOf56
 v70 := Tryd.zeroValue56
 t72 := Tryd.underlying59
 a72 := Tryd.isAgg59
 z72 := Tryd.sizeOf59
 v72 := Tryd.zeroValue59
 t127 := Tryd.underlying88
 a127 := Tryd.isAgg88
 z127 := Tryd.sizeOf88
 v127 := Tryd.zeroValue88 }
theorem Tryd.Builder_Extra_169 : Builder.Extra Tryd.prog Tryd.lays169_ren := {
 sizeBuilder := by kernel_rfl
 liesBuilder := by kernel_rfl
 t5 := Tryd.underlying5
 a5 := Tryd.isAgg5
 z5 := Tryd.sizeOf5
 v5 := Tryd.zeroValue5
 infoByte := by kernel_rfl
 cellsByte := by kernel_rfl
 sizeByte := by kernel_rfl
 neB5 := by decide }
def Tryd.lays156_ren : Go.Shelf.Ren := ⟨fun | 156 => 45 | 165 => 56 | 166 => 21 | 169 => 24 | 240 => 43 | 241 => 71 | 276 => 54 | 277 => 90 | n => n, fun | 31 => 35 | 9 => 9 | 3 => 3 | 4 => 4 | 0 => 0 | 20 => 20 | 72 => 59 | 76 => 62 | 70 => 56 | 37 => 57 | 75 => 61 | 127 => 88 | 164 => 95 | 5 => 5 | 80 => 68 | n => n, fun | n => n⟩
theorem Tryd.lays156 : Go.Proofs.Lays.n156 Tryd.prog Tryd.lays156_ren := {
 mixed := by kernel_rfl
 f156 := Tryd.func45.trans (congrArg some (by kernel_rfl))
 f165 := Tryd.func56.trans (congrArg some (by kernel_rfl))
 f166 := Tryd.func21.trans (congrArg some (by kernel_rfl))
 f169 := Tryd.func24.trans (congrArg some (by kernel_rfl))
 f240 := Tryd.func43.trans (congrArg some (by kernel_rfl))
 f241 := Tryd.func71.trans (congrArg some (by kernel_rfl))
 f276 := Tryd.func54.trans (congrArg some (by kernel_rfl))
 f277 := Tryd.func90.trans (congrArg some (by kernel_rfl))
 t0 := Tryd.underlying0
 a0 := Tryd.isAgg0
 z0 := Tryd.sizeOf0
 v0 := Tryd.zeroValue0
 t3 := Tryd.underlying3
 a3 := Tryd.isAgg3
 z3 := Tryd.sizeOf3
 v3 := Tryd.zeroValue3
 t4 := Tryd.underlying4
 a4 := Tryd.isAgg4
 z4 := Tryd.sizeOf4
 v4 := Tryd.zeroValue4
 t9 := Tryd.underlying9
 a9 := Tryd.isAgg9
 z9 := Tryd.sizeOf9
 v9 := Tryd.zeroValue9
 t20 := Tryd.underlying20
 a20 := Tryd.isAgg20
 z20 := Tryd.sizeOf20
 v20 := Tryd.zeroValue20
 t31 := Tryd.underlying35
 a31 := Tryd.isAgg35
 z31 := Tryd.sizeOf35
 v31 := Tryd.zeroValue35
 t37 := Tryd.underlying57
 a37 := Tryd.isAgg57
 z37 := Tryd.sizeOf57
 v37 := Tryd.zeroValue57
 t70 := Tryd.underlying56
 a70 := Tryd.isAgg56
 z70 := Tryd.sizeOf56
 v70 := Tryd.zeroValue56
 t72 := Tryd.underlying59
 a72 := Tryd.isAgg59
 z72 := Tryd.sizeOf59
 v72 := Tryd.zeroValue59
 t75 := Tryd.underlying61
 a75 := Tryd.isAgg61
 z75 := Tryd.sizeOf61
 v75 := Tryd.zeroValue61
 t76 := Tryd.underlying62
 a76 := Tryd.isAgg62
 z76 := Tryd.sizeOf62
 v76 := Tryd.zeroValue62
 t127 := Tryd.underlying88
 a127 := Tryd.isAgg88
 z127 := Tryd.sizeOf88
 v127 := Tryd.zeroValue88
 t164 := Tryd.underlying95
 a164 := Tryd.isAgg95
 z164 := Tryd.sizeOf95
 v164 := Tryd.zeroValue95 }
theorem Tryd.Builder_Extra_156 : Builder.Extra Tryd.prog Tryd.lays156_ren := {
 sizeBuilder := by kernel_rfl
 liesBuilder := by kernel_rfl
 t5 := Tryd.underlying5
 a5 := Tryd.isAgg5
 z5 := Tryd.sizeOf5
 v5 := Tryd.zeroValue5
 infoByte := by kernel_rfl
 cellsByte := by kernel_rfl
 sizeByte := by kernel_rfl
 neB5 := by decide }
open Go.RowKit in
theorem Tryd.strings_Join_none (a : Option Addr) (c : Nat) (sep : ByteArray) (w : World) :
  Calls Tryd.prog 45 #[.slice a 0 c, .string sep] w fun e w' => e = .returned (.string ⟨#[]⟩) ∧ w' = w := Any.strings_Join_none Tryd.lays156 Tryd.Builder_Extra_156 a c sep w
open Go.RowKit in
theorem Tryd.strings_Join (bk o c : Nat) (xs : List ByteArray) (sep : ByteArray) (w : World) (hcells : ∀ (j : Nat) x, xs[j]? = some x → w.cell? ⟨bk, o + j, none⟩ = some (.string x)) (hbk : bk < w.heap.size) (hN : xs.length ≤ 140737488355328) (hcap : xs.length ≤ c) (hlen : (Lib.join (xs.map (·.data.toList)) sep.data.toList).length ≤ 140737488355328) :
  Calls Tryd.prog 45 #[.slice (some ⟨bk, o, none⟩) xs.length c, .string sep] w fun e w' => e = .returned (.string ⟨(Lib.join (xs.map (·.data.toList)) sep.data.toList).toArray⟩) ∧ Below w.heap.size w w' := Any.strings_Join Tryd.lays156 Tryd.Builder_Extra_156 bk o c xs sep w hcells hbk hN hcap hlen
def Tryd.lays172_ren : Go.Shelf.Ren := ⟨fun | 172 => 49 | 244 => 61 | 245 => 62 | 247 => 77 | 279 => 78 | 280 => 79 | 281 => 80 | 282 => 81 | 287 => 93 | 316 => 94 | 171 => 22 | 205 => 95 | 321 => 99 | 322 => 100 | 243 => 44 | 246 => 55 | 283 => 67 | 284 => 68 | 285 => 69 | 286 => 70 | 129 => 86 | 317 => 85 | 318 => 87 | 319 => 88 | 320 => 89 | 337 => 97 | 338 => 98 | n => n, fun | 9 => 9 | 3 => 3 | 75 => 61 | 76 => 62 | 4 => 4 | 5 => 5 | 167 => 116 | 37 => 57 | 0 => 0 | 85 => 117 | 2 => 2 | 168 => 119 | 53 => 111 | 175 => 135 | 46 => 108 | 210 => 139 | 127 => 88 | 145 => 145 | 143 => 143 | 21 => 21 | 171 => 110 | 173 => 114 | 212 => 124 | 51 => 125 | 20 => 20 | 213 => 126 | 232 => 146 | 233 => 147 | 80 => 68 | n => n, fun | 15 => 4 | 16 => 5 | 17 => 1 | 18 => 6 | 19 => 7 | n => n⟩
theorem Tryd.lays172 : Go.Proofs.Lays.n172 Tryd.prog Tryd.lays172_ren := {
 mixed := by kernel_rfl
 f129 := Tryd.func86.trans (congrArg some (by kernel_rfl))
 f171 := Tryd.func22.trans (congrArg some (by kernel_rfl))
 f172 := Tryd.func49.trans (congrArg some (by kernel_rfl))
 f205 := Tryd.func95.trans (congrArg some (by kernel_rfl))
 f243 := Tryd.func44.trans (congrArg some (by kernel_rfl))
 f244 := Tryd.func61.trans (congrArg some (by kernel_rfl))
 f245 := Tryd.func62.trans (congrArg some (by kernel_rfl))
 f246 := Tryd.func55.trans (congrArg some (by kernel_rfl))
 f247 := Tryd.func77.trans (congrArg some (by kernel_rfl))
 f279 := Tryd.func78.trans (congrArg some (by kernel_rfl))
 f280 := Tryd.func79.trans (congrArg some (by kernel_rfl))
 f281 := Tryd.func80.trans (congrArg some (by kernel_rfl))
 f282 := Tryd.func81.trans (congrArg some (by kernel_rfl))
 f283 := Tryd.func67.trans (congrArg some (by kernel_rfl))
 f284 := Tryd.func68.trans (congrArg some (by kernel_rfl))
 f285 := Tryd.func69.trans (congrArg some (by kernel_rfl))
 f286 := Tryd.func70.trans (congrArg some (by kernel_rfl))
 f287 := Tryd.func93.trans (congrArg some (by kernel_rfl))
 f316 := Tryd.func94.trans (congrArg some (by kernel_rfl))
 f317 := Tryd.func85.trans (congrArg some (by kernel_rfl))
 f318 := Tryd.func87.trans (congrArg some (by kernel_rfl))
 f319 := Tryd.func88.trans (congrArg some (by kernel_rfl))
 f320 := Tryd.func89.trans (congrArg some (by kernel_rfl))
 f321 := Tryd.func99.trans (congrArg some (by kernel_rfl))
 f322 := Tryd.func100.trans (congrArg some (by kernel_rfl))
 f337 := Tryd.func97.trans (congrArg some (by kernel_rfl))
 f338 := Tryd.func98.trans (congrArg some (by kernel_rfl))
 t0 := Tryd.underlying0
 a0 := Tryd.isAgg0
 z0 := Tryd.sizeOf0
 v0 := Tryd.zeroValue0
 t2 := Tryd.underlying2
 a2 := Tryd.isAgg2
 z2 := Tryd.sizeOf2
 v2 := Tryd.zeroValue2
 t3 := Tryd.underlying3
 a3 := Tryd.isAgg3
 z3 := Tryd.sizeOf3
 v3 := Tryd.zeroValue3
 t4 := Tryd.underlying4
 a4 := Tryd.isAgg4
 z4 := Tryd.sizeOf4
 v4 := Tryd.zeroValue4
 t5 := Tryd.underlying5
 a5 := Tryd.isAgg5
 z5 := Tryd.sizeOf5
 v5 := Tryd.zeroValue5
 t9 := Tryd.underlying9
 a9 := Tryd.isAgg9
 z9 := Tryd.sizeOf9
 v9 := Tryd.zeroValue9
 t20 := Tryd.underlying20
 a20 := Tryd.isAgg20
 z20 := Tryd.sizeOf20
 v20 := Tryd.zeroValue20
 t21 := Tryd.underlying21
 a21 := Tryd.isAgg21
 z21 := Tryd.sizeOf21
 v21 := Tryd.zeroValue21
 t37 := Tryd.underlying57
 a37 := Tryd.isAgg57
 z37 := Tryd.sizeOf57
 v37 := Tryd.zeroValue57
 t46 := Tryd.underlying108
 a46 := Tryd.isAgg108
 z46 := Tryd.sizeOf108
 v46 := Tryd.zeroValue108
 t51 := Tryd.underlying125
 a51 := Tryd.isAgg125
 z51 := Tryd.sizeOf125
 v51 := Tryd.zeroValue125
 t53 := Tryd.underlying111
 a53 := Tryd.isAgg111
 z53 := Tryd.sizeOf111
 v53 := Tryd.zeroValue111
 t75 := Tryd.underlying61
 a75 := Tryd.isAgg61
 z75 := Tryd.sizeOf61
 v75 := Tryd.zeroValue61
 t76 := Tryd.underlying62
 a76 := Tryd.isAgg62
 z76 := Tryd.sizeOf62
 v76 := Tryd.zeroValue62
 t85 := Tryd.underlying117
 a85 := Tryd.isAgg117
 z85 := Tryd.sizeOf117
 v85 := Tryd.zeroValue117
 t127 := Tryd.underlying88
 a127 := Tryd.isAgg88
 z127 := Tryd.sizeOf88
 v127 := Tryd.zeroValue88
 t143 := Tryd.underlying143
 a143 := Tryd.isAgg143
 z143 := Tryd.sizeOf143
 v143 := Tryd.zeroValue143
 t145 := Tryd.underlying145
 a145 := Tryd.isAgg145
 z145 := Tryd.sizeOf145
 v145 := Tryd.zeroValue145
 t167 := Tryd.underlying116
 a167 := Tryd.isAgg116
 z167 := Tryd.sizeOf116
 v167 := Tryd.zeroValue116
 t168 := Tryd.underlying119
 a168 := Tryd.isAgg119
 z168 := Tryd.sizeOf119
 v168 := Tryd.zeroValue119
 t171 := Tryd.underlying110
 a171 := Tryd.isAgg110
 z171 := Tryd.sizeOf110
 v171 := Tryd.zeroValue110
 t173 := Tryd.underlying114
 a173 := Tryd.isAgg114
 z173 := Tryd.sizeOf114
 v173 := Tryd.zeroValue114
 t175 := Tryd.underlying135
 a175 := Tryd.isAgg135
 z175 := Tryd.sizeOf135
 v175 := Tryd.zeroValue135
 t210 := Tryd.underlying139
 a210 := Tryd.isAgg139
 z210 := Tryd.sizeOf139
 v210 := Tryd.zeroValue139
 t212 := Tryd.underlying124
 a212 := Tryd.isAgg124
 z212 := Tryd.sizeOf124
 v212 := Tryd.zeroValue124
 t213 := Tryd.underlying126
 a213 := Tryd.isAgg126
 z213 := Tryd.sizeOf126
 t232 := Tryd.underlying146
 a232 := Tryd.isAgg146
 z232 := Tryd.sizeOf146
 v232 := Tryd.zeroValue146
 t233 := Tryd.underlying147
 a233 := Tryd.isAgg147
 z233 := Tryd.sizeOf147
 v233 := Tryd.zeroValue147
 g15 := by kernel_rfl
 g16 := by kernel_rfl
 g17 := by kernel_rfl
 g18 := by kernel_rfl
 g19 := by kernel_rfl }
open Go.RowKit in
theorem Tryd.strconv_Atoi (s : ByteArray) (n : Int) (hl : s.size ≤ 18) (h : Lib.atoi s.data.toList = some n) (w : World) :
  Calls Tryd.prog 49 #[.string s] w fun e w' => e = .returned (.tuple #[.int .i64 n, .nilIface]) ∧ ∃ t, w' = Lib.bytesWorld w 5 t := Any.strconv_Atoi Tryd.lays172 s n hl h w
def Tryd.laysM171_ren : Go.Shelf.Ren := ⟨fun | 171 => 22 | 243 => 44 | 246 => 55 | 283 => 67 | 284 => 68 | 285 => 69 | 286 => 70 | 129 => 86 | 317 => 85 | 318 => 87 | 319 => 88 | 320 => 89 | 337 => 97 | 338 => 98 | n => n, fun | 3 => 3 | 9 => 9 | 2 => 2 | 4 => 4 | 171 => 110 | 0 => 0 | 53 => 111 | 37 => 57 | 5 => 5 | 173 => 114 | 212 => 124 | 51 => 125 | 20 => 20 | 213 => 126 | 46 => 108 | 232 => 146 | 233 => 147 | n => n, fun | 17 => 1 | 18 => 6 | 19 => 7 | n => n⟩
theorem Tryd.laysM171 : Go.Proofs.LaysM.n171 Tryd.prog Tryd.laysM171_ren := {
 mixed := by kernel_rfl
 f129 := Tryd.func86.trans (congrArg some (by kernel_rfl))
 f171 := Tryd.func22.trans (congrArg some (by kernel_rfl))
 f243 := Tryd.func44.trans (congrArg some (by kernel_rfl))
 f246 := Tryd.func55.trans (congrArg some (by kernel_rfl))
 f283 := Tryd.func67.trans (congrArg some (by kernel_rfl))
 f284 := Tryd.func68.trans (congrArg some (by kernel_rfl))
 f285 := Tryd.func69.trans (congrArg some (by kernel_rfl))
 f286 := Tryd.func70.trans (congrArg some (by kernel_rfl))
 f317 := Tryd.func85.trans (congrArg some (by kernel_rfl))
 f318 := Tryd.func87.trans (congrArg some (by kernel_rfl))
 f319 := Tryd.func88.trans (congrArg some (by kernel_rfl))
 f320 := Tryd.func89.trans (congrArg some (by kernel_rfl))
 f337 := Tryd.func97.trans (congrArg some (by kernel_rfl))
 f338 := Tryd.func98.trans (congrArg some (by kernel_rfl))
 t0 := Tryd.underlying0
 a0 := Tryd.isAgg0
 z0 := Tryd.sizeOf0
 v0 := Tryd.zeroValue0
 t2 := Tryd.underlying2
 a2 := Tryd.isAgg2
 z2 := Tryd.sizeOf2
 v2 := Tryd.zeroValue2
 t3 := Tryd.underlying3
 a3 := Tryd.isAgg3
 z3 := Tryd.sizeOf3
 v3 := Tryd.zeroValue3
 t4 := Tryd.underlying4
 a4 := Tryd.isAgg4
 z4 := Tryd.sizeOf4
 v4 := Tryd.zeroValue4
 t5 := Tryd.underlying5
 a5 := Tryd.isAgg5
 z5 := Tryd.sizeOf5
 v5 := Tryd.zeroValue5
 t9 := Tryd.underlying9
 a9 := Tryd.isAgg9
 z9 := Tryd.sizeOf9
 v9 := Tryd.zeroValue9
 t20 := Tryd.underlying20
 a20 := Tryd.isAgg20
 z20 := Tryd.sizeOf20
 v20 := Tryd.zeroValue20
 t37 := Tryd.underlying57
 a37 := Tryd.isAgg57
 z37 := Tryd.sizeOf57
 v37 := Tryd.zeroValue57
 t46 := Tryd.underlying108
 a46 := Tryd.isAgg108
 z46 := Tryd.sizeOf108
 v46 := Tryd.zeroValue108
 t51 := Tryd.underlying125
 a51 := Tryd.isAgg125
 z51 := Tryd.sizeOf125
 v51 := Tryd.zeroValue125
 t53 := Tryd.underlying111
 a53 := Tryd.isAgg111
 z53 := Tryd.sizeOf111
 v53 := Tryd.zeroValue111
 t171 := Tryd.underlying110
 a171 := Tryd.isAgg110
 z171 := Tryd.sizeOf110
 v171 := Tryd.zeroValue110
 t173 := Tryd.underlying114
 a173 := Tryd.isAgg114
 z173 := Tryd.sizeOf114
 v173 := Tryd.zeroValue114
 t212 := Tryd.underlying124
 a212 := Tryd.isAgg124
 z212 := Tryd.sizeOf124
 v212 := Tryd.zeroValue124
 t213 := Tryd.underlying126
 a213 := Tryd.isAgg126
 z213 := Tryd.sizeOf126
 t232 := Tryd.underlying146
 a232 := Tryd.isAgg146
 z232 := Tryd.sizeOf146
 v232 := Tryd.zeroValue146
 t233 := Tryd.underlying147
 a233 := Tryd.isAgg147
 z233 := Tryd.sizeOf147
 v233 := Tryd.zeroValue147
 g17 := by kernel_rfl
 g18 := by kernel_rfl
 g19 := by kernel_rfl
 i0 := by kernel_rfl
 i2 := by kernel_rfl
 i3 := by kernel_rfl
 i4 := by kernel_rfl
 i5 := by kernel_rfl
 i9 := by kernel_rfl
 i20 := by kernel_rfl
 i37 := by kernel_rfl
 i46 := by kernel_rfl
 i51 := by kernel_rfl
 i53 := by kernel_rfl
 i171 := by kernel_rfl
 i173 := by kernel_rfl
 i212 := by kernel_rfl
 i232 := by kernel_rfl
 i233 := by kernel_rfl
 m17 := by kernel_rfl
 m18 := by kernel_rfl
 m19 := by kernel_rfl }
open Go.RowKit Go.Sort Go.Lib in
theorem Tryd.strconv_Itoa (n : Int) (h0 : -9223372036854775808 ≤ n) (h1 : n ≤ 9223372036854775807) (w : World) (htab : Lib.TabIs Tryd.prog w "internal/strconv.uint64pow10" .u64 Lib.pow10Tab) :
  Calls Tryd.prog 22 #[.int .i64 n] w fun e w' => e = .returned (.string ⟨(Lib.itoa n).toArray⟩) ∧ ∃ k os, w' = grow (w.drewN k) os := Any.strconv_Itoa Tryd.laysM171 n h0 h1 w htab
def Tryd.lays146_ren : Go.Shelf.Ren := ⟨fun | 146 => 11 | 221 => 26 | 268 => 46 | 138 => 47 | 143 => 48 | 195 => 57 | 197 => 58 | 218 => 59 | 219 => 60 | 260 => 72 | 217 => 73 | 225 => 74 | 224 => 75 | 267 => 76 | 266 => 91 | 314 => 92 | n => n, fun | 9 => 9 | 31 => 35 | 3 => 3 | 4 => 4 | 0 => 0 | 105 => 100 | 21 => 21 | 5 => 5 | 46 => 108 | 119 => 129 | 139 => 132 | 138 => 131 | 146 => 133 | 51 => 125 | n => n, fun | 1 => 0 | 3 => 2 | 4 => 3 | n => n⟩
theorem Tryd.lays146 : Go.Proofs.Lays.n146 Tryd.prog Tryd.lays146_ren := {
 mixed := by kernel_rfl
 f138 := Tryd.func47.trans (congrArg some (by kernel_rfl))
 f143 := Tryd.func48.trans (congrArg some (by kernel_rfl))
 f146 := Tryd.func11.trans (congrArg some (by kernel_rfl))
 f195 := Tryd.func57.trans (congrArg some (by kernel_rfl))
 f197 := Tryd.func58.trans (congrArg some (by kernel_rfl))
 f217 := Tryd.func73.trans (congrArg some (by kernel_rfl))
 f218 := Tryd.func59.trans (congrArg some (by kernel_rfl))
 f219 := Tryd.func60.trans (congrArg some (by kernel_rfl))
 f221 := Tryd.func26.trans (congrArg some (by kernel_rfl))
 f224 := Tryd.func75.trans (congrArg some (by kernel_rfl))
 f225 := Tryd.func74.trans (congrArg some (by kernel_rfl))
 f260 := Tryd.func72.trans (congrArg some (by kernel_rfl))
 f266 := Tryd.func91.trans (congrArg some (by kernel_rfl))
 f267 := Tryd.func76.trans (congrArg some (by kernel_rfl))
 f268 := Tryd.func46.trans (congrArg some (by kernel_rfl))
 f314 := Tryd.func92.trans (congrArg some (by kernel_rfl))
 t0 := Tryd.underlying0
 a0 := Tryd.isAgg0
 z0 := Tryd.sizeOf0
 v0 := Tryd.zeroValue0
 t3 := Tryd.underlying3
 a3 := Tryd.isAgg3
 z3 := Tryd.sizeOf3
 v3 := Tryd.zeroValue3
 t4 := Tryd.underlying4
 a4 := Tryd.isAgg4
 z4 := Tryd.sizeOf4
 v4 := Tryd.zeroValue4
 t5 := Tryd.underlying5
 a5 := Tryd.isAgg5
 z5 := Tryd.sizeOf5
 v5 := Tryd.zeroValue5
 t9 := Tryd.underlying9
 a9 := Tryd.isAgg9
 z9 := Tryd.sizeOf9
 v9 := Tryd.zeroValue9
 t21 := Tryd.underlying21
 a21 := Tryd.isAgg21
 z21 := Tryd.sizeOf21
 v21 := Tryd.zeroValue21
 t31 := Tryd.underlying35
 a31 := Tryd.isAgg35
 z31 := Tryd.sizeOf35
 v31 := Tryd.zeroValue35
 t46 := Tryd.underlying108
 a46 := Tryd.isAgg108
 z46 := Tryd.sizeOf108
 v46 := Tryd.zeroValue108
 t51 := Tryd.underlying125
 a51 := Tryd.isAgg125
 z51 := Tryd.sizeOf125
 v51 := Tryd.zeroValue125
 t105 := Tryd.underlying100
 a105 := Tryd.isAgg100
 z105 := Tryd.sizeOf100
 v105 := Tryd.zeroValue100
 t119 := Tryd.underlying129
 a119 := Tryd.isAgg129
 z119 := Tryd.sizeOf129
 t138 := Tryd.underlying131
 a138 := Tryd.isAgg131
 z138 := Tryd.sizeOf131
 v138 := Tryd.zeroValue131
 t139 := Tryd.underlying132
 a139 := Tryd.isAgg132
 z139 := Tryd.sizeOf132
 v139 := Tryd.zeroValue132
 t146 := Tryd.underlying133
 a146 := Tryd.isAgg133
 z146 := Tryd.sizeOf133
 v146 := Tryd.zeroValue133
 g1 := by kernel_rfl
 g3 := by kernel_rfl
 g4 := by kernel_rfl }
open Go.RowKit Go.Lib in
theorem Tryd.strings_Split (s sep : ByteArray) (m : Int) (w : World) (hs : s.size < 4294967281) (hm : w.cell? ⟨0, 0, none⟩ = some (.int .i64 m)) (h1 : 1 ≤ sep.size) :
  Calls Tryd.prog 11 #[.string s, .string sep] w fun e w' =>
   e = .returned (.slice (some ⟨w.heap.size, 0, none⟩) (Lib.countB s sep + 1) (Lib.countB s sep + 1)) ∧ w' = w.alloc (.cells ((Lib.splitB sep 0 (Lib.countB s sep) s).map Value.string).toArray 9) := Any.strings_Split Tryd.lays146 (by kernel_rfl) s sep m w hs hm h1
def Tryd.laysM146_ren : Go.Shelf.Ren := ⟨fun | 146 => 11 | 221 => 26 | 268 => 46 | 138 => 47 | 143 => 48 | 195 => 57 | 197 => 58 | 218 => 59 | 219 => 60 | 260 => 72 | 217 => 73 | 225 => 74 | 224 => 75 | 267 => 76 | 266 => 91 | 314 => 92 | n => n, fun | 9 => 9 | 31 => 35 | 3 => 3 | 4 => 4 | 0 => 0 | 105 => 100 | 21 => 21 | 5 => 5 | 46 => 108 | 119 => 129 | 139 => 132 | 138 => 131 | 146 => 133 | 51 => 125 | n => n, fun | 1 => 0 | 3 => 2 | 4 => 3 | n => n⟩
theorem Tryd.laysM146 : Go.Proofs.LaysM.n146 Tryd.prog Tryd.laysM146_ren := {
 mixed := by kernel_rfl
 f138 := Tryd.func47.trans (congrArg some (by kernel_rfl))
 f143 := Tryd.func48.trans (congrArg some (by kernel_rfl))
 f146 := Tryd.func11.trans (congrArg some (by kernel_rfl))
 f195 := Tryd.func57.trans (congrArg some (by kernel_rfl))
 f197 := Tryd.func58.trans (congrArg some (by kernel_rfl))
 f217 := Tryd.func73.trans (congrArg some (by kernel_rfl))
 f218 := Tryd.func59.trans (congrArg some (by kernel_rfl))
 f219 := Tryd.func60.trans (congrArg some (by kernel_rfl))
 f221 := Tryd.func26.trans (congrArg some (by kernel_rfl))
 f224 := Tryd.func75.trans (congrArg some (by kernel_rfl))
 f225 := Tryd.func74.trans (congrArg some (by kernel_rfl))
 f260 := Tryd.func72.trans (congrArg some (by kernel_rfl))
 f266 := Tryd.func91.trans (congrArg some (by kernel_rfl))
 f267 := Tryd.func76.trans (congrArg some (by kernel_rfl))
 f268 := Tryd.func46.trans (congrArg some (by kernel_rfl))
 f314 := Tryd.func92.trans (congrArg some (by kernel_rfl))
 t0 := Tryd.underlying0
 a0 := Tryd.isAgg0
 z0 := Tryd.sizeOf0
 v0 := Tryd.zeroValue0
 t3 := Tryd.underlying3
 a3 := Tryd.isAgg3
 z3 := Tryd.sizeOf3
 v3 := Tryd.zeroValue3
 t4 := Tryd.underlying4
 a4 := Tryd.isAgg4
 z4 := Tryd.sizeOf4
 v4 := Tryd.zeroValue4
 t5 := Tryd.underlying5
 a5 := Tryd.isAgg5
 z5 := Tryd.sizeOf5
 v5 := Tryd.zeroValue5
 t9 := Tryd.underlying9
 a9 := Tryd.isAgg9
 z9 := Tryd.sizeOf9
 v9 := Tryd.zeroValue9
 t21 := Tryd.underlying21
 a21 := Tryd.isAgg21
 z21 := Tryd.sizeOf21
 v21 := Tryd.zeroValue21
 t31 := Tryd.underlying35
 a31 := Tryd.isAgg35
 z31 := Tryd.sizeOf35
 v31 := Tryd.zeroValue35
 t46 := Tryd.underlying108
 a46 := Tryd.isAgg108
 z46 := Tryd.sizeOf108
 v46 := Tryd.zeroValue108
 t51 := Tryd.underlying125
 a51 := Tryd.isAgg125
 z51 := Tryd.sizeOf125
 v51 := Tryd.zeroValue125
 t105 := Tryd.underlying100
 a105 := Tryd.isAgg100
 z105 := Tryd.sizeOf100
 v105 := Tryd.zeroValue100
 t119 := Tryd.underlying129
 a119 := Tryd.isAgg129
 z119 := Tryd.sizeOf129
 t138 := Tryd.underlying131
 a138 := Tryd.isAgg131
 z138 := Tryd.sizeOf131
 v138 := Tryd.zeroValue131
 t139 := Tryd.underlying132
 a139 := Tryd.isAgg132
 z139 := Tryd.sizeOf132
 v139 := Tryd.zeroValue132
 t146 := Tryd.underlying133
 a146 := Tryd.isAgg133
 z146 := Tryd.sizeOf133
 v146 := Tryd.zeroValue133
 g1 := by kernel_rfl
 g3 := by kernel_rfl
 g4 := by kernel_rfl
 i0 := by kernel_rfl
 i3 := by kernel_rfl
 i4 := by kernel_rfl
 i5 := by kernel_rfl
 i9 := by kernel_rfl
 i21 := by kernel_rfl
 i31 := by kernel_rfl
 i46 := by kernel_rfl
 i51 := by kernel_rfl
 i105 := by kernel_rfl
 i138 := by kernel_rfl
 i139 := by kernel_rfl
 i146 := by kernel_rfl
 m1 := by kernel_rfl
 s1_3 := fun w h => Go.Proofs.cell_of_shapedOpen_int (zero := #[.int .i64 0]) (t := 3) h (of_decide_eq_true (by kernel_rfl)) (by kernel_rfl) rfl (by kernel_rfl) (by kernel_rfl) Tryd.underlying3
 m3 := by kernel_rfl
 m4 := by kernel_rfl }
end Go.Proofs
