/- Part of the proof: C3PG, C3PH, C3PI, C3P4, C3Sh. -/
import Derived.Test.YtkeeppclihjlhaaGreatDoorQC3PF
import Derived.Test.YtkeeppclihjlhaaGreatDoorQC3PA
import Derived.Shelf.Small.Strs
import Derived.Shelf.Strconv.Atoi
import Derived.Shelf.Strconv.Itoa0
import Derived.Shelf.Strconv.Itoa1
import Derived.Shelf.LaysM
import Derived.Shelf.Strconv.Itoa2
import Derived.Shelf.Strconv.Itoa3
import Derived.Shelf.Strconv.AtoiErrFast
import Derived.Shelf.Strconv.ParseIntEmpty
import Derived.Shelf.Strconv.AtoiFail
import Derived.Shelf.Strconv.SyntaxError
import Derived.Shelf.Strconv.Lower
import Derived.Shelf.Strconv.ParseUint10
import Derived.Shelf.Strconv.ParseUint10Empty
import Derived.Shelf.Strconv.RangeError
import Derived.Shelf.Strconv.ParseUintEmpty
import Derived.Shelf.Strconv.ParseUint10b64
import Derived.Shelf.Strconv.ParseUint10b32
import Derived.Shelf.Strconv.ParseUint10b16
import Derived.Shelf.Strconv.ParseUint10b8
import Derived.Shelf.Strings.Search1
import Derived.Shelf.Sort.Plain
import Derived.Shelf.Strings.Prefix
import Derived.Shelf.Slices.Turned
import Derived.Shelf.Slices.Equal
import Derived.Ground.Names2Prog
import Derived.Shelf.Slices.CompactI
import Derived.Shelf.Slices.SearchI
import Derived.Shelf.Slices.In.SortNone
import Derived.Shelf.Slices.Empties2
import Derived.Test.YtkeeppclihjlhaaGreatDoorProg
namespace Go.Proofs.YtkeeppclihjlhaaGreatDoor
open Go Go.Pv
set_option linter.unusedVariables false
set_option linter.unusedSimpArgs false
set_option maxRecDepth 100000
open Classical in
noncomputable def trE (x : TTest) : Tr := if h : ∃ t : Tr, x = t.toT ∧ t.ok then h.choose else .mk 0 [] [] 0 0 []
theorem trE_spec {x : TTest} (h : okTTest x) : x = (trE x).toT ∧ (trE x).ok := by
 have h' : ∃ t : Tr, x = t.toT ∧ t.ok := h
 unfold trE
 rw [dif_pos h']
 exact h'.choose_spec
noncomputable def vTT (x : TTest) : Int := vT (trE x)
theorem M12_tt {x : TTest} (h : okTTest x) {F : Nat} (hF : (trE x).fu ≤ F) : M12 F x = some (vTT x) := by
 obtain ⟨h1, h2⟩ := trE_spec h
 have := M12_tr (trE x) h2 F hF
 rwa [← h1] at this
theorem M13_tt {x : TTest} (h : okTTest x) {F : Nat} (hF : (trE x).fu ≤ F) : M13 F x = some (vTT x) := by
 obtain ⟨h1, h2⟩ := trE_spec h
 have := M13_tr (trE x) h2 F hF
 rwa [← h1] at this
theorem okTFact_of {f : TFact} (h : okTFact f) : okTFact' f :=
 ⟨h.1, h.2.1, fun p hp => ⟨(h.2.2.1.1 p hp).1, (h.2.2.1.1 p hp).2.1⟩, h.2.2.1.2, fun p hp => (h.2.2.2.1.1 p hp).1, h.2.2.2.1.2⟩
noncomputable def fuP (p : TPolicy) : Nat := (p.Rules.map fun r => (trE r.When).fu).sum + (p.Waivers.map fun w => w.Subject.length + 2).sum
theorem le_sum {α : Type} {g : α → Nat} : ∀ {l : List α} {x : α}, x ∈ l → g x ≤ (l.map g).sum
 | y :: l, x, h => by
  rcases List.mem_cons.1 h with e | h
  ·subst e; simp
  ·have := le_sum (g := g) h; simp; omega
noncomputable def rlF (seen : List (List UInt8)) : List TPolicyRule → Int
 | [] => 0
 | r :: l => if nameB r.Name = false then 8 else if (seen.any fun n => n == r.Name) = true then 5 else if nameB r.About = false then 8 else if vTT r.When = 0 then (if (decide (r.Level < 1) || decide (r.Level > 4)) = true then 7 else rlF (seen ++ [r.Name]) l) else vTT r.When
def starB (s : List UInt8) : Bool := s.dropLast.any fun c => c == 42
def wvF (p : TPolicy) (w : TWaiver) : Int :=
 if (p.Rules.any fun r => r.Name == w.Rule) = false then 4 else if valB w.Subject = false then 2 else if starB w.Subject = true then 2
 else if (decide (w.From < 0) || decide (w.From > w.To) || decide (w.To > 1000000)) = true then 9 else if nameB w.Owner = false then 8 else if (decide (w.Level < 1) || decide (w.Level > 3)) = true then 7 else 0
def wvsF (p : TPolicy) : List TWaiver → Int
 | [] => 0
 | w :: l => if wvF p w = 0 then wvsF p l else wvF p w
noncomputable def vP (p : TPolicy) : Int := if 100 < p.Rules.length then 3 else if 200 < p.Waivers.length then 3 else if rlF [] p.Rules = 0 then wvsF p p.Waivers else rlF [] p.Rules
theorem M72_eq (F : Nat) (l : List TPolicyRule) (nm : List UInt8) : ∃ y, M72 F l nm = some y ∧ (decide (y ≥ 0) = l.any fun r => r.Name == nm) ∧ (decide (y < 0) = !l.any fun r => r.Name == nm) := by
 unfold M72
 have h := idxL (g := M72_L1 F nm (some (-1))) (fun r => r.Name == nm) (fun _ => rfl) (fun x l n => by rw [M72_L1]) l 0
 rw [show ((0 : Nat) : Int) = 0 from rfl] at h
 rw [jn_def, h]
 cases ha : l.any fun r => r.Name == nm
 ·exact ⟨_, rfl, rfl, rfl⟩
 ·refine ⟨_, if_pos rfl, ?_, ?_⟩
  ·exact decide_eq_true (by omega)
  ·exact decide_eq_false (by omega)
theorem M70_eq (F : Nat) (l : List TPolicyRule) (a : List UInt8) (b : List UInt8) (c d : Int) (e : List UInt8) (g : Int) : M70 F l a b c d e g = some (l.any fun r => r.Name == a) := by
 unfold M70 M80
 have h := idxL (g := M80_L1 F a b c d e g (some (-1))) (fun r : TPolicyRule => r.Name == a) (fun _ => rfl) (fun x l n => by rw [M80_L1]; rfl) l 0
 rw [show ((0 : Nat) : Int) = 0 from rfl] at h
 rw [jn_def, h]
 exact anyGe
theorem ixb : ∀ s : List UInt8, (Lib.indexByte s 42 = -1 ∧ (s.any fun c => c == 42) = false) ∨ (0 ≤ Lib.indexByte s 42 ∧ (s.any fun c => c == 42) = true)
 | [] => Or.inl ⟨rfl, rfl⟩
 | c :: s => by
  rw [Lib.indexByte, List.any_cons]
  cases hc : c == 42
  ·simp only [Bool.false_eq_true, if_false, Bool.false_or]
   rcases ixb s with h | h
   ·rw [h.1]; exact Or.inl ⟨rfl, h.2⟩
   ·right
    rw [beq_false_of_ne (show Lib.indexByte s 42 ≠ -1 by omega)]
    exact ⟨by simp; omega, h.2⟩
  ·right; simp
theorem star_eq : ∀ s : List UInt8, (decide (0 ≤ Lib.indexByte s 42) && decide (Lib.indexByte s 42 < (s.length : Int) - 1)) = starB s
 | [] => rfl
 | [c] => by
  unfold starB
  simp only [List.dropLast_singleton, List.any_nil, List.length_singleton]
  by_cases h : 0 ≤ Lib.indexByte [c] 42
  ·rw [decide_eq_false (show ¬ Lib.indexByte [c] 42 < ((1 : Nat) : Int) - 1 by omega), Bool.and_false]
  ·rw [decide_eq_false h, Bool.false_and]
 | c :: d :: s => by
  have ih := star_eq (d :: s)
  unfold starB at ih ⊢
  rw [List.dropLast_cons_cons, List.any_cons, ← ih, Lib.indexByte]
  cases hc : c == 42
  ·simp only [Bool.false_eq_true, if_false, Bool.false_or]
   rcases ixb (d :: s) with h | h
   ·rw [h.1]; rfl
   ·rw [beq_false_of_ne (show Lib.indexByte (d :: s) 42 ≠ -1 by omega)]
    simp only [Bool.false_eq_true, if_false]
    rw [decide_eq_true h.1, decide_eq_true (show 0 ≤ Lib.indexByte (d :: s) 42 + 1 by omega)]
    congr 1
    exact decide_eq_decide.2 (by simp only [List.length_cons]; omega)
  ·rw [if_pos rfl, decide_eq_true (by simp), decide_eq_true (by simp only [List.length_cons]; omega)]; rfl
theorem M45_eq (F : Nat) (p : TPolicy) (w : TWaiver) (hw : okTWaiver w) : M45 F p w = some (wvF p w) := by
 have h1 : okS w.Subject := hw.2.1
 have h2 : okS w.Owner := hw.2.2.2.2.1
 unfold M45 wvF
 rw [M69, Option.bind_some, M70_eq, Option.bind_some, jn_def, M35_eq F _ h1, M34_eq F _ h2]
 have hs := star_eq w.Subject
 unfold okS at h1
 rw [show (42 : Int).toNat.toUInt8 = 42 from rfl, w64_id (by omega) (by omega)]
 rw [← hs]
 simp only [Option.bind_some, ge_iff_le]
 generalize decide (Lib.indexByte w.Subject 42 < (w.Subject.length : Int) - 1) = b1
 generalize decide (0 ≤ Lib.indexByte w.Subject 42) = b2
 generalize (p.Rules.any fun r => r.Name == w.Rule) = b3
 generalize valB w.Subject = b4
 generalize decide (w.From < 0) = b5
 generalize decide (w.From > w.To) = b6
 generalize decide (w.To > 1000000) = b7
 generalize nameB w.Owner = b8
 generalize decide (w.Level < 1) = b9
 generalize decide (w.Level > 3) = b10
 cases b3 <;> cases b4
 all_goals try rfl
 cases b2 <;> cases b1 <;> cases b5 <;> cases b6 <;> cases b7 <;> cases b8 <;> cases b9 <;> cases b10 <;> rfl
theorem M47_L1_eq (F : Nat) (w : TWaiver) (k : Option Int) (hl : w.Subject.length ≤ 140737488351232) : ∀ (fuel j : Nat), w.Subject.length < fuel + j → j ≤ w.Subject.length → M47_L1 F w k fuel (j : Int) = if ((w.Subject.drop j).dropLast.any fun c => c == 42) = true then some 2 else k
 | 0, j, h1, h2 => by omega
 | fuel + 1, j, h1, h2 => by
  rw [M47_L1, w64_id (by omega) (by omega)]
  by_cases hj : j + 1 < w.Subject.length
  ·rw [if_pos (decide_eq_true (by omega)), idx_nat (by omega), Option.bind_some, show ((j : Int) + 1) = ((j + 1 : Nat) : Int) from rfl, M47_L1_eq F w k hl fuel (j + 1) (by omega) (by omega), List.drop_eq_getElem_cons (show j < w.Subject.length by omega), List.drop_eq_getElem_cons hj, List.dropLast_cons_cons, List.any_cons]
   have : (((w.Subject[j]'(by omega)).toNat : Int) == 42) = (w.Subject[j]'(by omega) == 42) := by
    by_cases h : w.Subject[j]'(by omega) = 42
    ·rw [h]; rfl
    ·have : ((w.Subject[j]'(by omega)).toNat : Int) ≠ 42 := fun e => h (UInt8.toNat_inj.1 (by show _ = 42; omega))
     rw [beq_false_of_ne h, beq_false_of_ne this]
   rw [this]
   cases (w.Subject[j]'(by omega) == 42) <;> simp
  ·rw [if_neg (by simp; omega)]
   have : ((w.Subject.drop j).dropLast) = [] := by
    apply List.eq_nil_of_length_eq_zero
    rw [List.length_dropLast, List.length_drop]; omega
   rw [this]; rfl
theorem M47_eq (F : Nat) (p : TPolicy) (w : TWaiver) (hw : okTWaiver w) (hF : w.Subject.length < F) : M47 F p w = some (wvF p w) := by
 have h1 : okS w.Subject := hw.2.1
 have h2 : okS w.Owner := hw.2.2.2.2.1
 obtain ⟨y, e1, e2, e3⟩ := M72_eq F p.Rules w.Rule
 unfold M47 wvF
 rw [e1, Option.bind_some, e3, jn_def, M38_eq F _ h1, M37_eq F _ h2, M39_eq, M39_eq]
 have hl := fun k => M47_L1_eq F w k h1 F 0 (by omega) (by omega)
 simp only [show ((0 : Nat) : Int) = 0 from rfl, List.drop_zero] at hl
 rw [hl]
 unfold starB
 simp only [Option.bind_some]
 generalize (w.Subject.dropLast.any fun c => c == 42) = b1
 generalize (p.Rules.any fun r => r.Name == w.Rule) = b3
 generalize valB w.Subject = b4
 generalize decide (w.From < 0) = b5
 generalize decide (w.From > w.To) = b6
 generalize decide (w.To > 1000000) = b7
 generalize nameB w.Owner = b8
 generalize decide (w.Level < 1) = b9
 generalize decide (w.Level > 3) = b10
 cases b3 <;> cases b4
 all_goals try rfl
 cases b1 <;> cases b5 <;> cases b6 <;> cases b7 <;> cases b8 <;> cases b9 <;> cases b10 <;> rfl
theorem M14_L2_eq (F : Nat) (p : TPolicy) (hp : okTPolicy p) : ∀ l : List TWaiver, (∀ w, w ∈ l → w ∈ p.Waivers) → M14_L2 F p (some 0) l = some (wvsF p l)
 | [], _ => rfl
 | w :: l, h => by
  rw [M14_L2, M45_eq F p w (hp.2.1.1 w (h w (by simp))), Option.bind_some, M14_L2_eq F p hp l fun u hu => h u (by simp [hu]), wvsF]
  by_cases h0 : wvF p w = 0 <;> simp [h0]
theorem M15_L2_eq (F : Nat) (p : TPolicy) (hp : okTPolicy p) (hF : fuP p ≤ F) : ∀ m n : Nat, n + m = p.Waivers.length → M15_L2 F p (some 0) m (n : Int) = some (wvsF p (p.Waivers.drop n))
 | 0, n, h => by rw [M15_L2, List.drop_eq_nil_of_le (by omega), wvsF]
 | m + 1, n, h => by
  have hn : n < p.Waivers.length := by omega
  have hm : p.Waivers[n] ∈ p.Waivers := List.getElem_mem _
  rw [M15_L2, idx_nat hn, Option.bind_some, M47_eq F p _ (hp.2.1.1 _ hm) (by have := le_sum (g := fun w : TWaiver => w.Subject.length + 2) hm; unfold fuP at hF; omega), Option.bind_some, show ((n : Int) + 1) = ((n + 1 : Nat) : Int) from rfl, M15_L2_eq F p hp hF m (n + 1) (by omega), List.drop_eq_getElem_cons hn, wvsF]
  by_cases h0 : wvF p p.Waivers[n] = 0 <;> simp [h0]
theorem M14_L1_eq (F : Nat) (p : TPolicy) (hp : okTPolicy p) (hF : fuP p ≤ F) (k : Option Int) : ∀ (l : List TPolicyRule), (∀ r, r ∈ l → r ∈ p.Rules) → ∀ (m : List (List UInt8 × Bool)) (seen : List (List UInt8)), (∀ nm, (mget m nm).getD false = seen.any fun n => n == nm) → M14_L1 F k l m = if rlF seen l = 0 then k else some (rlF seen l)
 | [], _, m, seen, _ => by simp [M14_L1, rlF]
 | r :: l, h, m, seen, hm => by
  have hr := h r (by simp)
  have hok := hp.1.1 r hr
  rw [M14_L1, M34_eq F _ hok.1, Option.bind_some, hm, M34_eq F _ hok.2.1, M12_tt hok.2.2.1 (by have := le_sum (g := fun r : TPolicyRule => (trE r.When).fu) hr; unfold fuP at hF; omega), Option.bind_some, Option.bind_some,
   M14_L1_eq F p hp hF k l (fun u hu => h u (by simp [hu])) (mput m r.Name true) (seen ++ [r.Name]) (fun nm => by
    rw [mget_mput, List.any_append, ← hm]
    by_cases e : r.Name = nm
    ·rw [if_pos e]; simp [e]
    ·rw [if_neg e]; simp [e]), rlF]
  cases nameB r.Name
  ·rfl
  ·cases (seen.any fun n => n == r.Name)
   ·cases nameB r.About
    ·rfl
    ·by_cases h0 : vTT r.When = 0
     ·simp only [h0]
      cases decide (r.Level < 1) <;> cases decide (r.Level > 4) <;> rfl
     ·simp [h0]
   ·rfl
theorem M46_eq (F : Nat) (p : TPolicy) (hp : okTPolicy p) (hF : fuP p ≤ F) (n : Nat) (hn : n < p.Rules.length) : M46 F p (n : Int) = some (
  if nameB p.Rules[n].Name = false then 8 else if (((p.Rules.take n).map (·.Name)).any fun m => m == p.Rules[n].Name) = true then 5 else if nameB p.Rules[n].About = false then 8 else if vTT p.Rules[n].When = 0 then (if (decide (p.Rules[n].Level < 1) || decide (p.Rules[n].Level > 4)) = true then 7 else 0) else vTT p.Rules[n].When) := by
 have hr : p.Rules[n] ∈ p.Rules := List.getElem_mem _
 have hok := hp.1.1 _ hr
 obtain ⟨y, e1, e2, e3⟩ := M72_eq F (p.Rules.take n) p.Rules[n].Name
 unfold M46
 rw [idx_nat hn, Option.bind_some, M37_eq F _ hok.1, Option.bind_some, if_pos (show 0 ≤ (n : Int) ∧ (n : Int).toNat ≤ p.Rules.length by omega), show ((n : Int)).toNat = n by omega, e1, Option.bind_some, e2, M37_eq F _ hok.2.1, M13_tt hok.2.2.1 (by have := le_sum (g := fun r : TPolicyRule => (trE r.When).fu) hr; unfold fuP at hF; omega), M39_eq, List.any_map]
 simp only [Option.bind_some]
 show _ = some (if nameB p.Rules[n].Name = false then 8 else if ((p.Rules.take n).any fun r => r.Name == p.Rules[n].Name) = true then 5 else _)
 cases nameB p.Rules[n].Name
 ·rfl
 ·cases ((p.Rules.take n).any fun r => r.Name == p.Rules[n].Name)
  ·cases nameB p.Rules[n].About
   ·rfl
   ·by_cases h0 : vTT p.Rules[n].When = 0
    ·simp only [h0]
     cases decide (p.Rules[n].Level < 1) <;> cases decide (p.Rules[n].Level > 4) <;> rfl
    ·simp [h0]
  ·rfl
theorem M15_L1_eq (F : Nat) (p : TPolicy) (hp : okTPolicy p) (hF : fuP p ≤ F) (k : Option Int) : ∀ m n : Nat, n + m = p.Rules.length → M15_L1 F p k m (n : Int) = if rlF ((p.Rules.take n).map (·.Name)) (p.Rules.drop n) = 0 then k else some (rlF ((p.Rules.take n).map (·.Name)) (p.Rules.drop n))
 | 0, n, h => by rw [M15_L1, List.drop_eq_nil_of_le (by omega), rlF]; rfl
 | m + 1, n, h => by
  have hn : n < p.Rules.length := by omega
  rw [M15_L1, M46_eq F p hp hF n hn, Option.bind_some, show ((n : Int) + 1) = ((n + 1 : Nat) : Int) from rfl, M15_L1_eq F p hp hF k m (n + 1) (by omega), List.drop_eq_getElem_cons hn, rlF, List.take_succ_eq_append_getElem hn, List.map_append, List.map_cons, List.map_nil]
  cases nameB p.Rules[n].Name
  ·rfl
  ·cases (((p.Rules.take n).map (·.Name)).any fun m => m == p.Rules[n].Name)
   ·cases nameB p.Rules[n].About
    ·rfl
    ·by_cases h0 : vTT p.Rules[n].When = 0
     ·simp only [h0]
      cases decide (p.Rules[n].Level < 1) <;> cases decide (p.Rules[n].Level > 4) <;> rfl
     ·simp [h0]
   ·rfl
theorem M14_eq (p : TPolicy) (hp : okTPolicy p) (F : Nat) (hF : fuP p ≤ F) : M14 F p = some (vP p) := by
 unfold M14 vP
 simp only [jn_def]
 rw [M14_L1_eq F p hp hF _ p.Rules (fun _ h => h) [] [] (fun nm => rfl), M14_L2_eq F p hp _ fun _ h => h]
 by_cases h1 : 100 < p.Rules.length
 ·rw [if_pos (decide_eq_true (by omega)), if_pos h1]
 ·rw [if_neg (by simp; omega), if_neg h1]
  by_cases h2 : 200 < p.Waivers.length
  ·rw [if_pos (decide_eq_true (by omega)), if_pos h2]
  ·rw [if_neg (by simp; omega), if_neg h2]
   split <;> rfl
theorem M15_eq (p : TPolicy) (hp : okTPolicy p) (F : Nat) (hF : fuP p ≤ F) : M15 F p = some (vP p) := by
 have hm1 := hp.1.2
 have hm2 := hp.2.1.2
 rw [maxLen_eq] at hm1 hm2
 unfold M15 vP
 simp only [jn_def]
 have e1 := M15_L1_eq F p hp hF (some (wvsF p p.Waivers)) p.Rules.length 0 (by omega)
 have e2 := M15_L2_eq F p hp hF p.Waivers.length 0 (by omega)
 simp only [show ((0 : Nat) : Int) = 0 from rfl, List.drop_zero, List.take_zero, List.map_nil] at e1 e2
 rw [show (((p.Waivers.length : Nat) : Int)).toNat = p.Waivers.length by omega, show (((p.Rules.length : Nat) : Int)).toNat = p.Rules.length by omega, e2, if_pos (show ((p.Waivers.length : Nat) : Int) ≤ 9223372036854775807 by omega), e1]
 by_cases h1 : 100 < p.Rules.length
 ·rw [if_pos (decide_eq_true (by omega)), if_pos h1]
 ·rw [if_neg (by simp; omega), if_neg h1]
  by_cases h2 : 200 < p.Waivers.length
  ·rw [if_pos (decide_eq_true (by omega)), if_pos h2]
  ·rw [if_neg (by simp; omega), if_neg h2]
   split <;> rfl
def okFs (l : List TFact) : Prop := (∀ f, f ∈ l → okTFact f) ∧ l.length ≤ maxLen
def fsF : List TFact → Int
 | [] => 0
 | f :: l => if vF f = 0 then fsF l else vF f
def vFs (l : List TFact) : Int := if 5000 < l.length then 3 else fsF l
theorem M78_eq (F : Nat) (l : List TFact) (h : okFs l) : M78 F l = some (vFs l) := by
 have hl : ∀ q : List TFact, (∀ f, f ∈ q → f ∈ l) → M78_L1 F (some 0) q = some (fsF q) := by
  intro q
  induction q with
  | nil => intro _; rfl
  | cons f q ih =>
   intro hq
   rw [M78_L1, M10_eq F f (okTFact_of (h.1 f (hq f (by simp)))), Option.bind_some, ih fun u hu => hq u (by simp [hu]), fsF]
   by_cases h0 : vF f = 0 <;> simp [h0]
 unfold M78 vFs
 rw [jn_def, hl l fun _ h => h]
 by_cases h1 : 5000 < l.length
 ·rw [if_pos (decide_eq_true (by omega)), if_pos h1]
 ·rw [if_neg (by simp; omega), if_neg h1]
theorem rlF_mem : ∀ {l : List TPolicyRule} {seen : List (List UInt8)} {r : TPolicyRule}, rlF seen l = 0 → r ∈ l → vTT r.When = 0
 | x :: l, seen, r, h, hm => by
  rw [rlF] at h
  split at h
  ·cases h
  ·split at h
   ·cases h
   ·split at h
    ·cases h
    ·split at h
     ·rename_i h0
      split at h
      ·cases h
      ·rcases List.mem_cons.1 hm with e | hm
       ·rw [e]; exact h0
       ·exact rlF_mem h hm
     ·rename_i h0; exact absurd h h0
theorem vP_zero {p : TPolicy} (h : vP p = 0) : p.Rules.length ≤ 100 ∧ p.Waivers.length ≤ 200 ∧ (∀ r, r ∈ p.Rules → vTT r.When = 0) ∧ wvsF p p.Waivers = 0 := by
 unfold vP at h
 split at h
 ·cases h
 ·split at h
  ·cases h
  ·split at h
   ·rename_i h0
    exact ⟨by omega, by omega, fun r hr => rlF_mem h0 hr, h⟩
   ·rename_i h0; exact absurd h h0
noncomputable def ruB (f : TFact) (r : TPolicyRule) : Bool := (r.About == f.Kind) && (trE r.When).tru f
noncomputable def rf (p : TPolicy) (f : TFact) : Int := if (p.Rules.any (ruB f)) = true then ((p.Rules.findIdx (ruB f) : Nat) : Int) else -1
section
variable {p : TPolicy} (hp : okTPolicy p) (h0 : vP p = 0) {F : Nat} (hF : fuP p ≤ F)
include hp h0 hF
theorem when_ok {r : TPolicyRule} (hr : r ∈ p.Rules) : r.When = (trE r.When).toT ∧ (trE r.When).ok ∧ (trE r.When).flt = 0 ∧ (trE r.When).cnt ≤ 60 ∧ (trE r.When).fu ≤ F := by
 have h1 := trE_spec (hp.1.1 r hr).2.2.1
 have h2 := vT_zero ((vP_zero h0).2.2.1 r hr)
 have := le_sum (g := fun r : TPolicyRule => (trE r.When).fu) hr
 unfold fuP at hF
 exact ⟨h1.1, h1.2, h2.1, h2.2, by omega⟩
theorem M81_eq {r : TPolicyRule} (hr : r ∈ p.Rules) (f : TFact) : M81 F r f.Kind f.Subject f.Texts f.Numbers = some (ruB f r) := by
 obtain ⟨e1, e2, e3, e4, e5⟩ := when_ok hp h0 hF hr
 unfold M81 ruB
 cases r.About == f.Kind
 ·rfl
 ·rw [if_pos rfl, e1, M31_tr _ e2 e3 e4 F e5, Option.bind_some, show (TFact.mk f.Kind f.Subject f.Texts f.Numbers) = f from rfl, M32_eq, Option.bind_some, if_pos (cd_t _), hold_tr f _ e2 e3 F e5, ← e1]
  cases (trE r.When).tru f <;> rfl
theorem M80_1_L1_eq (f : TFact) : ∀ (l : List TPolicyRule) (n : Nat), (∀ r, r ∈ l → r ∈ p.Rules) → M80_1_L1 F f.Kind f.Subject f.Texts f.Numbers (some (-1)) l (n : Int) = if (l.any (ruB f)) = true then some ((n + l.findIdx (ruB f) : Nat) : Int) else some (-1)
 | [], n, _ => rfl
 | r :: l, n, h => by
  rw [M80_1_L1, M81_eq hp h0 hF (h r (by simp)) f, Option.bind_some, show ((n : Int) + 1) = ((n + 1 : Nat) : Int) from rfl, M80_1_L1_eq f l (n + 1) fun u hu => h u (by simp [hu]), List.any_cons, List.findIdx_cons]
  cases ruB f r
  ·simp only [Bool.false_eq_true, if_false, Bool.false_or, cond_false]
   rw [show n + 1 + l.findIdx (ruB f) = n + (l.findIdx (ruB f) + 1) by omega]
  ·simp
theorem M52_eq (f : TFact) : M52 F p f = some (rf p f) := by
 unfold M52 M80_1 rf
 have := M80_1_L1_eq hp h0 hF f p.Rules 0 fun _ h => h
 rw [show ((0 : Nat) : Int) = 0 from rfl] at this
 rw [jn_def, this, Nat.zero_add]
 cases p.Rules.any (ruB f) <;> rfl
end
def suitB (a s : List UInt8) : Bool := if a.getLast? = some 42 then beg s a.dropLast else a == s
theorem M100_eq (F : Nat) (a : List UInt8) (ha : a.length ≤ 140737488351232) : M100 F a [42] = some (if a.getLast? = some 42 then a.dropLast else a, decide (a.getLast? = some 42)) := by
 rcases List.eq_nil_or_concat a with rfl | ⟨b, c, rfl⟩
 ·rfl
 ·simp only [List.concat_eq_append, List.length_append, List.length_singleton] at ha ⊢
  unfold M100 M123 M134
  simp only [List.length_append, List.length_singleton]
  rw [if_pos (decide_eq_true (by omega)), w64_id (by omega) (by omega), show (((b.length + 1 : Nat) : Int) - ((1 : Nat) : Int)) = ((b.length : Nat) : Int) by omega, show ((b.length : Int)).toNat = b.length by omega, if_pos (by omega), List.drop_append_of_le_length (by omega), List.drop_length, List.nil_append, Option.bind_some, List.take_append_of_le_length (by omega), List.take_length]
  simp only [List.getLast?_append, List.getLast?_singleton, List.dropLast_concat]
  by_cases h : c = 42
  ·subst h; simp
  ·have : ([c] == ([42] : List UInt8)) = false := beq_false_of_ne (by simp [h])
   rw [this]
   simp [h]
theorem M79_eq (F : Nat) (w : TWaiver) (s : List UInt8) (hw : okTWaiver w) : M79 F w s = some (suitB w.Subject s) := by
 unfold M79 suitB
 rw [M100_eq F _ hw.2.1, Option.bind_some]
 dsimp only
 by_cases h : w.Subject.getLast? = some 42
 ·rw [if_pos (decide_eq_true h), if_pos h, if_pos h, M93_eq]; rfl
 ·rw [if_neg (by simp [h]), if_neg h]
def forB (r : TPolicyRule) (f : TFact) (w : TWaiver) : Bool := (w.Rule == r.Name) && decide (w.Level < r.Level) && suitB w.Subject f.Subject
def dayB (day : Int) (w : TWaiver) : Bool := decide (w.From ≤ day) && decide (day ≤ w.To)
def idxs (c : TWaiver → Bool) : List TWaiver → Nat → List Int
 | [], _ => []
 | w :: l, n => if c w = true then (n : Int) :: idxs c l (n + 1) else idxs c l (n + 1)
def fstW (c : TWaiver → Bool) : List TWaiver → Nat → Option (Int × Int)
 | [], _ => none
 | w :: l, n => if c w = true then some ((n : Int), w.Level) else fstW c l (n + 1)
noncomputable def ruleOf (p : TPolicy) (f : TFact) : Option TPolicyRule := p.Rules.find? (ruB f)
noncomputable def rul (p : TPolicy) (f : TFact) : Tpolicy_ruling := match ruleOf p f with
 | none => ⟨rf p f, 1, []⟩
 | some r => ⟨rf p f, r.Level, idxs (forB r f) p.Waivers 0⟩
noncomputable def dcd (p : TPolicy) (day : Int) (f : TFact) (i : Int) : TDecision := match ruleOf p f with
 | none => ⟨i, rf p f, -1, 1⟩
 | some r => (match fstW (fun w => forB r f w && dayB day w) p.Waivers 0 with
  | none => ⟨i, rf p f, -1, r.Level⟩
  | some (k, v) => ⟨i, rf p f, k, v⟩)
noncomputable def dcds (p : TPolicy) (day : Int) : List TFact → Nat → List TDecision
 | [], _ => []
 | f :: l, n => dcd p day f (n : Int) :: dcds p day l (n + 1)
theorem find_idx {α : Type} (q : α → Bool) : ∀ l : List α, (l.any q = false ∧ l.find? q = none) ∨ (l.any q = true ∧ ∃ r, l.find? q = some r ∧ l[l.findIdx q]? = some r ∧ q r = true)
 | [] => Or.inl ⟨rfl, rfl⟩
 | x :: l => by
  rw [List.any_cons, List.find?_cons, List.findIdx_cons]
  cases h : q x
  ·rcases find_idx q l with ⟨h1, h2⟩ | ⟨h1, r, h2, h3, h4⟩
   ·left; exact ⟨by rw [h1]; rfl, h2⟩
   ·right; exact ⟨by rw [h1]; rfl, r, h2, by simpa using h3, h4⟩
  ·right; exact ⟨rfl, x, rfl, by simp, h⟩
theorem rf_none {p : TPolicy} {f : TFact} (h : ruleOf p f = none) : rf p f = -1 := by
 unfold rf
 rcases find_idx (ruB f) p.Rules with ⟨h1, h2⟩ | ⟨h1, r, h2, h3, h4⟩
 ·rw [h1]; rfl
 ·unfold ruleOf at h; rw [h2] at h; cases h
theorem rf_some {p : TPolicy} {f : TFact} {r : TPolicyRule} (h : ruleOf p f = some r) : 0 ≤ rf p f ∧ idx p.Rules (rf p f) = some r ∧ r ∈ p.Rules := by
 unfold rf
 rcases find_idx (ruB f) p.Rules with ⟨h1, h2⟩ | ⟨h1, r', h2, h3, h4⟩
 ·unfold ruleOf at h; rw [h2] at h; cases h
 ·unfold ruleOf at h; rw [h2] at h; cases h
  rw [if_pos h1]
  refine ⟨by omega, ?_, List.mem_of_getElem? h3⟩
  unfold idx
  rw [if_pos (by omega)]
  simpa using h3
section
variable {p : TPolicy} (hp : okTPolicy p) (h0 : vP p = 0) {F : Nat} (hF : fuP p ≤ F)
include hp h0
omit h0 in
theorem M51_L2_eq (f : TFact) (r : TPolicyRule) (k : List Int → Option (List Tpolicy_ruling)) : ∀ (l : List TWaiver) (n : Nat) (acc : List Int), (∀ w, w ∈ l → w ∈ p.Waivers) → acc.length + l.length ≤ 200 → M51_L2 F f r k l (n : Int) acc = k (acc ++ idxs (forB r f) l n)
 | [], n, acc, _, _ => by rw [M51_L2, idxs, List.append_nil]
 | w :: l, n, acc, h, hl => by
  simp only [List.length_cons] at hl
  have hw := hp.2.1.1 w (h w (by simp))
  rw [M51_L2, M79_eq F w _ hw, idxs, show ((n : Int) + 1) = ((n + 1 : Nat) : Int) from rfl]
  simp only [jn_def, Option.bind_some]
  have ih := fun acc (hacc : acc.length + l.length ≤ 200) => M51_L2_eq f r k l (n + 1) acc (fun u hu => h u (by simp [hu])) hacc
  have hb : forB r f w = ((w.Rule == r.Name) && decide (w.Level < r.Level) && suitB w.Subject f.Subject) := rfl
  cases h1 : w.Rule == r.Name
  ·rw [show forB r f w = false by rw [hb, h1]; rfl]; exact ih acc (by omega)
  ·cases h2 : decide (w.Level < r.Level)
   ·rw [show forB r f w = false by rw [hb, h1, h2]; rfl]; exact ih acc (by omega)
   ·cases h3 : suitB w.Subject f.Subject
    ·rw [show forB r f w = false by rw [hb, h1, h2, h3]; rfl]; exact ih acc (by omega)
    ·rw [show forB r f w = true by rw [hb, h1, h2, h3]; rfl]
     simp only [if_true]
     rw [if_pos (by simp; omega), ih _ (by simp; omega)]; simp
include hF
theorem M51_L1_eq (k : List Tpolicy_ruling → Option (List Tpolicy_ruling)) : ∀ (l : List TFact) (acc : List Tpolicy_ruling), acc.length + l.length ≤ 5000 → M51_L1 F p k l acc = k (acc ++ l.map (rul p))
 | [], acc, _ => by rw [M51_L1, List.map_nil, List.append_nil]
 | f :: l, acc, hl => by
  simp only [List.length_cons] at hl
  have h200 := (vP_zero h0).2.1
  rw [M51_L1, M52_eq hp h0 hF f]
  simp only [jn_def, Option.bind_some]
  have ih := fun (x : Tpolicy_ruling) => M51_L1_eq k l (acc ++ [x]) (by simp; omega)
  have hg : ∀ x : Tpolicy_ruling, (acc ++ [x]).length * 40 ≤ 140737488355328 := fun x => by simp; omega
  cases hr : ruleOf p f with
  | none =>
   have e : rul p f = ⟨rf p f, 1, []⟩ := by unfold rul; rw [hr]
   rw [rf_none hr, if_neg (by decide), if_pos (hg _), ih, List.map_cons, e, rf_none hr]; simp
  | some r =>
   obtain ⟨e1, e2, e3⟩ := rf_some hr
   have e : rul p f = ⟨rf p f, r.Level, idxs (forB r f) p.Waivers 0⟩ := by unfold rul; rw [hr]
   have h2 := M51_L2_eq hp (F := F) f r (fun l23 => if (acc ++ [Tpolicy_ruling.mk (rf p f) r.Level l23]).length * 40 ≤ 140737488355328 then M51_L1 F p k l (acc ++ [Tpolicy_ruling.mk (rf p f) r.Level l23]) else none) p.Waivers 0 [] (fun _ h => h) (by simp; omega)
   rw [show ((0 : Nat) : Int) = 0 from rfl, List.nil_append] at h2
   rw [if_pos (decide_eq_true e1), e2, Option.bind_some, h2]
   rw [if_pos (hg _), ih, List.map_cons, e]; simp
theorem M51_eq (l : List TFact) (hl : l.length ≤ 5000) : M51 F p l = some (l.map (rul p)) := by
 unfold M51
 rw [jn_def, M51_L1_eq hp h0 hF _ l [] (by simp; omega)]; rfl
end
theorem M50_L2_eq (F : Nat) (p : TPolicy) (day : Int) (x : Tpolicy_ruling) (k : Int → Int → Option (List TDecision)) (c : TWaiver → Bool) : ∀ (l : List TWaiver) (n : Nat), p.Waivers.drop n = l → M50_L2 F p day x k (idxs c l n) = match fstW (fun w => c w && dayB day w) l n with | none => k (-1) x.level | some (q, v) => k q v
 | [], n, _ => by rw [idxs, M50_L2, fstW]
 | w :: l, n, h => by
  obtain ⟨hn, hi, hm, hd⟩ := drop_cons h
  have ih := M50_L2_eq F p day x k c l (n + 1) hd
  rw [idxs, fstW]
  cases c w
  ·simp only [Bool.false_eq_true, if_false, Bool.false_and]; exact ih
  ·simp only [if_true, Bool.true_and]
   rw [M50_L2, jn_def, hi, Option.bind_some, ih]
   unfold dayB
   by_cases a1 : w.From ≤ day
   ·rw [if_pos (decide_eq_true a1), decide_eq_true a1]
    by_cases a2 : day ≤ w.To
    ·rw [if_pos (decide_eq_true a2), decide_eq_true a2]; rfl
    ·rw [if_neg (by simpa using a2), decide_eq_false a2]; rfl
   ·rw [if_neg (by simpa using a1), decide_eq_false a1]; rfl
theorem M50_L1_eq (F : Nat) (p : TPolicy) (day : Int) (k : List TDecision → Option (List TDecision)) : ∀ (l : List TFact) (n : Nat) (acc : List TDecision), acc.length + l.length ≤ 5000 → M50_L1 F p day k (l.map (rul p)) (n : Int) acc = k (acc ++ dcds p day l n)
 | [], n, acc, _ => by rw [List.map_nil, M50_L1, dcds, List.append_nil]
 | f :: l, n, acc, hl => by
  simp only [List.length_cons] at hl
  rw [List.map_cons, M50_L1, dcds]
  simp only [jn_def]
  have ih := fun (x : TDecision) => M50_L1_eq F p day k l (n + 1) (acc ++ [x]) (by simp; omega)
  have hg : ∀ x : TDecision, (acc ++ [x]).length * 32 ≤ 140737488355328 := fun x => by simp; omega
  rw [show ((n : Int) + 1) = ((n + 1 : Nat) : Int) from rfl]
  cases hr : ruleOf p f with
  | none =>
   have e : rul p f = ⟨rf p f, 1, []⟩ := by unfold rul; rw [hr]
   have e2 : dcd p day f n = ⟨n, rf p f, -1, 1⟩ := by unfold dcd; rw [hr]
   rw [e, M50_L2, if_pos (hg _), ih, e2]; simp
  | some r =>
   have e : rul p f = ⟨rf p f, r.Level, idxs (forB r f) p.Waivers 0⟩ := by unfold rul; rw [hr]
   rw [e, M50_L2_eq F p day _ _ (forB r f) p.Waivers 0 rfl]
   cases hw : fstW (fun w => forB r f w && dayB day w) p.Waivers 0 with
   | none =>
    have e2 : dcd p day f n = ⟨n, rf p f, -1, r.Level⟩ := by unfold dcd; rw [hr]; dsimp only; rw [hw]
    dsimp only
    rw [if_pos (hg _), ih, e2]; simp
   | some q =>
    obtain ⟨q, v⟩ := q
    have e2 : dcd p day f n = ⟨n, rf p f, q, v⟩ := by unfold dcd; rw [hr]; dsimp only; rw [hw]
    dsimp only
    rw [if_pos (hg _), ih, e2]; simp
theorem M50_eq (F : Nat) (p : TPolicy) (day : Int) (l : List TFact) (hl : l.length ≤ 5000) : M50 F p (l.map (rul p)) day = some (dcds p day l 0) := by
 unfold M50
 have := M50_L1_eq F p day (fun l5 => some l5) l 0 [] (by simp; omega)
 rw [show ((0 : Nat) : Int) = 0 from rfl, List.nil_append] at this
 rw [jn_def, this]
section
variable {p : TPolicy} (hp : okTPolicy p) (h0 : vP p = 0) {F : Nat} (hF : fuP p ≤ F)
include hp h0 hF
omit h0 hF in
end
theorem vFs_zero {l : List TFact} (h : vFs l = 0) : l.length ≤ 5000 := by
 unfold vFs at h
 split at h
 ·cases h
 ·omega
noncomputable def vD (p : TPolicy) (l : List TFact) (day : Int) : Int := if vP p = 0 then (if vFs l = 0 then (if (decide (day < 0) || decide (day > 1000000)) = true then 9 else 0) else vFs l) else vP p
theorem M49_eq (p : TPolicy) (hp : okTPolicy p) (l : List TFact) (h : okFs l) (day : Int) (F : Nat) (hF : fuP p ≤ F) : M49 F p l day = some (vD p l day) := by
 unfold M49 vD
 rw [M14_eq p hp F hF, Option.bind_some, M78_eq F l h, Option.bind_some]
 by_cases h1 : vP p = 0
 ·rw [if_neg (by simp [h1]), if_pos h1]
  by_cases h2 : vFs l = 0
  ·rw [if_neg (by simp [h2]), if_pos h2]
   cases decide (day < 0) <;> cases decide (day > 1000000) <;> rfl
  ·rw [if_pos (by simp [h2]), if_neg h2]
 ·rw [if_pos (by simp [h1]), if_neg h1]
noncomputable def dcV (p : TPolicy) (l : List TFact) (day : Int) : List TDecision × Int := if vD p l day = 0 then (dcds p day l 0, 0) else ([], vD p l day)
theorem vD_zero {p : TPolicy} {l : List TFact} {day : Int} (h : vD p l day = 0) : vP p = 0 ∧ vFs l = 0 ∧ (decide (day < 0) || decide (day > 1000000)) = false := by
 unfold vD at h
 by_cases h1 : vP p = 0
 ·rw [if_pos h1] at h
  by_cases h2 : vFs l = 0
  ·rw [if_pos h2] at h
   cases h3 : (decide (day < 0) || decide (day > 1000000))
   ·exact ⟨h1, h2, rfl⟩
   ·rw [if_pos h3] at h; cases h
  ·rw [if_neg h2] at h; exact absurd h h2
 ·rw [if_neg h1] at h; exact absurd h h1
theorem M17_eq (p : TPolicy) (hp : okTPolicy p) (l : List TFact) (h : okFs l) (day : Int) (F : Nat) (hF : fuP p ≤ F) : M17 F p l day = some (dcV p l day) := by
 unfold M17 dcV
 rw [M49_eq p hp l h day F hF, Option.bind_some]
 by_cases h1 : vD p l day = 0
 ·obtain ⟨h2, h3, h4⟩ := vD_zero h1
  rw [if_neg (by simp [h1]), if_pos h1, M51_eq hp h2 hF l (vFs_zero h3), Option.bind_some, M50_eq F p day l (vFs_zero h3)]; rfl
 ·rw [if_pos (by simp [h1]), if_neg h1]
theorem clone_eq {α : Type} {g : List α → Option (List α)} (B c : Nat) (hg : ∀ l, g l = nilq l.length (fun b => if b = true then some [] else if ([] ++ l).length * c ≤ B then some ([] ++ l) else none)) (l : List α) (h : l.length * c ≤ B) : g l = some l := by
 rw [hg]
 unfold nilq
 cases l with
 | nil => simp
 | cons x l =>
  rw [if_pos (by simp)]
  simp only [Bool.false_eq_true, if_false, List.nil_append]
  rw [if_pos h]
theorem fstW_some {c : TWaiver → Bool} : ∀ {l : List TWaiver} {n : Nat} {k v : Int}, fstW c l n = some (k, v) → 0 ≤ k ∧ ∃ w, w ∈ l ∧ c w = true ∧ w.Level = v
 | [], n, k, v, h => by rw [fstW] at h; cases h
 | w :: l, n, k, v, h => by
  rw [fstW] at h
  split at h
  ·rename_i hc
   cases h
   exact ⟨by omega, w, by simp, hc, rfl⟩
  ·obtain ⟨h1, u, h2, h3, h4⟩ := fstW_some h
   exact ⟨h1, u, by simp [h2], h3, h4⟩
theorem fstW_app (c : TWaiver → Bool) (w : TWaiver) : ∀ (l : List TWaiver) (n : Nat), fstW c (l ++ [w]) n = match fstW c l n with | some q => some q | none => if c w = true then some (((n + l.length : Nat) : Int), w.Level) else none
 | [], n => by simp [fstW]
 | u :: l, n => by
  rw [List.cons_append, fstW, fstW, fstW_app c w l (n + 1)]
  split
  ·rfl
  ·rw [show n + 1 + l.length = n + (u :: l).length by simp; omega]
def okD (x y z : TDecision) : Prop := ¬ x.Level > y.Level ∧ decide (x.Waiver ≥ 0) = decide (x.Level < y.Level) ∧ ¬ z.Level > x.Level ∧ (x.Waiver ≥ 0 → z = x)
theorem dcd_none {p : TPolicy} (ws : List TWaiver) {day : Int} {f : TFact} {n : Int} (h : ruleOf p f = none) : dcd ⟨p.Rules, ws⟩ day f n = ⟨n, rf p f, -1, 1⟩ := by
 unfold dcd
 rw [show ruleOf ⟨p.Rules, ws⟩ f = none from h]; rfl
theorem dcd_some {p : TPolicy} (ws : List TWaiver) {day : Int} {f : TFact} {n : Int} {r : TPolicyRule} (h : ruleOf p f = some r) : dcd ⟨p.Rules, ws⟩ day f n = match fstW (fun w => forB r f w && dayB day w) ws 0 with
  | none => ⟨n, rf p f, -1, r.Level⟩
  | some (k, v) => ⟨n, rf p f, k, v⟩ := by
 unfold dcd
 rw [show ruleOf ⟨p.Rules, ws⟩ f = some r from h]; rfl
theorem okD_dcd (p : TPolicy) (w : TWaiver) (day : Int) (f : TFact) (n : Int) : okD (dcd ⟨p.Rules, p.Waivers⟩ day f n) (dcd ⟨p.Rules, []⟩ day f n) (dcd ⟨p.Rules, p.Waivers ++ [w]⟩ day f n) := by
 cases hr : ruleOf p f with
 | none => rw [dcd_none p.Waivers hr, dcd_none [] hr, dcd_none _ hr]; simp [okD]
 | some r =>
  rw [dcd_some p.Waivers hr, dcd_some [] hr, dcd_some _ hr, fstW_app, show fstW (fun w => forB r f w && dayB day w) [] 0 = none from rfl]
  unfold okD
  cases hx : fstW (fun w => forB r f w && dayB day w) p.Waivers 0 with
  | none =>
   dsimp only
   cases hc : forB r f w && dayB day w
   ·simp
   ·simp only [if_true]
    have : w.Level < r.Level := by
     unfold forB at hc
     simp only [Bool.and_eq_true, decide_eq_true_eq] at hc
     exact hc.1.1.2
    refine ⟨by omega, ?_, by omega, by omega⟩
    rw [decide_eq_false (by omega), decide_eq_false (by omega)]
  | some q =>
   obtain ⟨k, v⟩ := q
   obtain ⟨h1, u, h2, h3, h4⟩ := fstW_some hx
   have : u.Level < r.Level := by
    unfold forB at h3
    simp only [Bool.and_eq_true, decide_eq_true_eq] at h3
    exact h3.1.1.2
   dsimp only
   refine ⟨by omega, ?_, by omega, fun _ => rfl⟩
   rw [decide_eq_true (by omega), decide_eq_true (by omega)]
theorem M4_L1_eq (F : Nat) (p : TPolicy) (w : TWaiver) (day : Int) (l : List TFact) (e1 e2 e3 : Int) : ∀ (q : List TFact) (n : Nat), l.drop n = q →
  M4_L1 F (dcds p day l 0, e1) (dcds ⟨p.Rules, []⟩ day l 0, e2) (dcds ⟨p.Rules, p.Waivers ++ [w]⟩ day l 0, e3) (some true) (dcds p day q n) (n : Int) = some true := by
 have hget : ∀ (P : TPolicy) (q : List TFact) (m n : Nat) (h : n < q.length), (dcds P day q m)[n]? = some (dcd P day q[n] ((m + n : Nat) : Int)) := by
  intro P q
  induction q with
  | nil => intro m n h; simp at h
  | cons f q ih =>
   intro m n h
   rw [dcds]
   cases n with
   | zero => simp
   | succ n =>
    simp only [List.getElem?_cons_succ, List.getElem_cons_succ]
    rw [ih (m + 1) n (by simpa using h), show m + 1 + n = m + (n + 1) by omega]
 have hidx : ∀ (P : TPolicy) (n : Nat) (h : n < l.length), idx (dcds P day l 0) (n : Int) = some (dcd P day l[n] (n : Int)) := by
  intro P n h
  unfold idx
  rw [if_pos (by omega), show ((n : Int)).toNat = n by omega, hget P l 0 n h, Nat.zero_add]
 intro q
 induction q with
 | nil => intro n _; rw [dcds, M4_L1]
 | cons f q ih =>
  intro n h
  have hn : n < l.length := by
   rcases Nat.lt_or_ge n l.length with h2 | h2
   ·exact h2
   ·rw [List.drop_eq_nil_of_le h2] at h; cases h
  rw [List.drop_eq_getElem_cons hn] at h
  injection h with hx hd
  have ok := okD_dcd p w day f (n : Int)
  rw [dcds, M4_L1, jn_def]
  dsimp only
  rw [hidx _ n hn, hidx _ n hn, hidx _ n hn, hx, show ((n : Int) + 1) = ((n + 1 : Nat) : Int) from rfl, ih (n + 1) hd]
  simp only [Option.bind_some]
  obtain ⟨o1, o2, o3, o4⟩ := ok
  rw [if_neg (by simpa using o1), if_neg (by rw [o2]; simp), if_neg (by simpa using o3)]
  by_cases o5 : (dcd p day f n).Waiver ≥ 0
  ·rw [if_pos (decide_eq_true o5), o4 o5]; simp
  ·rw [if_neg (by simpa using o5)]
theorem plain_4 (p : TPolicy) (l : List TFact) (w : TWaiver) (day : Int) (hp : okTPolicy p) (h : okFs l) (hw : okTWaiver w) (hd : (IntKind.i64).min ≤ day ∧ day ≤ (IntKind.i64).max) : ∃ F, M4 F p l w day = some true := by
 have hp1 : okTPolicy ⟨p.Rules, []⟩ := ⟨hp.1, ⟨by simp, by simp⟩, trivial⟩
 refine ⟨fuP p + fuP ⟨p.Rules, []⟩ + fuP ⟨p.Rules, p.Waivers ++ [w]⟩, ?_⟩
 have hF1 : fuP p ≤ fuP p + fuP ⟨p.Rules, []⟩ + fuP ⟨p.Rules, p.Waivers ++ [w]⟩ := by omega
 have hF2 : fuP ⟨p.Rules, []⟩ ≤ fuP p + fuP ⟨p.Rules, []⟩ + fuP ⟨p.Rules, p.Waivers ++ [w]⟩ := by omega
 have hF3 : fuP ⟨p.Rules, p.Waivers ++ [w]⟩ ≤ fuP p + fuP ⟨p.Rules, []⟩ + fuP ⟨p.Rules, p.Waivers ++ [w]⟩ := by omega
 generalize fuP p + fuP ⟨p.Rules, []⟩ + fuP ⟨p.Rules, p.Waivers ++ [w]⟩ = F at hF1 hF2 hF3
 unfold M4
 rw [M17_eq p hp l h day F hF1, Option.bind_some]
 by_cases h1 : vD p l day = 0
 ·obtain ⟨h2, h3, h4⟩ := vD_zero h1
  obtain ⟨g1, g2, g3, g4⟩ := vP_zero h2
  have hr : rlF [] p.Rules = 0 := by
   have h2' := h2
   unfold vP at h2'
   rw [if_neg (by omega), if_neg (by omega)] at h2'
   split at h2'
   ·rename_i h5; exact h5
   ·exact h2'
  have hv1 : vP ⟨p.Rules, []⟩ = 0 := by
   unfold vP
   dsimp only
   rw [if_neg (by omega), if_neg (by simp), if_pos hr]; rfl
  have hd1 : vD ⟨p.Rules, []⟩ l day = 0 := by
   unfold vD
   rw [if_pos hv1, if_pos h3, if_neg (by rw [h4]; decide)]
  have hp2 : okTPolicy ⟨p.Rules, p.Waivers ++ [w]⟩ := ⟨hp.1, ⟨fun a ha => by
   rcases List.mem_append.1 ha with ha | ha
   ·exact hp.2.1.1 a ha
   ·rw [List.mem_singleton.1 ha]; exact hw, by rw [maxLen_eq]; simp; omega⟩, trivial⟩
  have e1 : dcV p l day = (dcds p day l 0, 0) := by unfold dcV; rw [if_pos h1]
  have e2 : dcV ⟨p.Rules, []⟩ l day = (dcds ⟨p.Rules, []⟩ day l 0, 0) := by unfold dcV; rw [if_pos hd1]
  rw [e1, if_neg (by simp), M17_eq _ hp1 l h day F hF2, Option.bind_some, clone_eq (g := M18 F) 140737488355328 72 (fun l => by rw [M18]) p.Waivers (by omega), Option.bind_some, if_pos (by simp <;> omega), M17_eq _ hp2 l h day F hF3, Option.bind_some, M15_eq _ hp2 F hF3, e2]
  dsimp only
  rw [if_neg (by simp)]
  by_cases h5 : vD ⟨p.Rules, p.Waivers ++ [w]⟩ l day = 0
  ·have e3 : dcV ⟨p.Rules, p.Waivers ++ [w]⟩ l day = (dcds ⟨p.Rules, p.Waivers ++ [w]⟩ day l 0, 0) := by unfold dcV; rw [if_pos h5]
   rw [e3, if_neg (by simp), jn_def]
   exact M4_L1_eq F p w day l 0 0 0 l 0 rfl
  ·have e3 : dcV ⟨p.Rules, p.Waivers ++ [w]⟩ l day = ([], vD ⟨p.Rules, p.Waivers ++ [w]⟩ l day) := by unfold dcV; rw [if_neg h5]
   have e4 : vD ⟨p.Rules, p.Waivers ++ [w]⟩ l day = vP ⟨p.Rules, p.Waivers ++ [w]⟩ := by
    unfold vD at h5 ⊢
    by_cases h6 : vP ⟨p.Rules, p.Waivers ++ [w]⟩ = 0
    ·rw [if_pos h6, if_pos h3, if_neg (by rw [h4]; decide)] at h5; exact absurd rfl h5
    ·rw [if_neg h6]
   rw [e3, if_pos (by simpa using h5), e4]
   simp [M16]
 ·have e1 : dcV p l day = ([], vD p l day) := by unfold dcV; rw [if_neg h1]
  rw [e1, if_pos (by simpa using h1)]
  rfl
end Go.Proofs.YtkeeppclihjlhaaGreatDoor
/-
 DERIVED: THE SHELF's CONTRACTS AT THIS DUMP, IN PLAIN WORDS (tools/lay-plain.mjs out of 'TryzShelf.lean', which tools/lay-shelf.mjs wrote): THE SAME DECLARATIONS UNDER THE SAME NAMES: 'import', 'namespace', 'open', 'def', 'theorem' AND NOTHING ELSE: no command of the shelf's: FOR A HAND-IN. Each laying: the table of numbers ('.._ren') and one theorem, a field a fact of the dump's own or the kernel's comparison; each contract: ONE APPLICATION.
-/
namespace Go.Proofs
open Go.Shelf
def Tryz.lays137_ren : Go.Shelf.Ren := ⟨fun | 137 => 69 | 217 => 89 | 266 => 113 | n => n, fun | 9 => 9 | 5 => 5 | 3 => 3 | n => n, fun | n => n⟩
theorem Tryz.lays137 : Go.Proofs.Lays.n137 Tryz.prog Tryz.lays137_ren := {
 mixed := by kernel_rfl
 f137 := Tryz.func69.trans (congrArg some (by kernel_rfl))
 f217 := Tryz.func89.trans (congrArg some (by kernel_rfl))
 f266 := Tryz.func113.trans (congrArg some (by kernel_rfl))
 t3 := Tryz.underlying3
 a3 := Tryz.isAgg3
 z3 := Tryz.sizeOf3
 v3 := Tryz.zeroValue3
 t5 := Tryz.underlying5
 a5 := Tryz.isAgg5
 z5 := Tryz.sizeOf5
 v5 := Tryz.zeroValue5
 t9 := Tryz.underlying9
 a9 := Tryz.isAgg9
 z9 := Tryz.sizeOf9
 v9 := Tryz.zeroValue9 }
open Go.RowKit in
theorem Tryz.strings_IndexByte (s : ByteArray) (c : Int) (w : World) :
  Calls Tryz.prog 69 #[.string s, .int .u8 c] w fun e w' => e = .returned (.int .i64 (Lib.indexByte s.data.toList c.toNat.toUInt8)) ∧ w' = w := Any.strings_IndexByte Tryz.lays137 s c w
def Tryz.lays172_ren : Go.Shelf.Ren := ⟨fun | 172 => 122 | 244 => 132 | 245 => 133 | 247 => 138 | 279 => 139 | 280 => 140 | 281 => 141 | 282 => 142 | 287 => 143 | 316 => 144 | 171 => 146 | 205 => 145 | 321 => 147 | 322 => 148 | 243 => 149 | 246 => 150 | 283 => 151 | 284 => 152 | 285 => 153 | 286 => 154 | 129 => 112 | 317 => 155 | 318 => 156 | 319 => 157 | 320 => 158 | 337 => 159 | 338 => 160 | n => n, fun | 9 => 9 | 3 => 3 | 75 => 182 | 76 => 183 | 4 => 4 | 5 => 5 | 167 => 196 | 37 => 176 | 0 => 0 | 85 => 197 | 2 => 2 | 168 => 199 | 53 => 175 | 175 => 202 | 46 => 152 | 210 => 206 | 127 => 210 | 145 => 213 | 143 => 211 | 21 => 21 | 171 => 215 | 173 => 217 | 212 => 220 | 51 => 173 | 20 => 20 | 213 => 221 | 232 => 222 | 233 => 223 | 80 => 157 | n => n, fun | 15 => 1 | 16 => 2 | 17 => 3 | 18 => 4 | 19 => 5 | n => n⟩
theorem Tryz.lays172 : Go.Proofs.Lays.n172 Tryz.prog Tryz.lays172_ren := {
 mixed := by kernel_rfl
 f129 := Tryz.func112.trans (congrArg some (by kernel_rfl))
 f171 := Tryz.func146.trans (congrArg some (by kernel_rfl))
 f172 := Tryz.func122.trans (congrArg some (by kernel_rfl))
 f205 := Tryz.func145.trans (congrArg some (by kernel_rfl))
 f243 := Tryz.func149.trans (congrArg some (by kernel_rfl))
 f244 := Tryz.func132.trans (congrArg some (by kernel_rfl))
 f245 := Tryz.func133.trans (congrArg some (by kernel_rfl))
 f246 := Tryz.func150.trans (congrArg some (by kernel_rfl))
 f247 := Tryz.func138.trans (congrArg some (by kernel_rfl))
 f279 := Tryz.func139.trans (congrArg some (by kernel_rfl))
 f280 := Tryz.func140.trans (congrArg some (by kernel_rfl))
 f281 := Tryz.func141.trans (congrArg some (by kernel_rfl))
 f282 := Tryz.func142.trans (congrArg some (by kernel_rfl))
 f283 := Tryz.func151.trans (congrArg some (by kernel_rfl))
 f284 := Tryz.func152.trans (congrArg some (by kernel_rfl))
 f285 := Tryz.func153.trans (congrArg some (by kernel_rfl))
 f286 := Tryz.func154.trans (congrArg some (by kernel_rfl))
 f287 := Tryz.func143.trans (congrArg some (by kernel_rfl))
 f316 := Tryz.func144.trans (congrArg some (by kernel_rfl))
 f317 := Tryz.func155.trans (congrArg some (by kernel_rfl))
 f318 := Tryz.func156.trans (congrArg some (by kernel_rfl))
 f319 := Tryz.func157.trans (congrArg some (by kernel_rfl))
 f320 := Tryz.func158.trans (congrArg some (by kernel_rfl))
 f321 := Tryz.func147.trans (congrArg some (by kernel_rfl))
 f322 := Tryz.func148.trans (congrArg some (by kernel_rfl))
 f337 := Tryz.func159.trans (congrArg some (by kernel_rfl))
 f338 := Tryz.func160.trans (congrArg some (by kernel_rfl))
 t0 := Tryz.underlying0
 a0 := Tryz.isAgg0
 z0 := Tryz.sizeOf0
 v0 := Tryz.zeroValue0
 t2 := Tryz.underlying2
 a2 := Tryz.isAgg2
 z2 := Tryz.sizeOf2
 v2 := Tryz.zeroValue2
 t3 := Tryz.underlying3
 a3 := Tryz.isAgg3
 z3 := Tryz.sizeOf3
 v3 := Tryz.zeroValue3
 t4 := Tryz.underlying4
 a4 := Tryz.isAgg4
 z4 := Tryz.sizeOf4
 v4 := Tryz.zeroValue4
 t5 := Tryz.underlying5
 a5 := Tryz.isAgg5
 z5 := Tryz.sizeOf5
 v5 := Tryz.zeroValue5
 t9 := Tryz.underlying9
 a9 := Tryz.isAgg9
 z9 := Tryz.sizeOf9
 v9 := Tryz.zeroValue9
 t20 := Tryz.underlying20
 a20 := Tryz.isAgg20
 z20 := Tryz.sizeOf20
 v20 := Tryz.zeroValue20
 t21 := Tryz.underlying21
 a21 := Tryz.isAgg21
 z21 := Tryz.sizeOf21
 v21 := Tryz.zeroValue21
 t37 := Tryz.underlying176
 a37 := Tryz.isAgg176
 z37 := Tryz.sizeOf176
 v37 := Tryz.zeroValue176
 t46 := Tryz.underlying152
 a46 := Tryz.isAgg152
 z46 := Tryz.sizeOf152
 v46 := Tryz.zeroValue152
 t51 := Tryz.underlying173
 a51 := Tryz.isAgg173
 z51 := Tryz.sizeOf173
 v51 := Tryz.zeroValue173
 t53 := Tryz.underlying175
 a53 := Tryz.isAgg175
 z53 := Tryz.sizeOf175
 v53 := Tryz.zeroValue175
 t75 := Tryz.underlying182
 a75 := Tryz.isAgg182
 z75 := Tryz.sizeOf182
 v75 := Tryz.zeroValue182
 t76 := Tryz.underlying183
 a76 := Tryz.isAgg183
 z76 := Tryz.sizeOf183
 v76 := Tryz.zeroValue183
 t85 := Tryz.underlying197
 a85 := Tryz.isAgg197
 z85 := Tryz.sizeOf197
 v85 := Tryz.zeroValue197
 t127 := Tryz.underlying210
 a127 := Tryz.isAgg210
 z127 := Tryz.sizeOf210
 v127 := Tryz.zeroValue210
 t143 := Tryz.underlying211
 a143 := Tryz.isAgg211
 z143 := Tryz.sizeOf211
 v143 := Tryz.zeroValue211
 t145 := Tryz.underlying213
 a145 := Tryz.isAgg213
 z145 := Tryz.sizeOf213
 v145 := Tryz.zeroValue213
 t167 := Tryz.underlying196
 a167 := Tryz.isAgg196
 z167 := Tryz.sizeOf196
 v167 := Tryz.zeroValue196
 t168 := Tryz.underlying199
 a168 := Tryz.isAgg199
 z168 := Tryz.sizeOf199
 v168 := Tryz.zeroValue199
 t171 := Tryz.underlying215
 a171 := Tryz.isAgg215
 z171 := Tryz.sizeOf215
 v171 := Tryz.zeroValue215
 t173 := Tryz.underlying217
 a173 := Tryz.isAgg217
 z173 := Tryz.sizeOf217
 v173 := Tryz.zeroValue217
 t175 := Tryz.underlying202
 a175 := Tryz.isAgg202
 z175 := Tryz.sizeOf202
 v175 := Tryz.zeroValue202
 t210 := Tryz.underlying206
 a210 := Tryz.isAgg206
 z210 := Tryz.sizeOf206
 v210 := Tryz.zeroValue206
 t212 := Tryz.underlying220
 a212 := Tryz.isAgg220
 z212 := Tryz.sizeOf220
 v212 := Tryz.zeroValue220
 t213 := Tryz.underlying221
 a213 := Tryz.isAgg221
 z213 := Tryz.sizeOf221
 t232 := Tryz.underlying222
 a232 := Tryz.isAgg222
 z232 := Tryz.sizeOf222
 v232 := Tryz.zeroValue222
 t233 := Tryz.underlying223
 a233 := Tryz.isAgg223
 z233 := Tryz.sizeOf223
 v233 := Tryz.zeroValue223
 g15 := by kernel_rfl
 g16 := by kernel_rfl
 g17 := by kernel_rfl
 g18 := by kernel_rfl
 g19 := by kernel_rfl }
open Go.RowKit in
theorem Tryz.strconv_Atoi (s : ByteArray) (n : Int) (hl : s.size ≤ 18) (h : Lib.atoi s.data.toList = some n) (w : World) :
  Calls Tryz.prog 122 #[.string s] w fun e w' => e = .returned (.tuple #[.int .i64 n, .nilIface]) ∧ ∃ t, w' = Lib.bytesWorld w 5 t := Any.strconv_Atoi Tryz.lays172 s n hl h w
end Go.Proofs
