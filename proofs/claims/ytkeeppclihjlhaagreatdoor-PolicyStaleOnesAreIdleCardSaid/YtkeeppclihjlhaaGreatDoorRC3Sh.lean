/- Part of the proof: C3PG, C3PH, C3PI, C3P4, C3P7, C3Del, C3Sh. -/
import Derived.Test.YtkeeppclihjlhaaGreatDoorRC3PF
import Derived.Test.YtkeeppclihjlhaaGreatDoorREI
import Derived.Test.YtkeeppclihjlhaaGreatDoorProg
import Derived.WalkKit
import Derived.Deep.LoopGhost
import Derived.Deep.RegionLaw
import Derived.Shelf.RegionOpenPlain
import Derived.Lib.Walk
import Derived.Sort.WalkB12
import Derived.Shelf.Small.Strs
import Derived.Shelf.Strconv.Atoi
import Derived.Shelf.Strconv.Itoa0
import Derived.Shelf.Strconv.Itoa1
import Derived.Shelf.LaysM
import Derived.Shelf.Strconv.Itoa2
import Derived.Shelf.Strconv.Itoa3
import Derived.Shelf.Strconv.AtoiErrFast
import Derived.Shelf.Strconv.ParseIntEmpty
import Derived.Shelf.Strconv.AtoiFail
import Derived.Shelf.Strconv.SyntaxError
import Derived.Shelf.Strconv.Lower
import Derived.Shelf.Strconv.ParseUint10
import Derived.Shelf.Strconv.ParseUint10Empty
import Derived.Shelf.Strconv.RangeError
import Derived.Shelf.Strconv.ParseUintEmpty
import Derived.Shelf.Strconv.ParseUint10b64
import Derived.Shelf.Strconv.ParseUint10b32
import Derived.Shelf.Strconv.ParseUint10b16
import Derived.Shelf.Strconv.ParseUint10b8
import Derived.Shelf.Strings.Search1
import Derived.Shelf.Sort.Plain
import Derived.Shelf.Strings.Prefix
import Derived.Shelf.Slices.Turned
import Derived.Shelf.Slices.Equal
import Derived.Ground.Names2Prog
import Derived.Shelf.Slices.CompactI
import Derived.Shelf.Slices.SearchI
import Derived.Shelf.Slices.In.SortNone
import Derived.Shelf.Slices.Empties2
namespace Go.Proofs.YtkeeppclihjlhaaGreatDoor
open Go Go.Pv
set_option linter.unusedVariables false
set_option linter.unusedSimpArgs false
set_option maxRecDepth 100000
open Classical in
noncomputable def trE (x : TTest) : Tr := if h : ∃ t : Tr, x = t.toT ∧ t.ok then h.choose else .mk 0 [] [] 0 0 []
theorem trE_spec {x : TTest} (h : okTTest x) : x = (trE x).toT ∧ (trE x).ok := by
 have h' : ∃ t : Tr, x = t.toT ∧ t.ok := h
 unfold trE
 rw [dif_pos h']
 exact h'.choose_spec
noncomputable def vTT (x : TTest) : Int := vT (trE x)
theorem M12_tt {x : TTest} (h : okTTest x) {F : Nat} (hF : (trE x).fu ≤ F) : M12 F x = some (vTT x) := by
 obtain ⟨h1, h2⟩ := trE_spec h
 have := M12_tr (trE x) h2 F hF
 rwa [← h1] at this
theorem okTFact_of {f : TFact} (h : okTFact f) : okTFact' f :=
 ⟨h.1, h.2.1, fun p hp => ⟨(h.2.2.1.1 p hp).1, (h.2.2.1.1 p hp).2.1⟩, h.2.2.1.2, fun p hp => (h.2.2.2.1.1 p hp).1, h.2.2.2.1.2⟩
noncomputable def fuP (p : TPolicy) : Nat := (p.Rules.map fun r => (trE r.When).fu).sum + (p.Waivers.map fun w => w.Subject.length + 2).sum
theorem le_sum {α : Type} {g : α → Nat} : ∀ {l : List α} {x : α}, x ∈ l → g x ≤ (l.map g).sum
 | y :: l, x, h => by
  rcases List.mem_cons.1 h with e | h
  ·subst e; simp
  ·have := le_sum (g := g) h; simp; omega
noncomputable def rlF (seen : List (List UInt8)) : List TPolicyRule → Int
 | [] => 0
 | r :: l => if nameB r.Name = false then 8 else if (seen.any fun n => n == r.Name) = true then 5 else if nameB r.About = false then 8 else if vTT r.When = 0 then (if (decide (r.Level < 1) || decide (r.Level > 4)) = true then 7 else rlF (seen ++ [r.Name]) l) else vTT r.When
def starB (s : List UInt8) : Bool := s.dropLast.any fun c => c == 42
def wvF (p : TPolicy) (w : TWaiver) : Int :=
 if (p.Rules.any fun r => r.Name == w.Rule) = false then 4 else if valB w.Subject = false then 2 else if starB w.Subject = true then 2
 else if (decide (w.From < 0) || decide (w.From > w.To) || decide (w.To > 1000000)) = true then 9 else if nameB w.Owner = false then 8 else if (decide (w.Level < 1) || decide (w.Level > 3)) = true then 7 else 0
def wvsF (p : TPolicy) : List TWaiver → Int
 | [] => 0
 | w :: l => if wvF p w = 0 then wvsF p l else wvF p w
noncomputable def vP (p : TPolicy) : Int := if 100 < p.Rules.length then 3 else if 200 < p.Waivers.length then 3 else if rlF [] p.Rules = 0 then wvsF p p.Waivers else rlF [] p.Rules
theorem M70_eq (F : Nat) (l : List TPolicyRule) (a : List UInt8) (b : List UInt8) (c d : Int) (e : List UInt8) (g : Int) : M70 F l a b c d e g = some (l.any fun r => r.Name == a) := by
 unfold M70 M80
 have h := idxL (g := M80_L1 F a b c d e g (some (-1))) (fun r : TPolicyRule => r.Name == a) (fun _ => rfl) (fun x l n => by rw [M80_L1]; rfl) l 0
 rw [show ((0 : Nat) : Int) = 0 from rfl] at h
 rw [jn_def, h]
 exact anyGe
theorem ixb : ∀ s : List UInt8, (Lib.indexByte s 42 = -1 ∧ (s.any fun c => c == 42) = false) ∨ (0 ≤ Lib.indexByte s 42 ∧ (s.any fun c => c == 42) = true)
 | [] => Or.inl ⟨rfl, rfl⟩
 | c :: s => by
  rw [Lib.indexByte, List.any_cons]
  cases hc : c == 42
  ·simp only [Bool.false_eq_true, if_false, Bool.false_or]
   rcases ixb s with h | h
   ·rw [h.1]; exact Or.inl ⟨rfl, h.2⟩
   ·right
    rw [beq_false_of_ne (show Lib.indexByte s 42 ≠ -1 by omega)]
    exact ⟨by simp; omega, h.2⟩
  ·right; simp
theorem star_eq : ∀ s : List UInt8, (decide (0 ≤ Lib.indexByte s 42) && decide (Lib.indexByte s 42 < (s.length : Int) - 1)) = starB s
 | [] => rfl
 | [c] => by
  unfold starB
  simp only [List.dropLast_singleton, List.any_nil, List.length_singleton]
  by_cases h : 0 ≤ Lib.indexByte [c] 42
  ·rw [decide_eq_false (show ¬ Lib.indexByte [c] 42 < ((1 : Nat) : Int) - 1 by omega), Bool.and_false]
  ·rw [decide_eq_false h, Bool.false_and]
 | c :: d :: s => by
  have ih := star_eq (d :: s)
  unfold starB at ih ⊢
  rw [List.dropLast_cons_cons, List.any_cons, ← ih, Lib.indexByte]
  cases hc : c == 42
  ·simp only [Bool.false_eq_true, if_false, Bool.false_or]
   rcases ixb (d :: s) with h | h
   ·rw [h.1]; rfl
   ·rw [beq_false_of_ne (show Lib.indexByte (d :: s) 42 ≠ -1 by omega)]
    simp only [Bool.false_eq_true, if_false]
    rw [decide_eq_true h.1, decide_eq_true (show 0 ≤ Lib.indexByte (d :: s) 42 + 1 by omega)]
    congr 1
    exact decide_eq_decide.2 (by simp only [List.length_cons]; omega)
  ·rw [if_pos rfl, decide_eq_true (by simp), decide_eq_true (by simp only [List.length_cons]; omega)]; rfl
theorem M45_eq (F : Nat) (p : TPolicy) (w : TWaiver) (hw : okTWaiver w) : M45 F p w = some (wvF p w) := by
 have h1 : okS w.Subject := hw.2.1
 have h2 : okS w.Owner := hw.2.2.2.2.1
 unfold M45 wvF
 rw [M69, Option.bind_some, M70_eq, Option.bind_some, jn_def, M35_eq F _ h1, M34_eq F _ h2]
 have hs := star_eq w.Subject
 unfold okS at h1
 rw [show (42 : Int).toNat.toUInt8 = 42 from rfl, w64_id (by omega) (by omega)]
 rw [← hs]
 simp only [Option.bind_some, ge_iff_le]
 generalize decide (Lib.indexByte w.Subject 42 < (w.Subject.length : Int) - 1) = b1
 generalize decide (0 ≤ Lib.indexByte w.Subject 42) = b2
 generalize (p.Rules.any fun r => r.Name == w.Rule) = b3
 generalize valB w.Subject = b4
 generalize decide (w.From < 0) = b5
 generalize decide (w.From > w.To) = b6
 generalize decide (w.To > 1000000) = b7
 generalize nameB w.Owner = b8
 generalize decide (w.Level < 1) = b9
 generalize decide (w.Level > 3) = b10
 cases b3 <;> cases b4
 all_goals try rfl
 cases b2 <;> cases b1 <;> cases b5 <;> cases b6 <;> cases b7 <;> cases b8 <;> cases b9 <;> cases b10 <;> rfl
theorem M14_L2_eq (F : Nat) (p : TPolicy) (hp : okTPolicy p) : ∀ l : List TWaiver, (∀ w, w ∈ l → w ∈ p.Waivers) → M14_L2 F p (some 0) l = some (wvsF p l)
 | [], _ => rfl
 | w :: l, h => by
  rw [M14_L2, M45_eq F p w (hp.2.1.1 w (h w (by simp))), Option.bind_some, M14_L2_eq F p hp l fun u hu => h u (by simp [hu]), wvsF]
  by_cases h0 : wvF p w = 0 <;> simp [h0]
theorem M14_L1_eq (F : Nat) (p : TPolicy) (hp : okTPolicy p) (hF : fuP p ≤ F) (k : Option Int) : ∀ (l : List TPolicyRule), (∀ r, r ∈ l → r ∈ p.Rules) → ∀ (m : List (List UInt8 × Bool)) (seen : List (List UInt8)), (∀ nm, (mget m nm).getD false = seen.any fun n => n == nm) → M14_L1 F k l m = if rlF seen l = 0 then k else some (rlF seen l)
 | [], _, m, seen, _ => by simp [M14_L1, rlF]
 | r :: l, h, m, seen, hm => by
  have hr := h r (by simp)
  have hok := hp.1.1 r hr
  rw [M14_L1, M34_eq F _ hok.1, Option.bind_some, hm, M34_eq F _ hok.2.1, M12_tt hok.2.2.1 (by have := le_sum (g := fun r : TPolicyRule => (trE r.When).fu) hr; unfold fuP at hF; omega), Option.bind_some, Option.bind_some,
   M14_L1_eq F p hp hF k l (fun u hu => h u (by simp [hu])) (mput m r.Name true) (seen ++ [r.Name]) (fun nm => by
    rw [mget_mput, List.any_append, ← hm]
    by_cases e : r.Name = nm
    ·rw [if_pos e]; simp [e]
    ·rw [if_neg e]; simp [e]), rlF]
  cases nameB r.Name
  ·rfl
  ·cases (seen.any fun n => n == r.Name)
   ·cases nameB r.About
    ·rfl
    ·by_cases h0 : vTT r.When = 0
     ·simp only [h0]
      cases decide (r.Level < 1) <;> cases decide (r.Level > 4) <;> rfl
     ·simp [h0]
   ·rfl
theorem M14_eq (p : TPolicy) (hp : okTPolicy p) (F : Nat) (hF : fuP p ≤ F) : M14 F p = some (vP p) := by
 unfold M14 vP
 simp only [jn_def]
 rw [M14_L1_eq F p hp hF _ p.Rules (fun _ h => h) [] [] (fun nm => rfl), M14_L2_eq F p hp _ fun _ h => h]
 by_cases h1 : 100 < p.Rules.length
 ·rw [if_pos (decide_eq_true (by omega)), if_pos h1]
 ·rw [if_neg (by simp; omega), if_neg h1]
  by_cases h2 : 200 < p.Waivers.length
  ·rw [if_pos (decide_eq_true (by omega)), if_pos h2]
  ·rw [if_neg (by simp; omega), if_neg h2]
   split <;> rfl
def okFs (l : List TFact) : Prop := (∀ f, f ∈ l → okTFact f) ∧ l.length ≤ maxLen
def fsF : List TFact → Int
 | [] => 0
 | f :: l => if vF f = 0 then fsF l else vF f
def vFs (l : List TFact) : Int := if 5000 < l.length then 3 else fsF l
theorem M78_eq (F : Nat) (l : List TFact) (h : okFs l) : M78 F l = some (vFs l) := by
 have hl : ∀ q : List TFact, (∀ f, f ∈ q → f ∈ l) → M78_L1 F (some 0) q = some (fsF q) := by
  intro q
  induction q with
  | nil => intro _; rfl
  | cons f q ih =>
   intro hq
   rw [M78_L1, M10_eq F f (okTFact_of (h.1 f (hq f (by simp)))), Option.bind_some, ih fun u hu => hq u (by simp [hu]), fsF]
   by_cases h0 : vF f = 0 <;> simp [h0]
 unfold M78 vFs
 rw [jn_def, hl l fun _ h => h]
 by_cases h1 : 5000 < l.length
 ·rw [if_pos (decide_eq_true (by omega)), if_pos h1]
 ·rw [if_neg (by simp; omega), if_neg h1]
theorem rlF_mem : ∀ {l : List TPolicyRule} {seen : List (List UInt8)} {r : TPolicyRule}, rlF seen l = 0 → r ∈ l → vTT r.When = 0
 | x :: l, seen, r, h, hm => by
  rw [rlF] at h
  split at h
  ·cases h
  ·split at h
   ·cases h
   ·split at h
    ·cases h
    ·split at h
     ·rename_i h0
      split at h
      ·cases h
      ·rcases List.mem_cons.1 hm with e | hm
       ·rw [e]; exact h0
       ·exact rlF_mem h hm
     ·rename_i h0; exact absurd h h0
theorem vP_zero {p : TPolicy} (h : vP p = 0) : p.Rules.length ≤ 100 ∧ p.Waivers.length ≤ 200 ∧ (∀ r, r ∈ p.Rules → vTT r.When = 0) ∧ wvsF p p.Waivers = 0 := by
 unfold vP at h
 split at h
 ·cases h
 ·split at h
  ·cases h
  ·split at h
   ·rename_i h0
    exact ⟨by omega, by omega, fun r hr => rlF_mem h0 hr, h⟩
   ·rename_i h0; exact absurd h h0
noncomputable def ruB (f : TFact) (r : TPolicyRule) : Bool := (r.About == f.Kind) && (trE r.When).tru f
noncomputable def rf (p : TPolicy) (f : TFact) : Int := if (p.Rules.any (ruB f)) = true then ((p.Rules.findIdx (ruB f) : Nat) : Int) else -1
section
variable {p : TPolicy} (hp : okTPolicy p) (h0 : vP p = 0) {F : Nat} (hF : fuP p ≤ F)
include hp h0 hF
theorem when_ok {r : TPolicyRule} (hr : r ∈ p.Rules) : r.When = (trE r.When).toT ∧ (trE r.When).ok ∧ (trE r.When).flt = 0 ∧ (trE r.When).cnt ≤ 60 ∧ (trE r.When).fu ≤ F := by
 have h1 := trE_spec (hp.1.1 r hr).2.2.1
 have h2 := vT_zero ((vP_zero h0).2.2.1 r hr)
 have := le_sum (g := fun r : TPolicyRule => (trE r.When).fu) hr
 unfold fuP at hF
 exact ⟨h1.1, h1.2, h2.1, h2.2, by omega⟩
theorem M81_eq {r : TPolicyRule} (hr : r ∈ p.Rules) (f : TFact) : M81 F r f.Kind f.Subject f.Texts f.Numbers = some (ruB f r) := by
 obtain ⟨e1, e2, e3, e4, e5⟩ := when_ok hp h0 hF hr
 unfold M81 ruB
 cases r.About == f.Kind
 ·rfl
 ·rw [if_pos rfl, e1, M31_tr _ e2 e3 e4 F e5, Option.bind_some, show (TFact.mk f.Kind f.Subject f.Texts f.Numbers) = f from rfl, M32_eq, Option.bind_some, if_pos (cd_t _), hold_tr f _ e2 e3 F e5, ← e1]
  cases (trE r.When).tru f <;> rfl
theorem M80_1_L1_eq (f : TFact) : ∀ (l : List TPolicyRule) (n : Nat), (∀ r, r ∈ l → r ∈ p.Rules) → M80_1_L1 F f.Kind f.Subject f.Texts f.Numbers (some (-1)) l (n : Int) = if (l.any (ruB f)) = true then some ((n + l.findIdx (ruB f) : Nat) : Int) else some (-1)
 | [], n, _ => rfl
 | r :: l, n, h => by
  rw [M80_1_L1, M81_eq hp h0 hF (h r (by simp)) f, Option.bind_some, show ((n : Int) + 1) = ((n + 1 : Nat) : Int) from rfl, M80_1_L1_eq f l (n + 1) fun u hu => h u (by simp [hu]), List.any_cons, List.findIdx_cons]
  cases ruB f r
  ·simp only [Bool.false_eq_true, if_false, Bool.false_or, cond_false]
   rw [show n + 1 + l.findIdx (ruB f) = n + (l.findIdx (ruB f) + 1) by omega]
  ·simp
theorem M52_eq (f : TFact) : M52 F p f = some (rf p f) := by
 unfold M52 M80_1 rf
 have := M80_1_L1_eq hp h0 hF f p.Rules 0 fun _ h => h
 rw [show ((0 : Nat) : Int) = 0 from rfl] at this
 rw [jn_def, this, Nat.zero_add]
 cases p.Rules.any (ruB f) <;> rfl
end
def suitB (a s : List UInt8) : Bool := if a.getLast? = some 42 then beg s a.dropLast else a == s
theorem M100_eq (F : Nat) (a : List UInt8) (ha : a.length ≤ 140737488351232) : M100 F a [42] = some (if a.getLast? = some 42 then a.dropLast else a, decide (a.getLast? = some 42)) := by
 rcases List.eq_nil_or_concat a with rfl | ⟨b, c, rfl⟩
 ·rfl
 ·simp only [List.concat_eq_append, List.length_append, List.length_singleton] at ha ⊢
  unfold M100 M123 M134
  simp only [List.length_append, List.length_singleton]
  rw [if_pos (decide_eq_true (by omega)), w64_id (by omega) (by omega), show (((b.length + 1 : Nat) : Int) - ((1 : Nat) : Int)) = ((b.length : Nat) : Int) by omega, show ((b.length : Int)).toNat = b.length by omega, if_pos (by omega), List.drop_append_of_le_length (by omega), List.drop_length, List.nil_append, Option.bind_some, List.take_append_of_le_length (by omega), List.take_length]
  simp only [List.getLast?_append, List.getLast?_singleton, List.dropLast_concat]
  by_cases h : c = 42
  ·subst h; simp
  ·have : ([c] == ([42] : List UInt8)) = false := beq_false_of_ne (by simp [h])
   rw [this]
   simp [h]
theorem M79_eq (F : Nat) (w : TWaiver) (s : List UInt8) (hw : okTWaiver w) : M79 F w s = some (suitB w.Subject s) := by
 unfold M79 suitB
 rw [M100_eq F _ hw.2.1, Option.bind_some]
 dsimp only
 by_cases h : w.Subject.getLast? = some 42
 ·rw [if_pos (decide_eq_true h), if_pos h, if_pos h, M93_eq]; rfl
 ·rw [if_neg (by simp [h]), if_neg h]
def forB (r : TPolicyRule) (f : TFact) (w : TWaiver) : Bool := (w.Rule == r.Name) && decide (w.Level < r.Level) && suitB w.Subject f.Subject
def dayB (day : Int) (w : TWaiver) : Bool := decide (w.From ≤ day) && decide (day ≤ w.To)
def idxs (c : TWaiver → Bool) : List TWaiver → Nat → List Int
 | [], _ => []
 | w :: l, n => if c w = true then (n : Int) :: idxs c l (n + 1) else idxs c l (n + 1)
def fstW (c : TWaiver → Bool) : List TWaiver → Nat → Option (Int × Int)
 | [], _ => none
 | w :: l, n => if c w = true then some ((n : Int), w.Level) else fstW c l (n + 1)
noncomputable def ruleOf (p : TPolicy) (f : TFact) : Option TPolicyRule := p.Rules.find? (ruB f)
noncomputable def rul (p : TPolicy) (f : TFact) : Tpolicy_ruling := match ruleOf p f with
 | none => ⟨rf p f, 1, []⟩
 | some r => ⟨rf p f, r.Level, idxs (forB r f) p.Waivers 0⟩
noncomputable def dcd (p : TPolicy) (day : Int) (f : TFact) (i : Int) : TDecision := match ruleOf p f with
 | none => ⟨i, rf p f, -1, 1⟩
 | some r => (match fstW (fun w => forB r f w && dayB day w) p.Waivers 0 with
  | none => ⟨i, rf p f, -1, r.Level⟩
  | some (k, v) => ⟨i, rf p f, k, v⟩)
noncomputable def dcds (p : TPolicy) (day : Int) : List TFact → Nat → List TDecision
 | [], _ => []
 | f :: l, n => dcd p day f (n : Int) :: dcds p day l (n + 1)
theorem find_idx {α : Type} (q : α → Bool) : ∀ l : List α, (l.any q = false ∧ l.find? q = none) ∨ (l.any q = true ∧ ∃ r, l.find? q = some r ∧ l[l.findIdx q]? = some r ∧ q r = true)
 | [] => Or.inl ⟨rfl, rfl⟩
 | x :: l => by
  rw [List.any_cons, List.find?_cons, List.findIdx_cons]
  cases h : q x
  ·rcases find_idx q l with ⟨h1, h2⟩ | ⟨h1, r, h2, h3, h4⟩
   ·left; exact ⟨by rw [h1]; rfl, h2⟩
   ·right; exact ⟨by rw [h1]; rfl, r, h2, by simpa using h3, h4⟩
  ·right; exact ⟨rfl, x, rfl, by simp, h⟩
theorem rf_none {p : TPolicy} {f : TFact} (h : ruleOf p f = none) : rf p f = -1 := by
 unfold rf
 rcases find_idx (ruB f) p.Rules with ⟨h1, h2⟩ | ⟨h1, r, h2, h3, h4⟩
 ·rw [h1]; rfl
 ·unfold ruleOf at h; rw [h2] at h; cases h
theorem rf_some {p : TPolicy} {f : TFact} {r : TPolicyRule} (h : ruleOf p f = some r) : 0 ≤ rf p f ∧ idx p.Rules (rf p f) = some r ∧ r ∈ p.Rules := by
 unfold rf
 rcases find_idx (ruB f) p.Rules with ⟨h1, h2⟩ | ⟨h1, r', h2, h3, h4⟩
 ·unfold ruleOf at h; rw [h2] at h; cases h
 ·unfold ruleOf at h; rw [h2] at h; cases h
  rw [if_pos h1]
  refine ⟨by omega, ?_, List.mem_of_getElem? h3⟩
  unfold idx
  rw [if_pos (by omega)]
  simpa using h3
section
variable {p : TPolicy} (hp : okTPolicy p) (h0 : vP p = 0) {F : Nat} (hF : fuP p ≤ F)
include hp h0
omit h0 in
theorem M51_L2_eq (f : TFact) (r : TPolicyRule) (k : List Int → Option (List Tpolicy_ruling)) : ∀ (l : List TWaiver) (n : Nat) (acc : List Int), (∀ w, w ∈ l → w ∈ p.Waivers) → acc.length + l.length ≤ 200 → M51_L2 F f r k l (n : Int) acc = k (acc ++ idxs (forB r f) l n)
 | [], n, acc, _, _ => by rw [M51_L2, idxs, List.append_nil]
 | w :: l, n, acc, h, hl => by
  simp only [List.length_cons] at hl
  have hw := hp.2.1.1 w (h w (by simp))
  rw [M51_L2, M79_eq F w _ hw, idxs, show ((n : Int) + 1) = ((n + 1 : Nat) : Int) from rfl]
  simp only [jn_def, Option.bind_some]
  have ih := fun acc (hacc : acc.length + l.length ≤ 200) => M51_L2_eq f r k l (n + 1) acc (fun u hu => h u (by simp [hu])) hacc
  have hb : forB r f w = ((w.Rule == r.Name) && decide (w.Level < r.Level) && suitB w.Subject f.Subject) := rfl
  cases h1 : w.Rule == r.Name
  ·rw [show forB r f w = false by rw [hb, h1]; rfl]; exact ih acc (by omega)
  ·cases h2 : decide (w.Level < r.Level)
   ·rw [show forB r f w = false by rw [hb, h1, h2]; rfl]; exact ih acc (by omega)
   ·cases h3 : suitB w.Subject f.Subject
    ·rw [show forB r f w = false by rw [hb, h1, h2, h3]; rfl]; exact ih acc (by omega)
    ·rw [show forB r f w = true by rw [hb, h1, h2, h3]; rfl]
     simp only [if_true]
     rw [if_pos (by simp; omega), ih _ (by simp; omega)]; simp
include hF
theorem M51_L1_eq (k : List Tpolicy_ruling → Option (List Tpolicy_ruling)) : ∀ (l : List TFact) (acc : List Tpolicy_ruling), acc.length + l.length ≤ 5000 → M51_L1 F p k l acc = k (acc ++ l.map (rul p))
 | [], acc, _ => by rw [M51_L1, List.map_nil, List.append_nil]
 | f :: l, acc, hl => by
  simp only [List.length_cons] at hl
  have h200 := (vP_zero h0).2.1
  rw [M51_L1, M52_eq hp h0 hF f]
  simp only [jn_def, Option.bind_some]
  have ih := fun (x : Tpolicy_ruling) => M51_L1_eq k l (acc ++ [x]) (by simp; omega)
  have hg : ∀ x : Tpolicy_ruling, (acc ++ [x]).length * 40 ≤ 140737488355328 := fun x => by simp; omega
  cases hr : ruleOf p f with
  | none =>
   have e : rul p f = ⟨rf p f, 1, []⟩ := by unfold rul; rw [hr]
   rw [rf_none hr, if_neg (by decide), if_pos (hg _), ih, List.map_cons, e, rf_none hr]; simp
  | some r =>
   obtain ⟨e1, e2, e3⟩ := rf_some hr
   have e : rul p f = ⟨rf p f, r.Level, idxs (forB r f) p.Waivers 0⟩ := by unfold rul; rw [hr]
   have h2 := M51_L2_eq hp (F := F) f r (fun l23 => if (acc ++ [Tpolicy_ruling.mk (rf p f) r.Level l23]).length * 40 ≤ 140737488355328 then M51_L1 F p k l (acc ++ [Tpolicy_ruling.mk (rf p f) r.Level l23]) else none) p.Waivers 0 [] (fun _ h => h) (by simp; omega)
   rw [show ((0 : Nat) : Int) = 0 from rfl, List.nil_append] at h2
   rw [if_pos (decide_eq_true e1), e2, Option.bind_some, h2]
   rw [if_pos (hg _), ih, List.map_cons, e]; simp
theorem M51_eq (l : List TFact) (hl : l.length ≤ 5000) : M51 F p l = some (l.map (rul p)) := by
 unfold M51
 rw [jn_def, M51_L1_eq hp h0 hF _ l [] (by simp; omega)]; rfl
end
theorem M50_L2_eq (F : Nat) (p : TPolicy) (day : Int) (x : Tpolicy_ruling) (k : Int → Int → Option (List TDecision)) (c : TWaiver → Bool) : ∀ (l : List TWaiver) (n : Nat), p.Waivers.drop n = l → M50_L2 F p day x k (idxs c l n) = match fstW (fun w => c w && dayB day w) l n with | none => k (-1) x.level | some (q, v) => k q v
 | [], n, _ => by rw [idxs, M50_L2, fstW]
 | w :: l, n, h => by
  obtain ⟨hn, hi, hm, hd⟩ := drop_cons h
  have ih := M50_L2_eq F p day x k c l (n + 1) hd
  rw [idxs, fstW]
  cases c w
  ·simp only [Bool.false_eq_true, if_false, Bool.false_and]; exact ih
  ·simp only [if_true, Bool.true_and]
   rw [M50_L2, jn_def, hi, Option.bind_some, ih]
   unfold dayB
   by_cases a1 : w.From ≤ day
   ·rw [if_pos (decide_eq_true a1), decide_eq_true a1]
    by_cases a2 : day ≤ w.To
    ·rw [if_pos (decide_eq_true a2), decide_eq_true a2]; rfl
    ·rw [if_neg (by simpa using a2), decide_eq_false a2]; rfl
   ·rw [if_neg (by simpa using a1), decide_eq_false a1]; rfl
theorem M50_L1_eq (F : Nat) (p : TPolicy) (day : Int) (k : List TDecision → Option (List TDecision)) : ∀ (l : List TFact) (n : Nat) (acc : List TDecision), acc.length + l.length ≤ 5000 → M50_L1 F p day k (l.map (rul p)) (n : Int) acc = k (acc ++ dcds p day l n)
 | [], n, acc, _ => by rw [List.map_nil, M50_L1, dcds, List.append_nil]
 | f :: l, n, acc, hl => by
  simp only [List.length_cons] at hl
  rw [List.map_cons, M50_L1, dcds]
  simp only [jn_def]
  have ih := fun (x : TDecision) => M50_L1_eq F p day k l (n + 1) (acc ++ [x]) (by simp; omega)
  have hg : ∀ x : TDecision, (acc ++ [x]).length * 32 ≤ 140737488355328 := fun x => by simp; omega
  rw [show ((n : Int) + 1) = ((n + 1 : Nat) : Int) from rfl]
  cases hr : ruleOf p f with
  | none =>
   have e : rul p f = ⟨rf p f, 1, []⟩ := by unfold rul; rw [hr]
   have e2 : dcd p day f n = ⟨n, rf p f, -1, 1⟩ := by unfold dcd; rw [hr]
   rw [e, M50_L2, if_pos (hg _), ih, e2]; simp
  | some r =>
   have e : rul p f = ⟨rf p f, r.Level, idxs (forB r f) p.Waivers 0⟩ := by unfold rul; rw [hr]
   rw [e, M50_L2_eq F p day _ _ (forB r f) p.Waivers 0 rfl]
   cases hw : fstW (fun w => forB r f w && dayB day w) p.Waivers 0 with
   | none =>
    have e2 : dcd p day f n = ⟨n, rf p f, -1, r.Level⟩ := by unfold dcd; rw [hr]; dsimp only; rw [hw]
    dsimp only
    rw [if_pos (hg _), ih, e2]; simp
   | some q =>
    obtain ⟨q, v⟩ := q
    have e2 : dcd p day f n = ⟨n, rf p f, q, v⟩ := by unfold dcd; rw [hr]; dsimp only; rw [hw]
    dsimp only
    rw [if_pos (hg _), ih, e2]; simp
theorem M50_eq (F : Nat) (p : TPolicy) (day : Int) (l : List TFact) (hl : l.length ≤ 5000) : M50 F p (l.map (rul p)) day = some (dcds p day l 0) := by
 unfold M50
 have := M50_L1_eq F p day (fun l5 => some l5) l 0 [] (by simp; omega)
 rw [show ((0 : Nat) : Int) = 0 from rfl, List.nil_append] at this
 rw [jn_def, this]
section
variable {p : TPolicy} (hp : okTPolicy p) (h0 : vP p = 0) {F : Nat} (hF : fuP p ≤ F)
include hp h0 hF
omit h0 hF in
end
theorem vFs_zero {l : List TFact} (h : vFs l = 0) : l.length ≤ 5000 := by
 unfold vFs at h
 split at h
 ·cases h
 ·omega
noncomputable def vD (p : TPolicy) (l : List TFact) (day : Int) : Int := if vP p = 0 then (if vFs l = 0 then (if (decide (day < 0) || decide (day > 1000000)) = true then 9 else 0) else vFs l) else vP p
theorem M49_eq (p : TPolicy) (hp : okTPolicy p) (l : List TFact) (h : okFs l) (day : Int) (F : Nat) (hF : fuP p ≤ F) : M49 F p l day = some (vD p l day) := by
 unfold M49 vD
 rw [M14_eq p hp F hF, Option.bind_some, M78_eq F l h, Option.bind_some]
 by_cases h1 : vP p = 0
 ·rw [if_neg (by simp [h1]), if_pos h1]
  by_cases h2 : vFs l = 0
  ·rw [if_neg (by simp [h2]), if_pos h2]
   cases decide (day < 0) <;> cases decide (day > 1000000) <;> rfl
  ·rw [if_pos (by simp [h2]), if_neg h2]
 ·rw [if_pos (by simp [h1]), if_neg h1]
theorem vD_zero {p : TPolicy} {l : List TFact} {day : Int} (h : vD p l day = 0) : vP p = 0 ∧ vFs l = 0 ∧ (decide (day < 0) || decide (day > 1000000)) = false := by
 unfold vD at h
 by_cases h1 : vP p = 0
 ·rw [if_pos h1] at h
  by_cases h2 : vFs l = 0
  ·rw [if_pos h2] at h
   cases h3 : (decide (day < 0) || decide (day > 1000000))
   ·exact ⟨h1, h2, rfl⟩
   ·rw [if_pos h3] at h; cases h
  ·rw [if_neg h2] at h; exact absurd h h2
 ·rw [if_neg h1] at h; exact absurd h h1
theorem M24_eq (F : Nat) (a b : List TDecision) : M24 F a b = some (decide (a = b)) := by
 unfold M24
 simp only [jn_def]
 exact eqL_all (g := M24_L1 F b (some true)) b (fun _ => rfl) (fun x l n => by rw [M24_L1]) a
theorem clone_eq {α : Type} {g : List α → Option (List α)} (B c : Nat) (hg : ∀ l, g l = nilq l.length (fun b => if b = true then some [] else if ([] ++ l).length * c ≤ B then some ([] ++ l) else none)) (l : List α) (h : l.length * c ≤ B) : g l = some l := by
 rw [hg]
 unfold nilq
 cases l with
 | nil => simp
 | cons x l =>
  rw [if_pos (by simp)]
  simp only [Bool.false_eq_true, if_false, List.nil_append]
  rw [if_pos h]
theorem dcd_none {p : TPolicy} (ws : List TWaiver) {day : Int} {f : TFact} {n : Int} (h : ruleOf p f = none) : dcd ⟨p.Rules, ws⟩ day f n = ⟨n, rf p f, -1, 1⟩ := by
 unfold dcd
 rw [show ruleOf ⟨p.Rules, ws⟩ f = none from h]; rfl
theorem dcd_some {p : TPolicy} (ws : List TWaiver) {day : Int} {f : TFact} {n : Int} {r : TPolicyRule} (h : ruleOf p f = some r) : dcd ⟨p.Rules, ws⟩ day f n = match fstW (fun w => forB r f w && dayB day w) ws 0 with
  | none => ⟨n, rf p f, -1, r.Level⟩
  | some (k, v) => ⟨n, rf p f, k, v⟩ := by
 unfold dcd
 rw [show ruleOf ⟨p.Rules, ws⟩ f = some r from h]; rfl
theorem M50_1_L2_eq (F : Nat) (p : TPolicy) (day : Int) (x : Tpolicy_ruling) (k : Int → Int → Option (List TDecision)) (c : TWaiver → Bool) : ∀ (l : List TWaiver) (n : Nat), p.Waivers.drop n = l → M50_1_L2 F p day x k (idxs c l n) = match fstW (fun w => c w && dayB day w) l n with | none => k (-1) x.level | some (q, v) => k q v
 | [], n, _ => by rw [idxs, M50_1_L2, fstW]
 | w :: l, n, h => by
  obtain ⟨hn, hi, hm, hd⟩ := drop_cons h
  have ih := M50_1_L2_eq F p day x k c l (n + 1) hd
  rw [idxs, fstW]
  cases c w
  ·simp only [Bool.false_eq_true, if_false, Bool.false_and]; exact ih
  ·simp only [if_true, Bool.true_and]
   rw [M50_1_L2, jn_def, hi, Option.bind_some, ih]
   unfold dayB
   by_cases a1 : w.From ≤ day
   ·rw [if_pos (decide_eq_true a1), decide_eq_true a1]
    by_cases a2 : day ≤ w.To
    ·rw [if_pos (decide_eq_true a2), decide_eq_true a2]; rfl
    ·rw [if_neg (by simpa using a2), decide_eq_false a2]; rfl
   ·rw [if_neg (by simpa using a1), decide_eq_false a1]; rfl
theorem M50_1_L1_eq (F : Nat) (p : TPolicy) (day : Int) (k : List TDecision → Option (List TDecision)) : ∀ (l : List TFact) (n : Nat) (acc : List TDecision), acc.length + l.length ≤ 5000 → M50_1_L1 F p day k (l.map (rul p)) (n : Int) acc = k (acc ++ dcds p day l n)
 | [], n, acc, _ => by rw [List.map_nil, M50_1_L1, dcds, List.append_nil]
 | f :: l, n, acc, hl => by
  simp only [List.length_cons] at hl
  rw [List.map_cons, M50_1_L1, dcds]
  simp only [jn_def]
  have ih := fun (x : TDecision) => M50_1_L1_eq F p day k l (n + 1) (acc ++ [x]) (by simp; omega)
  have hg : ∀ x : TDecision, (acc ++ [x]).length * 32 ≤ 140737488355328 := fun x => by simp; omega
  rw [show ((n : Int) + 1) = ((n + 1 : Nat) : Int) from rfl]
  cases hr : ruleOf p f with
  | none =>
   have e : rul p f = ⟨rf p f, 1, []⟩ := by unfold rul; rw [hr]
   have e2 : dcd p day f n = ⟨n, rf p f, -1, 1⟩ := by unfold dcd; rw [hr]
   rw [e, M50_1_L2, if_pos (hg _), ih, e2]; simp
  | some r =>
   have e : rul p f = ⟨rf p f, r.Level, idxs (forB r f) p.Waivers 0⟩ := by unfold rul; rw [hr]
   rw [e, M50_1_L2_eq F p day _ _ (forB r f) p.Waivers 0 rfl]
   cases hw : fstW (fun w => forB r f w && dayB day w) p.Waivers 0 with
   | none =>
    have e2 : dcd p day f n = ⟨n, rf p f, -1, r.Level⟩ := by unfold dcd; rw [hr]; dsimp only; rw [hw]
    dsimp only
    rw [if_pos (hg _), ih, e2]; simp
   | some q =>
    obtain ⟨q, v⟩ := q
    have e2 : dcd p day f n = ⟨n, rf p f, q, v⟩ := by unfold dcd; rw [hr]; dsimp only; rw [hw]
    dsimp only
    rw [if_pos (hg _), ih, e2]; simp
theorem M50_1_eq (F : Nat) (p : TPolicy) (day : Int) (l : List TFact) (hl : l.length ≤ 5000) : M50_1 F p (l.map (rul p)) day = some (dcds p day l 0) := by
 unfold M50_1
 have := M50_1_L1_eq F p day (fun l5 => some l5) l 0 [] (by simp; omega)
 rw [show ((0 : Nat) : Int) = 0 from rfl, List.nil_append] at this
 rw [jn_def, this]
def usB (q : List TDecision) (n : Int) : Bool := q.any fun x => x.Waiver == n
def sts (q : List TDecision) (day : Int) : List TWaiver → Nat → List Int
 | [], _ => []
 | w :: l, n => if (!usB q (n : Int) && dayB day w) = true then (n : Int) :: sts q day l (n + 1) else sts q day l (n + 1)
def usd (q : List TDecision) (m : List (Int × Bool)) : List (Int × Bool) := match q with
 | [] => m
 | x :: q => usd q (mput m x.Waiver true)
theorem usd_get (n : Int) : ∀ (q : List TDecision) (m : List (Int × Bool)), (mget (usd q m) n).getD false = ((mget m n).getD false || usB q n)
 | [], m => by simp [usd, usB]
 | x :: q, m => by
  rw [usd, usd_get n q, mget_mput]
  unfold usB
  rw [List.any_cons]
  by_cases e : x.Waiver = n
  ·rw [if_pos e]; simp [e]
  ·rw [if_neg e, beq_false_of_ne e]; simp
theorem M27_L1_eq (F : Nat) (k : List (Int × Bool) → Option (List Int × Int)) : ∀ (q : List TDecision) (m : List (Int × Bool)), M27_L1 F k q m = k (usd q m)
 | [], m => rfl
 | x :: q, m => by rw [M27_L1, M27_L1_eq F k q, usd]
theorem M27_L2_eq (F : Nat) (day : Int) (q : List TDecision) (m : List (Int × Bool)) (hm : ∀ n, (mget m n).getD false = usB q n) (k : List Int → Option (List Int × Int)) : ∀ (l : List TWaiver) (n : Nat) (acc : List Int), acc.length + l.length ≤ 200 → M27_L2 F day m k l (n : Int) acc = k (acc ++ sts q day l n)
 | [], n, acc, _ => by rw [M27_L2, sts, List.append_nil]
 | w :: l, n, acc, h => by
  simp only [List.length_cons] at h
  have ih := fun acc' (h' : acc'.length + l.length ≤ 200) => M27_L2_eq F day q m hm k l (n + 1) acc' h'
  have hb : dayB day w = (decide (w.From ≤ day) && decide (day ≤ w.To)) := rfl
  rw [M27_L2, sts, hm, show ((n : Int) + 1) = ((n + 1 : Nat) : Int) from rfl]
  simp only [jn_def, ge_iff_le]
  cases h1 : usB q (n : Int)
  ·cases h2 : decide (w.From ≤ day)
   ·rw [show dayB day w = false by rw [hb, h2]; rfl]; exact ih acc (by omega)
   ·cases h3 : decide (day ≤ w.To)
    ·rw [show dayB day w = false by rw [hb, h2, h3]; rfl]; exact ih acc (by omega)
    ·rw [show dayB day w = true by rw [hb, h2, h3]; rfl]
     simp only [if_true, Bool.not_false, Bool.and_self]
     rw [if_pos (by simp; omega), ih _ (by simp; omega)]; simp
  ·exact ih acc (by omega)
noncomputable def stV (p : TPolicy) (l : List TFact) (day : Int) : List Int × Int := if vD p l day = 0 then (sts (dcds p day l 0) day p.Waivers 0, 0) else ([], vD p l day)
theorem M27_eq (p : TPolicy) (hp : okTPolicy p) (l : List TFact) (h : okFs l) (day : Int) (F : Nat) (hF : fuP p ≤ F) : M27 F p l day = some (stV p l day) := by
 unfold M27 stV
 rw [M49_eq p hp l h day F hF, Option.bind_some]
 by_cases h1 : vD p l day = 0
 ·obtain ⟨h2, h3, h4⟩ := vD_zero h1
  have h200 := (vP_zero h2).2.1
  rw [if_neg (by simp [h1]), if_pos h1, M51_eq hp h2 hF l (vFs_zero h3), Option.bind_some, M50_1_eq F p day l (vFs_zero h3), Option.bind_some]
  simp only [jn_def]
  have e := M27_L2_eq F day (dcds p day l 0) (usd (dcds p day l 0) []) (fun n => by rw [usd_get]; rfl) (fun l22 => some (l22, 0)) p.Waivers 0 [] (by simp; omega)
  rw [show ((0 : Nat) : Int) = 0 from rfl] at e
  rw [M27_L1_eq, e, List.nil_append]
 ·rw [if_pos (by simp [h1]), if_neg h1]
noncomputable def dcW (p : TPolicy) (l : List TFact) (day : Int) : Int × List TDecision := if vD p l day = 0 then (0, dcds p day l 0) else (vD p l day, [])
theorem M17_1_eq (p : TPolicy) (hp : okTPolicy p) (l : List TFact) (h : okFs l) (day : Int) (F : Nat) (hF : fuP p ≤ F) : M17_1 F p l day = some (dcW p l day) := by
 unfold M17_1 dcW
 rw [M49_eq p hp l h day F hF, Option.bind_some]
 by_cases h1 : vD p l day = 0
 ·obtain ⟨h2, h3, h4⟩ := vD_zero h1
  rw [if_neg (by simp [h1]), if_pos h1, M51_eq hp h2 hF l (vFs_zero h3), Option.bind_some, M50_eq F p day l (vFs_zero h3)]; rfl
 ·rw [if_pos (by simp [h1]), if_neg h1]
def incD (n : Int) (x : TDecision) : TDecision := if x.Waiver ≥ n then ⟨x.Fact, x.Rule, w64 (x.Waiver + 1), x.Level⟩ else x
theorem M7_L2_eq (F : Nat) (n : Int) (k : List TDecision → Option Bool) (o : List TDecision) : ∀ (m j : Nat), j + m = o.length → M7_L2 F n k m (j : Int) ((o.take j).map (incD n) ++ o.drop j) = k (o.map (incD n))
 | 0, j, h => by
  rw [M7_L2, List.drop_eq_nil_of_le (by omega), List.append_nil, List.take_of_length_le (by omega)]
 | m + 1, j, h => by
  have hj : j < o.length := by omega
  have hl : ((o.take j).map (incD n)).length = j := by simp; omega
  have hi : idx ((o.take j).map (incD n) ++ o.drop j) (j : Int) = some o[j] := by
   unfold idx
   rw [if_pos (by omega), show ((j : Int)).toNat = j by omega, List.getElem?_append_right (by omega), hl, Nat.sub_self, List.drop_eq_getElem_cons hj]; rfl
  have hset : ∀ y, ((o.take j).map (incD n) ++ o.drop j).set j y = (o.take j).map (incD n) ++ y :: o.drop (j + 1) := by
   intro y
   rw [List.set_append_right _ _ (by omega), hl, Nat.sub_self, List.drop_eq_getElem_cons hj]; rfl
  have hnext : ∀ y, y = incD n o[j] → (o.take j).map (incD n) ++ y :: o.drop (j + 1) = (o.take (j + 1)).map (incD n) ++ o.drop (j + 1) := by
   intro y hy
   rw [List.take_succ_eq_append_getElem hj, List.map_append, List.map_cons, List.map_nil, hy]; simp
  rw [M7_L2, hi, Option.bind_some, jn_def, Option.bind_some, Option.bind_some, show ((j : Int)).toNat = j by omega, hset, show ((j : Int) + 1) = ((j + 1 : Nat) : Int) from rfl]
  dsimp only
  by_cases hw : o[j].Waiver ≥ n
  ·rw [if_pos (decide_eq_true hw), hnext _ (by unfold incD; rw [if_pos hw])]
   exact M7_L2_eq F n k o m (j + 1) (by omega)
  ·rw [if_neg (by simpa using hw)]
   have e : (o.take j).map (incD n) ++ o.drop j = (o.take (j + 1)).map (incD n) ++ o.drop (j + 1) := by
    rw [List.drop_eq_getElem_cons hj]
    exact hnext _ (by unfold incD; rw [if_neg hw])
   rw [e]
   exact M7_L2_eq F n k o m (j + 1) (by omega)
theorem fstW_shift (c : TWaiver → Bool) : ∀ (l : List TWaiver) (n : Nat), fstW c l (n + 1) = (fstW c l n).map fun q => (q.1 + 1, q.2)
 | [], n => rfl
 | w :: l, n => by
  rw [fstW, fstW, fstW_shift c l (n + 1)]
  split
  ·rfl
  ·rfl
theorem fstW_ge {c : TWaiver → Bool} : ∀ {l : List TWaiver} {n : Nat} {k v : Int}, fstW c l n = some (k, v) → (n : Int) ≤ k ∧ k < n + l.length
 | [], n, k, v, h => by rw [fstW] at h; cases h
 | w :: l, n, k, v, h => by
  rw [fstW] at h
  split at h
  ·cases h; simp; omega
  ·have := fstW_ge h; simp; omega
theorem fstW_app2 (c : TWaiver → Bool) (b : List TWaiver) : ∀ (a : List TWaiver) (n : Nat), fstW c (a ++ b) n = match fstW c a n with | some q => some q | none => fstW c b (n + a.length)
 | [], n => by simp [fstW]
 | u :: a, n => by
  rw [List.cons_append, fstW, fstW, fstW_app2 c b a (n + 1)]
  split
  ·rfl
  ·rw [show n + 1 + a.length = n + (u :: a).length by simp; omega]
theorem inc_dcd (p : TPolicy) (day : Int) (f : TFact) (i : Int) (k : Nat) (hk : k < p.Waivers.length) (h2 : p.Waivers.length ≤ 200) (hn : (dcd p day f i).Waiver ≠ (k : Int)) :
  incD (k : Int) (dcd ⟨p.Rules, p.Waivers.take k ++ p.Waivers.drop (k + 1)⟩ day f i) = dcd p day f i := by
 have hp : p = ⟨p.Rules, p.Waivers⟩ := rfl
 cases hr : ruleOf p f with
 | none =>
  rw [hp, dcd_none p.Waivers hr, dcd_none _ hr]
  unfold incD
  rw [if_neg (by dsimp only; omega)]
 | some r =>
  rw [hp, dcd_some p.Waivers hr] at hn
  rw [hp, dcd_some p.Waivers hr, dcd_some _ hr]
  have e0 : p.Waivers = p.Waivers.take k ++ p.Waivers[k] :: p.Waivers.drop (k + 1) := by
   rw [← List.drop_eq_getElem_cons hk, List.take_append_drop]
  have hl : (p.Waivers.take k).length = k := by simp; omega
  generalize (fun w => forB r f w && dayB day w) = c at hn ⊢
  have e1 : fstW c p.Waivers 0 = match fstW c (p.Waivers.take k) 0 with | some q => some q | none => if c p.Waivers[k] = true then some ((k : Int), p.Waivers[k].Level) else (fstW c (p.Waivers.drop (k + 1)) k).map fun q => (q.1 + 1, q.2) := by
   conv => lhs; rw [e0]
   rw [fstW_app2, hl, Nat.zero_add, fstW, fstW_shift]
  have e2 := fstW_app2 c (p.Waivers.drop (k + 1)) (p.Waivers.take k) 0
  rw [hl, Nat.zero_add] at e2
  rw [e1] at hn ⊢
  dsimp only
  rw [e2]
  cases hx : fstW c (p.Waivers.take k) 0 with
  | some q =>
   obtain ⟨q, v⟩ := q
   have := fstW_ge hx
   rw [hl] at this
   dsimp only
   unfold incD
   rw [if_neg (by dsimp only; omega)]
  | none =>
   rw [hx] at hn
   dsimp only at hn ⊢
   cases hc : c p.Waivers[k]
   ·simp only [Bool.false_eq_true, if_false]
    cases hy : fstW c (p.Waivers.drop (k + 1)) k with
    | none =>
     dsimp only [Option.map_none]
     unfold incD
     rw [if_neg (by dsimp only; omega)]
    | some q =>
     obtain ⟨q, v⟩ := q
     have := fstW_ge hy
     rw [List.length_drop] at this
     dsimp only [Option.map_some]
     unfold incD
     rw [if_pos (by dsimp only; omega)]
     dsimp only
     rw [w64_id (by omega) (by omega)]
   ·rw [hc] at hn
    simp at hn
theorem inc_dcds (p : TPolicy) (day : Int) (k : Nat) (hk : k < p.Waivers.length) (h2 : p.Waivers.length ≤ 200) : ∀ (l : List TFact) (i : Nat), usB (dcds p day l i) (k : Int) = false → (dcds ⟨p.Rules, p.Waivers.take k ++ p.Waivers.drop (k + 1)⟩ day l i).map (incD (k : Int)) = dcds p day l i
 | [], i, _ => rfl
 | f :: l, i, h => by
  rw [dcds] at h
  unfold usB at h
  rw [List.any_cons, Bool.or_eq_false_iff] at h
  rw [dcds, dcds, List.map_cons, inc_dcd p day f i k hk h2 (fun e => by rw [e] at h; simp at h), inc_dcds p day k hk h2 l (i + 1) h.2]
theorem sts_mem (q : List TDecision) (day : Int) : ∀ (l : List TWaiver) (n : Nat) (x : Int), x ∈ sts q day l n → ∃ k : Nat, x = (k : Int) ∧ n ≤ k ∧ k < n + l.length ∧ usB q x = false
 | [], n, x, h => by rw [sts] at h; cases h
 | w :: l, n, x, h => by
  rw [sts] at h
  have go : x ∈ sts q day l (n + 1) → ∃ k : Nat, x = (k : Int) ∧ n ≤ k ∧ k < n + (w :: l).length ∧ usB q x = false := fun h => by
   obtain ⟨k, e, h1, h2, h3⟩ := sts_mem q day l (n + 1) x h
   exact ⟨k, e, by omega, by simp; omega, h3⟩
  split at h
  ·rename_i hc
   rcases List.mem_cons.1 h with e | h
   ·subst e
    simp only [Bool.and_eq_true, Bool.not_eq_true'] at hc
    exact ⟨n, rfl, by omega, by simp, hc.1⟩
   ·exact go h
  ·exact go h
theorem wvsF_all {p : TPolicy} : ∀ {l : List TWaiver}, wvsF p l = 0 → ∀ w, w ∈ l → wvF p w = 0
 | u :: l, h, w, hw => by
  rw [wvsF] at h
  split at h
  ·rename_i h0
   rcases List.mem_cons.1 hw with e | hw
   ·rw [e]; exact h0
   ·exact wvsF_all h w hw
  ·rename_i h0; exact absurd h h0
theorem wvsF_of {p : TPolicy} : ∀ {l : List TWaiver}, (∀ w, w ∈ l → wvF p w = 0) → wvsF p l = 0
 | [], _ => rfl
 | u :: l, h => by rw [wvsF, if_pos (h u (by simp)), wvsF_of fun w hw => h w (by simp [hw])]
theorem sum_cut {α : Type} (g : α → Nat) (l : List α) (k : Nat) : ((l.take k ++ l.drop (k + 1)).map g).sum ≤ (l.map g).sum := by
 conv => rhs; rw [← List.take_append_drop k l]
 rw [List.map_append, List.map_append, List.sum_append, List.sum_append]
 have : ((l.drop (k + 1)).map g).sum ≤ ((l.drop k).map g).sum := by
  by_cases h : k < l.length
  ·rw [List.drop_eq_getElem_cons h, List.map_cons, List.sum_cons]; omega
  ·rw [List.drop_eq_nil_of_le (by omega)]; simp
 omega
theorem mem_cut {α : Type} {l : List α} {k : Nat} {x : α} (h : x ∈ l.take k ++ l.drop (k + 1)) : x ∈ l := by
 rcases List.mem_append.1 h with h | h
 ·exact List.mem_of_mem_take h
 ·exact List.mem_of_mem_drop h
theorem plain_7 (p : TPolicy) (l : List TFact) (day : Int) (hp : okTPolicy p) (h : okFs l) (hd : (IntKind.i64).min ≤ day ∧ day ≤ (IntKind.i64).max) : ∃ F, M7 F p l day = some true := by
 refine ⟨fuP p, ?_⟩
 have hF := Nat.le_refl (fuP p)
 generalize hG : fuP p = F at hF
 have hF : fuP p ≤ F := by omega
 unfold M7
 rw [M27_eq p hp l h day F hF, Option.bind_some, M17_1_eq p hp l h day F hF, Option.bind_some]
 by_cases h1 : vD p l day = 0
 ·obtain ⟨h2, h3, h4⟩ := vD_zero h1
  obtain ⟨g1, g2, g3, g4⟩ := vP_zero h2
  have e1 : stV p l day = (sts (dcds p day l 0) day p.Waivers 0, 0) := by unfold stV; rw [if_pos h1]
  have e2 : dcW p l day = (0, dcds p day l 0) := by unfold dcW; rw [if_pos h1]
  rw [e1, e2]
  dsimp only
  rw [if_neg (by decide), jn_def]
  have hr : rlF [] p.Rules = 0 := by
   have h2' := h2
   unfold vP at h2'
   rw [if_neg (by omega), if_neg (by omega)] at h2'
   split at h2'
   ·rename_i h5; exact h5
   ·exact h2'
  have hl : ∀ q : List Int, (∀ x, x ∈ q → x ∈ sts (dcds p day l 0) day p.Waivers 0) → M7_L1 F p l day (0, dcds p day l 0) ((M16 F).bind fun y52 => some y52) q = some true := by
   intro q
   induction q with
   | nil => intro _; rfl
   | cons x q ih =>
    intro hq
    obtain ⟨k, rfl, _, hk, hu⟩ := sts_mem _ day p.Waivers 0 x (hq x (by simp))
    rw [Nat.zero_add] at hk
    have hlen : (p.Waivers.take k ++ p.Waivers.drop (k + 1)).length ≤ 200 := by simp; omega
    have hp2 : okTPolicy ⟨p.Rules, p.Waivers.take k ++ p.Waivers.drop (k + 1)⟩ := ⟨hp.1, ⟨fun a ha => hp.2.1.1 a (mem_cut ha), by rw [maxLen_eq]; dsimp only; omega⟩, trivial⟩
    have hF2 : fuP ⟨p.Rules, p.Waivers.take k ++ p.Waivers.drop (k + 1)⟩ ≤ F := by
     have := sum_cut (fun w : TWaiver => w.Subject.length + 2) p.Waivers k
     unfold fuP at hF ⊢
     dsimp only
     omega
    have hv : vP ⟨p.Rules, p.Waivers.take k ++ p.Waivers.drop (k + 1)⟩ = 0 := by
     unfold vP
     dsimp only
     rw [if_neg (by omega), if_neg (by omega), if_pos hr]
     exact wvsF_of fun w hw => wvsF_all g4 w (mem_cut hw)
    have hd1 : vD ⟨p.Rules, p.Waivers.take k ++ p.Waivers.drop (k + 1)⟩ l day = 0 := by
     unfold vD
     rw [if_pos hv, if_pos h3, if_neg (by rw [h4]; decide)]
    have e3 : dcW ⟨p.Rules, p.Waivers.take k ++ p.Waivers.drop (k + 1)⟩ l day = (0, dcds ⟨p.Rules, p.Waivers.take k ++ p.Waivers.drop (k + 1)⟩ day l 0) := by unfold dcW; rw [if_pos hd1]
    have e4 : M30 F (k : Int) (w64 ((k : Int) + 1)) p.Waivers = some (p.Waivers.take k ++ p.Waivers.drop (k + 1)) := by
     unfold M30
     rw [w64_id (by omega) (by omega), if_pos ⟨by omega, by omega, by omega⟩, show ((k : Int)).toNat = k by omega, show ((k : Int) + 1).toNat = k + 1 by omega]
    rw [M7_L1, jn_def, clone_eq (g := M18 F) 140737488355328 72 (fun l => by rw [M18]) p.Waivers (by omega), Option.bind_some, e4, Option.bind_some, M17_1_eq _ hp2 l h day F hF2, Option.bind_some, e3, jn_def]
    dsimp only
    have e5 := M7_L2_eq F (k : Int) (fun l31 => if ((0 : Int) != 0) = true then some false else (M24 F (dcds p day l 0) l31).bind fun y48 => if (!y48) = true then some false else (fun b21 => M7_L1 F p l day (0, dcds p day l 0) ((M16 F).bind fun y52 => some y52) q) (!y48)) (dcds ⟨p.Rules, p.Waivers.take k ++ p.Waivers.drop (k + 1)⟩ day l 0) (dcds ⟨p.Rules, p.Waivers.take k ++ p.Waivers.drop (k + 1)⟩ day l 0).length 0 (by omega)
    rw [List.take_zero, List.map_nil, List.nil_append, List.drop_zero, show ((0 : Nat) : Int) = 0 from rfl] at e5
    rw [show ∀ n : Nat, (((n : Nat) : Int)).toNat = n from fun n => by omega]
    refine e5.trans ?_
    rw [inc_dcds p day k hk g2 l 0 hu, if_neg (by decide), M24_eq, Option.bind_some, decide_eq_true rfl]
    exact ih fun u hu => hq u (by simp [hu])
  exact hl _ fun _ h => h
 ·have e1 : stV p l day = ([], vD p l day) := by unfold stV; rw [if_neg h1]
  have e2 : dcW p l day = (vD p l day, []) := by unfold dcW; rw [if_neg h1]
  rw [e1, e2]
  dsimp only
  rw [if_pos (by simpa using h1)]
  simp [M16]
end Go.Proofs.YtkeeppclihjlhaaGreatDoor
namespace Go.Proofs.YtkeeppclihjlhaaGreatDoor
open Go Go.Pv Go.RowKit Go.Lib Go.Sort Go.Shelf
theorem nil30 : DelNil Tryz.prog 30 := by
 intro a w
 go_enter Tryz.func30, Tryz.ntmps30
 go_wp2
 all_goals (go_ret; exact ⟨rfl, rfl⟩)
theorem infoK30 : (Tryz.prog.info? 44).map (fun i => (i.zero, i.size, i.bytes)) = some (some (Value.agg #[.string ⟨#[]⟩, .string ⟨#[]⟩, .int .i64 0, .int .i64 0, .string ⟨#[]⟩, .int .i64 0]), 6, 72) := by kernel_rfl
set_option maxHeartbeats 4000000 in
set_option maxRecDepth 1000000 in
theorem del30 : DelSpec Tryz.prog 30 6 := by
 intro blk off cap n i j d w hdn h1 hH hcap hm hij hj
 have mixed : Tryz.prog.follows .mixedOrders = true := by kernel_rfl
 obtain ⟨i0, hi0, hz0, hz1, hz2⟩ := info_parts infoK30
 by_cases heq : i = j
 ·subst heq
  have h0 : Calls Tryz.prog 30 #[.slice (some ⟨blk, off, none⟩) n cap, .int .i64 i, .int .i64 i] w fun e w' => e = .returned (.slice (some ⟨blk, off, none⟩) n cap) ∧ w' = w := by
   clear hH h1
   go_enter Tryz.func30, Tryz.ntmps30
   go_wp2
   all_goals (go_ret; exact ⟨rfl, rfl⟩)
  refine h0.mono ?_
  rintro e w' ⟨rfl, rfl⟩
  refine ⟨by rw [Nat.sub_self, Nat.sub_zero], 0, [], by simp, ?_⟩
  have e : (d.toList.take (i * 6) ++ d.toList.drop (i * 6) ++ []).toArray = d := by simp
  rw [e]
  exact (putRow_self (fun v : Value => v) (Sort.ahead w' 0) blk off d hH).symm
 ·have hlt : i < j := by omega
  obtain ⟨news, hnews⟩ : ∃ news, news = d.toList.drop (j * 6) := ⟨_, rfl⟩
  have hlen : news.length = n * 6 - j * 6 := by rw [hnews]; simp [hdn]
  have hget : ∀ t, t < n * 6 - j * 6 → news[t]? = some d[j * 6 + t]! := by
   intro t ht
   rw [hnews, List.getElem?_drop, Array.getElem?_toList, getElem!_pos d (j * 6 + t) (by omega), Array.getElem?_eq_getElem (by omega)]
  obtain ⟨A, hA, hsrc⟩ : ∃ A : Addr, (if cap = j then some (⟨blk, off, none⟩ : Addr) else some ⟨blk, off + j * 6, none⟩) = some A ∧ Hid (∀ t u, news[t]? = some u → w.drew.cell? (A.add t) = some u) := by
   by_cases h : cap = j
   ·refine ⟨⟨blk, off, none⟩, by simp [h], fun t u hu => ?_⟩
    have h0 : news.length = 0 := by rw [hlen]; omega
    rw [List.length_eq_zero_iff.1 h0] at hu
    simp at hu
   ·refine ⟨⟨blk, off + j * 6, none⟩, by simp [h], fun t u hu => ?_⟩
    have ht : t < n * 6 - j * 6 := by
     have := (List.getElem?_eq_some_iff.1 hu).1
     rwa [hlen] at this
    rw [hget t ht] at hu
    rw [Addr.add_lit, show off + j * 6 + t = off + (j * 6 + t) by omega]
    exact (hH (j * 6 + t) (by omega)).1.trans hu
  have s1 : Hid (news.length = (n - j) * 6) := by rw [Nat.sub_mul]; exact hlen
  have s2 : Hid (∀ u ∈ news, u.oneCell' = true) := by
   intro u hu
   rw [hnews] at hu
   exact h1 u (List.mem_of_mem_drop hu)
  have s3 : Hid (∀ t, t < news.length → (w.drew.cell? ⟨blk, off + i * 6 + t, none⟩).isSome = true ∧ w.drew.frozen? ⟨blk, off + i * 6 + t, none⟩ = false) := by
   intro t ht
   rw [hlen] at ht
   rw [Nat.add_assoc]
   exact ⟨by show (w.cell? _).isSome = true; rw [(hH (i * 6 + t) (by omega)).1]; rfl, (hH (i * 6 + t) (by omega)).2⟩
  obtain ⟨W1, hW1⟩ : ∃ W1, W1 = w.drew.setCells blk (off + i * 6) news := ⟨_, rfl⟩
  have hmap : news.map (fun v : Value => v) = news := by simp
  have hW1' : W1 = putRow (fun v : Value => v) (Sort.ahead w 1) blk off (lay d (i * 6) (d.toList.drop (j * 6))) := by
   rw [hW1, ← hnews, ← putRow_setCells (fun v : Value => v) (Sort.ahead w 1) blk off news d (i * 6) (by omega), putRow_self (fun v : Value => v) (Sort.ahead w 1) blk off d (holds_ahead (fun v : Value => v) w 1 blk off d hH), hmap]
   rfl
  have hH1 : Holds (fun v : Value => v) W1 blk off (lay d (i * 6) (d.toList.drop (j * 6))) := by rw [hW1']; exact holds_putRow (fun v : Value => v) _ blk off d _ (holds_ahead (fun v : Value => v) w 1 blk off d hH) (lay_size _ _ _)
  obtain ⟨zs, hzs⟩ : ∃ zs, zs = (Builtin.zeroCells (Value.cells (Value.agg #[.string ⟨#[]⟩, .string ⟨#[]⟩, .int .i64 0, .int .i64 0, .string ⟨#[]⟩, .int .i64 0])) (n - (i + (n - j)))).toList := ⟨_, rfl⟩
  have hzl : zs.length = (n - (i + (n - j))) * 6 := by rw [hzs]; simp [Builtin.zeroCells, Value.cells]
  have hcl : ∀ ty, (Builtin.clear_ #[31] ty #[.slice (some ⟨blk, off + (i + (n - j)) * 6, none⟩) (n - (i + (n - j))) (cap - (i + (n - j)))]).run Tryz.prog W1 = .ok (.tuple #[]) (W1.setCells blk (off + (i + (n - j)) * 6) zs) := by
   intro ty
   rw [hzs]
   have hzc : (Value.cells (Value.agg #[.string ⟨#[]⟩, .string ⟨#[]⟩, .int .i64 0, .int .i64 0, .string ⟨#[]⟩, .int .i64 0])).size = 6 := rfl
   refine run_clearK W1 31 44 ty _ Tryz.underlying31 Tryz.zeroValue44 (zero_one (by kernel_rfl)) blk _ _ (by omega) (fun t ht => ?_) (fun t ht => ?_)
   ·rw [hzc] at ht
    rw [show off + (i + (n - j)) * 6 + t = off + ((i + (n - j)) * 6 + t) by omega, (hH1 _ (by rw [lay_size]; omega)).1]; rfl
   ·rw [hzc] at ht
    rw [show off + (i + (n - j)) * 6 + t = off + ((i + (n - j)) * 6 + t) by omega]; exact (hH1 _ (by rw [lay_size]; omega)).2
  have X : Aside (W1 = putRow (fun v : Value => v) (Sort.ahead w 1) blk off (lay d (i * 6) (d.toList.drop (j * 6)))) := hW1'
  have hW : Hid (W1 = w.drew.setCells blk (off + i * 6) news) := hW1
  have hic : i ≤ cap := by omega
  have hjc : j ≤ cap := by omega
  clear hW1 hW1' hH1 hH hget hnews hlen hzs
  go_enter Tryz.func30, Tryz.ntmps30
  go_wp2_with fail
  go_region_law_o (refine step_append_room rfl (.tmp 22) (.tmp 25) 31 rfl 44 i0 6 Tryz.underlying31 hi0 hz1 blk off i cap (by simp [Act.eval, Act.put]) A (n - j) (cap - j) news (by simp [Act.eval, Act.put]) s1.out hsrc.out s2.out (by omega) s3.out ?_; rw [← hW.out])
  go_wp2
  go_ret
  refine ⟨by rw [show n - (j - i) = i + (n - j) by omega]; rfl, 1, zs, by rw [hzl]; congr 1; omega, ?_⟩
  have hlz : zs.length = j * 6 - i * 6 := by rw [hzl]; omega
  have hmz : zs.map (fun v : Value => v) = zs := by simp
  rw [← delete_arr2 d (i * 6) (j * 6) zs hlz (by omega) (by omega), ← putRow_setCells (fun v : Value => v) _ blk off zs _ (i * 6 + (d.size - j * 6)) (by rw [lay_size]; omega), ← X.out, hmz, show i * 6 + (d.size - j * 6) = (i + (n - j)) * 6 by omega]
end Go.Proofs.YtkeeppclihjlhaaGreatDoor
/-
 DERIVED: THE SHELF's CONTRACTS AT THIS DUMP, IN PLAIN WORDS (tools/lay-plain.mjs out of 'TryzShelf.lean', which tools/lay-shelf.mjs wrote): THE SAME DECLARATIONS UNDER THE SAME NAMES: 'import', 'namespace', 'open', 'def', 'theorem' AND NOTHING ELSE: no command of the shelf's: FOR A HAND-IN. Each laying: the table of numbers ('.._ren') and one theorem, a field a fact of the dump's own or the kernel's comparison; each contract: ONE APPLICATION.
-/
namespace Go.Proofs
open Go.Shelf
def Tryz.lays137_ren : Go.Shelf.Ren := ⟨fun | 137 => 69 | 217 => 89 | 266 => 113 | n => n, fun | 9 => 9 | 5 => 5 | 3 => 3 | n => n, fun | n => n⟩
theorem Tryz.lays137 : Go.Proofs.Lays.n137 Tryz.prog Tryz.lays137_ren := {
 mixed := by kernel_rfl
 f137 := Tryz.func69.trans (congrArg some (by kernel_rfl))
 f217 := Tryz.func89.trans (congrArg some (by kernel_rfl))
 f266 := Tryz.func113.trans (congrArg some (by kernel_rfl))
 t3 := Tryz.underlying3
 a3 := Tryz.isAgg3
 z3 := Tryz.sizeOf3
 v3 := Tryz.zeroValue3
 t5 := Tryz.underlying5
 a5 := Tryz.isAgg5
 z5 := Tryz.sizeOf5
 v5 := Tryz.zeroValue5
 t9 := Tryz.underlying9
 a9 := Tryz.isAgg9
 z9 := Tryz.sizeOf9
 v9 := Tryz.zeroValue9 }
open Go.RowKit in
theorem Tryz.strings_IndexByte (s : ByteArray) (c : Int) (w : World) :
  Calls Tryz.prog 69 #[.string s, .int .u8 c] w fun e w' => e = .returned (.int .i64 (Lib.indexByte s.data.toList c.toNat.toUInt8)) ∧ w' = w := Any.strings_IndexByte Tryz.lays137 s c w
def Tryz.lays172_ren : Go.Shelf.Ren := ⟨fun | 172 => 122 | 244 => 132 | 245 => 133 | 247 => 138 | 279 => 139 | 280 => 140 | 281 => 141 | 282 => 142 | 287 => 143 | 316 => 144 | 171 => 146 | 205 => 145 | 321 => 147 | 322 => 148 | 243 => 149 | 246 => 150 | 283 => 151 | 284 => 152 | 285 => 153 | 286 => 154 | 129 => 112 | 317 => 155 | 318 => 156 | 319 => 157 | 320 => 158 | 337 => 159 | 338 => 160 | n => n, fun | 9 => 9 | 3 => 3 | 75 => 182 | 76 => 183 | 4 => 4 | 5 => 5 | 167 => 196 | 37 => 176 | 0 => 0 | 85 => 197 | 2 => 2 | 168 => 199 | 53 => 175 | 175 => 202 | 46 => 152 | 210 => 206 | 127 => 210 | 145 => 213 | 143 => 211 | 21 => 21 | 171 => 215 | 173 => 217 | 212 => 220 | 51 => 173 | 20 => 20 | 213 => 221 | 232 => 222 | 233 => 223 | 80 => 157 | n => n, fun | 15 => 1 | 16 => 2 | 17 => 3 | 18 => 4 | 19 => 5 | n => n⟩
theorem Tryz.lays172 : Go.Proofs.Lays.n172 Tryz.prog Tryz.lays172_ren := {
 mixed := by kernel_rfl
 f129 := Tryz.func112.trans (congrArg some (by kernel_rfl))
 f171 := Tryz.func146.trans (congrArg some (by kernel_rfl))
 f172 := Tryz.func122.trans (congrArg some (by kernel_rfl))
 f205 := Tryz.func145.trans (congrArg some (by kernel_rfl))
 f243 := Tryz.func149.trans (congrArg some (by kernel_rfl))
 f244 := Tryz.func132.trans (congrArg some (by kernel_rfl))
 f245 := Tryz.func133.trans (congrArg some (by kernel_rfl))
 f246 := Tryz.func150.trans (congrArg some (by kernel_rfl))
 f247 := Tryz.func138.trans (congrArg some (by kernel_rfl))
 f279 := Tryz.func139.trans (congrArg some (by kernel_rfl))
 f280 := Tryz.func140.trans (congrArg some (by kernel_rfl))
 f281 := Tryz.func141.trans (congrArg some (by kernel_rfl))
 f282 := Tryz.func142.trans (congrArg some (by kernel_rfl))
 f283 := Tryz.func151.trans (congrArg some (by kernel_rfl))
 f284 := Tryz.func152.trans (congrArg some (by kernel_rfl))
 f285 := Tryz.func153.trans (congrArg some (by kernel_rfl))
 f286 := Tryz.func154.trans (congrArg some (by kernel_rfl))
 f287 := Tryz.func143.trans (congrArg some (by kernel_rfl))
 f316 := Tryz.func144.trans (congrArg some (by kernel_rfl))
 f317 := Tryz.func155.trans (congrArg some (by kernel_rfl))
 f318 := Tryz.func156.trans (congrArg some (by kernel_rfl))
 f319 := Tryz.func157.trans (congrArg some (by kernel_rfl))
 f320 := Tryz.func158.trans (congrArg some (by kernel_rfl))
 f321 := Tryz.func147.trans (congrArg some (by kernel_rfl))
 f322 := Tryz.func148.trans (congrArg some (by kernel_rfl))
 f337 := Tryz.func159.trans (congrArg some (by kernel_rfl))
 f338 := Tryz.func160.trans (congrArg some (by kernel_rfl))
 t0 := Tryz.underlying0
 a0 := Tryz.isAgg0
 z0 := Tryz.sizeOf0
 v0 := Tryz.zeroValue0
 t2 := Tryz.underlying2
 a2 := Tryz.isAgg2
 z2 := Tryz.sizeOf2
 v2 := Tryz.zeroValue2
 t3 := Tryz.underlying3
 a3 := Tryz.isAgg3
 z3 := Tryz.sizeOf3
 v3 := Tryz.zeroValue3
 t4 := Tryz.underlying4
 a4 := Tryz.isAgg4
 z4 := Tryz.sizeOf4
 v4 := Tryz.zeroValue4
 t5 := Tryz.underlying5
 a5 := Tryz.isAgg5
 z5 := Tryz.sizeOf5
 v5 := Tryz.zeroValue5
 t9 := Tryz.underlying9
 a9 := Tryz.isAgg9
 z9 := Tryz.sizeOf9
 v9 := Tryz.zeroValue9
 t20 := Tryz.underlying20
 a20 := Tryz.isAgg20
 z20 := Tryz.sizeOf20
 v20 := Tryz.zeroValue20
 t21 := Tryz.underlying21
 a21 := Tryz.isAgg21
 z21 := Tryz.sizeOf21
 v21 := Tryz.zeroValue21
 t37 := Tryz.underlying176
 a37 := Tryz.isAgg176
 z37 := Tryz.sizeOf176
 v37 := Tryz.zeroValue176
 t46 := Tryz.underlying152
 a46 := Tryz.isAgg152
 z46 := Tryz.sizeOf152
 v46 := Tryz.zeroValue152
 t51 := Tryz.underlying173
 a51 := Tryz.isAgg173
 z51 := Tryz.sizeOf173
 v51 := Tryz.zeroValue173
 t53 := Tryz.underlying175
 a53 := Tryz.isAgg175
 z53 := Tryz.sizeOf175
 v53 := Tryz.zeroValue175
 t75 := Tryz.underlying182
 a75 := Tryz.isAgg182
 z75 := Tryz.sizeOf182
 v75 := Tryz.zeroValue182
 t76 := Tryz.underlying183
 a76 := Tryz.isAgg183
 z76 := Tryz.sizeOf183
 v76 := Tryz.zeroValue183
 t85 := Tryz.underlying197
 a85 := Tryz.isAgg197
 z85 := Tryz.sizeOf197
 v85 := Tryz.zeroValue197
 t127 := Tryz.underlying210
 a127 := Tryz.isAgg210
 z127 := Tryz.sizeOf210
 v127 := Tryz.zeroValue210
 t143 := Tryz.underlying211
 a143 := Tryz.isAgg211
 z143 := Tryz.sizeOf211
 v143 := Tryz.zeroValue211
 t145 := Tryz.underlying213
 a145 := Tryz.isAgg213
 z145 := Tryz.sizeOf213
 v145 := Tryz.zeroValue213
 t167 := Tryz.underlying196
 a167 := Tryz.isAgg196
 z167 := Tryz.sizeOf196
 v167 := Tryz.zeroValue196
 t168 := Tryz.underlying199
 a168 := Tryz.isAgg199
 z168 := Tryz.sizeOf199
 v168 := Tryz.zeroValue199
 t171 := Tryz.underlying215
 a171 := Tryz.isAgg215
 z171 := Tryz.sizeOf215
 v171 := Tryz.zeroValue215
 t173 := Tryz.underlying217
 a173 := Tryz.isAgg217
 z173 := Tryz.sizeOf217
 v173 := Tryz.zeroValue217
 t175 := Tryz.underlying202
 a175 := Tryz.isAgg202
 z175 := Tryz.sizeOf202
 v175 := Tryz.zeroValue202
 t210 := Tryz.underlying206
 a210 := Tryz.isAgg206
 z210 := Tryz.sizeOf206
 v210 := Tryz.zeroValue206
 t212 := Tryz.underlying220
 a212 := Tryz.isAgg220
 z212 := Tryz.sizeOf220
 v212 := Tryz.zeroValue220
 t213 := Tryz.underlying221
 a213 := Tryz.isAgg221
 z213 := Tryz.sizeOf221
 t232 := Tryz.underlying222
 a232 := Tryz.isAgg222
 z232 := Tryz.sizeOf222
 v232 := Tryz.zeroValue222
 t233 := Tryz.underlying223
 a233 := Tryz.isAgg223
 z233 := Tryz.sizeOf223
 v233 := Tryz.zeroValue223
 g15 := by kernel_rfl
 g16 := by kernel_rfl
 g17 := by kernel_rfl
 g18 := by kernel_rfl
 g19 := by kernel_rfl }
open Go.RowKit in
theorem Tryz.strconv_Atoi (s : ByteArray) (n : Int) (hl : s.size ≤ 18) (h : Lib.atoi s.data.toList = some n) (w : World) :
  Calls Tryz.prog 122 #[.string s] w fun e w' => e = .returned (.tuple #[.int .i64 n, .nilIface]) ∧ ∃ t, w' = Lib.bytesWorld w 5 t := Any.strconv_Atoi Tryz.lays172 s n hl h w
end Go.Proofs
