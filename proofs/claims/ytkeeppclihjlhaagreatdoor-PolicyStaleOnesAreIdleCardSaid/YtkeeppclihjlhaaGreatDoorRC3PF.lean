/- Part of the proof: C3Tr, C3O, C3PA, C3PB, C3PC, C3PD, C3PE, C3PF. -/
import Derived.Test.YtkeeppclihjlhaaGreatDoorRC3T
import Derived.Test.YtkeeppclihjlhaaGreatDoorRPvX
import Derived.KernelRfl
namespace Go.Proofs.YtkeeppclihjlhaaGreatDoor
open Go Go.Pv
set_option linter.unusedVariables false
set_option maxRecDepth 100000
inductive Tr where
 | mk (Kind : Int) (Name : List UInt8) (Texts : List (List UInt8)) (Op N : Int) (Kids : List Tr)
noncomputable section
mutual
def Tr.toT : Tr → TTest
 | .mk a b c d e ks => ⟨a, b, c, d, e, Tr.toKs ks⟩
def Tr.toKs : List Tr → List KRow
 | [] => []
 | t :: r => ⟨encTTest t.toT, imms_encTTest _, one_encTTest _⟩ :: Tr.toKs r
end
def okI (n : Int) : Prop := (IntKind.i64).min ≤ n ∧ n ≤ (IntKind.i64).max
def okS (s : List UInt8) : Prop := s.length ≤ 140737488351232
mutual
def Tr.ok : Tr → Prop
 | .mk a b c d e ks => okI a ∧ okS b ∧ ((∀ s, s ∈ c → okS s) ∧ c.length ≤ maxLen) ∧ okI d ∧ okI e ∧ Tr.oks ks ∧ ks.length ≤ maxLen
def Tr.oks : List Tr → Prop
 | [] => True
 | t :: r => t.ok ∧ Tr.oks r
end
end
theorem Tr.toKs_row : ∀ ks : List Tr, (Tr.toKs ks).map KRow.row = ks.map fun t => encTTest t.toT
 | [] => by simp [Tr.toKs]
 | t :: r => by simp [Tr.toKs, Tr.toKs_row r]
theorem Tr.oks_of : ∀ ks : List Tr, (∀ t, t ∈ ks → t.ok) → Tr.oks ks
 | [], _ => by simp [Tr.oks]
 | t :: r, h => by rw [Tr.oks]; exact ⟨h t (by simp), Tr.oks_of r fun u hu => h u (by simp [hu])⟩
theorem Tr.toKs_len : ∀ ks : List Tr, (Tr.toKs ks).length = ks.length
 | [] => by simp [Tr.toKs]
 | t :: r => by simp [Tr.toKs, Tr.toKs_len r]
theorem sV_inj {a b : List UInt8} (h : sV a = sV b) : a = b := by
 unfold sV str at h
 simp only [V.con.injEq, Value.string.injEq] at h
 have := congrArg (fun b => b.data.toList) h
 simpa using this
theorem encS_inj {a b : List UInt8} (h : encS a = encS b) : a = b := sV_inj (by simpa [encS] using h)
theorem mapS_inj {a b : List (List UInt8)} (h : a.map encS = b.map encS) : a = b := List.map_inj_right (fun x y h => encS_inj h) |>.1 h
theorem mapK_inj {a b : List KRow} (h : a.map KRow.row = b.map KRow.row) : a = b := List.map_inj_right (fun x y h => KRow.ext' h) |>.1 h
theorem encTTest_inj (a b : TTest) (h : encTTest a = encTTest b) : a = b := by
 obtain ⟨a1, a2, a3, a4, a5, a6⟩ := a
 obtain ⟨b1, b2, b3, b4, b5, b6⟩ := b
 simp only [encTTest, List.cons.injEq, and_true] at h
 obtain ⟨h1, h2, h3, h4, h5, h6⟩ := h
 have e1 : a1 = b1 := by injection h1 with h; injection h
 have e4 : a4 = b4 := by injection h4 with h; injection h
 have e5 : a5 = b5 := by injection h5 with h; injection h
 have e2 := sV_inj h2
 have e3 : a3 = b3 := mapS_inj (by injection h3)
 have e6 : a6 = b6 := mapK_inj (by injection h6)
 subst e1 e2 e3 e4 e5 e6; rfl
theorem kdec_toK (t : Tr) : kdec encTTest ⟨encTTest t.toT, imms_encTTest _, one_encTTest _⟩ = some t.toT := kdec_eq encTTest_inj rfl
def szTTest (x : TTest) : Nat := 0
def okTTest (x : TTest) : Prop := ∃ t : Tr, x = t.toT ∧ t.ok
theorem opensB_29 : ∀ b, OpensB b Tryz.prog 29 (fun t : Tr => encTTest t.toT) (fun _ => 0) Tr.ok
 | 0 => opensB_zero
 | b + 1 => by
  have hi : Opens Tryz.prog 3 (fun x => [V.con (.int .i64 x)]) (fun _ => 1) (fun x : Int => (IntKind.i64).min ≤ x ∧ x ≤ (IntKind.i64).max) := opens_int (show Tryz.prog.underlying 3 = some (.int .i64) by kernel_rfl)
  have hs : Opens Tryz.prog 9 (fun x => [sV x]) (fun s => s.length + 1) (fun s => s.length ≤ 140737488351232) := opens_stringW (show Tryz.prog.underlying 9 = some (.string) by kernel_rfl)
  intro enc w fuel cs x hx hw hl
  obtain ⟨a, h1, h2, h3⟩ := opensB_struct (P := Tryz.prog) (t := 29) (b0 := b) (fs := [(3, 0, 1), (9, 1, 1), (26, 2, 1), (3, 3, 1), (3, 4, 1), (27, 5, 1)]) (by kernel_rfl) (by kernel_rfl)
   (fopensB_cons (Opens.at hi b) (fopensB_cons (Opens.at hs b) (fopensB_cons (Opens.at (opens_slice (k := 1) (t := 26) (e := 9) (by kernel_rfl) (by kernel_rfl) (by decide) hs) b) (fopensB_cons (Opens.at hi b) (fopensB_cons (Opens.at hi b)
    (fopensB_cons (OpensB.mono (opensB_slice (k := 6) (t := 27) (e := 29) (by kernel_rfl) (by kernel_rfl) (by decide) (opensB_29 b)) (Nat.le_succ b)) fopensB_nil)))))) enc w fuel cs x hx hw hl
  refine ⟨Tr.mk a.1 a.2.1 a.2.2.1 a.2.2.2.1 a.2.2.2.2.1 a.2.2.2.2.2.1, ?_, Nat.zero_le _, ?_⟩
  ·simp only [Tr.toT, encTTest, Tr.toKs_row]
   exact h1
  ·simp only [Tr.ok]
   exact ⟨h3.1, h3.2.1, h3.2.2.1, h3.2.2.2.1, h3.2.2.2.2.1, Tr.oks_of _ h3.2.2.2.2.2.1.1, h3.2.2.2.2.2.1.2⟩
theorem opens_29 : Opens Tryz.prog 29 encTTest szTTest okTTest := by
 intro H enc w fuel cs x hx hw
 obtain ⟨t, h1, h2, h3⟩ := opensB_29 _ enc w fuel cs x hx hw (Nat.le_refl _)
 exact ⟨t.toT, h1, Nat.zero_le _, t, rfl, h3⟩
end Go.Proofs.YtkeeppclihjlhaaGreatDoor
namespace Go.Proofs.YtkeeppclihjlhaaGreatDoor
open Go Go.Pv
set_option linter.unusedVariables false
set_option maxRecDepth 100000
theorem opens_9 : Opens Tryz.prog 9 (fun x => [sV x]) (fun x : (List UInt8) => (x.length + 1)) (fun x : (List UInt8) => (x.length ≤ 140737488351232)) := opens_stringW (show Tryz.prog.underlying 9 = some (.string) by kernel_rfl)
theorem opens_3 : Opens Tryz.prog 3 (fun x => [V.con (.int .i64 x)]) (fun x : Int => 1) (fun x : Int => ((IntKind.i64).min ≤ x ∧ x ≤ (IntKind.i64).max)) := opens_int (show Tryz.prog.underlying 3 = some (.int .i64) by kernel_rfl)
def szTPolicyRule (x : TPolicyRule) : Nat := (x.Name.length + 1) + ((x.About.length + 1) + ((szTTest x.When) + (1 + 0))) + 1
def okTPolicyRule (x : TPolicyRule) : Prop := (x.Name.length ≤ 140737488351232) ∧ ((x.About.length ≤ 140737488351232) ∧ ((okTTest x.When) ∧ (((IntKind.i64).min ≤ x.Level ∧ x.Level ≤ (IntKind.i64).max) ∧ True)))
theorem opens_87 : Opens Tryz.prog 87 encTPolicyRule szTPolicyRule okTPolicyRule := opens_map (opens_struct (fs := [(9, 0, 1), (9, 1, 1), (29, 2, 6), (3, 8, 1)]) (by kernel_rfl) (by kernel_rfl) (fopens_cons opens_9 (fopens_cons opens_9 (fopens_cons opens_29 (fopens_cons opens_3 fopens_nil))))) (fun p => TPolicyRule.mk p.1 p.2.1 p.2.2.1 p.2.2.2.1) (fun _ => rfl) (fun _ => rfl) (fun _ h => h)
theorem opens_30 : Opens Tryz.prog 30 (fun l => [V.lst 9 (l.map encTPolicyRule)]) (fun x : (List TPolicyRule) => ((x.map (fun x : TPolicyRule => (szTPolicyRule x))).sum + 1)) (fun x : (List TPolicyRule) => ((∀ a, a ∈ x → (fun x : TPolicyRule => (okTPolicyRule x)) a) ∧ x.length ≤ maxLen)) := opens_slice (show Tryz.prog.underlying 30 = some (.slice 87) by kernel_rfl) (by kernel_rfl) (by decide) opens_87
def szTWaiver (x : TWaiver) : Nat := (x.Rule.length + 1) + ((x.Subject.length + 1) + (1 + (1 + ((x.Owner.length + 1) + (1 + 0))))) + 1
def okTWaiver (x : TWaiver) : Prop := (x.Rule.length ≤ 140737488351232) ∧ ((x.Subject.length ≤ 140737488351232) ∧ (((IntKind.i64).min ≤ x.From ∧ x.From ≤ (IntKind.i64).max) ∧ (((IntKind.i64).min ≤ x.To ∧ x.To ≤ (IntKind.i64).max) ∧ ((x.Owner.length ≤ 140737488351232) ∧ (((IntKind.i64).min ≤ x.Level ∧ x.Level ≤ (IntKind.i64).max) ∧ True)))))
theorem opens_44 : Opens Tryz.prog 44 encTWaiver szTWaiver okTWaiver := opens_map (opens_struct (fs := [(9, 0, 1), (9, 1, 1), (3, 2, 1), (3, 3, 1), (9, 4, 1), (3, 5, 1)]) (by kernel_rfl) (by kernel_rfl) (fopens_cons opens_9 (fopens_cons opens_9 (fopens_cons opens_3 (fopens_cons opens_3 (fopens_cons opens_9 (fopens_cons opens_3 fopens_nil))))))) (fun p => TWaiver.mk p.1 p.2.1 p.2.2.1 p.2.2.2.1 p.2.2.2.2.1 p.2.2.2.2.2.1) (fun _ => rfl) (fun _ => rfl) (fun _ h => h)
theorem opens_31 : Opens Tryz.prog 31 (fun l => [V.lst 6 (l.map encTWaiver)]) (fun x : (List TWaiver) => ((x.map (fun x : TWaiver => (szTWaiver x))).sum + 1)) (fun x : (List TWaiver) => ((∀ a, a ∈ x → (fun x : TWaiver => (okTWaiver x)) a) ∧ x.length ≤ maxLen)) := opens_slice (show Tryz.prog.underlying 31 = some (.slice 44) by kernel_rfl) (by kernel_rfl) (by decide) opens_44
def szTPolicy (x : TPolicy) : Nat := ((x.Rules.map (fun x : TPolicyRule => (szTPolicyRule x))).sum + 1) + (((x.Waivers.map (fun x : TWaiver => (szTWaiver x))).sum + 1) + 0) + 1
def okTPolicy (x : TPolicy) : Prop := ((∀ a, a ∈ x.Rules → (fun x : TPolicyRule => (okTPolicyRule x)) a) ∧ x.Rules.length ≤ maxLen) ∧ (((∀ a, a ∈ x.Waivers → (fun x : TWaiver => (okTWaiver x)) a) ∧ x.Waivers.length ≤ maxLen) ∧ True)
theorem opens_33 : Opens Tryz.prog 33 encTPolicy szTPolicy okTPolicy := opens_map (opens_struct (fs := [(30, 0, 1), (31, 1, 1)]) (by kernel_rfl) (by kernel_rfl) (fopens_cons opens_30 (fopens_cons opens_31 fopens_nil))) (fun p => TPolicy.mk p.1 p.2.1) (fun _ => rfl) (fun _ => rfl) (fun _ h => h)
theorem opensV_33 : OpensV Tryz.prog 33 (fun x => V.agg (encTPolicy x)) szTPolicy okTPolicy := opensV_agg (fs := [(30, 0, 1), (31, 1, 1)]) (by kernel_rfl) opens_33
def szTPair (x : TPair) : Nat := (x.Name.length + 1) + ((x.Value.length + 1) + 0) + 1
def okTPair (x : TPair) : Prop := (x.Name.length ≤ 140737488351232) ∧ ((x.Value.length ≤ 140737488351232) ∧ True)
theorem opens_77 : Opens Tryz.prog 77 encTPair szTPair okTPair := opens_map (opens_struct (fs := [(9, 0, 1), (9, 1, 1)]) (by kernel_rfl) (by kernel_rfl) (fopens_cons opens_9 (fopens_cons opens_9 fopens_nil))) (fun p => TPair.mk p.1 p.2.1) (fun _ => rfl) (fun _ => rfl) (fun _ h => h)
theorem opens_22 : Opens Tryz.prog 22 (fun l => [V.lst 2 (l.map encTPair)]) (fun x : (List TPair) => ((x.map (fun x : TPair => (szTPair x))).sum + 1)) (fun x : (List TPair) => ((∀ a, a ∈ x → (fun x : TPair => (okTPair x)) a) ∧ x.length ≤ maxLen)) := opens_slice (show Tryz.prog.underlying 22 = some (.slice 77) by kernel_rfl) (by kernel_rfl) (by decide) opens_77
def szTAmount (x : TAmount) : Nat := (x.Name.length + 1) + (1 + 0) + 1
def okTAmount (x : TAmount) : Prop := (x.Name.length ≤ 140737488351232) ∧ (((IntKind.i64).min ≤ x.N ∧ x.N ≤ (IntKind.i64).max) ∧ True)
theorem opens_79 : Opens Tryz.prog 79 encTAmount szTAmount okTAmount := opens_map (opens_struct (fs := [(9, 0, 1), (3, 1, 1)]) (by kernel_rfl) (by kernel_rfl) (fopens_cons opens_9 (fopens_cons opens_3 fopens_nil))) (fun p => TAmount.mk p.1 p.2.1) (fun _ => rfl) (fun _ => rfl) (fun _ h => h)
theorem opens_23 : Opens Tryz.prog 23 (fun l => [V.lst 2 (l.map encTAmount)]) (fun x : (List TAmount) => ((x.map (fun x : TAmount => (szTAmount x))).sum + 1)) (fun x : (List TAmount) => ((∀ a, a ∈ x → (fun x : TAmount => (okTAmount x)) a) ∧ x.length ≤ maxLen)) := opens_slice (show Tryz.prog.underlying 23 = some (.slice 79) by kernel_rfl) (by kernel_rfl) (by decide) opens_79
def szTFact (x : TFact) : Nat := (x.Kind.length + 1) + ((x.Subject.length + 1) + (((x.Texts.map (fun x : TPair => (szTPair x))).sum + 1) + (((x.Numbers.map (fun x : TAmount => (szTAmount x))).sum + 1) + 0))) + 1
def okTFact (x : TFact) : Prop := (x.Kind.length ≤ 140737488351232) ∧ ((x.Subject.length ≤ 140737488351232) ∧ (((∀ a, a ∈ x.Texts → (fun x : TPair => (okTPair x)) a) ∧ x.Texts.length ≤ maxLen) ∧ (((∀ a, a ∈ x.Numbers → (fun x : TAmount => (okTAmount x)) a) ∧ x.Numbers.length ≤ maxLen) ∧ True)))
theorem opens_25 : Opens Tryz.prog 25 encTFact szTFact okTFact := opens_map (opens_struct (fs := [(9, 0, 1), (9, 1, 1), (22, 2, 1), (23, 3, 1)]) (by kernel_rfl) (by kernel_rfl) (fopens_cons opens_9 (fopens_cons opens_9 (fopens_cons opens_22 (fopens_cons opens_23 fopens_nil))))) (fun p => TFact.mk p.1 p.2.1 p.2.2.1 p.2.2.2.1) (fun _ => rfl) (fun _ => rfl) (fun _ h => h)
theorem opens_42 : Opens Tryz.prog 42 (fun l => [V.lst 4 (l.map encTFact)]) (fun x : (List TFact) => ((x.map (fun x : TFact => (szTFact x))).sum + 1)) (fun x : (List TFact) => ((∀ a, a ∈ x → (fun x : TFact => (okTFact x)) a) ∧ x.length ≤ maxLen)) := opens_slice (show Tryz.prog.underlying 42 = some (.slice 25) by kernel_rfl) (by kernel_rfl) (by decide) opens_25
theorem opensV_42 : OpensV Tryz.prog 42 (fun l => V.lst 4 (l.map encTFact)) (fun x : (List TFact) => ((x.map (fun x : TFact => (szTFact x))).sum + 1)) (fun x : (List TFact) => ((∀ a, a ∈ x → (fun x : TFact => (okTFact x)) a) ∧ x.length ≤ maxLen)) := opensV_cell (by kernel_rfl) opens_42
theorem opensV_3 : OpensV Tryz.prog 3 (fun x => V.con (.int .i64 x)) (fun x : Int => 1) (fun x : Int => ((IntKind.i64).min ≤ x ∧ x ≤ (IntKind.i64).max)) := opensV_cell (by kernel_rfl) opens_3
set_option linter.unusedSimpArgs false
def words : List (List UInt8) := [([114, 117, 108, 101] : List UInt8), ([97, 98, 111, 117, 116] : List UInt8), ([119, 104, 101, 110] : List UInt8), ([119, 97, 105, 118, 101] : List UInt8), ([102, 111, 114] : List UInt8), ([102, 114, 111, 109] : List UInt8), ([116, 111] : List UInt8), ([98, 121] : List UInt8), ([97, 115] : List UInt8), ([112, 97, 115, 115] : List UInt8), ([110, 111, 116, 101] : List UInt8), ([119, 97, 114, 110] : List UInt8), ([100, 101, 110, 121] : List UInt8), ([111, 114] : List UInt8), ([97, 110, 100] : List UInt8), ([116, 114, 117, 101] : List UInt8), ([105, 115] : List UInt8), ([98, 101, 103, 105, 110, 115] : List UInt8), ([104, 97, 115] : List UInt8), ([110, 111, 116] : List UInt8)]
def wordB (s : List UInt8) : Bool := words.any fun w => s == w
theorem orS {b c : Bool} {x : Option Bool} (h : x = some c) : (if b = true then (if b = true then some true else some false) else x) = some (b || c) := by cases b <;> simp [h]
theorem orL {b : Bool} : (if b = true then some true else some false) = some (b || false) := by cases b <;> rfl
theorem M62_eq (F : Nat) (s : List UInt8) : M62 F s = some (wordB s) := by
 unfold M62
 simp only [jn_def]
 show _ = some (words.any fun w => s == w)
 simp only [words, List.any_cons, List.any_nil]
 repeat (first | exact orL | apply orS)
theorem beqC (a b : List UInt8) : (a == b) = (b == a) := by
 by_cases h : a = b
 ·subst h; rfl
 ·rw [beq_false_of_ne h, beq_false_of_ne (Ne.symm h)]
def run (c : UInt8) : Bool := (decide (97 ≤ c.toNat) && decide (c.toNat ≤ 122)) || (decide (48 ≤ c.toNat) && decide (c.toNat ≤ 57)) || (c.toNat == 45)
def lower (c : UInt8) : Bool := decide (97 ≤ c.toNat) && decide (c.toNat ≤ 122)
def nameB (s : List UInt8) : Bool := match s with | [] => false | c :: r => decide ((c :: r).length ≤ 40) && !wordB (c :: r) && lower c && r.all run
theorem nm_step {c : UInt8} {k : Option Bool} :
    (if (decide ((c.toNat : Int) ≥ 97)) = true then if (decide ((c.toNat : Int) ≤ 122)) = true then k
 else if (decide ((c.toNat : Int) ≥ 48)) = true then if (decide ((c.toNat : Int) ≤ 57)) = true then k
 else if (!((c.toNat : Int) == 45)) = true then some false
 else k
 else if (!((c.toNat : Int) == 45)) = true then some false
 else k
 else if (decide ((c.toNat : Int) ≥ 48)) = true then if (decide ((c.toNat : Int) ≤ 57)) = true then k
 else if (!((c.toNat : Int) == 45)) = true then some false
 else k
 else if (!((c.toNat : Int) == 45)) = true then some false
 else k) = if run c = true then k else some false := by
  unfold run
  have h1 : ((c.toNat : Int) == 45) = (c.toNat == 45) := by
    by_cases h : c.toNat = 45
    · simp [h]
    · have : (c.toNat : Int) ≠ 45 := by omega
      rw [beq_false_of_ne h, beq_false_of_ne this]
  by_cases a1 : 97 ≤ c.toNat <;> by_cases a2 : c.toNat ≤ 122 <;> by_cases a3 : 48 ≤ c.toNat <;> by_cases a4 : c.toNat ≤ 57 <;> cases h5 : (c.toNat == 45) <;>
    simp only [h1, h5, a1, a2, a3, a4, show ((c.toNat : Int) ≥ 97) ↔ 97 ≤ c.toNat by omega, show ((c.toNat : Int) ≤ 122) ↔ c.toNat ≤ 122 by omega, show ((c.toNat : Int) ≥ 48) ↔ 48 ≤ c.toNat by omega, show ((c.toNat : Int) ≤ 57) ↔ c.toNat ≤ 57 by omega, decide_true, decide_false, if_true, if_false, Bool.false_eq_true, Bool.and_true, Bool.and_false, Bool.or_true, Bool.true_or, Bool.false_or, Bool.or_false, Bool.and_self, Bool.not_true, Bool.not_false]
theorem M34_tail (F : Nat) (s : List UInt8) (k : Option Bool) : ∀ (m n : Nat), 0 < n → n + m = s.length → M34_L1 F s k m n = if (s.drop n).all run = true then k else some false
 | 0, n, _, h => by rw [M34_L1, List.drop_eq_nil_of_le (by omega)]; simp
 | m + 1, n, h0, h => by
  have hn : n < s.length := by omega
  have e : ((n : Int) + 1) = ((n + 1 : Nat) : Int) := rfl
  have h3 : decide ((n : Int) > 0) = true := decide_eq_true (by omega)
  rw [M34_L1, jn_def, idx_nat hn, Option.bind_some, e, M34_tail F s k m (n + 1) (by omega) (by omega), List.drop_eq_getElem_cons hn, List.all_cons]
  simp only [h3, if_true]
  rw [nm_step]
  cases h : run s[n]
  ·simp only [Bool.false_and, Bool.false_eq_true, if_false]
  ·simp only [Bool.true_and, if_true]
theorem maxI {n : Nat} (h : n ≤ 140737488351232) : (n : Int) ≤ 9223372036854775807 := by omega
theorem M34_eq (F : Nat) (s : List UInt8) (hs : okS s) : M34 F s = some (nameB s) := by
 unfold okS at hs
 unfold M34
 rw [jn_def, if_pos (maxI hs), show ((s.length : Int) : Int).toNat = s.length by omega]
 cases s with
 | nil => rfl
 | cons c r =>
  rw [List.length_cons, M34_L1, jn_def, show idx (c :: r) 0 = some c from rfl, Option.bind_some]
  have e : ((0 : Int) + 1) = ((1 : Nat) : Int) := rfl
  rw [e, M34_tail F (c :: r) _ r.length 1 (by omega) (by simp; omega)]
  simp only [List.drop_succ_cons, List.drop_zero, M62_eq, Option.bind_some, nameB, lower, show decide ((0 : Int) > 0) = false from rfl, Bool.false_eq_true, if_false, List.length_cons]
  have h40 : decide (((r.length + 1 : Nat) : Int) ≤ 40) = decide (r.length + 1 ≤ 40) := by
   by_cases h : r.length + 1 ≤ 40
   ·rw [decide_eq_true h, decide_eq_true (by omega)]
   ·rw [decide_eq_false h, decide_eq_false (by omega)]
  have hne : (!(c :: r == ([] : List UInt8))) = true := rfl
  rw [h40, hne]
  by_cases a1 : 97 ≤ c.toNat <;> by_cases a2 : c.toNat ≤ 122 <;>
   simp only [a1, a2, show ((c.toNat : Int) ≥ 97) ↔ 97 ≤ c.toNat by omega, show ((c.toNat : Int) ≤ 122) ↔ c.toNat ≤ 122 by omega, decide_true, decide_false, if_true, if_false, Bool.false_eq_true, Bool.and_true, Bool.and_false, Bool.false_and]
  cases r.all run <;> cases decide (r.length + 1 ≤ 40) <;> cases wordB (c :: r) <;> rfl
def valC (c : UInt8) : Bool := decide (32 ≤ c.toNat) && decide (c.toNat ≤ 126)
def valB (s : List UInt8) : Bool := decide (s.length ≤ 1000) && s.all valC
theorem val_step {β : Type} {s : List UInt8} {n : Int} {k f : Option β} : ((idx s n).bind fun c6 => if (decide ((c6.toNat : Int) < 32)) = true then f
 else (idx s n).bind fun c9 => if (decide ((c9.toNat : Int) > 126)) = true then f else k) = (idx s n).bind fun c => if valC c = true then k else f := by
  cases idx s n with
  | none => rfl
  | some c =>
    simp only [Option.bind_some, valC]
    by_cases a1 : 32 ≤ c.toNat <;> by_cases a2 : c.toNat ≤ 126 <;>
      simp only [a1, a2, show ((c.toNat : Int) < 32) ↔ ¬ (32 ≤ c.toNat) by omega, show ((c.toNat : Int) > 126) ↔ ¬ (c.toNat ≤ 126) by omega, not_true_eq_false, not_false_eq_true, decide_true, decide_false, if_true, if_false, Bool.false_eq_true, Bool.and_true, Bool.and_false, Bool.false_and]
theorem M35_eq (F : Nat) (s : List UInt8) (hs : okS s) : M35 F s = some (valB s) := by
 unfold okS at hs
 unfold M35
 rw [jn_def, if_pos (maxI hs), show ((s.length : Int) : Int).toNat = s.length by omega]
 have hl := bytesL (g := M35_L1 F s (some (decide ((s.length : Int) ≤ 1000)))) (f := false) s valC (fun n => rfl) (fun m n => by rw [M35_L1]; exact val_step) s.length 0 (by omega)
 rw [show ((0 : Nat) : Int) = 0 from rfl, List.drop_zero] at hl
 rw [hl, valB, show decide ((s.length : Int) ≤ 1000) = decide (s.length ≤ 1000) from decide_eq_decide.2 (by omega)]
 cases s.all valC <;> simp
theorem M38_eq (F : Nat) (s : List UInt8) (hs : okS s) : M38 F s = some (valB s) := by
 unfold okS at hs
 unfold M38
 rw [jn_def, if_pos (maxI hs), show ((s.length : Int) : Int).toNat = s.length by omega]
 have hl := bytesL (g := M38_L1 F s (some true)) (f := false) s valC (fun n => rfl) (fun m n => by rw [M38_L1]; exact val_step) s.length 0 (by omega)
 rw [show ((0 : Nat) : Int) = 0 from rfl, List.drop_zero] at hl
 rw [hl, valB, show decide ((s.length : Int) > 1000) = !decide (s.length ≤ 1000) by
  by_cases h : s.length ≤ 1000
  ·rw [decide_eq_true h, decide_eq_false (by omega)]; rfl
  ·rw [decide_eq_false h, decide_eq_true (by omega)]; rfl]
 cases s.all valC <;> cases decide (s.length ≤ 1000) <;> rfl
def txC (a : List (List UInt8)) : List (List UInt8) → Nat → Int
 | [], _ => 0
 | x :: l, n => if (!valB x) = true then 2 else if (decide (0 < n) && (Op.bytesLess x (a.getD (n - 1) []) || x == a.getD (n - 1) [])) = true then 10 else txC a l (n + 1)
theorem idx_prev {α : Type} {a : List α} {n : Nat} {d : α} (h0 : 0 < n) (h : n ≤ a.length) (hl : a.length ≤ maxLen) : idx a (w64 ((n : Int) - 1)) = some (a.getD (n - 1) d) := by
 have hm : maxLen = 9223372036854775807 := by decide
 rw [hm] at hl
 rw [w64_id (by omega) (by omega), show ((n : Int) - 1) = ((n - 1 : Nat) : Int) by omega, idx_nat (by omega)]
 simp [List.getD, List.getElem?_eq_getElem (show n - 1 < a.length by omega)]
theorem txL {g : List (List UInt8) → Int → Option Int} {k : Option Int} {a : List (List UInt8)} (hl : a.length ≤ maxLen) (h0 : ∀ n, g [] n = k)
  (h1 : ∀ x l (n : Nat), a[n]? = some x → x ∈ a → g (x :: l) n = if (!valB x) = true then some 2 else if decide ((n : Int) > 0) = true then (idx a (w64 ((n : Int) - 1))).bind fun y => if (Op.bytesLess x y || x == y) = true then some 10 else g l (n + 1) else g l (n + 1)) :
  ∀ (l : List (List UInt8)) (n : Nat), a.drop n = l → g l n = if (txC a l n != 0) = true then some (txC a l n) else k
 | [], n, _ => by simp [h0, txC]
 | x :: l, n, h => by
  have hn : n < a.length := by
   rcases Nat.lt_or_ge n a.length with h2 | h2
   ·exact h2
   ·rw [List.drop_eq_nil_of_le h2] at h; cases h
  rw [List.drop_eq_getElem_cons hn] at h
  injection h with hx hd
  have e : ((n : Int) + 1) = ((n + 1 : Nat) : Int) := rfl
  rw [h1 x l n (by rw [List.getElem?_eq_getElem hn, hx]) (by rw [← hx]; exact List.getElem_mem _), e, txL hl h0 h1 l (n + 1) hd]
  rw [txC]
  cases valB x
  ·simp
  ·simp only [Bool.not_true, Bool.false_eq_true, if_false]
   by_cases h2 : 0 < n
   ·rw [if_pos (decide_eq_true (by omega)), idx_prev (d := []) h2 (by omega) hl, Option.bind_some, decide_eq_true h2]
    simp only [Bool.true_and]
    cases (Op.bytesLess x (a.getD (n - 1) []) || x == a.getD (n - 1) []) <;> simp
   ·rw [decide_eq_false h2, if_neg (by simp; omega)]; simp
def txF (a : List (List UInt8)) : Int := if a.length = 0 then 13 else if 50 < a.length then 3 else txC a a 0
def okX (x : TTest) : Prop := okS x.Name ∧ (∀ s, s ∈ x.Texts → okS s) ∧ x.Texts.length ≤ maxLen ∧ x.Kids.length ≤ maxLen
theorem M67_eq (F : Nat) (a : List (List UInt8)) (ha : ∀ s, s ∈ a → okS s) (hl : a.length ≤ maxLen) : M67 F a = some (txF a) := by
 unfold M67 txF
 have h := txL (g := M67_L1 F a (some 0)) (k := some 0) hl (fun n => rfl) (fun x l n h1 h2 => by
  rw [M67_L1, M35_eq F x (ha x h2), Option.bind_some, jn_def]) a 0 rfl
 rw [show ((0 : Nat) : Int) = 0 from rfl] at h
 rw [jn_def, h]
 by_cases h1 : a.length = 0
 ·simp [h1]
 ·have h3 : (((a.length : Nat) : Int) == 0) = false := beq_false_of_ne (by omega)
  rw [h3, if_neg h1, if_neg (by simp : ¬ (false = true))]
  by_cases h2 : 50 < a.length
  ·rw [if_pos h2, if_pos (decide_eq_true (by omega))]
  ·have h5 : decide (((a.length : Nat) : Int) > 50) = false := decide_eq_false (by omega)
   rw [if_neg h2, h5]
   by_cases h4 : txC a a 0 = 0 <;> simp [h4]
theorem M36_eq (F : Nat) (n : Int) : M36 F n = some (decide (-1000000000000 ≤ n) && decide (n ≤ 1000000000000)) := by
 unfold M36
 by_cases h : -1000000000000 ≤ n
 ·simp [h, show n ≥ -1000000000000 from h]
 ·simp [h, show ¬ n ≥ -1000000000000 from h]
def outN (n : Int) : Bool := decide (n < -1000000000000) || decide (n > 1000000000000)
theorem M36_N (F : Nat) (n : Int) : M36 F n = some (!outN n) := by
 rw [M36_eq, outN, Bool.not_or, ← decide_not, ← decide_not]
 exact congrArg some (congr (congrArg and (decide_eq_decide.2 (by omega))) (decide_eq_decide.2 (by omega)))
def nodeV (x : TTest) : Int :=
 if x.Kind < 1 ∨ 8 < x.Kind then 7
 else if !(decide (2 ≤ x.Kind) && decide (x.Kind ≤ 5)) && !(x.Name == []) || !(x.Kind == 2 || x.Kind == 3) && decide (0 < x.Texts.length) || !(x.Kind == 5) && (x.Op != 0 || x.N != 0) ||
  !(if x.Kind = 6 then x.Kids.length == 1 else if 7 ≤ x.Kind then decide (2 ≤ x.Kids.length) else x.Kids.length == 0) then 2
 else if (decide (2 ≤ x.Kind) && decide (x.Kind ≤ 5)) && !nameB x.Name then 8
 else if x.Kind = 2 ∨ x.Kind = 3 then txF x.Texts
 else if x.Kind = 5 then (if x.Op < 1 ∨ 5 < x.Op then 7 else if outN x.N = true then 9 else 0)
 else 0
theorem kid0 {n : Nat} : (((n : Nat) : Int) == 0) = (n == 0) := by
 by_cases h : n = 0
 ·simp [h]
 ·rw [beq_false_of_ne h, beq_false_of_ne (by omega)]
theorem kid1 {n : Nat} : (((n : Nat) : Int) == 1) = (n == 1) := by
 by_cases h : n = 1
 ·simp [h]
 ·rw [beq_false_of_ne h, beq_false_of_ne (by omega)]
theorem gt0 {n : Nat} : decide (((n : Nat) : Int) > 0) = decide (0 < n) := decide_eq_decide.2 (by omega)
theorem ge2 {n : Nat} : decide (((n : Nat) : Int) ≥ 2) = decide (2 ≤ n) := decide_eq_decide.2 (by omega)
noncomputable def usesA : Nat → Tpolicy_uses := (M65 0).get rfl
theorem M65_eq (F : Nat) : M65 F = some usesA := rfl
theorem uses_1 : usesA 1 = ⟨false, false, false, 0⟩ := rfl
theorem uses_2 : usesA 2 = ⟨true, true, false, 0⟩ := rfl
theorem uses_3 : usesA 3 = ⟨true, true, false, 0⟩ := rfl
theorem uses_4 : usesA 4 = ⟨true, false, false, 0⟩ := rfl
theorem uses_5 : usesA 5 = ⟨true, false, true, 0⟩ := rfl
theorem uses_6 : usesA 6 = ⟨false, false, false, 1⟩ := rfl
theorem uses_7 : usesA 7 = ⟨false, false, false, -1⟩ := rfl
theorem uses_8 : usesA 8 = ⟨false, false, false, -1⟩ := rfl
def fm (u : Tpolicy_uses) (x : TTest) : Bool := (u.name || (x.Name == [])) && (u.texts || !decide (0 < x.Texts.length)) && (u.number || ((x.Op == 0) && (x.N == 0))) && (if u.kids < 0 then decide (2 ≤ x.Kids.length) else (((x.Kids.length : Nat) : Int) == u.kids))
theorem M66_eq (F : Nat) (x : TTest) (h : 0 ≤ x.Kind ∧ x.Kind.toNat < 9) : M66 F x = some (fm (usesA x.Kind.toNat) x) := by
 unfold M66 fm
 rw [M65_eq, Option.bind_some, if_pos h]
 generalize usesA x.Kind.toNat = u
 simp only [gt0, ge2]
 by_cases hk : u.kids < 0
 ·simp only [if_pos hk, decide_eq_true hk]
  cases u.name <;> cases u.texts <;> cases u.number <;> by_cases a1 : x.Name = [] <;> by_cases a2 : 0 < x.Texts.length <;> by_cases a3 : x.Op = 0 <;> by_cases a4 : x.N = 0 <;> simp [a1, a2, a3, a4]
 ·simp only [if_neg hk, decide_eq_false hk]
  cases u.name <;> cases u.texts <;> cases u.number <;> by_cases a1 : x.Name = [] <;> by_cases a2 : 0 < x.Texts.length <;> by_cases a3 : x.Op = 0 <;> by_cases a4 : x.N = 0 <;> simp [a1, a2, a3, a4]
def nodeU (u : Tpolicy_uses) (x : TTest) : Int := if !fm u x then 2 else if u.name && !nameB x.Name then 8 else if u.texts && txF x.Texts != 0 then txF x.Texts else if u.number && (decide (x.Op < 1) || decide (x.Op > 5)) then 7 else if u.number && outN x.N then 9 else 0
theorem M41_B_u (F : Nat) (R : TTest → Option Int) (x : TTest) (hx : okX x) (h : 1 ≤ x.Kind ∧ x.Kind ≤ 8) : M41_B R F x = if (nodeU (usesA x.Kind.toNat) x != 0) = true then some (nodeU (usesA x.Kind.toNat) x) else M41_L1 R F (some 0) x.Kids := by
 have h9 : 0 ≤ x.Kind ∧ x.Kind.toNat < 9 := by omega
 unfold M41_B nodeU
 rw [M66_eq F x h9, M65_eq, Option.bind_some, if_pos h9, Option.bind_some, M34_eq F x.Name hx.1, M67_eq F x.Texts hx.2.1 hx.2.2.1, M36_N, decide_eq_false (show ¬ x.Kind < 1 by omega), decide_eq_false (show ¬ x.Kind > 8 by omega)]
 simp only [jn_def, Option.bind_some]
 generalize usesA x.Kind.toNat = u
 generalize M41_L1 R F (some 0) x.Kids = L
 generalize fm u x = b0
 generalize nameB x.Name = b1
 generalize txF x.Texts = t1
 generalize outN x.N = b2
 generalize decide (x.Op < 1) = b3
 generalize decide (x.Op > 5) = b4
 by_cases h0 : t1 = 0 <;> cases b0 <;> cases u.name <;> cases u.texts <;> cases u.number <;> cases b1 <;> cases b2 <;> cases b3 <;> cases b4 <;> simp [h0]
theorem nodeU_k1 {nm : List UInt8} {tx : List (List UInt8)} {op n : Int} {ks : List KRow} : nodeU (usesA 1) ⟨1, nm, tx, op, n, ks⟩ = nodeV ⟨1, nm, tx, op, n, ks⟩ := by
 have e5 : ks = [] ↔ ks.length = 0 := List.length_eq_zero_iff.symm
 rw [uses_1]
 simp only [nodeU, fm, nodeV, gt0, kid0]
 by_cases a1 : nm = [] <;> by_cases a2 : 0 < tx.length <;> by_cases a3 : op = 0 <;> by_cases a4 : n = 0 <;> by_cases a5 : ks.length = 0 <;> simp [a1, a2, a3, a4, a5, e5, kid0]
theorem nodeU_k2 {nm : List UInt8} {tx : List (List UInt8)} {op n : Int} {ks : List KRow} : nodeU (usesA 2) ⟨2, nm, tx, op, n, ks⟩ = nodeV ⟨2, nm, tx, op, n, ks⟩ := by
 have e5 : ks = [] ↔ ks.length = 0 := List.length_eq_zero_iff.symm
 rw [uses_2]
 simp only [nodeU, fm, nodeV, gt0, kid0]
 by_cases a1 : nameB nm = true <;> by_cases a2 : op = 0 <;> by_cases a3 : n = 0 <;> by_cases a4 : ks.length = 0 <;> by_cases a5 : txF tx = 0 <;> simp [a1, a2, a3, a4, a5, e5, kid0]
theorem nodeU_k3 {nm : List UInt8} {tx : List (List UInt8)} {op n : Int} {ks : List KRow} : nodeU (usesA 3) ⟨3, nm, tx, op, n, ks⟩ = nodeV ⟨3, nm, tx, op, n, ks⟩ := by
 have e5 : ks = [] ↔ ks.length = 0 := List.length_eq_zero_iff.symm
 rw [uses_3]
 simp only [nodeU, fm, nodeV, gt0, kid0]
 by_cases a1 : nameB nm = true <;> by_cases a2 : op = 0 <;> by_cases a3 : n = 0 <;> by_cases a4 : ks.length = 0 <;> by_cases a5 : txF tx = 0 <;> simp [a1, a2, a3, a4, a5, e5, kid0]
theorem nodeU_k4 {nm : List UInt8} {tx : List (List UInt8)} {op n : Int} {ks : List KRow} : nodeU (usesA 4) ⟨4, nm, tx, op, n, ks⟩ = nodeV ⟨4, nm, tx, op, n, ks⟩ := by
 have e5 : ks = [] ↔ ks.length = 0 := List.length_eq_zero_iff.symm
 rw [uses_4]
 simp only [nodeU, fm, nodeV, gt0, kid0]
 by_cases a1 : nameB nm = true <;> by_cases a2 : 0 < tx.length <;> by_cases a3 : op = 0 <;> by_cases a4 : n = 0 <;> by_cases a5 : ks.length = 0 <;> simp [a1, a2, a3, a4, a5, e5, kid0]
theorem nodeU_k5 {nm : List UInt8} {tx : List (List UInt8)} {op n : Int} {ks : List KRow} : nodeU (usesA 5) ⟨5, nm, tx, op, n, ks⟩ = nodeV ⟨5, nm, tx, op, n, ks⟩ := by
 have e5 : ks = [] ↔ ks.length = 0 := List.length_eq_zero_iff.symm
 rw [uses_5]
 simp only [nodeU, fm, nodeV, gt0, kid0]
 generalize outN n = c1
 by_cases a1 : nameB nm = true <;> by_cases a2 : 0 < tx.length <;> by_cases a3 : ks.length = 0 <;> by_cases a4 : op < 1 <;> by_cases a5 : 5 < op <;> cases c1 <;> simp [a1, a2, a3, a4, a5, e5, kid0]
theorem nodeU_k6 {nm : List UInt8} {tx : List (List UInt8)} {op n : Int} {ks : List KRow} : nodeU (usesA 6) ⟨6, nm, tx, op, n, ks⟩ = nodeV ⟨6, nm, tx, op, n, ks⟩ := by
 have e5 : ks = [] ↔ ks.length = 0 := List.length_eq_zero_iff.symm
 rw [uses_6]
 simp only [nodeU, fm, nodeV, gt0, kid1]
 by_cases a1 : nm = [] <;> by_cases a2 : 0 < tx.length <;> by_cases a3 : op = 0 <;> by_cases a4 : n = 0 <;> by_cases a5 : ks.length = 1 <;> simp [a1, a2, a3, a4, a5, e5, kid1]
theorem nodeU_k7 {nm : List UInt8} {tx : List (List UInt8)} {op n : Int} {ks : List KRow} : nodeU (usesA 7) ⟨7, nm, tx, op, n, ks⟩ = nodeV ⟨7, nm, tx, op, n, ks⟩ := by
 have e5 : ks = [] ↔ ks.length = 0 := List.length_eq_zero_iff.symm
 rw [uses_7]
 simp only [nodeU, fm, nodeV, gt0, kid0, ge2]
 by_cases a1 : nm = [] <;> by_cases a2 : 0 < tx.length <;> by_cases a3 : op = 0 <;> by_cases a4 : n = 0 <;> by_cases a5 : 2 ≤ ks.length <;> simp [a1, a2, a3, a4, a5, e5, kid0, ge2]
theorem nodeU_k8 {nm : List UInt8} {tx : List (List UInt8)} {op n : Int} {ks : List KRow} : nodeU (usesA 8) ⟨8, nm, tx, op, n, ks⟩ = nodeV ⟨8, nm, tx, op, n, ks⟩ := by
 have e5 : ks = [] ↔ ks.length = 0 := List.length_eq_zero_iff.symm
 rw [uses_8]
 simp only [nodeU, fm, nodeV, gt0, kid0, ge2]
 by_cases a1 : nm = [] <;> by_cases a2 : 0 < tx.length <;> by_cases a3 : op = 0 <;> by_cases a4 : n = 0 <;> by_cases a5 : 2 ≤ ks.length <;> simp [a1, a2, a3, a4, a5, e5, kid0, ge2]
theorem nodeU_eq (x : TTest) (h : 1 ≤ x.Kind ∧ x.Kind ≤ 8) : nodeU (usesA x.Kind.toNat) x = nodeV x := by
 obtain ⟨kd, nm, tx, op, n, ks⟩ := x
 simp only at h
 have hk' : kd = 1 ∨ kd = 2 ∨ kd = 3 ∨ kd = 4 ∨ kd = 5 ∨ kd = 6 ∨ kd = 7 ∨ kd = 8 := by omega
 rcases hk' with rfl | rfl | rfl | rfl | rfl | rfl | rfl | rfl
 ·exact nodeU_k1
 ·exact nodeU_k2
 ·exact nodeU_k3
 ·exact nodeU_k4
 ·exact nodeU_k5
 ·exact nodeU_k6
 ·exact nodeU_k7
 ·exact nodeU_k8
theorem M41_B_eq (F : Nat) (R : TTest → Option Int) (x : TTest) (hx : okX x) : M41_B R F x = if (nodeV x != 0) = true then some (nodeV x) else M41_L1 R F (some 0) x.Kids := by
 by_cases h : 1 ≤ x.Kind ∧ x.Kind ≤ 8
 ·rw [M41_B_u F R x hx h, nodeU_eq x h]
 ·have h7 : nodeV x = 7 := by unfold nodeV; rw [if_pos (by omega)]
  rw [h7]
  unfold M41_B
  by_cases h1 : x.Kind < 1
  ·rw [if_pos (decide_eq_true h1)]; rfl
  ·rw [if_neg (by simp [h1]), if_pos (decide_eq_true (by omega))]; rfl
end Go.Proofs.YtkeeppclihjlhaaGreatDoor
namespace Go.Proofs.YtkeeppclihjlhaaGreatDoor
open Go Go.Pv
set_option linter.unusedVariables false
set_option linter.unusedSimpArgs false
set_option maxRecDepth 100000
mutual
theorem Tr.ind {P : Tr → Prop} (h : ∀ a b c d e ks, (∀ t, t ∈ ks → P t) → P (.mk a b c d e ks)) : ∀ t : Tr, P t
 | .mk a b c d e ks => h a b c d e ks (Tr.inds h ks)
theorem Tr.inds {P : Tr → Prop} (h : ∀ a b c d e ks, (∀ t, t ∈ ks → P t) → P (.mk a b c d e ks)) : ∀ (ks : List Tr) (t : Tr), t ∈ ks → P t
 | [], _, hu => absurd hu (by simp)
 | t :: r, u, hu => by
  rcases List.mem_cons.1 hu with e | hu
  ·rw [e]; exact Tr.ind h t
  ·exact Tr.inds h r u hu
end
noncomputable section
mutual
def Tr.fu : Tr → Nat
 | .mk a b c d e ks => c.length + ks.length + 2 + Tr.fus ks
def Tr.fus : List Tr → Nat
 | [] => 0
 | t :: r => t.fu + Tr.fus r
end
mutual
def Tr.cnt : Tr → Nat
 | .mk a b c d e ks => 1 + Tr.cnts ks
def Tr.cnts : List Tr → Nat
 | [] => 0
 | t :: r => t.cnt + Tr.cnts r
end
mutual
def Tr.dep : Tr → Nat
 | .mk a b c d e ks => 1 + Tr.deps ks
def Tr.deps : List Tr → Nat
 | [] => 0
 | t :: r => max t.dep (Tr.deps r)
end
mutual
def Tr.flt : Tr → Int
 | .mk a b c d e ks => if nodeV ⟨a, b, c, d, e, Tr.toKs ks⟩ = 0 then Tr.flts ks else nodeV ⟨a, b, c, d, e, Tr.toKs ks⟩
def Tr.flts : List Tr → Int
 | [] => 0
 | t :: r => if t.flt = 0 then Tr.flts r else t.flt
end
def Tr.toK (t : Tr) : KRow := ⟨encTTest t.toT, imms_encTTest _, one_encTTest _⟩
end
theorem Tr.dec (t : Tr) : kdec encTTest t.toK = some t.toT := kdec_toK t
theorem Tr.toKs_map : ∀ ks : List Tr, Tr.toKs ks = ks.map Tr.toK
 | [] => by simp [Tr.toKs]
 | t :: r => by rw [Tr.toKs, Tr.toKs_map r]; rfl
theorem Tr.fu_mem : ∀ {ks : List Tr} {t : Tr}, t ∈ ks → t.fu ≤ Tr.fus ks
 | u :: r, t, h => by
  rw [Tr.fus]
  rcases List.mem_cons.1 h with e | h
  ·subst e; omega
  ·have := Tr.fu_mem h; omega
theorem Tr.oks_mem : ∀ {ks : List Tr} {t : Tr}, Tr.oks ks → t ∈ ks → t.ok
 | u :: r, t, ho, h => by
  rw [Tr.oks] at ho
  rcases List.mem_cons.1 h with e | h
  ·subst e; exact ho.1
  ·exact Tr.oks_mem ho.2 h
theorem maxLen_eq : maxLen = 9223372036854775807 := by decide
theorem Tr.okX {a b c d e ks} (h : (Tr.mk a b c d e ks).ok) : okX ⟨a, b, c, d, e, Tr.toKs ks⟩ := by
 rw [Tr.ok] at h
 exact ⟨h.2.1, h.2.2.1.1, h.2.2.1.2, by rw [show (Tr.toKs ks).length = ks.length from Tr.toKs_len ks]; exact h.2.2.2.2.2.2⟩
theorem Tr.okks {a b c d e ks} (h : (Tr.mk a b c d e ks).ok) : Tr.oks ks ∧ ks.length ≤ 9223372036854775807 := by
 rw [Tr.ok, maxLen_eq] at h
 exact ⟨h.2.2.2.2.2.1, h.2.2.2.2.2.2⟩
theorem Tr.cnt_mem : ∀ {ks : List Tr} {t : Tr}, t ∈ ks → t.cnt ≤ Tr.cnts ks
 | u :: r, t, h => by
  rw [Tr.cnts]
  rcases List.mem_cons.1 h with e | h
  ·subst e; omega
  ·have := Tr.cnt_mem h; omega
theorem cnt_pos (t : Tr) : 1 ≤ t.cnt := by cases t; rw [Tr.cnt]; omega
theorem len_cnts : ∀ ks : List Tr, ks.length ≤ Tr.cnts ks
 | [] => by simp [Tr.cnts]
 | t :: r => by rw [Tr.cnts]; have := len_cnts r; have := cnt_pos t; simp; omega
theorem M41_tr : ∀ t : Tr, t.ok → ∀ F, t.fu ≤ F → M41 F t.toT = some t.flt := Tr.ind fun a b c d e ks ih ok F hF => by
 rw [Tr.fu] at hF
 obtain ⟨F, rfl⟩ : ∃ G, F = G + 1 := ⟨F - 1, by omega⟩
 show M41_B (M41 F) F (Tr.mk a b c d e ks).toT = _
 rw [Tr.toT, M41_B_eq F _ _ (Tr.okX ok), Tr.flt]
 have hl : ∀ l : List Tr, (∀ t, t ∈ l → t ∈ ks) → M41_L1 (M41 F) F (some 0) (Tr.toKs l) = some (Tr.flts l) := by
  intro l
  induction l with
  | nil => intro _; simp only [Tr.toKs, M41_L1, Tr.flts]
  | cons t r ihr =>
   intro hm
   have ht := hm t (by simp)
   rw [Tr.toKs_map, List.map_cons, M41_L1, Tr.dec, Option.bind_some, ih t ht (Tr.oks_mem (Tr.okks ok).1 ht) F (by have := Tr.fu_mem ht; omega), Option.bind_some, ← Tr.toKs_map, ihr fun u hu => hm u (by simp [hu]), Tr.flts]
   by_cases h0 : t.flt = 0 <;> simp [h0]
 rw [hl ks fun _ h => h]
 by_cases h0 : nodeV ⟨a, b, c, d, e, Tr.toKs ks⟩ = 0
 ·simp [h0]
 ·rw [if_neg h0, if_pos (by simp [h0])]
theorem M40_tr : ∀ t : Tr, t.ok → ∀ F, t.fu ≤ F → ∀ lvl : Int, 1 ≤ lvl → lvl ≤ 13 → ∃ a b : Int, M40 F t.toT lvl = some (a, b) ∧ 1 ≤ a ∧ a ≤ 61 ∧ lvl ≤ b ∧ b ≤ 13 ∧ (12 < b ↔ 12 < lvl + t.dep - 1) ∧ (b ≤ 12 → a = min (t.cnt : Int) 61) := Tr.ind fun a b c d e ks ih ok F hF lvl h1 h13 => by
 rw [Tr.fu] at hF
 obtain ⟨F, rfl⟩ : ∃ G, F = G + 1 := ⟨F - 1, by omega⟩
 show ∃ p q : Int, M40_B (M40 F) F (Tr.mk a b c d e ks).toT lvl = some (p, q) ∧ _
 rw [Tr.toT, M40_B, Tr.dep, Tr.cnt]
 by_cases hq : lvl > 12
 ·rw [if_pos (decide_eq_true hq)]
  exact ⟨1, lvl, rfl, by omega, by omega, by omega, by omega, by omega, by omega⟩
 ·rw [if_neg (by simpa using hq), jn_def]
  have hl : ∀ l : List Tr, (∀ t, t ∈ l → t ∈ ks) → ∀ n q : Int, 1 ≤ n → n ≤ 61 → lvl ≤ q → q ≤ 13 → ∃ p r : Int, M40_L1 (M40 F) F lvl (fun n5 n6 => some (n5, n6)) (Tr.toKs l) n q = some (p, r) ∧ 1 ≤ p ∧ p ≤ 61 ∧ lvl ≤ r ∧ r ≤ 13 ∧ (12 < r ↔ 12 < q ∨ 12 < lvl + Tr.deps l) ∧ (r ≤ 12 → p = min (n + (Tr.cnts l : Nat)) 61) := by
   intro l
   induction l with
   | nil =>
    intro _ n q g1 g2 g3 g4
    refine ⟨n, q, by simp only [Tr.toKs, M40_L1], g1, g2, g3, g4, ?_, ?_⟩
    ·rw [Tr.deps]; omega
    ·rw [Tr.cnts]; omega
   | cons t r ihr =>
    intro hm n q g1 g2 g3 g4
    have ht := hm t (by simp)
    obtain ⟨p', q', e1, e2, e3, e4, e5, e6, e7⟩ := ih t ht (Tr.oks_mem (Tr.okks ok).1 ht) F (by have := Tr.fu_mem ht; omega) (lvl + 1) (by omega) (by omega)
    rw [Tr.toKs_map, List.map_cons, M40_L1, Tr.dec, Option.bind_some, w64_id (by omega) (by omega), e1, Option.bind_some, ← Tr.toKs_map]
    dsimp only
    rw [w64_id (by omega) (by omega)]
    obtain ⟨p, s, f1, f2, f3, f4, f5, f6, f7⟩ := ihr (fun u hu => hm u (by simp [hu])) (if 61 < n + p' then 61 else n + p') (if q' > q then q' else q) (by split <;> omega) (by split <;> omega) (by split <;> omega) (by split <;> omega)
    refine ⟨p, s, f1, f2, f3, f4, f5, ?_, ?_⟩
    ·rw [f6, Tr.deps]
     split <;> omega
    ·intro hs
     have h7 := f7 hs
     have hq' : ¬ 12 < s := by omega
     rw [f6] at hq'
     have : q' ≤ 12 := by split at hq' <;> omega
     have h8 := e7 this
     rw [h7, Tr.cnts]
     split <;> omega
  obtain ⟨p, r, e1, e2, e3, e4, e5, e6, e7⟩ := hl ks (fun _ h => h) 1 lvl (by omega) (by omega) (by omega) (by omega)
  refine ⟨p, r, e1, e2, e3, e4, e5, ?_, ?_⟩
  ·rw [e6]; omega
  ·intro h; rw [e7 h]; omega
noncomputable def vT (t : Tr) : Int := if 60 < t.cnt ∨ 12 < t.dep then 3 else t.flt
theorem M12_tr (t : Tr) (ok : t.ok) (F : Nat) (hF : t.fu ≤ F) : M12 F t.toT = some (vT t) := by
 obtain ⟨a, b, e1, e2, e3, e4, e5, e6, e7⟩ := M40_tr t ok F hF 1 (by omega) (by omega)
 unfold M12
 rw [e1, Option.bind_some]
 dsimp only
 unfold vT
 by_cases hb : 12 < b
 ·have hd := e6.1 hb
  rw [if_pos (show 60 < t.cnt ∨ 12 < t.dep by omega), if_pos (show decide (b > 12) = true from decide_eq_true (by omega))]
  by_cases ha : a > 60 <;> simp [ha]
 ·have h7 := e7 (by omega)
  have hd : ¬ (12 < t.dep) := fun h => hb (e6.2 (by omega))
  by_cases hc : 60 < t.cnt
  ·rw [if_pos (decide_eq_true (by omega)), if_pos (Or.inl hc)]
  ·rw [if_neg (by simp; omega), if_neg (by simp; omega), if_neg (by omega), M41_tr t ok F hF]; rfl
end Go.Proofs.YtkeeppclihjlhaaGreatDoor
namespace Go.Proofs.YtkeeppclihjlhaaGreatDoor
open Go Go.Pv
set_option linter.unusedVariables false
set_option linter.unusedSimpArgs false
set_option maxRecDepth 100000
def okTFact' (f : TFact) : Prop := okS f.Kind ∧ okS f.Subject ∧ (∀ p, p ∈ f.Texts → okS p.Name ∧ okS p.Value) ∧ f.Texts.length ≤ maxLen ∧ (∀ p, p ∈ f.Numbers → okS p.Name) ∧ f.Numbers.length ≤ maxLen
def leN (a b : List UInt8) : Bool := Op.bytesLess a b || a == b
def tcF (a : List TPair) : List TPair → Nat → Int
 | [], _ => 0
 | x :: l, n => if nameB x.Name = false then 8 else if valB x.Value = false then 2 else if (decide (0 < n) && leN x.Name (a.getD (n - 1) ⟨[], []⟩).Name) = true then 10 else tcF a l (n + 1)
def ncF (a : List TAmount) : List TAmount → Nat → Int
 | [], _ => 0
 | x :: l, n => if nameB x.Name = false then 8 else if outN x.N = true then 9 else if (decide (0 < n) && leN x.Name (a.getD (n - 1) ⟨[], 0⟩).Name) = true then 10 else ncF a l (n + 1)
theorem drop_cons {α : Type} {a : List α} {x : α} {l : List α} {n : Nat} (h : a.drop n = x :: l) : n < a.length ∧ idx a (n : Int) = some x ∧ x ∈ a ∧ a.drop (n + 1) = l := by
 have hn : n < a.length := by
  rcases Nat.lt_or_ge n a.length with h2 | h2
  ·exact h2
  ·rw [List.drop_eq_nil_of_le h2] at h; cases h
 rw [List.drop_eq_getElem_cons hn] at h
 injection h with hx hd
 exact ⟨hn, by rw [idx_nat hn, hx], hx ▸ List.getElem_mem _, hd⟩
theorem M10_L1_eq (F : Nat) (f : TFact) (hf : okTFact' f) (k : Option Int) : ∀ (l : List TPair) (n : Nat), f.Texts.drop n = l → M10_L1 F f k l (n : Int) = if tcF f.Texts l n = 0 then k else some (tcF f.Texts l n)
 | [], n, _ => by simp [M10_L1, tcF]
 | x :: l, n, h => by
  obtain ⟨hn, hi, hm, hd⟩ := drop_cons h
  have hx := hf.2.2.1 x hm
  rw [M10_L1, M34_eq F _ hx.1, Option.bind_some, jn_def, show ((n : Int) + 1) = ((n + 1 : Nat) : Int) from rfl, M10_L1_eq F f hf k l (n + 1) hd, M35_eq F _ hx.2, tcF]
  cases nameB x.Name
  ·simp
  ·simp only [Bool.not_true, Bool.false_eq_true, if_false, Option.bind_some]
   cases valB x.Value
   ·simp
   ·simp only [Bool.not_true, Bool.false_eq_true, if_false]
    by_cases h0 : 0 < n
    ·rw [if_pos (decide_eq_true (by omega)), idx_prev (d := ⟨[], []⟩) h0 (by omega) hf.2.2.2.1, Option.bind_some, decide_eq_true h0]
     simp only [Bool.true_and, leN]
     cases (Op.bytesLess x.Name (f.Texts.getD (n - 1) ⟨[], []⟩).Name || x.Name == (f.Texts.getD (n - 1) ⟨[], []⟩).Name) <;> simp
    ·rw [if_neg (by simp; omega), decide_eq_false h0]; simp
theorem M10_L2_eq (F : Nat) (f : TFact) (hf : okTFact' f) (k : Option Int) : ∀ (l : List TAmount) (n : Nat), f.Numbers.drop n = l → M10_L2 F f k l (n : Int) = if ncF f.Numbers l n = 0 then k else some (ncF f.Numbers l n)
 | [], n, _ => by simp [M10_L2, ncF]
 | x :: l, n, h => by
  obtain ⟨hn, hi, hm, hd⟩ := drop_cons h
  have hx := hf.2.2.2.2.1 x hm
  rw [M10_L2, M34_eq F _ hx, Option.bind_some, jn_def, show ((n : Int) + 1) = ((n + 1 : Nat) : Int) from rfl, M10_L2_eq F f hf k l (n + 1) hd, M36_N, ncF]
  cases nameB x.Name
  ·simp
  ·simp only [Bool.not_true, Bool.false_eq_true, if_false, Option.bind_some]
   cases outN x.N
   ·simp only [Bool.not_true, Bool.not_false, Bool.false_eq_true, if_false]
    by_cases h0 : 0 < n
    ·rw [if_pos (decide_eq_true (by omega)), idx_prev (d := ⟨[], 0⟩) h0 (by omega) hf.2.2.2.2.2, Option.bind_some, decide_eq_true h0]
     simp only [Bool.true_and, leN]
     cases (Op.bytesLess x.Name (f.Numbers.getD (n - 1) ⟨[], 0⟩).Name || x.Name == (f.Numbers.getD (n - 1) ⟨[], 0⟩).Name) <;> simp
    ·rw [if_neg (by simp; omega), decide_eq_false h0]; simp
   ·simp
def vF (f : TFact) : Int := if nameB f.Kind = false then 8 else if valB f.Subject = false then 2 else if 30 < f.Texts.length then 3 else if tcF f.Texts f.Texts 0 = 0 then (if 30 < f.Numbers.length then 3 else ncF f.Numbers f.Numbers 0) else tcF f.Texts f.Texts 0
theorem M10_eq (F : Nat) (f : TFact) (hf : okTFact' f) : M10 F f = some (vF f) := by
 unfold M10 vF
 have h1 := fun k => M10_L1_eq F f hf k f.Texts 0 rfl
 have h2 := M10_L2_eq F f hf (some 0) f.Numbers 0 rfl
 rw [show ((0 : Nat) : Int) = 0 from rfl] at h1 h2
 rw [M34_eq F _ hf.1, M35_eq F _ hf.2.1]
 simp only [jn_def, h1, h2, Option.bind_some, show decide (((f.Texts.length : Nat) : Int) > 30) = decide (30 < f.Texts.length) from decide_eq_decide.2 (by omega), show decide (((f.Numbers.length : Nat) : Int) > 30) = decide (30 < f.Numbers.length) from decide_eq_decide.2 (by omega)]
 by_cases a1 : nameB f.Kind = true <;> by_cases a2 : valB f.Subject = true <;> by_cases a3 : 30 < f.Texts.length <;> by_cases a4 : tcF f.Texts f.Texts 0 = 0 <;> by_cases a5 : 30 < f.Numbers.length <;> by_cases a6 : ncF f.Numbers f.Numbers 0 = 0 <;> simp [a1, a2, a3, a4, a5, a6]
def fT (nm : List UInt8) : List TPair → Bool × List UInt8 → Bool × List UInt8
 | [], p => p
 | x :: l, p => if (x.Name == nm) = true then fT nm l (true, x.Value) else fT nm l p
def fN (nm : List UInt8) : List TAmount → Bool × Int → Bool × Int
 | [], p => p
 | x :: l, p => if (x.Name == nm) = true then fN nm l (true, x.N) else fN nm l p
def fld (f : TFact) (nm : List UInt8) : Tprovenderref9_field := ⟨(fT nm f.Texts (false, [])).1, (fN nm f.Numbers (false, 0)).1, (fT nm f.Texts (false, [])).2, (fN nm f.Numbers (false, 0)).2⟩
def zV : Tpolicy_value := ⟨false, false, [], 0⟩
def gV (m : List (List UInt8 × Tpolicy_value)) (nm : List UInt8) : Tpolicy_value := (mget m nm).getD zV
def vlT : List TPair → List (List UInt8 × Tpolicy_value) → List (List UInt8 × Tpolicy_value)
 | [], m => m
 | x :: l, m => vlT l (mput m x.Name ⟨true, (gV m x.Name).hasNumber, x.Value, (gV m x.Name).number⟩)
def vlN : List TAmount → List (List UInt8 × Tpolicy_value) → List (List UInt8 × Tpolicy_value)
 | [], m => m
 | x :: l, m => vlN l (mput m x.Name ⟨(gV m x.Name).hasText, true, (gV m x.Name).text, x.N⟩)
def vals (f : TFact) : Tpolicy_values := ⟨vlN f.Numbers (vlT f.Texts []), ()⟩
theorem gV_put (m : List (List UInt8 × Tpolicy_value)) (k nm : List UInt8) (v : Tpolicy_value) : gV (mput m k v) nm = if k = nm then v else gV m nm := by
 unfold gV; rw [mget_mput]; split <;> rfl
theorem vlT_get (nm : List UInt8) : ∀ (l : List TPair) (m : List (List UInt8 × Tpolicy_value)), gV (vlT l m) nm = ⟨(fT nm l ((gV m nm).hasText, (gV m nm).text)).1, (gV m nm).hasNumber, (fT nm l ((gV m nm).hasText, (gV m nm).text)).2, (gV m nm).number⟩
 | [], m => by rw [vlT, fT]
 | x :: l, m => by
  rw [vlT, vlT_get nm l, gV_put, fT]
  by_cases h : x.Name = nm
  ·subst h; rw [if_pos rfl, if_pos (by simp)]
  ·rw [if_neg h, if_neg (by simp [h])]
theorem vlN_get (nm : List UInt8) : ∀ (l : List TAmount) (m : List (List UInt8 × Tpolicy_value)), gV (vlN l m) nm = ⟨(gV m nm).hasText, (fN nm l ((gV m nm).hasNumber, (gV m nm).number)).1, (gV m nm).text, (fN nm l ((gV m nm).hasNumber, (gV m nm).number)).2⟩
 | [], m => by rw [vlN, fN]
 | x :: l, m => by
  rw [vlN, vlN_get nm l, gV_put, fN]
  by_cases h : x.Name = nm
  ·subst h; rw [if_pos rfl, if_pos (by simp)]
  ·rw [if_neg h, if_neg (by simp [h])]
theorem vals_get (f : TFact) (nm : List UInt8) : gV (vals f).by_ nm = ⟨(fld f nm).isText, (fld f nm).isNumber, (fld f nm).text, (fld f nm).number⟩ := by
 unfold vals fld
 dsimp only
 rw [vlN_get, vlT_get]
 rfl
theorem M32_L1_eq (F : Nat) (k : List (List UInt8 × Tpolicy_value) → Option Tpolicy_values) : ∀ (l : List TPair) m, M32_L1 F k l m = k (vlT l m)
 | [], m => rfl
 | x :: l, m => by rw [M32_L1, M32_L1_eq F k l]; rfl
theorem M32_L2_eq (F : Nat) (k : List (List UInt8 × Tpolicy_value) → Option Tpolicy_values) : ∀ (l : List TAmount) m, M32_L2 F k l m = k (vlN l m)
 | [], m => rfl
 | x :: l, m => by rw [M32_L2, M32_L2_eq F k l]; rfl
theorem M32_eq (F : Nat) (f : TFact) : M32 F f = some (vals f) := by
 unfold M32
 simp only [jn_def, M32_L1_eq, M32_L2_eq]
 rfl
end Go.Proofs.YtkeeppclihjlhaaGreatDoor
namespace Go.Proofs.YtkeeppclihjlhaaGreatDoor
open Go Go.Pv
set_option linter.unusedVariables false
set_option linter.unusedSimpArgs false
set_option maxRecDepth 100000
noncomputable section
mutual
def Tr.cd : Tr → KV
 | .mk k nm tx op n ks =>
  if k = 2 then mkK 105 encTpolicy_condIs ⟨nm, tx⟩ else if k = 3 then mkK 106 encTpolicy_condBegins ⟨nm, tx⟩ else if k = 4 then mkK 108 encTpolicy_condHas ⟨nm⟩
  else if k = 5 then mkK 110 encTpolicy_condNumber ⟨nm, op, n⟩ else if k = 6 then mkK 112 encTpolicy_condNot ⟨(Tr.cds ks).headD ⟨0, .con (.bool true)⟩⟩ else if k = 7 then mkK 114 encTpolicy_condAll ⟨Tr.cds ks⟩
  else if k = 8 then mkK 115 encTpolicy_condAny ⟨Tr.cds ks⟩ else mkK 117 encTpolicy_condTrue ⟨⟩
def Tr.cds : List Tr → List KV
 | [] => []
 | t :: r => t.cd :: Tr.cds r
end
end
theorem flts_mem : ∀ {ks : List Tr} {t : Tr}, Tr.flts ks = 0 → t ∈ ks → t.flt = 0
 | u :: r, t, h, hm => by
  rw [Tr.flts] at h
  by_cases h0 : u.flt = 0
  ·rw [if_pos h0] at h
   rcases List.mem_cons.1 hm with e | hm
   ·rw [e]; exact h0
   ·exact flts_mem h hm
  ·rw [if_neg h0] at h; exact absurd h h0
theorem flt_zero {a b c d e ks} (h : (Tr.mk a b c d e ks).flt = 0) : nodeV ⟨a, b, c, d, e, Tr.toKs ks⟩ = 0 ∧ Tr.flts ks = 0 := by
 rw [Tr.flt] at h
 by_cases h0 : nodeV ⟨a, b, c, d, e, Tr.toKs ks⟩ = 0
 ·rw [if_pos h0] at h; exact ⟨h0, h⟩
 ·rw [if_neg h0] at h; exact absurd h h0
theorem node_kind {x : TTest} (h : nodeV x = 0) : 1 ≤ x.Kind ∧ x.Kind ≤ 8 := by
 unfold nodeV at h
 by_cases hk : x.Kind < 1 ∨ 8 < x.Kind
 ·rw [if_pos hk] at h; cases h
 ·omega
theorem node_not {x : TTest} (h : nodeV x = 0) (h6 : x.Kind = 6) : x.Kids.length = 1 := by
 unfold nodeV at h
 rw [if_neg (by omega)] at h
 by_cases h1 : x.Kids.length = 1
 ·exact h1
 ·have : (x.Kids.length == 1) = false := beq_false_of_ne h1
  rw [if_pos h6, this] at h
  simp at h
theorem M31_tr : ∀ t : Tr, t.ok → t.flt = 0 → t.cnt ≤ 60 → ∀ F, t.fu ≤ F → M31 F t.toT = some t.cd := Tr.ind fun k nm tx op n ks ih ok hz hc F hF => by
 rw [Tr.fu] at hF
 rw [Tr.cnt] at hc
 obtain ⟨hnode, hfl⟩ := flt_zero hz
 obtain ⟨F, rfl⟩ : ∃ G, F = G + 1 := ⟨F - 1, by omega⟩
 show M31_B (M31 F) F (Tr.mk k nm tx op n ks).toT = _
 have hl : ∀ (kk : List KV → Option KV) (l : List Tr), (∀ t, t ∈ l → t ∈ ks) → ∀ acc : List KV, acc.length + l.length ≤ 60 → M31_L1 (M31 F) F kk (Tr.toKs l) acc = kk (acc ++ Tr.cds l) := by
  intro kk l
  induction l with
  | nil => intro _ acc _; simp only [Tr.toKs, M31_L1, Tr.cds, List.append_nil]
  | cons t r ihr =>
   intro hm acc hlen
   simp only [List.length_cons] at hlen
   have ht := hm t (by simp)
   rw [Tr.toKs_map, List.map_cons, M31_L1, Tr.dec, Option.bind_some, ih t ht (Tr.oks_mem (Tr.okks ok).1 ht) (flts_mem hfl ht) (by have := Tr.cnt_mem ht; omega) F (by have := Tr.fu_mem ht; omega), Option.bind_some, ← Tr.toKs_map,
    if_pos (by simp; omega), ihr (fun u hu => hm u (by simp [hu])) _ (by simp; omega), Tr.cds]
   simp
 have hlen := len_cnts ks
 rw [Tr.toT, M31_B, jn_def, hl _ ks (fun _ h => h) [] (by simp; omega), Tr.cd, List.nil_append]
 dsimp only
 have b1 : ∀ q : Int, ((k == q) = true) ↔ k = q := fun q => beq_iff_eq
 simp only [b1]
 by_cases h2 : k = 2
 ·rw [if_pos h2, if_pos h2]
 rw [if_neg h2, if_neg h2]
 by_cases h2 : k = 3
 ·rw [if_pos h2, if_pos h2]
 rw [if_neg h2, if_neg h2]
 by_cases h2 : k = 4
 ·rw [if_pos h2, if_pos h2]
 rw [if_neg h2, if_neg h2]
 by_cases h2 : k = 5
 ·rw [if_pos h2, if_pos h2]
 rw [if_neg h2, if_neg h2]
 by_cases h2 : k = 6
 ·rw [if_pos h2, if_pos h2]
  have h1 : ks.length = 1 := by rw [← node_not hnode h2]; exact (Tr.toKs_len ks).symm
  match ks, h1 with
  | [t], _ => simp only [Tr.cds]; rfl
 rw [if_neg h2, if_neg h2]
 by_cases h2 : k = 7
 ·rw [if_pos h2, if_pos h2]
 rw [if_neg h2, if_neg h2]
 by_cases h2 : k = 8
 ·rw [if_pos h2, if_pos h2]
 rw [if_neg h2, if_neg h2]
def beg (s w : List UInt8) : Bool := decide (w.length ≤ s.length) && (s.take w.length == w)
def cmpO (a op b : Int) : Bool := if op = 1 then decide (a < b) else if op = 2 then decide (a ≤ b) else if op = 3 then a == b else if op = 4 then decide (a ≥ b) else decide (a > b)
def txT (k : Int) (s : List UInt8) (l : List (List UInt8)) : Bool := l.any fun w => w == s || (k == 3) && beg s w
def oneB (k op n : Int) (tx : List (List UInt8)) (x : Tprovenderref9_field) : Bool := if k = 4 then x.isText || x.isNumber else if k = 5 then x.isNumber && cmpO x.number op n else x.isText && txT k x.text tx
noncomputable section
mutual
def Tr.tru (f : TFact) : Tr → Bool
 | .mk k nm tx op n ks => if k = 1 then true else if k = 6 then !(Tr.allT f ks) else if k = 7 then Tr.allT f ks else if k = 8 then Tr.anyT f ks else oneB k op n tx (fld f nm)
def Tr.allT (f : TFact) : List Tr → Bool
 | [] => true
 | t :: r => Tr.tru f t && Tr.allT f r
def Tr.anyT (f : TFact) : List Tr → Bool
 | [] => false
 | t :: r => Tr.tru f t || Tr.anyT f r
end
end
theorem M187_eq (F : Nat) (a op b : Int) : M187 F a op b = some (cmpO a op b) := by
 unfold M187 cmpO
 simp only [beq_iff_eq]
 repeat (split; · rfl)
 rfl
theorem M87_eq (F : Nat) (s w : List UInt8) : M87 F s w = some (beg s w) := by
 unfold M87 beg
 by_cases h : w.length ≤ s.length
 ·rw [if_pos (decide_eq_true (by omega)), if_pos ⟨by omega, by omega⟩, decide_eq_true h, show ((w.length : Int)).toNat = w.length by omega]; rfl
 ·rw [if_neg (by simp; omega), decide_eq_false h]; rfl
theorem M114_eq (F : Nat) (s w : List UInt8) : M114 F s w = some (beg s w) := M87_eq F s w
theorem M93_eq (F : Nat) (s w : List UInt8) : M93 F s w = some (beg s w) := by unfold M93; rw [M114_eq]; rfl
end Go.Proofs.YtkeeppclihjlhaaGreatDoor
namespace Go.Proofs.YtkeeppclihjlhaaGreatDoor
open Go Go.Pv
set_option linter.unusedVariables false
set_option linter.unusedSimpArgs false
set_option maxRecDepth 100000
section
variable {τ σ : Type}
theorem vdec_mk {enc : τ → List V} (inj : ∀ a b, enc a = enc b → a = b) {T : Nat} {y : τ} : vdec enc T (mkK T enc y) = some y := vdec_eq inj rfl rfl
theorem vdec_mkne {enc : τ → List V} {enc' : σ → List V} {T T' : Nat} {y : τ} (h : T ≠ T') : vdec enc' T' (mkK T enc y) = none := vdec_ne (x := mkK T enc y) h
end
theorem iV_inj {a b : Int} (h : iV a = iV b) : a = b := by injection h with h; injection h
theorem inj_Is (a b : Tpolicy_condIs) (h : encTpolicy_condIs a = encTpolicy_condIs b) : a = b := by
 obtain ⟨a1, a2⟩ := a; obtain ⟨b1, b2⟩ := b
 simp only [encTpolicy_condIs, List.cons.injEq, and_true] at h
 have e1 := sV_inj h.1
 have e2 : a2 = b2 := mapS_inj (by injection h.2)
 subst e1 e2; rfl
theorem inj_Begins (a b : Tpolicy_condBegins) (h : encTpolicy_condBegins a = encTpolicy_condBegins b) : a = b := by
 obtain ⟨a1, a2⟩ := a; obtain ⟨b1, b2⟩ := b
 simp only [encTpolicy_condBegins, List.cons.injEq, and_true] at h
 have e1 := sV_inj h.1
 have e2 : a2 = b2 := mapS_inj (by injection h.2)
 subst e1 e2; rfl
theorem inj_Has (a b : Tpolicy_condHas) (h : encTpolicy_condHas a = encTpolicy_condHas b) : a = b := by
 obtain ⟨a1⟩ := a; obtain ⟨b1⟩ := b
 simp only [encTpolicy_condHas, List.cons.injEq, and_true] at h
 have e1 := sV_inj h
 subst e1; rfl
theorem inj_Number (a b : Tpolicy_condNumber) (h : encTpolicy_condNumber a = encTpolicy_condNumber b) : a = b := by
 obtain ⟨a1, a2, a3⟩ := a; obtain ⟨b1, b2, b3⟩ := b
 simp only [encTpolicy_condNumber, List.cons.injEq, and_true] at h
 have e1 := sV_inj h.1
 have e2 := iV_inj h.2.1
 have e3 := iV_inj h.2.2
 subst e1 e2 e3; rfl
theorem KV.enc_inj {a b : KV} (h : a.enc = b.enc) : a = b := by
 obtain ⟨a1, a2⟩ := a; obtain ⟨b1, b2⟩ := b
 simp only [KV.enc, List.cons.injEq, and_true] at h
 injection h with h1 h2
 subst h1 h2; rfl
theorem mapV_inj {a b : List KV} (h : a.map KV.enc = b.map KV.enc) : a = b := List.map_inj_right (fun x y h => KV.enc_inj h) |>.1 h
theorem inj_Not (a b : Tpolicy_condNot) (h : encTpolicy_condNot a = encTpolicy_condNot b) : a = b := by
 obtain ⟨a1⟩ := a; obtain ⟨b1⟩ := b
 have e1 : a1 = b1 := KV.enc_inj h
 subst e1; rfl
theorem inj_All (a b : Tpolicy_condAll) (h : encTpolicy_condAll a = encTpolicy_condAll b) : a = b := by
 obtain ⟨a1⟩ := a; obtain ⟨b1⟩ := b
 simp only [encTpolicy_condAll, List.cons.injEq, and_true] at h
 have e1 : a1 = b1 := mapV_inj (by injection h)
 subst e1; rfl
theorem inj_Any (a b : Tpolicy_condAny) (h : encTpolicy_condAny a = encTpolicy_condAny b) : a = b := by
 obtain ⟨a1⟩ := a; obtain ⟨b1⟩ := b
 simp only [encTpolicy_condAny, List.cons.injEq, and_true] at h
 have e1 : a1 = b1 := mapV_inj (by injection h)
 subst e1; rfl
theorem inj_True (a b : Tpolicy_condTrue) (h : encTpolicy_condTrue a = encTpolicy_condTrue b) : a = b := rfl
def tv (b : Bool) : Int := if b = true then 1 else 2
theorem M179_eq (F : Nat) (b : Bool) : M179 F b = some (tv b) := by cases b <;> rfl
theorem anyGe {p : Bool} {n : Nat} : (if p = true then some ((n : Nat) : Int) else some (-1)).bind (fun y3 : Int => some (decide (y3 ≥ 0))) = some p := by
 cases p
 ·rfl
 ·simp
theorem M180_eq (F : Nat) (l : List (List UInt8)) (s : List UInt8) : M180 F l s = some (l.any fun w => s == w) := by
 unfold M180 M115
 have h := idxL (g := M115_L1 F s (some (-1))) (fun w => s == w) (fun _ => rfl) (fun x l n => by rw [M115_L1]) l 0
 rw [show ((0 : Nat) : Int) = 0 from rfl] at h
 rw [jn_def, h]
 exact anyGe
theorem M182_eq (F : Nat) (l : List (List UInt8)) (b c : Bool) (s : List UInt8) (n : Int) : M182 F l b c s n = some (l.any fun w => beg s w) := by
 unfold M182 M184
 have h := idxL (g := M184_L1 F b c s n (some (-1))) (fun w => beg s w) (fun _ => rfl) (fun x l m => by rw [M184_L1, M183, M93_eq, Option.bind_some, Option.bind_some]) l 0
 rw [show ((0 : Nat) : Int) = 0 from rfl] at h
 rw [jn_def, h]
 exact anyGe
theorem beg_self (s : List UInt8) : beg s s = true := by simp [beg]
theorem txT3 (s : List UInt8) (l : List (List UInt8)) : txT 3 s l = l.any fun w => beg s w := by
 unfold txT
 congr 1
 funext w
 by_cases h : w = s
 ·subst h; simp [beg_self]
 ·rw [beq_false_of_ne h]; rfl
theorem txT2 (s : List UInt8) (l : List (List UInt8)) : txT 2 s l = l.any fun w => s == w := by
 unfold txT
 congr 1
 funext w
 rw [beqC]; simp
section
variable (F : Nat) (f : TFact) (nm : List UInt8)
theorem M177_eq : M177 F (vals f) nm = some (⟨(fld f nm).isText, (fld f nm).isNumber, (fld f nm).text, (fld f nm).number⟩, true) := by
 rw [← vals_get]; rfl
theorem M178_eq (op n : Int) (tx : List (List UInt8)) : M178 F ⟨nm, tx⟩ (vals f) = some (tv (oneB 2 op n tx (fld f nm))) := by
 unfold M178
 rw [M177_eq, Option.bind_some]
 dsimp only
 rw [M180_eq, M179_eq, Option.bind_some, M179_eq]
 unfold oneB
 rw [txT2]
 cases (fld f nm).isText <;> rfl
theorem M181_eq (op n : Int) (tx : List (List UInt8)) : M181 F ⟨nm, tx⟩ (vals f) = some (tv (oneB 3 op n tx (fld f nm))) := by
 unfold M181
 rw [M177_eq, Option.bind_some]
 dsimp only
 rw [M182_eq, M179_eq, Option.bind_some, M179_eq]
 unfold oneB
 rw [txT3]
 cases (fld f nm).isText <;> rfl
theorem M185_eq (op n : Int) (tx : List (List UInt8)) : M185 F ⟨nm⟩ (vals f) = some (tv (oneB 4 op n tx (fld f nm))) := by
 unfold M185
 rw [M177_eq, Option.bind_some]
 dsimp only
 rw [M179_eq, M179_eq]
 unfold oneB
 cases (fld f nm).isText <;> rfl
theorem M186_eq (op n : Int) (tx : List (List UInt8)) : M186 F ⟨nm, op, n⟩ (vals f) = some (tv (oneB 5 op n tx (fld f nm))) := by
 unfold M186
 rw [M177_eq, Option.bind_some]
 dsimp only
 rw [M187_eq, M179_eq, Option.bind_some, M179_eq]
 unfold oneB
 cases (fld f nm).isNumber <;> rfl
end
theorem hold_tr (f : TFact) : ∀ t : Tr, t.ok → t.flt = 0 → ∀ F, t.fu ≤ F → Miholds F t.cd (vals f) = some (tv (t.tru f)) := Tr.ind fun k nm tx op n ks ih ok hz F hF => by
 rw [Tr.fu] at hF
 obtain ⟨hnode, hfl⟩ := flt_zero hz
 obtain ⟨F, rfl⟩ : ∃ G, F = G + 1 := ⟨F - 1, by omega⟩
 show Miholds_B (Miholds F) F (Tr.mk k nm tx op n ks).cd (vals f) = _
 have hkid : ∀ t, t ∈ ks → Miholds F t.cd (vals f) = some (tv (t.tru f)) := fun t ht => ih t ht (Tr.oks_mem (Tr.okks ok).1 ht) (flts_mem hfl ht) F (by have := Tr.fu_mem ht; omega)
 have hkk := node_kind hnode
 dsimp only at hkk
 have hk' : k = 1 ∨ k = 2 ∨ k = 3 ∨ k = 4 ∨ k = 5 ∨ k = 6 ∨ k = 7 ∨ k = 8 := by omega
 rw [Tr.cd, Tr.tru]
 have hall : ∀ l : List Tr, (∀ t, t ∈ l → t ∈ ks) → M189_L1 (Miholds F) F (vals f) (fun n4 => some n4) (Tr.cds l) 1 = some (tv (Tr.allT f l)) := by
  intro l
  induction l with
  | nil => intro _; rw [Tr.cds, Tr.allT]; rfl
  | cons t r ihr =>
   intro hm
   rw [Tr.cds, M189_L1, hkid t (hm t (by simp)), Option.bind_some, jn_def, Tr.allT]
   cases t.tru f
   ·rfl
   ·exact ihr fun u hu => hm u (by simp [hu])
 have hany : ∀ l : List Tr, (∀ t, t ∈ l → t ∈ ks) → M190_L1 (Miholds F) F (vals f) (fun n4 => some n4) (Tr.cds l) 2 = some (tv (Tr.anyT f l)) := by
  intro l
  induction l with
  | nil => intro _; rw [Tr.cds, Tr.anyT]; rfl
  | cons t r ihr =>
   intro hm
   rw [Tr.cds, M190_L1, hkid t (hm t (by simp)), Option.bind_some, jn_def, Tr.anyT]
   cases t.tru f
   ·exact ihr fun u hu => hm u (by simp [hu])
   ·rfl
 unfold Miholds_B
 rcases hk' with e | e | e | e | e | e | e | e
 ·subst e
  simp only [show ¬ (1 : Int) = 2 by decide, show ¬ (1 : Int) = 3 by decide, show ¬ (1 : Int) = 4 by decide, show ¬ (1 : Int) = 5 by decide, show ¬ (1 : Int) = 6 by decide, show ¬ (1 : Int) = 7 by decide, show ¬ (1 : Int) = 8 by decide, if_false]
  rw [vdec_mkne (by decide), vdec_mkne (by decide), vdec_mkne (by decide), vdec_mkne (by decide), vdec_mkne (by decide), vdec_mkne (by decide), vdec_mkne (by decide), vdec_mk inj_True]
  rfl
 ·subst e
  rw [if_pos rfl, vdec_mk inj_Is]
  exact M178_eq F f nm op n tx
 ·subst e
  rw [if_neg (by decide), if_pos rfl, vdec_mkne (by decide), vdec_mk inj_Begins]
  exact M181_eq F f nm op n tx
 ·subst e
  rw [if_neg (by decide), if_neg (by decide), if_pos rfl, vdec_mkne (by decide), vdec_mkne (by decide), vdec_mk inj_Has]
  exact M185_eq F f nm op n tx
 ·subst e
  rw [if_neg (by decide), if_neg (by decide), if_neg (by decide), if_pos rfl, vdec_mkne (by decide), vdec_mkne (by decide), vdec_mkne (by decide), vdec_mk inj_Number]
  exact M186_eq F f nm op n tx
 ·subst e
  rw [if_neg (by decide), if_neg (by decide), if_neg (by decide), if_neg (by decide), if_pos rfl, vdec_mkne (by decide), vdec_mkne (by decide), vdec_mkne (by decide), vdec_mkne (by decide), vdec_mk inj_Not]
  have h1 : ks.length = 1 := by rw [← node_not hnode rfl]; exact (Tr.toKs_len ks).symm
  match ks, h1, hkid with
  | [t], _, hkid =>
   show M188 (Miholds F) F ⟨(Tr.cds [t]).headD _⟩ (vals f) = _
   rw [Tr.cds, List.headD_cons, M188, hkid t (by simp), Option.bind_some, if_neg (by decide), if_pos rfl, Tr.allT, Tr.allT]
   cases t.tru f <;> rfl
 ·subst e
  rw [if_neg (by decide), if_neg (by decide), if_neg (by decide), if_neg (by decide), if_neg (by decide), if_pos rfl, vdec_mkne (by decide), vdec_mkne (by decide), vdec_mkne (by decide), vdec_mkne (by decide), vdec_mkne (by decide), vdec_mk inj_All]
  exact hall ks fun _ h => h
 ·subst e
  rw [if_neg (by decide), if_neg (by decide), if_neg (by decide), if_neg (by decide), if_neg (by decide), if_neg (by decide), if_pos rfl, vdec_mkne (by decide), vdec_mkne (by decide), vdec_mkne (by decide), vdec_mkne (by decide), vdec_mkne (by decide), vdec_mkne (by decide), vdec_mk inj_Any]
  exact hany ks fun _ h => h
theorem cd_t : ∀ t : Tr, t.cd.t ∈ ([105, 106, 108, 110, 112, 114, 115, 117] : List Nat)
 | .mk k nm tx op n ks => by
  rw [Tr.cd]
  repeat (split; · simp [mkK])
  simp [mkK]
theorem vT_zero {t : Tr} (h : vT t = 0) : t.flt = 0 ∧ t.cnt ≤ 60 := by
 unfold vT at h
 by_cases h0 : 60 < t.cnt ∨ 12 < t.dep
 ·rw [if_pos h0] at h; cases h
 ·rw [if_neg h0] at h; exact ⟨h, by omega⟩
end Go.Proofs.YtkeeppclihjlhaaGreatDoor
