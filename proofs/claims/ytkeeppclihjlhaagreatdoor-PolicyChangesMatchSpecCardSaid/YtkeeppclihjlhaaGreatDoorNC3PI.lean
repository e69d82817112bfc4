/- Part of the proof: C3PF, C3PG, C3PH, C3PI. -/
import Derived.Test.YtkeeppclihjlhaaGreatDoorNC3PE
import Derived.Test.YtkeeppclihjlhaaGreatDoorNC3PA
namespace Go.Proofs.YtkeeppclihjlhaaGreatDoor
open Go Go.Pv
set_option linter.unusedVariables false
set_option linter.unusedSimpArgs false
set_option maxRecDepth 100000
section
variable {τ σ : Type}
theorem vdec_mk {enc : τ → List V} (inj : ∀ a b, enc a = enc b → a = b) {T : Nat} {y : τ} : vdec enc T (mkK T enc y) = some y := vdec_eq inj rfl rfl
theorem vdec_mkne {enc : τ → List V} {enc' : σ → List V} {T T' : Nat} {y : τ} (h : T ≠ T') : vdec enc' T' (mkK T enc y) = none := vdec_ne (x := mkK T enc y) h
end
theorem iV_inj {a b : Int} (h : iV a = iV b) : a = b := by injection h with h; injection h
theorem inj_Is (a b : Tpolicy_condIs) (h : encTpolicy_condIs a = encTpolicy_condIs b) : a = b := by
 obtain ⟨a1, a2⟩ := a; obtain ⟨b1, b2⟩ := b
 simp only [encTpolicy_condIs, List.cons.injEq, and_true] at h
 have e1 := sV_inj h.1
 have e2 : a2 = b2 := mapS_inj (by injection h.2)
 subst e1 e2; rfl
theorem inj_Begins (a b : Tpolicy_condBegins) (h : encTpolicy_condBegins a = encTpolicy_condBegins b) : a = b := by
 obtain ⟨a1, a2⟩ := a; obtain ⟨b1, b2⟩ := b
 simp only [encTpolicy_condBegins, List.cons.injEq, and_true] at h
 have e1 := sV_inj h.1
 have e2 : a2 = b2 := mapS_inj (by injection h.2)
 subst e1 e2; rfl
theorem inj_Has (a b : Tpolicy_condHas) (h : encTpolicy_condHas a = encTpolicy_condHas b) : a = b := by
 obtain ⟨a1⟩ := a; obtain ⟨b1⟩ := b
 simp only [encTpolicy_condHas, List.cons.injEq, and_true] at h
 have e1 := sV_inj h
 subst e1; rfl
theorem inj_Number (a b : Tpolicy_condNumber) (h : encTpolicy_condNumber a = encTpolicy_condNumber b) : a = b := by
 obtain ⟨a1, a2, a3⟩ := a; obtain ⟨b1, b2, b3⟩ := b
 simp only [encTpolicy_condNumber, List.cons.injEq, and_true] at h
 have e1 := sV_inj h.1
 have e2 := iV_inj h.2.1
 have e3 := iV_inj h.2.2
 subst e1 e2 e3; rfl
theorem KV.enc_inj {a b : KV} (h : a.enc = b.enc) : a = b := by
 obtain ⟨a1, a2⟩ := a; obtain ⟨b1, b2⟩ := b
 simp only [KV.enc, List.cons.injEq, and_true] at h
 injection h with h1 h2
 subst h1 h2; rfl
theorem mapV_inj {a b : List KV} (h : a.map KV.enc = b.map KV.enc) : a = b := List.map_inj_right (fun x y h => KV.enc_inj h) |>.1 h
theorem inj_Not (a b : Tpolicy_condNot) (h : encTpolicy_condNot a = encTpolicy_condNot b) : a = b := by
 obtain ⟨a1⟩ := a; obtain ⟨b1⟩ := b
 have e1 : a1 = b1 := KV.enc_inj h
 subst e1; rfl
theorem inj_All (a b : Tpolicy_condAll) (h : encTpolicy_condAll a = encTpolicy_condAll b) : a = b := by
 obtain ⟨a1⟩ := a; obtain ⟨b1⟩ := b
 simp only [encTpolicy_condAll, List.cons.injEq, and_true] at h
 have e1 : a1 = b1 := mapV_inj (by injection h)
 subst e1; rfl
theorem inj_Any (a b : Tpolicy_condAny) (h : encTpolicy_condAny a = encTpolicy_condAny b) : a = b := by
 obtain ⟨a1⟩ := a; obtain ⟨b1⟩ := b
 simp only [encTpolicy_condAny, List.cons.injEq, and_true] at h
 have e1 : a1 = b1 := mapV_inj (by injection h)
 subst e1; rfl
theorem inj_True (a b : Tpolicy_condTrue) (h : encTpolicy_condTrue a = encTpolicy_condTrue b) : a = b := rfl
def tv (b : Bool) : Int := if b = true then 1 else 2
theorem M179_eq (F : Nat) (b : Bool) : M179 F b = some (tv b) := by cases b <;> rfl
theorem anyGe {p : Bool} {n : Nat} : (if p = true then some ((n : Nat) : Int) else some (-1)).bind (fun y3 : Int => some (decide (y3 ≥ 0))) = some p := by
 cases p
 ·rfl
 ·simp
theorem M180_eq (F : Nat) (l : List (List UInt8)) (s : List UInt8) : M180 F l s = some (l.any fun w => s == w) := by
 unfold M180 M115
 have h := idxL (g := M115_L1 F s (some (-1))) (fun w => s == w) (fun _ => rfl) (fun x l n => by rw [M115_L1]) l 0
 rw [show ((0 : Nat) : Int) = 0 from rfl] at h
 rw [jn_def, h]
 exact anyGe
theorem M182_eq (F : Nat) (l : List (List UInt8)) (b c : Bool) (s : List UInt8) (n : Int) : M182 F l b c s n = some (l.any fun w => beg s w) := by
 unfold M182 M184
 have h := idxL (g := M184_L1 F b c s n (some (-1))) (fun w => beg s w) (fun _ => rfl) (fun x l m => by rw [M184_L1, M183, M93_eq, Option.bind_some, Option.bind_some]) l 0
 rw [show ((0 : Nat) : Int) = 0 from rfl] at h
 rw [jn_def, h]
 exact anyGe
theorem beg_self (s : List UInt8) : beg s s = true := by simp [beg]
theorem txT3 (s : List UInt8) (l : List (List UInt8)) : txT 3 s l = l.any fun w => beg s w := by
 unfold txT
 congr 1
 funext w
 by_cases h : w = s
 ·subst h; simp [beg_self]
 ·rw [beq_false_of_ne h]; rfl
theorem txT2 (s : List UInt8) (l : List (List UInt8)) : txT 2 s l = l.any fun w => s == w := by
 unfold txT
 congr 1
 funext w
 rw [beqC]; simp
section
variable (F : Nat) (f : TFact) (nm : List UInt8)
theorem M177_eq : M177 F (vals f) nm = some (⟨(fld f nm).isText, (fld f nm).isNumber, (fld f nm).text, (fld f nm).number⟩, true) := by
 rw [← vals_get]; rfl
theorem M178_eq (op n : Int) (tx : List (List UInt8)) : M178 F ⟨nm, tx⟩ (vals f) = some (tv (oneB 2 op n tx (fld f nm))) := by
 unfold M178
 rw [M177_eq, Option.bind_some]
 dsimp only
 rw [M180_eq, M179_eq, Option.bind_some, M179_eq]
 unfold oneB
 rw [txT2]
 cases (fld f nm).isText <;> rfl
theorem M181_eq (op n : Int) (tx : List (List UInt8)) : M181 F ⟨nm, tx⟩ (vals f) = some (tv (oneB 3 op n tx (fld f nm))) := by
 unfold M181
 rw [M177_eq, Option.bind_some]
 dsimp only
 rw [M182_eq, M179_eq, Option.bind_some, M179_eq]
 unfold oneB
 rw [txT3]
 cases (fld f nm).isText <;> rfl
theorem M185_eq (op n : Int) (tx : List (List UInt8)) : M185 F ⟨nm⟩ (vals f) = some (tv (oneB 4 op n tx (fld f nm))) := by
 unfold M185
 rw [M177_eq, Option.bind_some]
 dsimp only
 rw [M179_eq, M179_eq]
 unfold oneB
 cases (fld f nm).isText <;> rfl
theorem M186_eq (op n : Int) (tx : List (List UInt8)) : M186 F ⟨nm, op, n⟩ (vals f) = some (tv (oneB 5 op n tx (fld f nm))) := by
 unfold M186
 rw [M177_eq, Option.bind_some]
 dsimp only
 rw [M187_eq, M179_eq, Option.bind_some, M179_eq]
 unfold oneB
 cases (fld f nm).isNumber <;> rfl
end
theorem hold_tr (f : TFact) : ∀ t : Tr, t.ok → t.flt = 0 → ∀ F, t.fu ≤ F → Miholds F t.cd (vals f) = some (tv (t.tru f)) := Tr.ind fun k nm tx op n ks ih ok hz F hF => by
 rw [Tr.fu] at hF
 obtain ⟨hnode, hfl⟩ := flt_zero hz
 obtain ⟨F, rfl⟩ : ∃ G, F = G + 1 := ⟨F - 1, by omega⟩
 show Miholds_B (Miholds F) F (Tr.mk k nm tx op n ks).cd (vals f) = _
 have hkid : ∀ t, t ∈ ks → Miholds F t.cd (vals f) = some (tv (t.tru f)) := fun t ht => ih t ht (Tr.oks_mem (Tr.okks ok).1 ht) (flts_mem hfl ht) F (by have := Tr.fu_mem ht; omega)
 have hkk := node_kind hnode
 dsimp only at hkk
 have hk' : k = 1 ∨ k = 2 ∨ k = 3 ∨ k = 4 ∨ k = 5 ∨ k = 6 ∨ k = 7 ∨ k = 8 := by omega
 rw [Tr.cd, Tr.tru]
 have hall : ∀ l : List Tr, (∀ t, t ∈ l → t ∈ ks) → M189_L1 (Miholds F) F (vals f) (fun n4 => some n4) (Tr.cds l) 1 = some (tv (Tr.allT f l)) := by
  intro l
  induction l with
  | nil => intro _; rw [Tr.cds, Tr.allT]; rfl
  | cons t r ihr =>
   intro hm
   rw [Tr.cds, M189_L1, hkid t (hm t (by simp)), Option.bind_some, jn_def, Tr.allT]
   cases t.tru f
   ·rfl
   ·exact ihr fun u hu => hm u (by simp [hu])
 have hany : ∀ l : List Tr, (∀ t, t ∈ l → t ∈ ks) → M190_L1 (Miholds F) F (vals f) (fun n4 => some n4) (Tr.cds l) 2 = some (tv (Tr.anyT f l)) := by
  intro l
  induction l with
  | nil => intro _; rw [Tr.cds, Tr.anyT]; rfl
  | cons t r ihr =>
   intro hm
   rw [Tr.cds, M190_L1, hkid t (hm t (by simp)), Option.bind_some, jn_def, Tr.anyT]
   cases t.tru f
   ·exact ihr fun u hu => hm u (by simp [hu])
   ·rfl
 unfold Miholds_B
 rcases hk' with e | e | e | e | e | e | e | e
 ·subst e
  simp only [show ¬ (1 : Int) = 2 by decide, show ¬ (1 : Int) = 3 by decide, show ¬ (1 : Int) = 4 by decide, show ¬ (1 : Int) = 5 by decide, show ¬ (1 : Int) = 6 by decide, show ¬ (1 : Int) = 7 by decide, show ¬ (1 : Int) = 8 by decide, if_false]
  rw [vdec_mkne (by decide), vdec_mkne (by decide), vdec_mkne (by decide), vdec_mkne (by decide), vdec_mkne (by decide), vdec_mkne (by decide), vdec_mkne (by decide), vdec_mk inj_True]
  rfl
 ·subst e
  rw [if_pos rfl, vdec_mk inj_Is]
  exact M178_eq F f nm op n tx
 ·subst e
  rw [if_neg (by decide), if_pos rfl, vdec_mkne (by decide), vdec_mk inj_Begins]
  exact M181_eq F f nm op n tx
 ·subst e
  rw [if_neg (by decide), if_neg (by decide), if_pos rfl, vdec_mkne (by decide), vdec_mkne (by decide), vdec_mk inj_Has]
  exact M185_eq F f nm op n tx
 ·subst e
  rw [if_neg (by decide), if_neg (by decide), if_neg (by decide), if_pos rfl, vdec_mkne (by decide), vdec_mkne (by decide), vdec_mkne (by decide), vdec_mk inj_Number]
  exact M186_eq F f nm op n tx
 ·subst e
  rw [if_neg (by decide), if_neg (by decide), if_neg (by decide), if_neg (by decide), if_pos rfl, vdec_mkne (by decide), vdec_mkne (by decide), vdec_mkne (by decide), vdec_mkne (by decide), vdec_mk inj_Not]
  have h1 : ks.length = 1 := by rw [← node_not hnode rfl]; exact (Tr.toKs_len ks).symm
  match ks, h1, hkid with
  | [t], _, hkid =>
   show M188 (Miholds F) F ⟨(Tr.cds [t]).headD _⟩ (vals f) = _
   rw [Tr.cds, List.headD_cons, M188, hkid t (by simp), Option.bind_some, if_neg (by decide), if_pos rfl, Tr.allT, Tr.allT]
   cases t.tru f <;> rfl
 ·subst e
  rw [if_neg (by decide), if_neg (by decide), if_neg (by decide), if_neg (by decide), if_neg (by decide), if_pos rfl, vdec_mkne (by decide), vdec_mkne (by decide), vdec_mkne (by decide), vdec_mkne (by decide), vdec_mkne (by decide), vdec_mk inj_All]
  exact hall ks fun _ h => h
 ·subst e
  rw [if_neg (by decide), if_neg (by decide), if_neg (by decide), if_neg (by decide), if_neg (by decide), if_neg (by decide), if_pos rfl, vdec_mkne (by decide), vdec_mkne (by decide), vdec_mkne (by decide), vdec_mkne (by decide), vdec_mkne (by decide), vdec_mkne (by decide), vdec_mk inj_Any]
  exact hany ks fun _ h => h
theorem cd_t : ∀ t : Tr, t.cd.t ∈ ([105, 106, 108, 110, 112, 114, 115, 117] : List Nat)
 | .mk k nm tx op n ks => by
  rw [Tr.cd]
  repeat (split; · simp [mkK])
  simp [mkK]
theorem vT_zero {t : Tr} (h : vT t = 0) : t.flt = 0 ∧ t.cnt ≤ 60 := by
 unfold vT at h
 by_cases h0 : 60 < t.cnt ∨ 12 < t.dep
 ·rw [if_pos h0] at h; cases h
 ·rw [if_neg h0] at h; exact ⟨h, by omega⟩
open Classical in
noncomputable def trE (x : TTest) : Tr := if h : ∃ t : Tr, x = t.toT ∧ t.ok then h.choose else .mk 0 [] [] 0 0 []
theorem trE_spec {x : TTest} (h : okTTest x) : x = (trE x).toT ∧ (trE x).ok := by
 have h' : ∃ t : Tr, x = t.toT ∧ t.ok := h
 unfold trE
 rw [dif_pos h']
 exact h'.choose_spec
noncomputable def vTT (x : TTest) : Int := vT (trE x)
theorem M12_tt {x : TTest} (h : okTTest x) {F : Nat} (hF : (trE x).fu ≤ F) : M12 F x = some (vTT x) := by
 obtain ⟨h1, h2⟩ := trE_spec h
 have := M12_tr (trE x) h2 F hF
 rwa [← h1] at this
theorem M13_tt {x : TTest} (h : okTTest x) {F : Nat} (hF : (trE x).fu ≤ F) : M13 F x = some (vTT x) := by
 obtain ⟨h1, h2⟩ := trE_spec h
 have := M13_tr (trE x) h2 F hF
 rwa [← h1] at this
theorem okTFact_of {f : TFact} (h : okTFact f) : okTFact' f :=
 ⟨h.1, h.2.1, fun p hp => ⟨(h.2.2.1.1 p hp).1, (h.2.2.1.1 p hp).2.1⟩, h.2.2.1.2, fun p hp => (h.2.2.2.1.1 p hp).1, h.2.2.2.1.2⟩
noncomputable def fuP (p : TPolicy) : Nat := (p.Rules.map fun r => (trE r.When).fu).sum + (p.Waivers.map fun w => w.Subject.length + 2).sum
theorem le_sum {α : Type} {g : α → Nat} : ∀ {l : List α} {x : α}, x ∈ l → g x ≤ (l.map g).sum
 | y :: l, x, h => by
  rcases List.mem_cons.1 h with e | h
  ·subst e; simp
  ·have := le_sum (g := g) h; simp; omega
noncomputable def rlF (seen : List (List UInt8)) : List TPolicyRule → Int
 | [] => 0
 | r :: l => if nameB r.Name = false then 8 else if (seen.any fun n => n == r.Name) = true then 5 else if nameB r.About = false then 8 else if vTT r.When = 0 then (if (decide (r.Level < 1) || decide (r.Level > 4)) = true then 7 else rlF (seen ++ [r.Name]) l) else vTT r.When
def starB (s : List UInt8) : Bool := s.dropLast.any fun c => c == 42
def wvF (p : TPolicy) (w : TWaiver) : Int :=
 if (p.Rules.any fun r => r.Name == w.Rule) = false then 4 else if valB w.Subject = false then 2 else if starB w.Subject = true then 2
 else if (decide (w.From < 0) || decide (w.From > w.To) || decide (w.To > 1000000)) = true then 9 else if nameB w.Owner = false then 8 else if (decide (w.Level < 1) || decide (w.Level > 3)) = true then 7 else 0
def wvsF (p : TPolicy) : List TWaiver → Int
 | [] => 0
 | w :: l => if wvF p w = 0 then wvsF p l else wvF p w
noncomputable def vP (p : TPolicy) : Int := if 100 < p.Rules.length then 3 else if 200 < p.Waivers.length then 3 else if rlF [] p.Rules = 0 then wvsF p p.Waivers else rlF [] p.Rules
theorem M72_eq (F : Nat) (l : List TPolicyRule) (nm : List UInt8) : ∃ y, M72 F l nm = some y ∧ (decide (y ≥ 0) = l.any fun r => r.Name == nm) ∧ (decide (y < 0) = !l.any fun r => r.Name == nm) := by
 unfold M72
 have h := idxL (g := M72_L1 F nm (some (-1))) (fun r => r.Name == nm) (fun _ => rfl) (fun x l n => by rw [M72_L1]) l 0
 rw [show ((0 : Nat) : Int) = 0 from rfl] at h
 rw [jn_def, h]
 cases ha : l.any fun r => r.Name == nm
 ·exact ⟨_, rfl, rfl, rfl⟩
 ·refine ⟨_, if_pos rfl, ?_, ?_⟩
  ·exact decide_eq_true (by omega)
  ·exact decide_eq_false (by omega)
theorem M70_eq (F : Nat) (l : List TPolicyRule) (a : List UInt8) (b : List UInt8) (c d : Int) (e : List UInt8) (g : Int) : M70 F l a b c d e g = some (l.any fun r => r.Name == a) := by
 unfold M70 M80
 have h := idxL (g := M80_L1 F a b c d e g (some (-1))) (fun r : TPolicyRule => r.Name == a) (fun _ => rfl) (fun x l n => by rw [M80_L1]; rfl) l 0
 rw [show ((0 : Nat) : Int) = 0 from rfl] at h
 rw [jn_def, h]
 exact anyGe
theorem ixb : ∀ s : List UInt8, (Lib.indexByte s 42 = -1 ∧ (s.any fun c => c == 42) = false) ∨ (0 ≤ Lib.indexByte s 42 ∧ (s.any fun c => c == 42) = true)
 | [] => Or.inl ⟨rfl, rfl⟩
 | c :: s => by
  rw [Lib.indexByte, List.any_cons]
  cases hc : c == 42
  ·simp only [Bool.false_eq_true, if_false, Bool.false_or]
   rcases ixb s with h | h
   ·rw [h.1]; exact Or.inl ⟨rfl, h.2⟩
   ·right
    rw [beq_false_of_ne (show Lib.indexByte s 42 ≠ -1 by omega)]
    exact ⟨by simp; omega, h.2⟩
  ·right; simp
theorem star_eq : ∀ s : List UInt8, (decide (0 ≤ Lib.indexByte s 42) && decide (Lib.indexByte s 42 < (s.length : Int) - 1)) = starB s
 | [] => rfl
 | [c] => by
  unfold starB
  simp only [List.dropLast_singleton, List.any_nil, List.length_singleton]
  by_cases h : 0 ≤ Lib.indexByte [c] 42
  ·rw [decide_eq_false (show ¬ Lib.indexByte [c] 42 < ((1 : Nat) : Int) - 1 by omega), Bool.and_false]
  ·rw [decide_eq_false h, Bool.false_and]
 | c :: d :: s => by
  have ih := star_eq (d :: s)
  unfold starB at ih ⊢
  rw [List.dropLast_cons_cons, List.any_cons, ← ih, Lib.indexByte]
  cases hc : c == 42
  ·simp only [Bool.false_eq_true, if_false, Bool.false_or]
   rcases ixb (d :: s) with h | h
   ·rw [h.1]; rfl
   ·rw [beq_false_of_ne (show Lib.indexByte (d :: s) 42 ≠ -1 by omega)]
    simp only [Bool.false_eq_true, if_false]
    rw [decide_eq_true h.1, decide_eq_true (show 0 ≤ Lib.indexByte (d :: s) 42 + 1 by omega)]
    congr 1
    exact decide_eq_decide.2 (by simp only [List.length_cons]; omega)
  ·rw [if_pos rfl, decide_eq_true (by simp), decide_eq_true (by simp only [List.length_cons]; omega)]; rfl
theorem M45_eq (F : Nat) (p : TPolicy) (w : TWaiver) (hw : okTWaiver w) : M45 F p w = some (wvF p w) := by
 have h1 : okS w.Subject := hw.2.1
 have h2 : okS w.Owner := hw.2.2.2.2.1
 unfold M45 wvF
 rw [M69, Option.bind_some, M70_eq, Option.bind_some, jn_def, M35_eq F _ h1, M34_eq F _ h2]
 have hs := star_eq w.Subject
 unfold okS at h1
 rw [show (42 : Int).toNat.toUInt8 = 42 from rfl, w64_id (by omega) (by omega)]
 rw [← hs]
 simp only [Option.bind_some, ge_iff_le]
 generalize decide (Lib.indexByte w.Subject 42 < (w.Subject.length : Int) - 1) = b1
 generalize decide (0 ≤ Lib.indexByte w.Subject 42) = b2
 generalize (p.Rules.any fun r => r.Name == w.Rule) = b3
 generalize valB w.Subject = b4
 generalize decide (w.From < 0) = b5
 generalize decide (w.From > w.To) = b6
 generalize decide (w.To > 1000000) = b7
 generalize nameB w.Owner = b8
 generalize decide (w.Level < 1) = b9
 generalize decide (w.Level > 3) = b10
 cases b3 <;> cases b4
 all_goals try rfl
 cases b2 <;> cases b1 <;> cases b5 <;> cases b6 <;> cases b7 <;> cases b8 <;> cases b9 <;> cases b10 <;> rfl
theorem M47_L1_eq (F : Nat) (w : TWaiver) (k : Option Int) (hl : w.Subject.length ≤ 140737488351232) : ∀ (fuel j : Nat), w.Subject.length < fuel + j → j ≤ w.Subject.length → M47_L1 F w k fuel (j : Int) = if ((w.Subject.drop j).dropLast.any fun c => c == 42) = true then some 2 else k
 | 0, j, h1, h2 => by omega
 | fuel + 1, j, h1, h2 => by
  rw [M47_L1, w64_id (by omega) (by omega)]
  by_cases hj : j + 1 < w.Subject.length
  ·rw [if_pos (decide_eq_true (by omega)), idx_nat (by omega), Option.bind_some, show ((j : Int) + 1) = ((j + 1 : Nat) : Int) from rfl, M47_L1_eq F w k hl fuel (j + 1) (by omega) (by omega), List.drop_eq_getElem_cons (show j < w.Subject.length by omega), List.drop_eq_getElem_cons hj, List.dropLast_cons_cons, List.any_cons]
   have : (((w.Subject[j]'(by omega)).toNat : Int) == 42) = (w.Subject[j]'(by omega) == 42) := by
    by_cases h : w.Subject[j]'(by omega) = 42
    ·rw [h]; rfl
    ·have : ((w.Subject[j]'(by omega)).toNat : Int) ≠ 42 := fun e => h (UInt8.toNat_inj.1 (by show _ = 42; omega))
     rw [beq_false_of_ne h, beq_false_of_ne this]
   rw [this]
   cases (w.Subject[j]'(by omega) == 42) <;> simp
  ·rw [if_neg (by simp; omega)]
   have : ((w.Subject.drop j).dropLast) = [] := by
    apply List.eq_nil_of_length_eq_zero
    rw [List.length_dropLast, List.length_drop]; omega
   rw [this]; rfl
theorem M47_eq (F : Nat) (p : TPolicy) (w : TWaiver) (hw : okTWaiver w) (hF : w.Subject.length < F) : M47 F p w = some (wvF p w) := by
 have h1 : okS w.Subject := hw.2.1
 have h2 : okS w.Owner := hw.2.2.2.2.1
 obtain ⟨y, e1, e2, e3⟩ := M72_eq F p.Rules w.Rule
 unfold M47 wvF
 rw [e1, Option.bind_some, e3, jn_def, M38_eq F _ h1, M37_eq F _ h2, M39_eq, M39_eq]
 have hl := fun k => M47_L1_eq F w k h1 F 0 (by omega) (by omega)
 simp only [show ((0 : Nat) : Int) = 0 from rfl, List.drop_zero] at hl
 rw [hl]
 unfold starB
 simp only [Option.bind_some]
 generalize (w.Subject.dropLast.any fun c => c == 42) = b1
 generalize (p.Rules.any fun r => r.Name == w.Rule) = b3
 generalize valB w.Subject = b4
 generalize decide (w.From < 0) = b5
 generalize decide (w.From > w.To) = b6
 generalize decide (w.To > 1000000) = b7
 generalize nameB w.Owner = b8
 generalize decide (w.Level < 1) = b9
 generalize decide (w.Level > 3) = b10
 cases b3 <;> cases b4
 all_goals try rfl
 cases b1 <;> cases b5 <;> cases b6 <;> cases b7 <;> cases b8 <;> cases b9 <;> cases b10 <;> rfl
theorem M14_L2_eq (F : Nat) (p : TPolicy) (hp : okTPolicy p) : ∀ l : List TWaiver, (∀ w, w ∈ l → w ∈ p.Waivers) → M14_L2 F p (some 0) l = some (wvsF p l)
 | [], _ => rfl
 | w :: l, h => by
  rw [M14_L2, M45_eq F p w (hp.2.1.1 w (h w (by simp))), Option.bind_some, M14_L2_eq F p hp l fun u hu => h u (by simp [hu]), wvsF]
  by_cases h0 : wvF p w = 0 <;> simp [h0]
theorem M15_L2_eq (F : Nat) (p : TPolicy) (hp : okTPolicy p) (hF : fuP p ≤ F) : ∀ m n : Nat, n + m = p.Waivers.length → M15_L2 F p (some 0) m (n : Int) = some (wvsF p (p.Waivers.drop n))
 | 0, n, h => by rw [M15_L2, List.drop_eq_nil_of_le (by omega), wvsF]
 | m + 1, n, h => by
  have hn : n < p.Waivers.length := by omega
  have hm : p.Waivers[n] ∈ p.Waivers := List.getElem_mem _
  rw [M15_L2, idx_nat hn, Option.bind_some, M47_eq F p _ (hp.2.1.1 _ hm) (by have := le_sum (g := fun w : TWaiver => w.Subject.length + 2) hm; unfold fuP at hF; omega), Option.bind_some, show ((n : Int) + 1) = ((n + 1 : Nat) : Int) from rfl, M15_L2_eq F p hp hF m (n + 1) (by omega), List.drop_eq_getElem_cons hn, wvsF]
  by_cases h0 : wvF p p.Waivers[n] = 0 <;> simp [h0]
theorem M14_L1_eq (F : Nat) (p : TPolicy) (hp : okTPolicy p) (hF : fuP p ≤ F) (k : Option Int) : ∀ (l : List TPolicyRule), (∀ r, r ∈ l → r ∈ p.Rules) → ∀ (m : List (List UInt8 × Bool)) (seen : List (List UInt8)), (∀ nm, (mget m nm).getD false = seen.any fun n => n == nm) → M14_L1 F k l m = if rlF seen l = 0 then k else some (rlF seen l)
 | [], _, m, seen, _ => by simp [M14_L1, rlF]
 | r :: l, h, m, seen, hm => by
  have hr := h r (by simp)
  have hok := hp.1.1 r hr
  rw [M14_L1, M34_eq F _ hok.1, Option.bind_some, hm, M34_eq F _ hok.2.1, M12_tt hok.2.2.1 (by have := le_sum (g := fun r : TPolicyRule => (trE r.When).fu) hr; unfold fuP at hF; omega), Option.bind_some, Option.bind_some,
   M14_L1_eq F p hp hF k l (fun u hu => h u (by simp [hu])) (mput m r.Name true) (seen ++ [r.Name]) (fun nm => by
    rw [mget_mput, List.any_append, ← hm]
    by_cases e : r.Name = nm
    ·rw [if_pos e]; simp [e]
    ·rw [if_neg e]; simp [e]), rlF]
  cases nameB r.Name
  ·rfl
  ·cases (seen.any fun n => n == r.Name)
   ·cases nameB r.About
    ·rfl
    ·by_cases h0 : vTT r.When = 0
     ·simp only [h0]
      cases decide (r.Level < 1) <;> cases decide (r.Level > 4) <;> rfl
     ·simp [h0]
   ·rfl
theorem M46_eq (F : Nat) (p : TPolicy) (hp : okTPolicy p) (hF : fuP p ≤ F) (n : Nat) (hn : n < p.Rules.length) : M46 F p (n : Int) = some (
  if nameB p.Rules[n].Name = false then 8 else if (((p.Rules.take n).map (·.Name)).any fun m => m == p.Rules[n].Name) = true then 5 else if nameB p.Rules[n].About = false then 8 else if vTT p.Rules[n].When = 0 then (if (decide (p.Rules[n].Level < 1) || decide (p.Rules[n].Level > 4)) = true then 7 else 0) else vTT p.Rules[n].When) := by
 have hr : p.Rules[n] ∈ p.Rules := List.getElem_mem _
 have hok := hp.1.1 _ hr
 obtain ⟨y, e1, e2, e3⟩ := M72_eq F (p.Rules.take n) p.Rules[n].Name
 unfold M46
 rw [idx_nat hn, Option.bind_some, M37_eq F _ hok.1, Option.bind_some, if_pos (show 0 ≤ (n : Int) ∧ (n : Int).toNat ≤ p.Rules.length by omega), show ((n : Int)).toNat = n by omega, e1, Option.bind_some, e2, M37_eq F _ hok.2.1, M13_tt hok.2.2.1 (by have := le_sum (g := fun r : TPolicyRule => (trE r.When).fu) hr; unfold fuP at hF; omega), M39_eq, List.any_map]
 simp only [Option.bind_some]
 show _ = some (if nameB p.Rules[n].Name = false then 8 else if ((p.Rules.take n).any fun r => r.Name == p.Rules[n].Name) = true then 5 else _)
 cases nameB p.Rules[n].Name
 ·rfl
 ·cases ((p.Rules.take n).any fun r => r.Name == p.Rules[n].Name)
  ·cases nameB p.Rules[n].About
   ·rfl
   ·by_cases h0 : vTT p.Rules[n].When = 0
    ·simp only [h0]
     cases decide (p.Rules[n].Level < 1) <;> cases decide (p.Rules[n].Level > 4) <;> rfl
    ·simp [h0]
  ·rfl
theorem M15_L1_eq (F : Nat) (p : TPolicy) (hp : okTPolicy p) (hF : fuP p ≤ F) (k : Option Int) : ∀ m n : Nat, n + m = p.Rules.length → M15_L1 F p k m (n : Int) = if rlF ((p.Rules.take n).map (·.Name)) (p.Rules.drop n) = 0 then k else some (rlF ((p.Rules.take n).map (·.Name)) (p.Rules.drop n))
 | 0, n, h => by rw [M15_L1, List.drop_eq_nil_of_le (by omega), rlF]; rfl
 | m + 1, n, h => by
  have hn : n < p.Rules.length := by omega
  rw [M15_L1, M46_eq F p hp hF n hn, Option.bind_some, show ((n : Int) + 1) = ((n + 1 : Nat) : Int) from rfl, M15_L1_eq F p hp hF k m (n + 1) (by omega), List.drop_eq_getElem_cons hn, rlF, List.take_succ_eq_append_getElem hn, List.map_append, List.map_cons, List.map_nil]
  cases nameB p.Rules[n].Name
  ·rfl
  ·cases (((p.Rules.take n).map (·.Name)).any fun m => m == p.Rules[n].Name)
   ·cases nameB p.Rules[n].About
    ·rfl
    ·by_cases h0 : vTT p.Rules[n].When = 0
     ·simp only [h0]
      cases decide (p.Rules[n].Level < 1) <;> cases decide (p.Rules[n].Level > 4) <;> rfl
     ·simp [h0]
   ·rfl
theorem M14_eq (p : TPolicy) (hp : okTPolicy p) (F : Nat) (hF : fuP p ≤ F) : M14 F p = some (vP p) := by
 unfold M14 vP
 simp only [jn_def]
 rw [M14_L1_eq F p hp hF _ p.Rules (fun _ h => h) [] [] (fun nm => rfl), M14_L2_eq F p hp _ fun _ h => h]
 by_cases h1 : 100 < p.Rules.length
 ·rw [if_pos (decide_eq_true (by omega)), if_pos h1]
 ·rw [if_neg (by simp; omega), if_neg h1]
  by_cases h2 : 200 < p.Waivers.length
  ·rw [if_pos (decide_eq_true (by omega)), if_pos h2]
  ·rw [if_neg (by simp; omega), if_neg h2]
   split <;> rfl
theorem M15_eq (p : TPolicy) (hp : okTPolicy p) (F : Nat) (hF : fuP p ≤ F) : M15 F p = some (vP p) := by
 have hm1 := hp.1.2
 have hm2 := hp.2.1.2
 rw [maxLen_eq] at hm1 hm2
 unfold M15 vP
 simp only [jn_def]
 have e1 := M15_L1_eq F p hp hF (some (wvsF p p.Waivers)) p.Rules.length 0 (by omega)
 have e2 := M15_L2_eq F p hp hF p.Waivers.length 0 (by omega)
 simp only [show ((0 : Nat) : Int) = 0 from rfl, List.drop_zero, List.take_zero, List.map_nil] at e1 e2
 rw [show (((p.Waivers.length : Nat) : Int)).toNat = p.Waivers.length by omega, show (((p.Rules.length : Nat) : Int)).toNat = p.Rules.length by omega, e2, if_pos (show ((p.Waivers.length : Nat) : Int) ≤ 9223372036854775807 by omega), e1]
 by_cases h1 : 100 < p.Rules.length
 ·rw [if_pos (decide_eq_true (by omega)), if_pos h1]
 ·rw [if_neg (by simp; omega), if_neg h1]
  by_cases h2 : 200 < p.Waivers.length
  ·rw [if_pos (decide_eq_true (by omega)), if_pos h2]
  ·rw [if_neg (by simp; omega), if_neg h2]
   split <;> rfl
def okFs (l : List TFact) : Prop := (∀ f, f ∈ l → okTFact f) ∧ l.length ≤ maxLen
def fsF : List TFact → Int
 | [] => 0
 | f :: l => if vF f = 0 then fsF l else vF f
def vFs (l : List TFact) : Int := if 5000 < l.length then 3 else fsF l
theorem M78_eq (F : Nat) (l : List TFact) (h : okFs l) : M78 F l = some (vFs l) := by
 have hl : ∀ q : List TFact, (∀ f, f ∈ q → f ∈ l) → M78_L1 F (some 0) q = some (fsF q) := by
  intro q
  induction q with
  | nil => intro _; rfl
  | cons f q ih =>
   intro hq
   rw [M78_L1, M10_eq F f (okTFact_of (h.1 f (hq f (by simp)))), Option.bind_some, ih fun u hu => hq u (by simp [hu]), fsF]
   by_cases h0 : vF f = 0 <;> simp [h0]
 unfold M78 vFs
 rw [jn_def, hl l fun _ h => h]
 by_cases h1 : 5000 < l.length
 ·rw [if_pos (decide_eq_true (by omega)), if_pos h1]
 ·rw [if_neg (by simp; omega), if_neg h1]
theorem M82_eq (F : Nat) (l : List TFact) (h : okFs l) : M82 F l = some (vFs l) := by
 have hl : ∀ q : List TFact, (∀ f, f ∈ q → f ∈ l) → M82_L1 F (some 0) q = some (fsF q) := by
  intro q
  induction q with
  | nil => intro _; rfl
  | cons f q ih =>
   intro hq
   rw [M82_L1, M11_eq F f (okTFact_of (h.1 f (hq f (by simp)))), Option.bind_some, ih fun u hu => hq u (by simp [hu]), fsF]
   by_cases h0 : vF f = 0 <;> simp [h0]
 unfold M82 vFs
 rw [jn_def, hl l fun _ h => h]
 by_cases h1 : 5000 < l.length
 ·rw [if_pos (decide_eq_true (by omega)), if_pos h1]
 ·rw [if_neg (by simp; omega), if_neg h1]
theorem rlF_mem : ∀ {l : List TPolicyRule} {seen : List (List UInt8)} {r : TPolicyRule}, rlF seen l = 0 → r ∈ l → vTT r.When = 0
 | x :: l, seen, r, h, hm => by
  rw [rlF] at h
  split at h
  ·cases h
  ·split at h
   ·cases h
   ·split at h
    ·cases h
    ·split at h
     ·rename_i h0
      split at h
      ·cases h
      ·rcases List.mem_cons.1 hm with e | hm
       ·rw [e]; exact h0
       ·exact rlF_mem h hm
     ·rename_i h0; exact absurd h h0
theorem vP_zero {p : TPolicy} (h : vP p = 0) : p.Rules.length ≤ 100 ∧ p.Waivers.length ≤ 200 ∧ (∀ r, r ∈ p.Rules → vTT r.When = 0) ∧ wvsF p p.Waivers = 0 := by
 unfold vP at h
 split at h
 ·cases h
 ·split at h
  ·cases h
  ·split at h
   ·rename_i h0
    exact ⟨by omega, by omega, fun r hr => rlF_mem h0 hr, h⟩
   ·rename_i h0; exact absurd h h0
noncomputable def ruB (f : TFact) (r : TPolicyRule) : Bool := (r.About == f.Kind) && (trE r.When).tru f
noncomputable def rf (p : TPolicy) (f : TFact) : Int := if (p.Rules.any (ruB f)) = true then ((p.Rules.findIdx (ruB f) : Nat) : Int) else -1
section
variable {p : TPolicy} (hp : okTPolicy p) (h0 : vP p = 0) {F : Nat} (hF : fuP p ≤ F)
include hp h0 hF
theorem when_ok {r : TPolicyRule} (hr : r ∈ p.Rules) : r.When = (trE r.When).toT ∧ (trE r.When).ok ∧ (trE r.When).flt = 0 ∧ (trE r.When).cnt ≤ 60 ∧ (trE r.When).fu ≤ F := by
 have h1 := trE_spec (hp.1.1 r hr).2.2.1
 have h2 := vT_zero ((vP_zero h0).2.2.1 r hr)
 have := le_sum (g := fun r : TPolicyRule => (trE r.When).fu) hr
 unfold fuP at hF
 exact ⟨h1.1, h1.2, h2.1, h2.2, by omega⟩
theorem M81_eq {r : TPolicyRule} (hr : r ∈ p.Rules) (f : TFact) : M81 F r f.Kind f.Subject f.Texts f.Numbers = some (ruB f r) := by
 obtain ⟨e1, e2, e3, e4, e5⟩ := when_ok hp h0 hF hr
 unfold M81 ruB
 cases r.About == f.Kind
 ·rfl
 ·rw [if_pos rfl, e1, M31_tr _ e2 e3 e4 F e5, Option.bind_some, show (TFact.mk f.Kind f.Subject f.Texts f.Numbers) = f from rfl, M32_eq, Option.bind_some, if_pos (cd_t _), hold_tr f _ e2 e3 F e5, ← e1]
  cases (trE r.When).tru f <;> rfl
theorem M80_1_L1_eq (f : TFact) : ∀ (l : List TPolicyRule) (n : Nat), (∀ r, r ∈ l → r ∈ p.Rules) → M80_1_L1 F f.Kind f.Subject f.Texts f.Numbers (some (-1)) l (n : Int) = if (l.any (ruB f)) = true then some ((n + l.findIdx (ruB f) : Nat) : Int) else some (-1)
 | [], n, _ => rfl
 | r :: l, n, h => by
  rw [M80_1_L1, M81_eq hp h0 hF (h r (by simp)) f, Option.bind_some, show ((n : Int) + 1) = ((n + 1 : Nat) : Int) from rfl, M80_1_L1_eq f l (n + 1) fun u hu => h u (by simp [hu]), List.any_cons, List.findIdx_cons]
  cases ruB f r
  ·simp only [Bool.false_eq_true, if_false, Bool.false_or, cond_false]
   rw [show n + 1 + l.findIdx (ruB f) = n + (l.findIdx (ruB f) + 1) by omega]
  ·simp
theorem M52_eq (f : TFact) : M52 F p f = some (rf p f) := by
 unfold M52 M80_1 rf
 have := M80_1_L1_eq hp h0 hF f p.Rules 0 fun _ h => h
 rw [show ((0 : Nat) : Int) = 0 from rfl] at this
 rw [jn_def, this, Nat.zero_add]
 cases p.Rules.any (ruB f) <;> rfl
theorem M53_L1_eq (f : TFact) (hf : okTFact' f) : ∀ (m n : Nat), n + m = p.Rules.length → M53_L1 F p f (some (-1)) m (n : Int) = if ((p.Rules.drop n).any (ruB f)) = true then some ((n + (p.Rules.drop n).findIdx (ruB f) : Nat) : Int) else some (-1)
 | 0, n, h => by rw [M53_L1, List.drop_eq_nil_of_le (by omega)]; rfl
 | m + 1, n, h => by
  have hn : n < p.Rules.length := by omega
  have hr : p.Rules[n] ∈ p.Rules := List.getElem_mem _
  obtain ⟨e1, e2, e3, e4, e5⟩ := when_ok hp h0 hF hr
  rw [M53_L1, jn_def, idx_nat hn, Option.bind_some, show ((n : Int) + 1) = ((n + 1 : Nat) : Int) from rfl, M53_L1_eq f hf m (n + 1) (by omega), List.drop_eq_getElem_cons hn, List.any_cons, List.findIdx_cons]
  have e6 : M33 F p.Rules[n].When f = some ((trE p.Rules[n].When).tru f) := by
   have := M33_tr f hf _ e2 e3 F e5
   rwa [← e1] at this
  rw [Option.bind_some, e6]
  unfold ruB
  cases p.Rules[n].About == f.Kind
  ·simp only [Bool.false_eq_true, if_false, Bool.false_and, Bool.false_or, cond_false]
   rw [show ∀ q, n + 1 + q = n + (q + 1) by omega]
  ·cases (trE p.Rules[n].When).tru f
   ·simp only [Bool.false_eq_true, if_false, Bool.true_and, Bool.false_or, cond_false, if_true, Option.bind_some]
    rw [show ∀ q, n + 1 + q = n + (q + 1) by omega]
   ·simp
theorem M53_eq (f : TFact) (hf : okTFact' f) : M53 F p f = some (rf p f) := by
 have h1 := (vP_zero h0).1
 unfold M53 rf
 have := M53_L1_eq hp h0 hF f hf p.Rules.length 0 (by omega)
 rw [show ((0 : Nat) : Int) = 0 from rfl, List.drop_zero, Nat.zero_add] at this
 rw [jn_def, if_pos (by omega), show (((p.Rules.length : Nat) : Int)).toNat = p.Rules.length by omega, this]
 cases p.Rules.any (ruB f) <;> rfl
end
def suitB (a s : List UInt8) : Bool := if a.getLast? = some 42 then beg s a.dropLast else a == s
theorem M100_eq (F : Nat) (a : List UInt8) (ha : a.length ≤ 140737488351232) : M100 F a [42] = some (if a.getLast? = some 42 then a.dropLast else a, decide (a.getLast? = some 42)) := by
 rcases List.eq_nil_or_concat a with rfl | ⟨b, c, rfl⟩
 ·rfl
 ·simp only [List.concat_eq_append, List.length_append, List.length_singleton] at ha ⊢
  unfold M100 M123 M134
  simp only [List.length_append, List.length_singleton]
  rw [if_pos (decide_eq_true (by omega)), w64_id (by omega) (by omega), show (((b.length + 1 : Nat) : Int) - ((1 : Nat) : Int)) = ((b.length : Nat) : Int) by omega, show ((b.length : Int)).toNat = b.length by omega, if_pos (by omega), List.drop_append_of_le_length (by omega), List.drop_length, List.nil_append, Option.bind_some, List.take_append_of_le_length (by omega), List.take_length]
  simp only [List.getLast?_append, List.getLast?_singleton, List.dropLast_concat]
  by_cases h : c = 42
  ·subst h; simp
  ·have : ([c] == ([42] : List UInt8)) = false := beq_false_of_ne (by simp [h])
   rw [this]
   simp [h]
theorem M79_eq (F : Nat) (w : TWaiver) (s : List UInt8) (hw : okTWaiver w) : M79 F w s = some (suitB w.Subject s) := by
 unfold M79 suitB
 rw [M100_eq F _ hw.2.1, Option.bind_some]
 dsimp only
 by_cases h : w.Subject.getLast? = some 42
 ·rw [if_pos (decide_eq_true h), if_pos h, if_pos h, M93_eq]; rfl
 ·rw [if_neg (by simp [h]), if_neg h]
theorem M101_eq (F : Nat) (w : TWaiver) (s : List UInt8) (hw : okTWaiver w) : M101 F w s = some (suitB w.Subject s) := by
 have ha : w.Subject.length ≤ 140737488351232 := hw.2.1
 unfold M101 suitB
 generalize w.Subject = a at ha ⊢
 rcases List.eq_nil_or_concat a with rfl | ⟨b, c, rfl⟩
 ·rfl
 ·simp only [List.concat_eq_append, List.length_append, List.length_singleton] at ha ⊢
  have hg : (b ++ [c])[b.length]'(by simp) = c := by rw [List.getElem_append_right (by omega)]; simp
  rw [if_pos (decide_eq_true (by omega)), w64_id (by omega) (by omega), show (((b.length + 1 : Nat) : Int) - 1) = ((b.length : Nat) : Int) by omega, show ((b.length : Int)).toNat = b.length by omega, idx_nat (by simp), Option.bind_some, hg]
  simp only [List.getLast?_append, List.getLast?_singleton, List.dropLast_concat, List.take_append_of_le_length (Nat.le_refl _), List.take_length, M87_eq]
  by_cases h : c = 42
  ·subst h
   rw [if_pos (by rfl), if_pos ⟨by omega, by omega⟩]; simp
  ·have : ((c.toNat : Int) == 42) = false := beq_false_of_ne (fun e => h (UInt8.toNat_inj.1 (by show _ = 42; omega)))
   simp [h, this]
def forB (r : TPolicyRule) (f : TFact) (w : TWaiver) : Bool := (w.Rule == r.Name) && decide (w.Level < r.Level) && suitB w.Subject f.Subject
def dayB (day : Int) (w : TWaiver) : Bool := decide (w.From ≤ day) && decide (day ≤ w.To)
def idxs (c : TWaiver → Bool) : List TWaiver → Nat → List Int
 | [], _ => []
 | w :: l, n => if c w = true then (n : Int) :: idxs c l (n + 1) else idxs c l (n + 1)
def fstW (c : TWaiver → Bool) : List TWaiver → Nat → Option (Int × Int)
 | [], _ => none
 | w :: l, n => if c w = true then some ((n : Int), w.Level) else fstW c l (n + 1)
noncomputable def ruleOf (p : TPolicy) (f : TFact) : Option TPolicyRule := p.Rules.find? (ruB f)
noncomputable def rul (p : TPolicy) (f : TFact) : Tpolicy_ruling := match ruleOf p f with
 | none => ⟨rf p f, 1, []⟩
 | some r => ⟨rf p f, r.Level, idxs (forB r f) p.Waivers 0⟩
noncomputable def dcd (p : TPolicy) (day : Int) (f : TFact) (i : Int) : TDecision := match ruleOf p f with
 | none => ⟨i, rf p f, -1, 1⟩
 | some r => (match fstW (fun w => forB r f w && dayB day w) p.Waivers 0 with
  | none => ⟨i, rf p f, -1, r.Level⟩
  | some (k, v) => ⟨i, rf p f, k, v⟩)
noncomputable def dcds (p : TPolicy) (day : Int) : List TFact → Nat → List TDecision
 | [], _ => []
 | f :: l, n => dcd p day f (n : Int) :: dcds p day l (n + 1)
theorem find_idx {α : Type} (q : α → Bool) : ∀ l : List α, (l.any q = false ∧ l.find? q = none) ∨ (l.any q = true ∧ ∃ r, l.find? q = some r ∧ l[l.findIdx q]? = some r ∧ q r = true)
 | [] => Or.inl ⟨rfl, rfl⟩
 | x :: l => by
  rw [List.any_cons, List.find?_cons, List.findIdx_cons]
  cases h : q x
  ·rcases find_idx q l with ⟨h1, h2⟩ | ⟨h1, r, h2, h3, h4⟩
   ·left; exact ⟨by rw [h1]; rfl, h2⟩
   ·right; exact ⟨by rw [h1]; rfl, r, h2, by simpa using h3, h4⟩
  ·right; exact ⟨rfl, x, rfl, by simp, h⟩
theorem rf_none {p : TPolicy} {f : TFact} (h : ruleOf p f = none) : rf p f = -1 := by
 unfold rf
 rcases find_idx (ruB f) p.Rules with ⟨h1, h2⟩ | ⟨h1, r, h2, h3, h4⟩
 ·rw [h1]; rfl
 ·unfold ruleOf at h; rw [h2] at h; cases h
theorem rf_some {p : TPolicy} {f : TFact} {r : TPolicyRule} (h : ruleOf p f = some r) : 0 ≤ rf p f ∧ idx p.Rules (rf p f) = some r ∧ r ∈ p.Rules := by
 unfold rf
 rcases find_idx (ruB f) p.Rules with ⟨h1, h2⟩ | ⟨h1, r', h2, h3, h4⟩
 ·unfold ruleOf at h; rw [h2] at h; cases h
 ·unfold ruleOf at h; rw [h2] at h; cases h
  rw [if_pos h1]
  refine ⟨by omega, ?_, List.mem_of_getElem? h3⟩
  unfold idx
  rw [if_pos (by omega)]
  simpa using h3
section
variable {p : TPolicy} (hp : okTPolicy p) (h0 : vP p = 0) {F : Nat} (hF : fuP p ≤ F)
include hp h0
omit h0 in
theorem M51_L2_eq (f : TFact) (r : TPolicyRule) (k : List Int → Option (List Tpolicy_ruling)) : ∀ (l : List TWaiver) (n : Nat) (acc : List Int), (∀ w, w ∈ l → w ∈ p.Waivers) → acc.length + l.length ≤ 200 → M51_L2 F f r k l (n : Int) acc = k (acc ++ idxs (forB r f) l n)
 | [], n, acc, _, _ => by rw [M51_L2, idxs, List.append_nil]
 | w :: l, n, acc, h, hl => by
  simp only [List.length_cons] at hl
  have hw := hp.2.1.1 w (h w (by simp))
  rw [M51_L2, M79_eq F w _ hw, idxs, show ((n : Int) + 1) = ((n + 1 : Nat) : Int) from rfl]
  simp only [jn_def, Option.bind_some]
  have ih := fun acc (hacc : acc.length + l.length ≤ 200) => M51_L2_eq f r k l (n + 1) acc (fun u hu => h u (by simp [hu])) hacc
  have hb : forB r f w = ((w.Rule == r.Name) && decide (w.Level < r.Level) && suitB w.Subject f.Subject) := rfl
  cases h1 : w.Rule == r.Name
  ·rw [show forB r f w = false by rw [hb, h1]; rfl]; exact ih acc (by omega)
  ·cases h2 : decide (w.Level < r.Level)
   ·rw [show forB r f w = false by rw [hb, h1, h2]; rfl]; exact ih acc (by omega)
   ·cases h3 : suitB w.Subject f.Subject
    ·rw [show forB r f w = false by rw [hb, h1, h2, h3]; rfl]; exact ih acc (by omega)
    ·rw [show forB r f w = true by rw [hb, h1, h2, h3]; rfl]
     simp only [if_true]
     rw [if_pos (by simp; omega), ih _ (by simp; omega)]; simp
include hF
theorem M51_L1_eq (k : List Tpolicy_ruling → Option (List Tpolicy_ruling)) : ∀ (l : List TFact) (acc : List Tpolicy_ruling), acc.length + l.length ≤ 5000 → M51_L1 F p k l acc = k (acc ++ l.map (rul p))
 | [], acc, _ => by rw [M51_L1, List.map_nil, List.append_nil]
 | f :: l, acc, hl => by
  simp only [List.length_cons] at hl
  have h200 := (vP_zero h0).2.1
  rw [M51_L1, M52_eq hp h0 hF f]
  simp only [jn_def, Option.bind_some]
  have ih := fun (x : Tpolicy_ruling) => M51_L1_eq k l (acc ++ [x]) (by simp; omega)
  have hg : ∀ x : Tpolicy_ruling, (acc ++ [x]).length * 40 ≤ 140737488355328 := fun x => by simp; omega
  cases hr : ruleOf p f with
  | none =>
   have e : rul p f = ⟨rf p f, 1, []⟩ := by unfold rul; rw [hr]
   rw [rf_none hr, if_neg (by decide), if_pos (hg _), ih, List.map_cons, e, rf_none hr]; simp
  | some r =>
   obtain ⟨e1, e2, e3⟩ := rf_some hr
   have e : rul p f = ⟨rf p f, r.Level, idxs (forB r f) p.Waivers 0⟩ := by unfold rul; rw [hr]
   have h2 := M51_L2_eq hp (F := F) f r (fun l23 => if (acc ++ [Tpolicy_ruling.mk (rf p f) r.Level l23]).length * 40 ≤ 140737488355328 then M51_L1 F p k l (acc ++ [Tpolicy_ruling.mk (rf p f) r.Level l23]) else none) p.Waivers 0 [] (fun _ h => h) (by simp; omega)
   rw [show ((0 : Nat) : Int) = 0 from rfl, List.nil_append] at h2
   rw [if_pos (decide_eq_true e1), e2, Option.bind_some, h2]
   rw [if_pos (hg _), ih, List.map_cons, e]; simp
theorem M51_eq (l : List TFact) (hl : l.length ≤ 5000) : M51 F p l = some (l.map (rul p)) := by
 unfold M51
 rw [jn_def, M51_L1_eq hp h0 hF _ l [] (by simp; omega)]; rfl
end
theorem M50_L2_eq (F : Nat) (p : TPolicy) (day : Int) (x : Tpolicy_ruling) (k : Int → Int → Option (List TDecision)) (c : TWaiver → Bool) : ∀ (l : List TWaiver) (n : Nat), p.Waivers.drop n = l → M50_L2 F p day x k (idxs c l n) = match fstW (fun w => c w && dayB day w) l n with | none => k (-1) x.level | some (q, v) => k q v
 | [], n, _ => by rw [idxs, M50_L2, fstW]
 | w :: l, n, h => by
  obtain ⟨hn, hi, hm, hd⟩ := drop_cons h
  have ih := M50_L2_eq F p day x k c l (n + 1) hd
  rw [idxs, fstW]
  cases c w
  ·simp only [Bool.false_eq_true, if_false, Bool.false_and]; exact ih
  ·simp only [if_true, Bool.true_and]
   rw [M50_L2, jn_def, hi, Option.bind_some, ih]
   unfold dayB
   by_cases a1 : w.From ≤ day
   ·rw [if_pos (decide_eq_true a1), decide_eq_true a1]
    by_cases a2 : day ≤ w.To
    ·rw [if_pos (decide_eq_true a2), decide_eq_true a2]; rfl
    ·rw [if_neg (by simpa using a2), decide_eq_false a2]; rfl
   ·rw [if_neg (by simpa using a1), decide_eq_false a1]; rfl
theorem M50_L1_eq (F : Nat) (p : TPolicy) (day : Int) (k : List TDecision → Option (List TDecision)) : ∀ (l : List TFact) (n : Nat) (acc : List TDecision), acc.length + l.length ≤ 5000 → M50_L1 F p day k (l.map (rul p)) (n : Int) acc = k (acc ++ dcds p day l n)
 | [], n, acc, _ => by rw [List.map_nil, M50_L1, dcds, List.append_nil]
 | f :: l, n, acc, hl => by
  simp only [List.length_cons] at hl
  rw [List.map_cons, M50_L1, dcds]
  simp only [jn_def]
  have ih := fun (x : TDecision) => M50_L1_eq F p day k l (n + 1) (acc ++ [x]) (by simp; omega)
  have hg : ∀ x : TDecision, (acc ++ [x]).length * 32 ≤ 140737488355328 := fun x => by simp; omega
  rw [show ((n : Int) + 1) = ((n + 1 : Nat) : Int) from rfl]
  cases hr : ruleOf p f with
  | none =>
   have e : rul p f = ⟨rf p f, 1, []⟩ := by unfold rul; rw [hr]
   have e2 : dcd p day f n = ⟨n, rf p f, -1, 1⟩ := by unfold dcd; rw [hr]
   rw [e, M50_L2, if_pos (hg _), ih, e2]; simp
  | some r =>
   have e : rul p f = ⟨rf p f, r.Level, idxs (forB r f) p.Waivers 0⟩ := by unfold rul; rw [hr]
   rw [e, M50_L2_eq F p day _ _ (forB r f) p.Waivers 0 rfl]
   cases hw : fstW (fun w => forB r f w && dayB day w) p.Waivers 0 with
   | none =>
    have e2 : dcd p day f n = ⟨n, rf p f, -1, r.Level⟩ := by unfold dcd; rw [hr]; dsimp only; rw [hw]
    dsimp only
    rw [if_pos (hg _), ih, e2]; simp
   | some q =>
    obtain ⟨q, v⟩ := q
    have e2 : dcd p day f n = ⟨n, rf p f, q, v⟩ := by unfold dcd; rw [hr]; dsimp only; rw [hw]
    dsimp only
    rw [if_pos (hg _), ih, e2]; simp
theorem M50_eq (F : Nat) (p : TPolicy) (day : Int) (l : List TFact) (hl : l.length ≤ 5000) : M50 F p (l.map (rul p)) day = some (dcds p day l 0) := by
 unfold M50
 have := M50_L1_eq F p day (fun l5 => some l5) l 0 [] (by simp; omega)
 rw [show ((0 : Nat) : Int) = 0 from rfl, List.nil_append] at this
 rw [jn_def, this]
section
variable {p : TPolicy} (hp : okTPolicy p) (h0 : vP p = 0) {F : Nat} (hF : fuP p ≤ F)
include hp h0 hF
omit h0 hF in
theorem M83_L1_eq (f : TFact) (i day y : Int) (r : TPolicyRule) (k : Option TDecision) : ∀ (m n : Nat), n + m = p.Waivers.length → M83_L1 F p f i day y r k m (n : Int) = match fstW (fun w => forB r f w && dayB day w) (p.Waivers.drop n) n with | none => k | some (q, v) => some ⟨i, y, q, v⟩
 | 0, n, h => by rw [M83_L1, List.drop_eq_nil_of_le (by omega), fstW]
 | m + 1, n, h => by
  have hn : n < p.Waivers.length := by omega
  have hw := hp.2.1.1 _ (List.getElem_mem hn)
  rw [M83_L1, jn_def, idx_nat hn, Option.bind_some, M101_eq F _ _ hw, show ((n : Int) + 1) = ((n + 1 : Nat) : Int) from rfl, M83_L1_eq f i day y r k m (n + 1) (by omega), List.drop_eq_getElem_cons hn, fstW]
  unfold forB dayB
  simp only [Option.bind_some]
  cases p.Waivers[n].Rule == r.Name <;> cases decide (p.Waivers[n].Level < r.Level) <;> cases suitB p.Waivers[n].Subject f.Subject <;> cases decide (p.Waivers[n].From ≤ day) <;> cases decide (day ≤ p.Waivers[n].To) <;> rfl
theorem M83_eq (f : TFact) (hf : okTFact' f) (i day : Int) : M83 F p f i day = some (dcd p day f i) := by
 have h200 := (vP_zero h0).2.1
 unfold M83
 rw [M53_eq hp h0 hF f hf, Option.bind_some]
 cases hr : ruleOf p f with
 | none =>
  have e2 : dcd p day f i = ⟨i, rf p f, -1, 1⟩ := by unfold dcd; rw [hr]
  rw [e2, rf_none hr]; rfl
 | some r =>
  obtain ⟨e1, e2, e3⟩ := rf_some hr
  have h2 := M83_L1_eq hp (F := F) f i day (rf p f) r (some (TDecision.mk i (rf p f) (-1) r.Level)) p.Waivers.length 0 (by omega)
  rw [show ((0 : Nat) : Int) = 0 from rfl, List.drop_zero] at h2
  rw [if_neg (by simp; omega), e2, Option.bind_some, jn_def, if_pos (by omega), show (((p.Waivers.length : Nat) : Int)).toNat = p.Waivers.length by omega, h2]
  unfold dcd
  rw [hr]
  dsimp only
  cases fstW (fun w => forB r f w && dayB day w) p.Waivers 0 <;> rfl
theorem M55_L1_eq (day : Int) (k : List TDecision → Option (List TDecision)) : ∀ (l : List TFact) (n : Nat) (acc : List TDecision), (∀ f, f ∈ l → okTFact f) → acc.length + l.length ≤ 5000 → M55_L1 F p day k l (n : Int) acc = k (acc ++ dcds p day l n)
 | [], n, acc, _, _ => by rw [M55_L1, dcds, List.append_nil]
 | f :: l, n, acc, h, hl => by
  simp only [List.length_cons] at hl
  rw [M55_L1, M83_eq hp h0 hF f (okTFact_of (h f (by simp))), Option.bind_some, if_pos (by simp; omega), show ((n : Int) + 1) = ((n + 1 : Nat) : Int) from rfl, M55_L1_eq day k l (n + 1) _ (fun u hu => h u (by simp [hu])) (by simp; omega), dcds]
  simp
theorem M55_eq (day : Int) (l : List TFact) (h : okFs l) (hl : l.length ≤ 5000) : M55 F p l day = some (dcds p day l 0) := by
 unfold M55
 have := M55_L1_eq hp h0 hF day (fun l5 => some l5) l 0 [] h.1 (by simp; omega)
 rw [show ((0 : Nat) : Int) = 0 from rfl, List.nil_append] at this
 rw [jn_def, this]
end
theorem vFs_zero {l : List TFact} (h : vFs l = 0) : l.length ≤ 5000 := by
 unfold vFs at h
 split at h
 ·cases h
 ·omega
noncomputable def vD (p : TPolicy) (l : List TFact) (day : Int) : Int := if vP p = 0 then (if vFs l = 0 then (if (decide (day < 0) || decide (day > 1000000)) = true then 9 else 0) else vFs l) else vP p
theorem M49_eq (p : TPolicy) (hp : okTPolicy p) (l : List TFact) (h : okFs l) (day : Int) (F : Nat) (hF : fuP p ≤ F) : M49 F p l day = some (vD p l day) := by
 unfold M49 vD
 rw [M14_eq p hp F hF, Option.bind_some, M78_eq F l h, Option.bind_some]
 by_cases h1 : vP p = 0
 ·rw [if_neg (by simp [h1]), if_pos h1]
  by_cases h2 : vFs l = 0
  ·rw [if_neg (by simp [h2]), if_pos h2]
   cases decide (day < 0) <;> cases decide (day > 1000000) <;> rfl
  ·rw [if_pos (by simp [h2]), if_neg h2]
 ·rw [if_pos (by simp [h1]), if_neg h1]
noncomputable def vB (p : TPolicy) (l : List TFact) : Int := if vP p = 0 then vFs l else vP p
theorem M54_eq (p : TPolicy) (hp : okTPolicy p) (l : List TFact) (h : okFs l) (F : Nat) (hF : fuP p ≤ F) : M54 F p l = some (vB p l) := by
 unfold M54 vB
 rw [M15_eq p hp F hF, Option.bind_some, M82_eq F l h]
 by_cases h1 : vP p = 0
 ·rw [if_neg (by simp [h1]), if_pos h1]; rfl
 ·rw [if_pos (by simp [h1]), if_neg h1]
noncomputable def dcV (p : TPolicy) (l : List TFact) (day : Int) : List TDecision × Int := if vD p l day = 0 then (dcds p day l 0, 0) else ([], vD p l day)
theorem vD_zero {p : TPolicy} {l : List TFact} {day : Int} (h : vD p l day = 0) : vP p = 0 ∧ vFs l = 0 ∧ (decide (day < 0) || decide (day > 1000000)) = false := by
 unfold vD at h
 by_cases h1 : vP p = 0
 ·rw [if_pos h1] at h
  by_cases h2 : vFs l = 0
  ·rw [if_pos h2] at h
   cases h3 : (decide (day < 0) || decide (day > 1000000))
   ·exact ⟨h1, h2, rfl⟩
   ·rw [if_pos h3] at h; cases h
  ·rw [if_neg h2] at h; exact absurd h h2
 ·rw [if_neg h1] at h; exact absurd h h1
theorem M21_eq (p : TPolicy) (hp : okTPolicy p) (l : List TFact) (h : okFs l) (day : Int) (F : Nat) (hF : fuP p ≤ F) : M21 F p l day = some (dcV p l day) := by
 unfold M21 dcV
 rw [M54_eq p hp l h F hF, Option.bind_some, M39_eq, Option.bind_some]
 unfold vB vD
 by_cases h1 : vP p = 0
 ·simp only [if_pos h1]
  by_cases h2 : vFs l = 0
  ·simp only [if_pos h2, h2]
   rw [if_neg (by decide)]
   cases h3 : (decide (day < 0) || decide (day > 1000000))
   ·rw [if_neg (by decide), M55_eq hp h1 hF day l h (vFs_zero h2)]; rfl
   ·rfl
  ·simp only [if_neg h2]
   rw [if_pos (by simp [h2])]
 ·simp only [if_neg h1]
  rw [if_pos (by simp [h1])]
theorem M24_eq (F : Nat) (a b : List TDecision) : M24 F a b = some (decide (a = b)) := by
 unfold M24
 simp only [jn_def]
 exact eqL_all (g := M24_L1 F b (some true)) b (fun _ => rfl) (fun x l n => by rw [M24_L1]) a
end Go.Proofs.YtkeeppclihjlhaaGreatDoor
