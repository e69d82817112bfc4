/- Part of the proof: RD, RW, RS, RU, RV, RX, RN1, RN2, RN3, KW, RP, RP5. -/
import Derived.Test.YtpbkggamiipdmaaT6RC
import Derived.Test.YtpbkggamiipdmaaT6R6Ord
import Derived.KernelRfl
namespace Go.Proofs.Ytpbkggamiipdmaa
open Go Go.Pv
set_option linter.unusedVariables false
set_option linter.unusedSimpArgs false
set_option maxRecDepth 100000
theorem methE_zero : ∀ {l : List Tx} {p : Option Tx}, methE p l = 0 → (∀ b, p = some b → ∀ x, x ∈ l → Op.bytesLess b x = true) ∧ l.Pairwise (fun a b => Op.bytesLess a b = true) ∧ ∀ x, x ∈ l → nm x = true
  | [], p, _ => ⟨by simp, List.Pairwise.nil, by simp⟩
  | s :: l, p, h => by
    rw [methE] at h
    split at h
    · rename_i hc; exact absurd h hc
    · rename_i hc
      obtain ⟨h1, h2⟩ := nme_zero (s := s) (p := p) (by simpa using hc)
      obtain ⟨i1, i2, i3⟩ := methE_zero h
      refine ⟨fun b hb x hx => ?_, List.pairwise_cons.2 ⟨i1 s rfl, i2⟩, fun x hx => ?_⟩
      · rcases List.mem_cons.1 hx with rfl | hx
        · exact h2 b hb
        · exact bl_trans (h2 b hb) (i1 s rfl x hx)
      · rcases List.mem_cons.1 hx with rfl | hx
        · exact h1
        · exact i3 x hx
theorem lsE_zero {there : Tx → Bool} : ∀ {l : List Tx} {p : Option Tx}, lsE there false p l = 0 → (∀ b, p = some b → ∀ x, x ∈ l → Op.bytesLess b x = true) ∧ l.Pairwise (fun a b => Op.bytesLess a b = true) ∧ ∀ x, x ∈ l → there x = true
  | [], p, _ => ⟨by simp, List.Pairwise.nil, by simp⟩
  | s :: l, p, h => by
    rw [lsE] at h
    split at h
    · simp at h
    · rename_i h1
      split at h
      · simp at h
      · rename_i h2
        obtain ⟨i1, i2, i3⟩ := lsE_zero h
        have hb0 : ∀ b, p = some b → Op.bytesLess b s = true := fun b hb => by
          subst hb
          simp only [Option.elim_some] at h2
          exact le_iff.1 (by simpa using h2)
        refine ⟨fun b hb x hx => ?_, List.pairwise_cons.2 ⟨i1 s rfl, i2⟩, fun x hx => ?_⟩
        · rcases List.mem_cons.1 hx with rfl | hx
          · exact hb0 b hb
          · exact bl_trans (hb0 b hb) (i1 s rfl x hx)
        · rcases List.mem_cons.1 hx with rfl | hx
          · simpa using h1
          · exact i3 x hx
theorem mtE_zero {fs : Tx → Bool} : ∀ {l : List TMethod} {p : Option Tx}, mtE fs false p l = 0 → (∀ b, p = some b → ∀ x, x ∈ l → Op.bytesLess b x.Name = true) ∧ l.Pairwise (fun a b => Op.bytesLess a.Name b.Name = true) ∧ ∀ x, x ∈ l → nm x.Name = true ∧ fs x.Func = true
  | [], p, _ => ⟨by simp, List.Pairwise.nil, by simp⟩
  | s :: l, p, h => by
    rw [mtE] at h
    split at h
    · rename_i hc; exact absurd h hc
    · rename_i hc
      obtain ⟨h1, h2⟩ := nme_zero (s := s.Name) (p := p) (by simpa using hc)
      split at h
      · simp at h
      · rename_i h3
        obtain ⟨i1, i2, i3⟩ := mtE_zero h
        refine ⟨fun b hb x hx => ?_, List.pairwise_cons.2 ⟨i1 s.Name rfl, i2⟩, fun x hx => ?_⟩
        · rcases List.mem_cons.1 hx with rfl | hx
          · exact h2 b hb
          · exact bl_trans (h2 b hb) (i1 s.Name rfl x hx)
        · rcases List.mem_cons.1 hx with rfl | hx
          · exact ⟨h1, by simpa using h3⟩
          · exact i3 x hx
structure RightI (x : TIface) : Prop where
  nam : nm x.Name = true
  ne : x.Methods ≠ []
  len : x.Methods.length ≤ 200
  srt : x.Methods.Pairwise (fun a b => Op.bytesLess a b = true)
  mn : ∀ s, s ∈ x.Methods → nm s = true
theorem ifE_zero : ∀ {l : List TIface} {p : Option Tx}, ifE p l = 0 → (∀ b, p = some b → ∀ x, x ∈ l → Op.bytesLess b x.Name = true) ∧ l.Pairwise (fun a b => Op.bytesLess a.Name b.Name = true) ∧ ∀ x, x ∈ l → RightI x
  | [], p, _ => ⟨by simp, List.Pairwise.nil, by simp⟩
  | s :: l, p, h => by
    rw [ifE] at h
    split at h
    · rename_i hc; exact absurd h hc
    · rename_i hc
      obtain ⟨h1, h2⟩ := nme_zero (s := s.Name) (p := p) (by simpa using hc)
      split at h
      · simp at h
      · rename_i h3
        split at h
        · simp at h
        · rename_i h4
          split at h
          · rename_i h5; exact absurd h h5
          · rename_i h5
            obtain ⟨_, m2, m3⟩ := methE_zero (show methE none s.Methods = 0 by simpa using h5)
            obtain ⟨i1, i2, i3⟩ := ifE_zero h
            refine ⟨fun b hb x hx => ?_, List.pairwise_cons.2 ⟨i1 s.Name rfl, i2⟩, fun x hx => ?_⟩
            · rcases List.mem_cons.1 hx with rfl | hx
              · exact h2 b hb
              · exact bl_trans (h2 b hb) (i1 s.Name rfl x hx)
            · rcases List.mem_cons.1 hx with rfl | hx
              · exact ⟨h1, h3, by omega, m2, m3⟩
              · exact i3 x hx
structure RightT (fs : Tx → Bool) (x : TType) : Prop where
  nam : nm x.Name = true
  len : x.Methods.length ≤ 200
  srt : x.Methods.Pairwise (fun a b => Op.bytesLess a.Name b.Name = true)
  mn : ∀ s, s ∈ x.Methods → nm s.Name = true ∧ fs s.Func = true
theorem tyE_zero {fs : Tx → Bool} : ∀ {l : List TType} {p : Option Tx}, tyE fs false p l = 0 → (∀ b, p = some b → ∀ x, x ∈ l → Op.bytesLess b x.Name = true) ∧ l.Pairwise (fun a b => Op.bytesLess a.Name b.Name = true) ∧ ∀ x, x ∈ l → RightT fs x
  | [], p, _ => ⟨by simp, List.Pairwise.nil, by simp⟩
  | s :: l, p, h => by
    rw [tyE] at h
    split at h
    · rename_i hc; exact absurd h hc
    · rename_i hc
      obtain ⟨h1, h2⟩ := nme_zero (s := s.Name) (p := p) (by simpa using hc)
      split at h
      · simp at h
      · rename_i h4
        split at h
        · rename_i h5; exact absurd h h5
        · rename_i h5
          obtain ⟨_, m2, m3⟩ := mtE_zero (show mtE fs false none s.Methods = 0 by simpa using h5)
          obtain ⟨i1, i2, i3⟩ := tyE_zero h
          refine ⟨fun b hb x hx => ?_, List.pairwise_cons.2 ⟨i1 s.Name rfl, i2⟩, fun x hx => ?_⟩
          · rcases List.mem_cons.1 hx with rfl | hx
            · exact h2 b hb
            · exact bl_trans (h2 b hb) (i1 s.Name rfl x hx)
          · rcases List.mem_cons.1 hx with rfl | hx
            · exact ⟨h1, by omega, m2, m3⟩
            · exact i3 x hx
structure RightC (fs : Tx → Bool) (is : Tx → Option (List Tx)) (c : TCall) : Prop where
  feat : c.Feature = [] ∨ nm c.Feature = true
  kind : (c.Kind = 1 ∧ fs c.Target = true ∧ c.Method = []) ∨ (c.Kind = 2 ∧ ∃ l, is c.Target = some l ∧ c.Method ∈ l)
theorem clE_zero {fs : Tx → Bool} {is : Tx → Option (List Tx)} {c : TCall} (h : clE fs is false c = 0) : RightC fs is c := by
  unfold clE at h
  have tail : (if c.Feature ≠ [] ∧ nm c.Feature = false then (8 : Int) else 0) = 0 → c.Feature = [] ∨ nm c.Feature = true := by
    intro h
    split at h
    · simp at h
    · rename_i hc
      by_cases h1 : c.Feature = []
      · exact .inl h1
      · refine .inr ?_
        cases h2 : nm c.Feature
        · exact absurd ⟨h1, h2⟩ hc
        · rfl
  split at h
  · rename_i k1
    split at h
    · simp at h
    · rename_i h1
      split at h
      · simp at h
      · rename_i h2
        exact ⟨tail h, .inl ⟨k1, by simpa using h1, by simpa using h2⟩⟩
  · split at h
    · rename_i k1 k2
      split at h
      · simp at h
      · rename_i h1
        refine ⟨tail h, .inr ⟨k2, ?_⟩⟩
        cases hi : is c.Target with
        | none => rw [hi] at h1; simp at h1
        | some l => rw [hi] at h1; exact ⟨l, rfl, by simpa using h1⟩
    · simp at h
theorem csE_zero {fs : Tx → Bool} {is : Tx → Option (List Tx)} : ∀ {l : List TCall}, csE fs is false l = 0 → ∀ c, c ∈ l → RightC fs is c
  | [], _, c, hc => by simp at hc
  | x :: l, h, c, hc => by
    rw [csE] at h
    split at h
    · rename_i h1; exact absurd h h1
    · rename_i h1
      rcases List.mem_cons.1 hc with rfl | hc
      · exact clE_zero (by simpa using h1)
      · exact csE_zero h c hc
structure RightF (fs ts : Tx → Bool) (is : Tx → Option (List Tx)) (x : TFunc) : Prop where
  nam : nm x.Name = true
  comp : nm x.Component = true
  len : x.Calls.length ≤ 200
  calls : ∀ c, c ∈ x.Calls → RightC fs is c
  msrt : x.Makes.Pairwise (fun a b => Op.bytesLess a b = true)
  makes : ∀ t, t ∈ x.Makes → ts t = true
theorem fnE_zero {fs ts : Tx → Bool} {is : Tx → Option (List Tx)} : ∀ {l : List TFunc} {p : Option Tx}, fnE fs ts is false p l = 0 → (∀ b, p = some b → ∀ x, x ∈ l → Op.bytesLess b x.Name = true) ∧ l.Pairwise (fun a b => Op.bytesLess a.Name b.Name = true) ∧ ∀ x, x ∈ l → RightF fs ts is x
  | [], p, _ => ⟨by simp, List.Pairwise.nil, by simp⟩
  | s :: l, p, h => by
    rw [fnE] at h
    split at h
    · rename_i hc; exact absurd h hc
    · rename_i hc
      obtain ⟨h1, h2⟩ := nme_zero (s := s.Name) (p := p) (by simpa using hc)
      split at h
      · simp at h
      · rename_i h3
        split at h
        · simp at h
        · rename_i h4
          split at h
          · rename_i h5; exact absurd h h5
          · rename_i h5
            split at h
            · rename_i h6; exact absurd h h6
            · rename_i h6
              obtain ⟨_, m2, m3⟩ := lsE_zero (show lsE ts false none s.Makes = 0 by simpa using h6)
              obtain ⟨i1, i2, i3⟩ := fnE_zero h
              refine ⟨fun b hb x hx => ?_, List.pairwise_cons.2 ⟨i1 s.Name rfl, i2⟩, fun x hx => ?_⟩
              · rcases List.mem_cons.1 hx with rfl | hx
                · exact h2 b hb
                · exact bl_trans (h2 b hb) (i1 s.Name rfl x hx)
              · rcases List.mem_cons.1 hx with rfl | hx
                · exact ⟨h1, by simpa using h3, by omega, csE_zero (by simpa using h5), m2, m3⟩
                · exact i3 x hx
structure RightG (g : TGraph) : Prop where
  il : g.Ifaces.length ≤ 200
  tl : g.Types.length ≤ 500
  fl : g.Funcs.length ≤ 3000
  isrt : g.Ifaces.Pairwise (fun a b => Op.bytesLess a.Name b.Name = true)
  tsrt : g.Types.Pairwise (fun a b => Op.bytesLess a.Name b.Name = true)
  fsrt : g.Funcs.Pairwise (fun a b => Op.bytesLess a.Name b.Name = true)
  i : ∀ x, x ∈ g.Ifaces → RightI x
  t : ∀ x, x ∈ g.Types → RightT (fsOf g) x
  f : ∀ x, x ∈ g.Funcs → RightF (fsOf g) (tsOf g) (isOf g) x
  esrt : g.Entries.Pairwise (fun a b => Op.bytesLess a b = true)
  e : ∀ s, s ∈ g.Entries → fsOf g s = true
theorem right_of {g : TGraph} (h : chk false g = 0) : RightG g := by
  unfold chk at h
  split at h
  · simp at h
  split at h
  · simp at h
  split at h
  · simp at h
  rename_i h1 h2 h3
  split at h
  · rename_i h4; exact absurd h h4
  split at h
  · rename_i h5; exact absurd h h5
  split at h
  · rename_i h6; exact absurd h h6
  rename_i h4 h5 h6
  obtain ⟨_, a2, a3⟩ := ifE_zero (show ifE none g.Ifaces = 0 by simpa using h4)
  obtain ⟨_, b2, b3⟩ := tyE_zero (show tyE (fsOf g) false none g.Types = 0 by simpa using h5)
  obtain ⟨_, c2, c3⟩ := fnE_zero (show fnE (fsOf g) (tsOf g) (isOf g) false none g.Funcs = 0 by simpa using h6)
  obtain ⟨_, d2, d3⟩ := lsE_zero h
  exact ⟨by omega, by omega, by omega, a2, b2, c2, a3, b3, c3, d2, d3⟩
end Go.Proofs.Ytpbkggamiipdmaa

namespace Go.Proofs.Ytpbkggamiipdmaa
open Go Go.Pv
set_option linter.unusedVariables false
set_option linter.unusedSimpArgs false
set_option maxRecDepth 100000
theorem M111_eq (F : Nat) (a b : Tx) : M111 F a b = some (if Op.bytesLess a b = true then -1 else if a = b then 0 else 1) := by
  unfold M111 M126
  simp only [beq_self_eq_true, Bool.not_true, Option.bind_some, Bool.false_eq_true, if_false]
  by_cases h : Op.bytesLess a b = true
  · simp [h]
  · by_cases h2 : a = b
    · subst h2; simp [bl_irrefl]
    · simp [h, h2]
def mlt (x : Tx) (m : TMethod) : Bool := Op.bytesLess m.Name x
theorem bs_loop (F : Nat) (a : List TMethod) (x : Tx) (k : Int → Option (Int × Bool)) (hlen : a.length ≤ 100000) (hs : a.Pairwise (fun p q => Op.bytesLess p.Name q.Name = true)) :
    ∀ (n i j : Nat), i ≤ j → j ≤ a.length → j - i < n → (∀ q (h : q < a.length), q < i → mlt x a[q] = true) → (∀ q (h : q < a.length), j ≤ q → mlt x a[q] = false) →
    ∃ p : Nat, p ≤ a.length ∧ M109_L1 F a x k n i j = k p ∧ (∀ q (h : q < a.length), q < p → mlt x a[q] = true) ∧ ∀ q (h : q < a.length), p ≤ q → mlt x a[q] = false
  | 0, i, j, _, _, h, _, _ => by omega
  | n + 1, i, j, hij, hj, hn, h1, h2 => by
    rw [M109_L1]
    by_cases hc : i < j
    · have hm : (i + j) / 2 < a.length := by omega
      rw [if_t (by omega), mid_nat (by omega), idx_nat hm, Option.bind_some]
      unfold M110
      rw [M111_eq, Option.bind_some, Option.bind_some]
      simp only [jn_def]
      by_cases hl : Op.bytesLess (a[(i + j) / 2]).Name x = true
      · rw [if_pos hl, if_t (by omega), show w64 ((((i + j) / 2 : Nat) : Int) + 1) = (((i + j) / 2 + 1 : Nat) : Int) by rw [w64_id (by omega) (by omega)]; rfl]
        refine bs_loop F a x k hlen hs n ((i + j) / 2 + 1) j (by omega) hj (by omega) (fun q h hq => ?_) h2
        rcases Nat.lt_or_ge q ((i + j) / 2) with hq2 | hq2
        · have := List.pairwise_iff_getElem.1 hs q ((i + j) / 2) h hm hq2
          exact bl_trans this hl
        · have : q = (i + j) / 2 := by omega
          subst this; exact hl
      · rw [if_neg hl]
        have e : (if decide ((if a[(i + j) / 2].Name = x then (0 : Int) else 1) < 0) = true then M109_L1 F a x k n (w64 ((((i + j) / 2 : Nat) : Int) + 1)) j else M109_L1 F a x k n i (((i + j) / 2 : Nat) : Int)) = M109_L1 F a x k n i (((i + j) / 2 : Nat) : Int) := by
          have hh : ¬ ((if a[(i + j) / 2].Name = x then (0 : Int) else 1) < 0) := by split <;> omega
          rw [if_f hh]
        rw [e]
        refine bs_loop F a x k hlen hs n i ((i + j) / 2) (by omega) (by omega) (by omega) h1 (fun q h hq => ?_)
        have hl : Op.bytesLess (a[(i + j) / 2]).Name x = false := by simpa using hl
        rcases Nat.lt_or_ge ((i + j) / 2) q with hq2 | hq2
        · have := List.pairwise_iff_getElem.1 hs ((i + j) / 2) q hm h hq2
          unfold mlt
          cases hh : Op.bytesLess (a[q]).Name x
          · rfl
          · rw [bl_trans this hh] at hl; simp at hl
        · have : q = (i + j) / 2 := by omega
          subst this; exact hl
    · have : i = j := by omega
      subst this
      rw [if_f (by omega)]
      exact ⟨i, hj, rfl, h1, h2⟩
def mOf (t : TType) (m : Tx) : Tx × Bool := match t.Methods.find? (fun y => y.Name == m) with | some y => (y.Func, true) | none => ([], false)
theorem M79_eq (F : Nat) (t : TType) (x : Tx) (hlen : t.Methods.length ≤ 200) (hs : t.Methods.Pairwise (fun p q => Op.bytesLess p.Name q.Name = true)) (hF : 1000 ≤ F) : M79 F t x = some (mOf t x) := by
  unfold M79 M109 mOf
  simp only [jn_def]
  obtain ⟨p, p1, p2, p3, p4⟩ := bs_loop F t.Methods x (fun n4 => if decide (n4 < ((t.Methods.length : Nat) : Int)) = true then (idx t.Methods n4).bind fun x19 => (M110 F x19 x).bind fun y21 => some (n4, y21 == 0) else some (n4, false)) (by omega) hs F 0 t.Methods.length (by omega) (Nat.le_refl _) (by omega) (fun q h hq => by omega) (fun q h hq => by omega)
  rw [show ((0 : Nat) : Int) = 0 from rfl] at p2
  rw [p2]
  by_cases hp : p < t.Methods.length
  · rw [if_t (by omega), idx_nat hp, Option.bind_some]
    unfold M110
    rw [M111_eq, Option.bind_some, Option.bind_some, Option.bind_some]
    have hlt : Op.bytesLess (t.Methods[p]).Name x = false := p4 p hp (Nat.le_refl _)
    have ec : (if Op.bytesLess (t.Methods[p]).Name x = true then (-1 : Int) else if (t.Methods[p]).Name = x then 0 else 1) = if (t.Methods[p]).Name = x then 0 else 1 := by rw [if_neg (by simp [hlt])]
    rw [ec]
    by_cases he : (t.Methods[p]).Name = x
    · rw [if_pos he]
      have hf : t.Methods.find? (fun y => y.Name == x) = some t.Methods[p] := by
        rw [List.find?_eq_some_iff_getElem]
        refine ⟨by simp [he], p, hp, rfl, fun j hj => ?_⟩
        have := p3 j (by omega) hj
        unfold mlt at this
        simpa using bl_ne this
      rw [hf]
      simp [idx_nat hp]
    · rw [if_neg he]
      have hf : t.Methods.find? (fun y => y.Name == x) = none := by
        rw [List.find?_eq_none]
        intro y hy
        obtain ⟨q, hq, rfl⟩ := List.getElem_of_mem hy
        rcases Nat.lt_trichotomy q p with h | h | h
        · have := p3 q hq h
          unfold mlt at this
          simpa using bl_ne this
        · subst h; simpa using he
        · have h2 := List.pairwise_iff_getElem.1 hs p q hp hq h
          have h3 : Op.bytesLess x (t.Methods[p]).Name = true := by
            rcases bl_tri (t.Methods[p]).Name x with g | g | g
            · rw [g] at hlt; simp at hlt
            · exact absurd g he
            · exact g
          have := bl_ne (bl_trans h3 h2)
          simpa using fun e => this e.symm
      rw [hf]
      simp
  · rw [if_f (by omega)]
    have hf : t.Methods.find? (fun y => y.Name == x) = none := by
      rw [List.find?_eq_none]
      intro y hy
      obtain ⟨q, hq, rfl⟩ := List.getElem_of_mem hy
      have := p3 q hq (by omega)
      unfold mlt at this
      simpa using bl_ne this
    rw [hf]
    simp
def fitB (t : TType) (x : TIface) : Bool := x.Methods.all fun m => (mOf t m).2
theorem M49_eq (F : Nat) (t : TType) (x : TIface) (hlen : t.Methods.length ≤ 200) (hs : t.Methods.Pairwise (fun p q => Op.bytesLess p.Name q.Name = true)) (hF : 1000 ≤ F) : M49 F t x = some (fitB t x) := by
  unfold M49 fitB
  rw [jn_def]
  generalize x.Methods = l
  induction l with
  | nil => rfl
  | cons m l ih =>
    rw [M49_L1, M79_eq F t m hlen hs hF, Option.bind_some, ih, List.all_cons]
    cases (mOf t m).2 <;> simp
abbrev NumM := List (Tx × Int)
def nums (m : NumM) : Int → List Tx → NumM
  | _, [] => m
  | n, x :: l => nums (mput m x n) (n + 1) l
theorem nums_other (x : Tx) : ∀ (l : List Tx) (m : NumM) (n : Int), x ∉ l → mget (nums m n l) x = mget m x
  | [], m, n, _ => rfl
  | y :: l, m, n, h => by
    rw [nums, nums_other x l _ _ (fun hh => h (List.mem_cons_of_mem _ hh)), mget_mput, if_neg (fun e => h (by rw [e]; simp))]
theorem nums_get : ∀ (l : List Tx) (m : NumM) (n : Int) (i : Nat) (h : i < l.length), l.Pairwise (fun a b => Op.bytesLess a b = true) → mget (nums m n l) l[i] = some (n + i)
  | [], m, n, i, h, _ => by simp at h
  | x :: l, m, n, 0, h, hp => by
    have hp := List.pairwise_cons.1 hp
    rw [nums, List.getElem_cons_zero, nums_other x l _ _ (fun hh => bl_ne (hp.1 x hh) rfl), mget_mput, if_pos rfl]; simp
  | x :: l, m, n, i + 1, h, hp => by
    have hp := List.pairwise_cons.1 hp
    rw [nums, List.getElem_cons_succ, nums_get l _ (n + 1) i (by simpa using h) hp.2]
    congr 1; omega
theorem M54_L1_eq {F : Nat} (k : NumM → Option (Option Treach_world)) : ∀ (l : List TFunc) (n : Int) (m : NumM), M54_L1 F k l n m = k (nums m n (l.map (·.Name)))
  | [], n, m => rfl
  | x :: l, n, m => by rw [M54_L1, M54_L1_eq k l]; rfl
theorem M54_L2_eq {F : Nat} (k : NumM → Option (Option Treach_world)) : ∀ (l : List TType) (n : Int) (m : NumM), M54_L2 F k l n m = k (nums m n (l.map (·.Name)))
  | [], n, m => rfl
  | x :: l, n, m => by rw [M54_L2, M54_L2_eq k l]; rfl
theorem M54_L5_eq {F : Nat} (k : SetM → Option (Option Treach_world)) : ∀ (l : List Tx) (m : SetM), M54_L5 F k l m = k (sset m l)
  | [], m => rfl
  | x :: l, m => by rw [M54_L5, M54_L5_eq k l]; rfl
abbrev FitM := List (Tx × List Int)
def fitIdx (x : TIface) : Int → List TType → List Int
  | _, [] => []
  | n, t :: l => if fitB t x = true then n :: fitIdx x (n + 1) l else fitIdx x (n + 1) l
theorem fitIdx_len (x : TIface) : ∀ (l : List TType) (n : Int), (fitIdx x n l).length ≤ l.length
  | [], n => by simp [fitIdx]
  | t :: l, n => by
    have := fitIdx_len x l (n + 1)
    rw [fitIdx]
    split <;> simp <;> omega
theorem fitIdx_mem (x : TIface) : ∀ (l : List TType) (n : Int) (t : Int), t ∈ fitIdx x n l ↔ ∃ i : Nat, ∃ h : i < l.length, t = n + i ∧ fitB l[i] x = true
  | [], n, t => by simp [fitIdx]
  | y :: l, n, t => by
    have ih := fitIdx_mem x l (n + 1) t
    rw [fitIdx]
    constructor
    · intro h
      have : (t = n ∧ fitB y x = true) ∨ t ∈ fitIdx x (n + 1) l := by
        split at h
        · rename_i hf
          rcases List.mem_cons.1 h with rfl | h
          · exact .inl ⟨rfl, hf⟩
          · exact .inr h
        · exact .inr h
      rcases this with ⟨rfl, hf⟩ | h
      · exact ⟨0, by simp, by simp, hf⟩
      · obtain ⟨i, h1, h2, h3⟩ := ih.1 h
        exact ⟨i + 1, by simpa using h1, by rw [h2]; omega, h3⟩
    · rintro ⟨i, h1, h2, h3⟩
      cases i with
      | zero =>
        have h3 : fitB y x = true := h3
        rw [if_pos h3]; simp at h2; simp [h2]
      | succ i =>
        have : t ∈ fitIdx x (n + 1) l := ih.2 ⟨i, by simpa using h1, by rw [h2]; omega, h3⟩
        split
        · exact List.mem_cons_of_mem _ this
        · exact this
def putFit (T : List TType) (m : FitM) (x : TIface) : FitM := if (fitIdx x 0 T).isEmpty = true then m else mput m x.Name ((mget m x.Name).getD [] ++ fitIdx x 0 T)
theorem M54_L4_eq (F : Nat) (x : TIface) (k : FitM → Option (Option Treach_world)) (hF : 1000 ≤ F) : ∀ (l : List TType) (n : Int) (m : FitM), (∀ t, t ∈ l → t.Methods.length ≤ 200 ∧ t.Methods.Pairwise (fun p q => Op.bytesLess p.Name q.Name = true)) →
    ((mget m x.Name).getD []).length + l.length ≤ 100000 → M54_L4 F x k l n m = k (if (fitIdx x n l).isEmpty = true then m else mput m x.Name ((mget m x.Name).getD [] ++ fitIdx x n l))
  | [], n, m, _, _ => by simp [M54_L4, fitIdx]
  | t :: l, n, m, ht, hb => by
    obtain ⟨t1, t2⟩ := ht t (by simp)
    simp only [List.length_cons] at hb
    rw [M54_L4, M49_eq F t x t1 t2 hF, Option.bind_some]
    simp only [jn_def]
    by_cases hf : fitB t x = true
    · rw [show fitIdx x n (t :: l) = n :: fitIdx x (n + 1) l by rw [fitIdx, if_pos hf]]
      rw [if_pos hf, if_pos (by simp; omega), M54_L4_eq F x k hF l (n + 1) _ (fun q hq => ht q (List.mem_cons_of_mem _ hq)) (by rw [mget_mput, if_pos rfl]; simp; omega)]
      congr 1
      rw [mget_mput, if_pos rfl, Option.getD_some, if_neg (show ¬ (n :: fitIdx x (n + 1) l).isEmpty = true by simp)]
      split
      · rename_i he; rw [List.isEmpty_iff.1 he]
      · rw [mput_mput]; simp
    · rw [show fitIdx x n (t :: l) = fitIdx x (n + 1) l by rw [fitIdx, if_neg hf]]
      rw [if_neg hf, M54_L4_eq F x k hF l (n + 1) m (fun q hq => ht q (List.mem_cons_of_mem _ hq)) (by omega)]
def fitM (T : List TType) (m : FitM) : List TIface → FitM
  | [] => m
  | x :: l => fitM T (putFit T m x) l
theorem putFit_get (T : List TType) (m : FitM) (x : TIface) (n : Tx) : (mget (putFit T m x) n).getD [] = (mget m n).getD [] ++ if x.Name = n then fitIdx x 0 T else [] := by
  unfold putFit
  by_cases h : fitIdx x 0 T = []
  · rw [if_pos (by rw [h]; rfl), h]; simp
  · rw [if_neg (by simpa using h), mget_mput]
    by_cases h2 : x.Name = n
    · subst h2; simp
    · rw [if_neg h2, if_neg h2]; simp
theorem M54_L3_eq (F : Nat) (g : TGraph) (k : FitM → Option (Option Treach_world)) (hF : 1000 ≤ F) (hT : ∀ t, t ∈ g.Types → t.Methods.length ≤ 200 ∧ t.Methods.Pairwise (fun p q => Op.bytesLess p.Name q.Name = true)) (htl : g.Types.length ≤ 500) :
    ∀ (l : List TIface) (m : FitM), l.Pairwise (fun a b => Op.bytesLess a.Name b.Name = true) → (∀ x, x ∈ l → (mget m x.Name).getD [] = []) → M54_L3 F g k l m = k (fitM g.Types m l)
  | [], m, _, _ => rfl
  | x :: l, m, hp, hm => by
    have hp := List.pairwise_cons.1 hp
    rw [M54_L3]
    simp only [jn_def]
    rw [M54_L4_eq F x _ hF g.Types 0 m hT (by rw [hm x (by simp)]; simp; omega)]
    rw [M54_L3_eq F g k hF hT htl l _ hp.2 (fun y hy => by
      have := putFit_get g.Types m x y.Name
      unfold putFit at this
      rw [this, hm y (List.mem_cons_of_mem _ hy), if_neg (bl_ne (hp.1 y hy))]; rfl)]
    rfl
theorem fitM_get (T : List TType) (n : Tx) : ∀ (l : List TIface) (m : FitM), l.Pairwise (fun a b => Op.bytesLess a.Name b.Name = true) → (mget (fitM T m l) n).getD [] = (mget m n).getD [] ++ ((l.find? fun x => x.Name == n).elim [] fun x => fitIdx x 0 T)
  | [], m, _ => by simp [fitM]
  | x :: l, m, hp => by
    have hp := List.pairwise_cons.1 hp
    rw [fitM, fitM_get T n l _ hp.2, putFit_get, List.find?_cons]
    by_cases h : x.Name = n
    · have h2 : l.find? (fun x => x.Name == n) = none := by
        rw [List.find?_eq_none]
        intro y hy
        have := bl_ne (hp.1 y hy)
        rw [h] at this
        simpa using fun e => this e.symm
      rw [if_pos h, h2, show (x.Name == n) = true by simpa using h]; simp
    · rw [if_neg h, show (x.Name == n) = false by simpa using h]; simp
def wOf (g : TGraph) (how : Int) (fs : List Tx) : Treach_world :=
  Treach_world.mk g (nums [] 0 (g.Funcs.map (·.Name))) (nums [] 0 (g.Types.map (·.Name))) (fitM g.Types [] g.Ifaces) (sset (mput [] [] true) fs) (how == 2)
theorem M54_eq (F : Nat) (g : TGraph) (how : Int) (fs : List Tx) (R : RightG g) (hF : 1000 ≤ F) : M54 F g how fs = some (some (wOf g how fs)) := by
  unfold M54
  simp only [jn_def, M54_L1_eq, M54_L2_eq, M54_L5_eq]
  rw [M54_L3_eq F g _ hF (fun t ht => ⟨(R.t t ht).len, (R.t t ht).srt⟩) R.tl g.Ifaces [] R.isrt (fun x _ => rfl)]
  rfl
end Go.Proofs.Ytpbkggamiipdmaa

namespace Go.Proofs.Ytpbkggamiipdmaa
open Go Go.Pv
set_option linter.unusedVariables false
set_option linter.unusedSimpArgs false
set_option maxRecDepth 100000
def tru (l : List Bool) (n : Nat) : Prop := l[n]? = some true
def fls (l : List Bool) : Nat := l.countP fun b => !b
structure Grow (A : Nat → Prop) (l : List Bool) (q : List Int) (l' : List Bool) (q' : List Int) : Prop where
  len : l'.length = l.length
  mu : q'.length + fls l' = q.length + fls l
  old : ∀ n, tru l n → tru l' n
  new : ∀ n, tru l' n → tru l n ∨ (A n ∧ (n : Int) ∈ q')
  qold : ∀ x, x ∈ q → x ∈ q'
  qnew : ∀ x, x ∈ q' → x ∈ q ∨ ∃ n : Nat, x = n ∧ A n ∧ tru l' n
theorem Grow.refl {A : Nat → Prop} {l : List Bool} {q : List Int} : Grow A l q l q := ⟨rfl, rfl, fun _ h => h, fun _ h => .inl h, fun _ h => h, fun _ h => .inl h⟩
theorem Grow.trans {A : Nat → Prop} {l l' l'' : List Bool} {q q' q'' : List Int} (h : Grow A l q l' q') (g : Grow A l' q' l'' q'') : Grow A l q l'' q'' where
  len := g.len.trans h.len
  mu := g.mu.trans h.mu
  old := fun n hn => g.old n (h.old n hn)
  new := fun n hn => by
    rcases g.new n hn with h1 | h1
    · rcases h.new n h1 with h2 | h2
      · exact .inl h2
      · exact .inr ⟨h2.1, g.qold _ h2.2⟩
    · exact .inr h1
  qold := fun x hx => g.qold x (h.qold x hx)
  qnew := fun x hx => by
    rcases g.qnew x hx with h1 | h1
    · rcases h.qnew x h1 with h2 | ⟨n, h2, h3, h4⟩
      · exact .inl h2
      · exact .inr ⟨n, h2, h3, g.old n h4⟩
    · exact .inr h1
theorem Grow.weak {A B : Nat → Prop} {l l' : List Bool} {q q' : List Int} (h : Grow A l q l' q') (hab : ∀ n, A n → B n) : Grow B l q l' q' where
  len := h.len
  mu := h.mu
  old := h.old
  new := fun n hn => (h.new n hn).imp id (fun x => ⟨hab n x.1, x.2⟩)
  qold := h.qold
  qnew := fun x hx => (h.qnew x hx).imp id (fun ⟨n, h1, h2, h3⟩ => ⟨n, h1, hab n h2, h3⟩)
def fI (w : Treach_world) (x : Tx) : Int := (mget w.funcs x).getD 0
def tI (w : Treach_world) (x : Tx) : Int := (mget w.types x).getD 0
def onB (w : Treach_world) (x : Tx) : Bool := (mget w.on x).getD false
def fitL (w : Treach_world) (x : Tx) : List Int := (mget w.fitting x).getD []
def slotOf (c : TCall) : Treach_slot := Treach_slot.mk c.Target c.Method
inductive RR (F : Nat) (w : Treach_world) : Bool → Int → Prop
  | entry {e : Tx} (h : e ∈ w.g.Entries) : RR F w false (fI w e)
  | dir {f : Int} {x : TFunc} {c : TCall} (hf : RR F w false f) (hx : idx w.g.Funcs f = some x) (hc : c ∈ x.Calls) (ho : onB w c.Feature = true) (k : c.Kind = 1) : RR F w false (fI w c.Target)
  | dis {f t v : Int} {x : TFunc} {c : TCall} (hf : RR F w false f) (hx : idx w.g.Funcs f = some x) (hc : c ∈ x.Calls) (ho : onB w c.Feature = true) (k : c.Kind ≠ 1) (ht : t ∈ fitL w c.Target) (hm : w.made = true → RR F w true t) (hv : M82 F w c t = some v) : RR F w false v
  | mk {f : Int} {x : TFunc} {t : Tx} (hf : RR F w false f) (hx : idx w.g.Funcs f = some x) (ht : t ∈ x.Makes) : RR F w true (tI w t)
def SC (s : Treach_slot) : TCall := TCall.mk 0 s.iface s.method []
def Done (F : Nat) (w : Treach_world) (l md : List Bool) (o : List Treach_slot) (n : Nat) : Prop :=
  ∀ x, idx w.g.Funcs (n : Int) = some x → (∀ t, t ∈ x.Makes → ∀ i : Nat, tI w t = i → tru md i) ∧ ∀ c, c ∈ x.Calls → onB w c.Feature = true → (c.Kind = 1 → ∀ i : Nat, fI w c.Target = i → tru l i) ∧ (c.Kind ≠ 1 → slotOf c ∈ o)
structure Inv (F : Nat) (w : Treach_world) (l md : List Bool) (m : List (Treach_slot × Bool)) (o : List Treach_slot) (q : List Int) (b z : Nat) (E : Nat → Prop) : Prop where
  ll : l.length = w.g.Funcs.length
  ml : md.length = w.g.Types.length
  mu : o.length + 200 * (q.length + fls l) + b ≤ 600000
  qm : q.length + fls l = z ∧ z ≤ 3000
  qr : ∀ x, x ∈ q → ∃ n : Nat, x = n ∧ tru l n
  sf : ∀ n, tru l n → RR F w false n
  st : ∀ n, tru md n → RR F w true n
  ms : ∀ s, (mget m s).getD false = true ↔ s ∈ o
  so : ∀ s, s ∈ o → ∃ f x c, RR F w false f ∧ idx w.g.Funcs f = some x ∧ c ∈ x.Calls ∧ onB w c.Feature = true ∧ c.Kind ≠ 1 ∧ s = slotOf c
  cls : ∀ s, s ∈ o → ∀ t, t ∈ fitL w s.iface → (w.made = true → tru md t.toNat) → ∀ n : Nat, M82 F w (SC s) t = some (n : Int) → tru l n
  dn : ∀ n, tru l n → (n : Int) ∈ q ∨ Done F w l md o n ∨ E n
theorem Done.mono {F : Nat} {w : Treach_world} {l md l' md' : List Bool} {o o' : List Treach_slot} {n : Nat} (h : Done F w l md o n) (hl : ∀ n, tru l n → tru l' n) (hm : ∀ n, tru md n → tru md' n) (ho : ∀ s, s ∈ o → s ∈ o') : Done F w l' md' o' n := fun x hx =>
  ⟨fun t ht i hi => hm i ((h x hx).1 t ht i hi), fun c hc hon => ⟨fun k i hi => hl i (((h x hx).2 c hc hon).1 k i hi), fun k => ho _ (((h x hx).2 c hc hon).2 k)⟩⟩
/-- What a growth by functions that are reached leaves as it was. -/
theorem Inv.grow {F : Nat} {w : Treach_world} {l md l' : List Bool} {m : List (Treach_slot × Bool)} {o : List Treach_slot} {q q' : List Int} {b z : Nat} {E A : Nat → Prop} (I : Inv F w l md m o q b z E) (G : Grow A l q l' q') (hA : ∀ n, A n → RR F w false n) : Inv F w l' md m o q' b z E where
  ll := G.len.trans I.ll
  ml := I.ml
  mu := by rw [G.mu]; exact I.mu
  qm := by rw [G.mu]; exact I.qm
  qr := fun x hx => by
    rcases G.qnew x hx with h | ⟨n, h1, _, h3⟩
    · obtain ⟨n, h1, h2⟩ := I.qr x h
      exact ⟨n, h1, G.old n h2⟩
    · exact ⟨n, h1, h3⟩
  sf := fun n hn => by
    rcases G.new n hn with h | h
    · exact I.sf n h
    · exact hA n h.1
  st := I.st
  ms := I.ms
  so := I.so
  cls := fun s hs t ht hm n hn => G.old n (I.cls s hs t ht hm n hn)
  dn := fun n hn => by
    rcases G.new n hn with h | h
    · rcases I.dn n h with h1 | h1 | h1
      · exact .inl (G.qold _ h1)
      · exact .inr (.inl (h1.mono G.old (fun _ h => h) (fun _ h => h)))
      · exact .inr (.inr h1)
    · exact .inl h.2
end Go.Proofs.Ytpbkggamiipdmaa

namespace Go.Proofs.Ytpbkggamiipdmaa
open Go Go.Pv
set_option linter.unusedVariables false
set_option linter.unusedSimpArgs false
set_option maxRecDepth 100000
structure More (l md : List Bool) (o : List Treach_slot) (l' md' : List Bool) (o' : List Treach_slot) : Prop where
  l : ∀ n, tru l n → tru l' n
  m : ∀ n, tru md n → tru md' n
  o : ∀ s, s ∈ o → s ∈ o'
theorem More.refl {l md : List Bool} {o : List Treach_slot} : More l md o l md o := ⟨fun _ h => h, fun _ h => h, fun _ h => h⟩
theorem More.trans {l md l' md' l'' md'' : List Bool} {o o' o'' : List Treach_slot} (h : More l md o l' md' o') (g : More l' md' o' l'' md'' o'') : More l md o l'' md'' o'' :=
  ⟨fun n x => g.l n (h.l n x), fun n x => g.m n (h.m n x), fun n x => g.o n (h.o n x)⟩
end Go.Proofs.Ytpbkggamiipdmaa


namespace Go.Proofs.Ytpbkggamiipdmaa
open Go Go.Pv
set_option linter.unusedVariables false
set_option linter.unusedSimpArgs false
set_option maxRecDepth 100000
theorem srt_names {α : Type} {f : α → Tx} {l : List α} (h : l.Pairwise (fun a b => Op.bytesLess (f a) (f b) = true)) : (l.map f).Pairwise (fun a b => Op.bytesLess a b = true) := by
  rw [List.pairwise_map]; exact h
/-- What is reached by more is more. -/
theorem RR.mono {F : Nat} {g : TGraph} {h1 h2 : Int} {f1 f2 : List Tx} (ho : ∀ x, onB (wOf g h1 f1) x = true → onB (wOf g h2 f2) x = true) (hm : (wOf g h2 f2).made = true → (wOf g h1 f1).made = true) :
    ∀ {b : Bool} {v : Int}, RR F (wOf g h1 f1) b v → RR F (wOf g h2 f2) b v := by
  intro b v h
  induction h with
  | entry h => exact RR.entry (w := wOf g h2 f2) h
  | dir hf hx hc hon k ih => exact RR.dir (w := wOf g h2 f2) ih hx hc (ho _ hon) k
  | dis hf hx hc hon k ht hmm hv ih ihm => exact RR.dis (w := wOf g h2 f2) ih hx hc (ho _ hon) k ht (fun h => ihm (hm h)) hv
  | mk hf hx ht ih => exact RR.mk (w := wOf g h2 f2) ih hx ht
end Go.Proofs.Ytpbkggamiipdmaa

namespace Go.Proofs.Ytpbkggamiipdmaa
open Go Go.Pv
set_option linter.unusedVariables false
theorem M81_eq (F : Nat) (t : TType) (m : Tx) : M81 F t m = some (mOf t m) := by
  have key : ∀ l : List TMethod, M81_L1 F m (some ([], false)) l = some (match l.find? (fun y => y.Name == m) with | some y => (y.Func, true) | none => ([], false)) := by
    intro l
    induction l with
    | nil => rfl
    | cons x l ih =>
      rw [M81_L1, List.find?_cons]
      by_cases h : (x.Name == m) = true
      · rw [if_pos h, h]
      · rw [if_neg h, ih]
        have : (x.Name == m) = false := by simpa using h
        rw [this]
  unfold M81
  rw [jn_def, key]; rfl
theorem M53_eq (F : Nat) (t : TType) (i : TIface) : M53 F t i = some (fitB t i) := by
  have key : ∀ l : List Tx, M53_L1 F t (some true) l = some (l.all fun m => (mOf t m).2) := by
    intro l
    induction l with
    | nil => rfl
    | cons x l ih =>
      rw [M53_L1, M81_eq, Option.bind_some, List.all_cons]
      cases h : (mOf t x).2
      · simp
      · rw [if_neg (by simp), ih]; simp
  unfold M53
  rw [jn_def, key]; rfl
def ifG (g : TGraph) (n : Tx) : TIface := (g.Ifaces.find? fun x => x.Name == n).getD (TIface.mk [] [])
theorem M52_eq (F : Nat) (g : TGraph) (n : Tx) : ∃ b, M52 F g n = some (ifG g n, b) := by
  have key : ∀ l : List TIface, ∃ b, M52_L1 F n (some (TIface.mk [] [], false)) l = some ((l.find? fun x => x.Name == n).getD (TIface.mk [] []), b) := by
    intro l
    induction l with
    | nil => exact ⟨false, rfl⟩
    | cons x l ih =>
      rw [M52_L1, List.find?_cons]
      by_cases h : (x.Name == n) = true
      · rw [if_pos h, h]; exact ⟨true, rfl⟩
      · rw [if_neg h]
        have : (x.Name == n) = false := by simpa using h
        rw [this]; exact ih
  unfold M52
  rw [jn_def]; exact key _
def aimO (g : TGraph) (c : TCall) (t : TType) : Option Tprovenderref6_aim := if (mOf t c.Method).2 = true ∧ fitB t (ifG g c.Target) = true then some (Tprovenderref6_aim.mk t.Name (mOf t c.Method).1) else none
def aimsG (g : TGraph) (c : TCall) : List Tprovenderref6_aim := if c.Kind = 1 then [Tprovenderref6_aim.mk [] c.Target] else g.Types.filterMap (aimO g c)
theorem M58_L1_eq (F : Nat) (g : TGraph) (c : TCall) (b : Bool) (k : List Tprovenderref6_aim → Option (List Tprovenderref6_aim)) : ∀ (l : List TType) (o : List Tprovenderref6_aim), o.length + l.length ≤ 1000 →
    M58_L1 F c (ifG g c.Target, b) k l o = k (o ++ l.filterMap (aimO g c))
  | [], o, _ => by simp [M58_L1]
  | t :: l, o, h => by
    simp only [List.length_cons] at h
    rw [M58_L1, jn_def]
    simp only [jn_def]
    rw [M81_eq, Option.bind_some]
    by_cases h1 : (mOf t c.Method).2 = true
    · rw [if_pos h1, M53_eq, Option.bind_some]
      by_cases h2 : fitB t (ifG g c.Target) = true
      · rw [if_pos h2, if_pos (by simp; omega), M58_L1_eq F g c b k l _ (by simp; omega), List.filterMap_cons]
        simp [aimO, h1, h2]
      · rw [if_neg h2, M58_L1_eq F g c b k l _ (by omega), List.filterMap_cons]
        simp [aimO, h2]
    · rw [if_neg h1, M58_L1_eq F g c b k l _ (by omega), List.filterMap_cons]
      simp [aimO, h1]
theorem M58_eq (F : Nat) (g : TGraph) (c : TCall) (h : g.Types.length ≤ 500) : M58 F g c = some (aimsG g c) := by
  unfold M58 aimsG
  by_cases hk : c.Kind = 1
  · rw [if_pos (by simp [hk]), if_pos hk]
  · rw [if_neg (by simpa using hk), if_neg hk]
    obtain ⟨b, hb⟩ := M52_eq F g c.Target
    rw [hb, Option.bind_some, jn_def, M58_L1_eq F g c b _ _ _ (by simp; omega)]
    rfl
/-- The links of a function. -/
def lks (g : TGraph) (on : Tx → Bool) (name : Tx) : Int → List TCall → List Tprovenderref6_link
  | _, [] => []
  | n, c :: l => if on c.Feature = true then Tprovenderref6_link.mk (TSite.mk name n) (aimsG g c) :: lks g on name (n + 1) l else lks g on name (n + 1) l
/-- Which features are on. -/
def onF (fs : List Tx) (x : Tx) : Bool := decide (x = []) || fs.contains x
structure NetOk (g : TGraph) (fs : List Tx) (n : Tprovenderref6_net) : Prop where
  gr : n.g = g
  l : ∀ x, x ∈ g.Funcs → linksN n x.Name = lks g (onF fs) x.Name 0 x.Calls
  f : ∀ x, x ∈ g.Funcs → funcN n x.Name = x
end Go.Proofs.Ytpbkggamiipdmaa

namespace Go.Proofs.Ytpbkggamiipdmaa
open Go Go.Pv
set_option linter.unusedVariables false
inductive RN (g : TGraph) (how : Int) (on : Tx → Bool) : Bool → Tx → Prop
  | entry {e : Tx} (h : e ∈ g.Entries) : RN g how on false e
  | aim {x : TFunc} {c : TCall} {a : Tprovenderref6_aim} (hf : RN g how on false x.Name) (hx : x ∈ g.Funcs) (hc : c ∈ x.Calls) (ho : on c.Feature = true) (ha : a ∈ aimsG g c) (hm : how ≠ 1 → a.typ ≠ [] → RN g how on true a.typ) : RN g how on false a.to
  | mk {x : TFunc} {t : Tx} (hf : RN g how on false x.Name) (hx : x ∈ g.Funcs) (ht : t ∈ x.Makes) : RN g how on true t
theorem tos_lks (g : TGraph) (on : Tx → Bool) (how : Int) (s : Tprovenderref6_sets) (nm : Tx) (y : Tx) : ∀ (cs : List TCall) (n : Int), y ∈ tosL how s (lks g on nm n cs) ↔ ∃ c, c ∈ cs ∧ on c.Feature = true ∧ ∃ a, a ∈ aimsG g c ∧ cntA how s a = true ∧ a.to = y
  | [], n => by simp [tosL, lks]
  | c :: cs, n => by
    have ih := tos_lks g on how s nm y cs (n + 1)
    rw [lks]
    by_cases ho : on c.Feature = true
    · rw [if_pos ho]
      have e : tosL how s (Tprovenderref6_link.mk (TSite.mk nm n) (aimsG g c) :: lks g on nm (n + 1) cs) = ((aimsG g c).filter (cntA how s)).map (·.to) ++ tosL how s (lks g on nm (n + 1) cs) := by unfold tosL; rw [List.flatMap_cons]
      rw [e, List.mem_append, ih]
      constructor
      · rintro (h | ⟨c', h1, h2⟩)
        · obtain ⟨a, ha, rfl⟩ := List.mem_map.1 h
          obtain ⟨h1, h2⟩ := List.mem_filter.1 ha
          exact ⟨c, by simp, ho, a, h1, h2, rfl⟩
        · exact ⟨c', List.mem_cons_of_mem _ h1, h2⟩
      · rintro ⟨c', h1, h2, a, h3, h4, h5⟩
        rcases List.mem_cons.1 h1 with e | e
        · subst e; exact .inl (List.mem_map.2 ⟨a, List.mem_filter.2 ⟨h3, h4⟩, h5⟩)
        · exact .inr ⟨c', e, h2, a, h3, h4, h5⟩
    · rw [if_neg ho, ih]
      constructor
      · rintro ⟨c', h1, h2⟩; exact ⟨c', List.mem_cons_of_mem _ h1, h2⟩
      · rintro ⟨c', h1, h2, h3⟩
        rcases List.mem_cons.1 h1 with e | e
        · subst e; exact absurd h2 ho
        · exact ⟨c', e, h2, h3⟩
theorem cntA_iff (how : Int) (s : Tprovenderref6_sets) (a : Tprovenderref6_aim) (hs : SetOk s.made) : cntA how s a = true ↔ (how ≠ 1 → a.typ ≠ [] → a.typ ∈ s.made.map (·.1)) := by
  unfold cntA
  simp only [Bool.or_eq_true, beq_iff_eq, hs.get]
  constructor
  · rintro ((h | h) | h) h1 h2
    · exact absurd h h1
    · exact absurd h h2
    · exact h
  · intro h
    by_cases h1 : how = 1
    · exact .inl (.inl h1)
    · by_cases h2 : a.typ = []
      · exact .inl (.inr h2)
      · exact .inr (h h1 h2)
def onceS (n : Tprovenderref6_net) (how : Int) (s : Tprovenderref6_sets) : Tprovenderref6_sets :=
  Tprovenderref6_sets.mk (insAll (insAll [] n.g.Entries) (s.reached.flatMap fun e => e.1 :: tosL how s (linksN n e.1))) (insAll [] (s.reached.flatMap fun e => (funcN n e.1).Makes))
theorem in_names {g : TGraph} {x : Tx} : fsOf g x = true ↔ ∃ f, f ∈ g.Funcs ∧ f.Name = x := by
  unfold fsOf; simp
theorem mOf_some {t : TType} {m : Tx} (h : (mOf t m).2 = true) : ∃ y, y ∈ t.Methods ∧ y.Name = m ∧ (mOf t m).1 = y.Func := by
  unfold mOf at h ⊢
  cases hf : t.Methods.find? (fun y => y.Name == m) with
  | none => rw [hf] at h; simp at h
  | some y => exact ⟨y, List.mem_of_find?_eq_some hf, by have := List.find?_some hf; simpa using this, rfl⟩
theorem aim_fs {g : TGraph} (R : RightG g) {x : TFunc} (hx : x ∈ g.Funcs) {c : TCall} (hc : c ∈ x.Calls) {a : Tprovenderref6_aim} (ha : a ∈ aimsG g c) : fsOf g a.to = true := by
  have C := (R.f x hx).calls c hc
  unfold aimsG at ha
  split at ha
  · rename_i hk
    simp at ha; subst ha
    rcases C.kind with ⟨_, h, _⟩ | ⟨h, _⟩
    · exact h
    · rw [hk] at h; simp at h
  · obtain ⟨t, ht, h⟩ := List.mem_filterMap.1 ha
    unfold aimO at h
    split at h
    · rename_i h1
      simp at h; subst h
      obtain ⟨y, h2, _, h3⟩ := mOf_some h1.1
      show fsOf g (mOf t c.Method).1 = true
      rw [h3]; exact ((R.t t ht).mn y h2).2
    · simp at h
theorem RN.names {g : TGraph} (R : RightG g) {how : Int} {on : Tx → Bool} {b : Bool} {y : Tx} (h : RN g how on b y) : if b then tsOf g y = true else fsOf g y = true := by
  cases h with
  | entry h => exact R.e _ h
  | aim hf hx hc ho ha hm => exact aim_fs R hx hc ha
  | mk hf hx ht => exact (R.f _ hx).makes _ ht
section
variable {g : TGraph} {fs : List Tx} {n : Tprovenderref6_net} {how : Int}
structure FInv (g : TGraph) (how : Int) (fs : List Tx) (s : Tprovenderref6_sets) : Prop where
  r : SetOk s.reached
  m : SetOk s.made
  sr : ∀ x, x ∈ s.reached.map (·.1) → RN g how (onF fs) false x
  sm : ∀ x, x ∈ s.made.map (·.1) → RN g how (onF fs) true x
  mks : ∀ t, t ∈ s.made.map (·.1) → ∃ x, x ∈ g.Funcs ∧ x.Name ∈ s.reached.map (·.1) ∧ t ∈ x.Makes
theorem once_r (N : NetOk g fs n) (s : Tprovenderref6_sets) (y : Tx) : y ∈ (onceS n how s).reached.map (·.1) ↔ y ∈ g.Entries ∨ ∃ z, z ∈ s.reached.map (·.1) ∧ (y = z ∨ y ∈ tosL how s (linksN n z)) := by
  unfold onceS
  simp only
  rw [insAll_keys, insAll_keys, N.gr]
  simp only [List.map_nil, List.not_mem_nil, or_false, List.mem_flatMap, List.mem_cons, List.mem_map]
  constructor
  · rintro (⟨e, h1, h2⟩ | h)
    · exact .inr ⟨e.1, ⟨e, h1, rfl⟩, h2⟩
    · exact .inl h
  · rintro (h | ⟨z, ⟨e, h1, rfl⟩, h2⟩)
    · exact .inr h
    · exact .inl ⟨e, h1, h2⟩
theorem once_m (s : Tprovenderref6_sets) (t : Tx) : t ∈ (onceS n how s).made.map (·.1) ↔ ∃ z, z ∈ s.reached.map (·.1) ∧ t ∈ (funcN n z).Makes := by
  unfold onceS
  simp only
  rw [insAll_keys]
  simp only [List.map_nil, List.not_mem_nil, or_false, List.mem_flatMap, List.mem_map]
  constructor
  · rintro ⟨e, h1, h2⟩; exact ⟨e.1, ⟨e, h1, rfl⟩, h2⟩
  · rintro ⟨z, ⟨e, h1, rfl⟩, h2⟩; exact ⟨e, h1, h2⟩
theorem FInv.step (R : RightG g) (N : NetOk g fs n) {s : Tprovenderref6_sets} (I : FInv g how fs s) :
    FInv g how fs (onceS n how s) ∧ (∀ x, x ∈ s.reached.map (·.1) → x ∈ (onceS n how s).reached.map (·.1)) ∧ ∀ x, x ∈ s.made.map (·.1) → x ∈ (onceS n how s).made.map (·.1) := by
  have key : ∀ z, z ∈ s.reached.map (·.1) → ∃ x, x ∈ g.Funcs ∧ x.Name = z := fun z hz => in_names.1 (by simpa using (I.sr z hz).names R)
  have up : ∀ x, x ∈ s.reached.map (·.1) → x ∈ (onceS n how s).reached.map (·.1) := fun x hx => (once_r N s x).2 (.inr ⟨x, hx, .inl rfl⟩)
  refine ⟨⟨(SetOk.nil.insAll _).insAll _, SetOk.nil.insAll _, fun y hy => ?_, fun t ht => ?_, fun t ht => ?_⟩, up, fun t ht => ?_⟩
  · rcases (once_r N s y).1 hy with h | ⟨z, hz, h | h⟩
    · exact .entry h
    · subst h; exact I.sr _ hz
    · obtain ⟨x, hx, rfl⟩ := key z hz
      rw [N.l x hx, tos_lks] at h
      obtain ⟨c, hc, ho, a, ha, hcn, rfl⟩ := h
      exact .aim (I.sr _ hz) hx hc ho ha (fun h1 h2 => I.sm _ ((cntA_iff how s a I.m).1 hcn h1 h2))
  · obtain ⟨z, hz, h⟩ := (once_m s t).1 ht
    obtain ⟨x, hx, rfl⟩ := key z hz
    rw [N.f x hx] at h
    exact .mk (I.sr _ hz) hx h
  · obtain ⟨z, hz, h⟩ := (once_m s t).1 ht
    obtain ⟨x, hx, rfl⟩ := key z hz
    rw [N.f x hx] at h
    exact ⟨x, hx, up _ hz, h⟩
  · obtain ⟨x, hx, h1, h2⟩ := I.mks t ht
    exact (once_m s t).2 ⟨x.Name, h1, by rw [N.f x hx]; exact h2⟩
end
end Go.Proofs.Ytpbkggamiipdmaa

namespace Go.Proofs.Ytpbkggamiipdmaa
open Go Go.Pv
set_option linter.unusedVariables false
theorem find_uniq {α : Type} {f : α → Tx} : ∀ {l : List α}, l.Pairwise (fun a b => Op.bytesLess (f a) (f b) = true) → ∀ {x : α}, x ∈ l → l.find? (fun y => f y == f x) = some x
  | y :: l, hp, x, hx => by
    rw [List.pairwise_cons] at hp
    rw [List.find?_cons]
    rcases List.mem_cons.1 hx with e | e
    · subst e; simp
    · have : (f y == f x) = false := by simpa using bl_ne (hp.1 x e)
      rw [this]; exact find_uniq hp.2 e
theorem ifm_get (t : Tx) (i : TIface) : ∀ (l : List TIface) (m : List (Tx × TIface)), mget (ifm m l) t = some i → (i ∈ l ∧ i.Name = t) ∨ mget m t = some i
  | [], m, h => .inr h
  | x :: l, m, h => by
    rcases ifm_get t i l _ h with h | h
    · exact .inl ⟨List.mem_cons_of_mem _ h.1, h.2⟩
    · rw [mget_mput] at h
      split at h
      · rename_i e; simp at h; subst h; exact .inl ⟨List.mem_cons_self, e⟩
      · exact .inr h
theorem is_iface {g : TGraph} (R : RightG g) {t : Tx} {l : List Tx} (h : isOf g t = some l) : ∃ i, i ∈ g.Ifaces ∧ i.Name = t ∧ i.Methods = l ∧ g.Ifaces.find? (fun y => y.Name == t) = some i := by
  unfold isOf at h
  rw [Option.map_eq_some_iff] at h
  obtain ⟨i, h1, h2⟩ := h
  rcases ifm_get t i _ _ h1 with h | h
  · exact ⟨i, h.1, h.2, h2, by rw [← h.2]; exact find_uniq (f := TIface.Name) R.isrt h.1⟩
  · simp [mget] at h
theorem fit_iff {g : TGraph} (R : RightG g) (how : Int) (fs : List Tx) {n : Tx} {i : TIface} (hf : g.Ifaces.find? (fun y => y.Name == n) = some i) (t : Int) : t ∈ fitL (wOf g how fs) n ↔ ∃ j : Nat, ∃ h : j < g.Types.length, t = j ∧ fitB g.Types[j] i = true := by
  unfold fitL wOf
  simp only
  rw [fitM_get g.Types n g.Ifaces [] R.isrt]
  simp only [mget, Option.getD_none, List.nil_append]
  rw [hf]
  show t ∈ fitIdx i 0 g.Types ↔ _
  rw [fitIdx_mem]
  simp
theorem fI_at {g : TGraph} (R : RightG g) (how : Int) (fs : List Tx) {i : Nat} (h : i < g.Funcs.length) : fI (wOf g how fs) (g.Funcs[i]).Name = i := by
  unfold fI wOf
  simp only
  have := nums_get (g.Funcs.map (·.Name)) [] 0 i (by simpa using h) (srt_names R.fsrt)
  simp only [List.getElem_map] at this
  rw [this]; simp
theorem fs_at {g : TGraph} {x : Tx} (h : fsOf g x = true) : ∃ i : Nat, ∃ h : i < g.Funcs.length, (g.Funcs[i]).Name = x := by
  obtain ⟨f, hf, rfl⟩ := in_names.1 h
  obtain ⟨i, hi, rfl⟩ := List.getElem_of_mem hf
  exact ⟨i, hi, rfl⟩
theorem M82_at {F : Nat} (hF : 1000 ≤ F) {g : TGraph} (R : RightG g) (how : Int) (fs : List Tx) (c : TCall) {i : Nat} (hi : i < g.Types.length) : M82 F (wOf g how fs) c (i : Int) = some (fI (wOf g how fs) (mOf g.Types[i] c.Method).1) := by
  have hT := R.t g.Types[i] (List.getElem_mem _)
  unfold M82
  rw [show idx (wOf g how fs).g.Types (i : Int) = some g.Types[i] from idx_nat hi, Option.bind_some, M79_eq F _ _ hT.len hT.srt hF, Option.bind_some]
  rfl
/-- A dispatched call of a right graph, an aim of it. -/
theorem dis_aim {g : TGraph} (R : RightG g) {x : TFunc} (hx : x ∈ g.Funcs) {c : TCall} (hc : c ∈ x.Calls) (k : c.Kind ≠ 1) : ∃ i, i ∈ g.Ifaces ∧ g.Ifaces.find? (fun y => y.Name == c.Target) = some i ∧ ifG g c.Target = i ∧ ∀ t, fitB t i = true → (mOf t c.Method).2 = true := by
  rcases ((R.f x hx).calls c hc).kind with ⟨h, _⟩ | ⟨_, l, h1, h2⟩
  · exact absurd h k
  · obtain ⟨i, i1, i2, i3, i4⟩ := is_iface R h1
    refine ⟨i, i1, i4, by unfold ifG; rw [i4]; rfl, fun t ht => ?_⟩
    unfold fitB at ht
    rw [List.all_eq_true] at ht
    exact ht _ (by rw [i3]; exact h2)
end Go.Proofs.Ytpbkggamiipdmaa



namespace Go.Proofs.Ytpbkggamiipdmaa
open Go Go.Pv
set_option linter.unusedVariables false
def pick {α : Type} (f : α → Tx) : List α → List Bool → List Tx
  | x :: xs, b :: l => if b = true then f x :: pick f xs l else pick f xs l
  | _, _ => []
theorem M15_L1_same (F : Nat) (a : List Tx) (k : Option Bool) : ∀ (l : List Tx) (n : Nat), a.drop n = l → M15_L1 F a k l n = k
  | [], n, _ => rfl
  | x :: l, n, h => by
    obtain ⟨hn, h1, h2⟩ := drop_at h
    rw [M15_L1, idx_nat hn, Option.bind_some, if_neg (by simp [h1])]
    exact M15_L1_same F a k l (n + 1) h2
theorem M15_same (F : Nat) (a : List Tx) : M15 F a a = some true := by
  unfold M15
  rw [if_neg (by simp), jn_def]
  exact M15_L1_same F a _ a 0 rfl
end Go.Proofs.Ytpbkggamiipdmaa
