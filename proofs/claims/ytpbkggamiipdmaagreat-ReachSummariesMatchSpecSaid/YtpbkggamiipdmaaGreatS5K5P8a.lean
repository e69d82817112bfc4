/- Part of the proof: K5D, K5W, K5S, K5U, K5V, K5X, K5N1, K5N2, K5N3, K5P6, K5P7b, K5P8a. -/
import Derived.Test.YtpbkggamiipdmaaGreatS5K5C
import Derived.Test.YtpbkggamiipdmaaGreatS5Z5OrdA
namespace Go.Proofs.YtpbkggamiipdmaaGreat
open Go Go.Pv
set_option linter.unusedVariables false
set_option linter.unusedSimpArgs false
set_option maxRecDepth 100000
theorem methE_zero : ∀ {l : List Tx} {p : Option Tx}, methE p l = 0 → (∀ b, p = some b → ∀ x, x ∈ l → Op.bytesLess b x = true) ∧ l.Pairwise (fun a b => Op.bytesLess a b = true) ∧ ∀ x, x ∈ l → nm x = true
 | [], p, _ => ⟨by simp, List.Pairwise.nil, by simp⟩
 | s :: l, p, h => by
  rw [methE] at h
  split at h
  ·rename_i hc; exact absurd h hc
  ·rename_i hc
   obtain ⟨h1, h2⟩ := nme_zero (s := s) (p := p) (by simpa using hc)
   obtain ⟨i1, i2, i3⟩ := methE_zero h
   refine ⟨fun b hb x hx => ?_, List.pairwise_cons.2 ⟨i1 s rfl, i2⟩, fun x hx => ?_⟩
   ·rcases List.mem_cons.1 hx with rfl | hx
    ·exact h2 b hb
    ·exact bl_trans (h2 b hb) (i1 s rfl x hx)
   ·rcases List.mem_cons.1 hx with rfl | hx
    ·exact h1
    ·exact i3 x hx
theorem lsE_zero {there : Tx → Bool} : ∀ {l : List Tx} {p : Option Tx}, lsE there false p l = 0 → (∀ b, p = some b → ∀ x, x ∈ l → Op.bytesLess b x = true) ∧ l.Pairwise (fun a b => Op.bytesLess a b = true) ∧ ∀ x, x ∈ l → there x = true
 | [], p, _ => ⟨by simp, List.Pairwise.nil, by simp⟩
 | s :: l, p, h => by
  rw [lsE] at h
  split at h
  ·simp at h
  ·rename_i h1
   split at h
   ·simp at h
   ·rename_i h2
    obtain ⟨i1, i2, i3⟩ := lsE_zero h
    have hb0 : ∀ b, p = some b → Op.bytesLess b s = true := fun b hb => by
     subst hb
     simp only [Option.elim_some] at h2
     exact le_iff.1 (by simpa using h2)
    refine ⟨fun b hb x hx => ?_, List.pairwise_cons.2 ⟨i1 s rfl, i2⟩, fun x hx => ?_⟩
    ·rcases List.mem_cons.1 hx with rfl | hx
     ·exact hb0 b hb
     ·exact bl_trans (hb0 b hb) (i1 s rfl x hx)
    ·rcases List.mem_cons.1 hx with rfl | hx
     ·simpa using h1
     ·exact i3 x hx
theorem mtE_zero {fs : Tx → Bool} : ∀ {l : List TMethod} {p : Option Tx}, mtE fs false p l = 0 → (∀ b, p = some b → ∀ x, x ∈ l → Op.bytesLess b x.Name = true) ∧ l.Pairwise (fun a b => Op.bytesLess a.Name b.Name = true) ∧ ∀ x, x ∈ l → nm x.Name = true ∧ fs x.Func = true
 | [], p, _ => ⟨by simp, List.Pairwise.nil, by simp⟩
 | s :: l, p, h => by
  rw [mtE] at h
  split at h
  ·rename_i hc; exact absurd h hc
  ·rename_i hc
   obtain ⟨h1, h2⟩ := nme_zero (s := s.Name) (p := p) (by simpa using hc)
   split at h
   ·simp at h
   ·rename_i h3
    obtain ⟨i1, i2, i3⟩ := mtE_zero h
    refine ⟨fun b hb x hx => ?_, List.pairwise_cons.2 ⟨i1 s.Name rfl, i2⟩, fun x hx => ?_⟩
    ·rcases List.mem_cons.1 hx with rfl | hx
     ·exact h2 b hb
     ·exact bl_trans (h2 b hb) (i1 s.Name rfl x hx)
    ·rcases List.mem_cons.1 hx with rfl | hx
     ·exact ⟨h1, by simpa using h3⟩
     ·exact i3 x hx
structure RightI (x : TIface) : Prop where
 nam : nm x.Name = true
 ne : x.Methods ≠ []
 len : x.Methods.length ≤ 200
 srt : x.Methods.Pairwise (fun a b => Op.bytesLess a b = true)
 mn : ∀ s, s ∈ x.Methods → nm s = true
theorem ifE_zero : ∀ {l : List TIface} {p : Option Tx}, ifE p l = 0 → (∀ b, p = some b → ∀ x, x ∈ l → Op.bytesLess b x.Name = true) ∧ l.Pairwise (fun a b => Op.bytesLess a.Name b.Name = true) ∧ ∀ x, x ∈ l → RightI x
 | [], p, _ => ⟨by simp, List.Pairwise.nil, by simp⟩
 | s :: l, p, h => by
  rw [ifE] at h
  split at h
  ·rename_i hc; exact absurd h hc
  ·rename_i hc
   obtain ⟨h1, h2⟩ := nme_zero (s := s.Name) (p := p) (by simpa using hc)
   split at h
   ·simp at h
   ·rename_i h3
    split at h
    ·simp at h
    ·rename_i h4
     split at h
     ·rename_i h5; exact absurd h h5
     ·rename_i h5
      obtain ⟨_, m2, m3⟩ := methE_zero (show methE none s.Methods = 0 by simpa using h5)
      obtain ⟨i1, i2, i3⟩ := ifE_zero h
      refine ⟨fun b hb x hx => ?_, List.pairwise_cons.2 ⟨i1 s.Name rfl, i2⟩, fun x hx => ?_⟩
      ·rcases List.mem_cons.1 hx with rfl | hx
       ·exact h2 b hb
       ·exact bl_trans (h2 b hb) (i1 s.Name rfl x hx)
      ·rcases List.mem_cons.1 hx with rfl | hx
       ·exact ⟨h1, h3, by omega, m2, m3⟩
       ·exact i3 x hx
structure RightT (fs : Tx → Bool) (x : TType) : Prop where
 nam : nm x.Name = true
 len : x.Methods.length ≤ 200
 srt : x.Methods.Pairwise (fun a b => Op.bytesLess a.Name b.Name = true)
 mn : ∀ s, s ∈ x.Methods → nm s.Name = true ∧ fs s.Func = true
theorem tyE_zero {fs : Tx → Bool} : ∀ {l : List TType} {p : Option Tx}, tyE fs false p l = 0 → (∀ b, p = some b → ∀ x, x ∈ l → Op.bytesLess b x.Name = true) ∧ l.Pairwise (fun a b => Op.bytesLess a.Name b.Name = true) ∧ ∀ x, x ∈ l → RightT fs x
 | [], p, _ => ⟨by simp, List.Pairwise.nil, by simp⟩
 | s :: l, p, h => by
  rw [tyE] at h
  split at h
  ·rename_i hc; exact absurd h hc
  ·rename_i hc
   obtain ⟨h1, h2⟩ := nme_zero (s := s.Name) (p := p) (by simpa using hc)
   split at h
   ·simp at h
   ·rename_i h4
    split at h
    ·rename_i h5; exact absurd h h5
    ·rename_i h5
     obtain ⟨_, m2, m3⟩ := mtE_zero (show mtE fs false none s.Methods = 0 by simpa using h5)
     obtain ⟨i1, i2, i3⟩ := tyE_zero h
     refine ⟨fun b hb x hx => ?_, List.pairwise_cons.2 ⟨i1 s.Name rfl, i2⟩, fun x hx => ?_⟩
     ·rcases List.mem_cons.1 hx with rfl | hx
      ·exact h2 b hb
      ·exact bl_trans (h2 b hb) (i1 s.Name rfl x hx)
     ·rcases List.mem_cons.1 hx with rfl | hx
      ·exact ⟨h1, by omega, m2, m3⟩
      ·exact i3 x hx
structure RightC (fs : Tx → Bool) (is : Tx → Option (List Tx)) (c : TCall) : Prop where
 feat : c.Feature = [] ∨ nm c.Feature = true
 kind : (c.Kind = 1 ∧ fs c.Target = true ∧ c.Method = []) ∨ (c.Kind = 2 ∧ ∃ l, is c.Target = some l ∧ c.Method ∈ l)
theorem clE_zero {fs : Tx → Bool} {is : Tx → Option (List Tx)} {c : TCall} (h : clE fs is false c = 0) : RightC fs is c := by
 unfold clE at h
 have tail : (if c.Feature ≠ [] ∧ nm c.Feature = false then (8 : Int) else 0) = 0 → c.Feature = [] ∨ nm c.Feature = true := by
  intro h
  split at h
  ·simp at h
  ·rename_i hc
   by_cases h1 : c.Feature = []
   ·exact .inl h1
   ·refine .inr ?_
    cases h2 : nm c.Feature
    ·exact absurd ⟨h1, h2⟩ hc
    ·rfl
 split at h
 ·rename_i k1
  split at h
  ·simp at h
  ·rename_i h1
   split at h
   ·simp at h
   ·rename_i h2
    exact ⟨tail h, .inl ⟨k1, by simpa using h1, by simpa using h2⟩⟩
 ·split at h
  ·rename_i k1 k2
   split at h
   ·simp at h
   ·rename_i h1
    refine ⟨tail h, .inr ⟨k2, ?_⟩⟩
    cases hi : is c.Target with
    | none => rw [hi] at h1; simp at h1
    | some l => rw [hi] at h1; exact ⟨l, rfl, by simpa using h1⟩
  ·simp at h
theorem csE_zero {fs : Tx → Bool} {is : Tx → Option (List Tx)} : ∀ {l : List TCall}, csE fs is false l = 0 → ∀ c, c ∈ l → RightC fs is c
 | [], _, c, hc => by simp at hc
 | x :: l, h, c, hc => by
  rw [csE] at h
  split at h
  ·rename_i h1; exact absurd h h1
  ·rename_i h1
   rcases List.mem_cons.1 hc with rfl | hc
   ·exact clE_zero (by simpa using h1)
   ·exact csE_zero h c hc
structure RightF (fs ts : Tx → Bool) (is : Tx → Option (List Tx)) (x : TFunc) : Prop where
 nam : nm x.Name = true
 comp : nm x.Component = true
 len : x.Calls.length ≤ 200
 calls : ∀ c, c ∈ x.Calls → RightC fs is c
 msrt : x.Makes.Pairwise (fun a b => Op.bytesLess a b = true)
 makes : ∀ t, t ∈ x.Makes → ts t = true
theorem fnE_zero {fs ts : Tx → Bool} {is : Tx → Option (List Tx)} : ∀ {l : List TFunc} {p : Option Tx}, fnE fs ts is false p l = 0 → (∀ b, p = some b → ∀ x, x ∈ l → Op.bytesLess b x.Name = true) ∧ l.Pairwise (fun a b => Op.bytesLess a.Name b.Name = true) ∧ ∀ x, x ∈ l → RightF fs ts is x
 | [], p, _ => ⟨by simp, List.Pairwise.nil, by simp⟩
 | s :: l, p, h => by
  rw [fnE] at h
  split at h
  ·rename_i hc; exact absurd h hc
  ·rename_i hc
   obtain ⟨h1, h2⟩ := nme_zero (s := s.Name) (p := p) (by simpa using hc)
   split at h
   ·simp at h
   ·rename_i h3
    split at h
    ·simp at h
    ·rename_i h4
     split at h
     ·rename_i h5; exact absurd h h5
     ·rename_i h5
      split at h
      ·rename_i h6; exact absurd h h6
      ·rename_i h6
       obtain ⟨_, m2, m3⟩ := lsE_zero (show lsE ts false none s.Makes = 0 by simpa using h6)
       obtain ⟨i1, i2, i3⟩ := fnE_zero h
       refine ⟨fun b hb x hx => ?_, List.pairwise_cons.2 ⟨i1 s.Name rfl, i2⟩, fun x hx => ?_⟩
       ·rcases List.mem_cons.1 hx with rfl | hx
        ·exact h2 b hb
        ·exact bl_trans (h2 b hb) (i1 s.Name rfl x hx)
       ·rcases List.mem_cons.1 hx with rfl | hx
        ·exact ⟨h1, by simpa using h3, by omega, csE_zero (by simpa using h5), m2, m3⟩
        ·exact i3 x hx
structure RightG (g : TGraph) : Prop where
 il : g.Ifaces.length ≤ 200
 tl : g.Types.length ≤ 500
 fl : g.Funcs.length ≤ 3000
 isrt : g.Ifaces.Pairwise (fun a b => Op.bytesLess a.Name b.Name = true)
 tsrt : g.Types.Pairwise (fun a b => Op.bytesLess a.Name b.Name = true)
 fsrt : g.Funcs.Pairwise (fun a b => Op.bytesLess a.Name b.Name = true)
 i : ∀ x, x ∈ g.Ifaces → RightI x
 t : ∀ x, x ∈ g.Types → RightT (fsOf g) x
 f : ∀ x, x ∈ g.Funcs → RightF (fsOf g) (tsOf g) (isOf g) x
 esrt : g.Entries.Pairwise (fun a b => Op.bytesLess a b = true)
 e : ∀ s, s ∈ g.Entries → fsOf g s = true
theorem right_of {g : TGraph} (h : chk false g = 0) : RightG g := by
 unfold chk at h
 split at h
 ·simp at h
 split at h
 ·simp at h
 split at h
 ·simp at h
 rename_i h1 h2 h3
 split at h
 ·rename_i h4; exact absurd h h4
 split at h
 ·rename_i h5; exact absurd h h5
 split at h
 ·rename_i h6; exact absurd h h6
 rename_i h4 h5 h6
 obtain ⟨_, a2, a3⟩ := ifE_zero (show ifE none g.Ifaces = 0 by simpa using h4)
 obtain ⟨_, b2, b3⟩ := tyE_zero (show tyE (fsOf g) false none g.Types = 0 by simpa using h5)
 obtain ⟨_, c2, c3⟩ := fnE_zero (show fnE (fsOf g) (tsOf g) (isOf g) false none g.Funcs = 0 by simpa using h6)
 obtain ⟨_, d2, d3⟩ := lsE_zero h
 exact ⟨by omega, by omega, by omega, a2, b2, c2, a3, b3, c3, d2, d3⟩
theorem M100_eq (F : Nat) (a b : Tx) : M100 F a b = some (if Op.bytesLess a b = true then -1 else if a = b then 0 else 1) := by
 unfold M100 M158
 simp only [beq_self_eq_true, Bool.not_true, Option.bind_some, Bool.false_eq_true, if_false]
 by_cases h : Op.bytesLess a b = true
 ·simp [h]
 ·by_cases h2 : a = b
  ·subst h2; simp [bl_irrefl]
  ·simp [h, h2]
def mlt (x : Tx) (m : TMethod) : Bool := Op.bytesLess m.Name x
theorem bs_loop (F : Nat) (a : List TMethod) (x : Tx) (k : Int → Option (Int × Bool)) (hlen : a.length ≤ 100000) (hs : a.Pairwise (fun p q => Op.bytesLess p.Name q.Name = true)) :
  ∀ (n i j : Nat), i ≤ j → j ≤ a.length → j - i < n → (∀ q (h : q < a.length), q < i → mlt x a[q] = true) → (∀ q (h : q < a.length), j ≤ q → mlt x a[q] = false) →
  ∃ p : Nat, p ≤ a.length ∧ M207_L1 F a x k n i j = k p ∧ (∀ q (h : q < a.length), q < p → mlt x a[q] = true) ∧ ∀ q (h : q < a.length), p ≤ q → mlt x a[q] = false
 | 0, i, j, _, _, h, _, _ => by omega
 | n + 1, i, j, hij, hj, hn, h1, h2 => by
  rw [M207_L1]
  by_cases hc : i < j
  ·have hm : (i + j) / 2 < a.length := by omega
   rw [if_t (by omega), mid_nat (by omega), idx_nat hm, Option.bind_some]
   unfold M208
   rw [M100_eq, Option.bind_some, Option.bind_some]
   simp only [jn_def]
   by_cases hl : Op.bytesLess (a[(i + j) / 2]).Name x = true
   ·rw [if_pos hl, if_t (by omega), show w64 ((((i + j) / 2 : Nat) : Int) + 1) = (((i + j) / 2 + 1 : Nat) : Int) by rw [w64_id (by omega) (by omega)]; rfl]
    refine bs_loop F a x k hlen hs n ((i + j) / 2 + 1) j (by omega) hj (by omega) (fun q h hq => ?_) h2
    rcases Nat.lt_or_ge q ((i + j) / 2) with hq2 | hq2
    ·have := List.pairwise_iff_getElem.1 hs q ((i + j) / 2) h hm hq2
     exact bl_trans this hl
    ·have : q = (i + j) / 2 := by omega
     subst this; exact hl
   ·rw [if_neg hl]
    have e : (if decide ((if a[(i + j) / 2].Name = x then (0 : Int) else 1) < 0) = true then M207_L1 F a x k n (w64 ((((i + j) / 2 : Nat) : Int) + 1)) j else M207_L1 F a x k n i (((i + j) / 2 : Nat) : Int)) = M207_L1 F a x k n i (((i + j) / 2 : Nat) : Int) := by
     have hh : ¬ ((if a[(i + j) / 2].Name = x then (0 : Int) else 1) < 0) := by split <;> omega
     rw [if_f hh]
    rw [e]
    refine bs_loop F a x k hlen hs n i ((i + j) / 2) (by omega) (by omega) (by omega) h1 (fun q h hq => ?_)
    have hl : Op.bytesLess (a[(i + j) / 2]).Name x = false := by simpa using hl
    rcases Nat.lt_or_ge ((i + j) / 2) q with hq2 | hq2
    ·have := List.pairwise_iff_getElem.1 hs ((i + j) / 2) q hm h hq2
     unfold mlt
     cases hh : Op.bytesLess (a[q]).Name x
     ·rfl
     ·rw [bl_trans this hh] at hl; simp at hl
    ·have : q = (i + j) / 2 := by omega
     subst this; exact hl
  ·have : i = j := by omega
   subst this
   rw [if_f (by omega)]
   exact ⟨i, hj, rfl, h1, h2⟩
def mOf (t : TType) (m : Tx) : Tx × Bool := match t.Methods.find? (fun y => y.Name == m) with | some y => (y.Func, true) | none => ([], false)
theorem M169_eq (F : Nat) (t : TType) (x : Tx) (hlen : t.Methods.length ≤ 200) (hs : t.Methods.Pairwise (fun p q => Op.bytesLess p.Name q.Name = true)) (hF : 1000 ≤ F) : M169 F t x = some (mOf t x) := by
 unfold M169 M207 mOf
 simp only [jn_def]
 obtain ⟨p, p1, p2, p3, p4⟩ := bs_loop F t.Methods x (fun n4 => if decide (n4 < ((t.Methods.length : Nat) : Int)) = true then (idx t.Methods n4).bind fun x19 => (M208 F x19 x).bind fun y21 => some (n4, y21 == 0) else some (n4, false)) (by omega) hs F 0 t.Methods.length (by omega) (Nat.le_refl _) (by omega) (fun q h hq => by omega) (fun q h hq => by omega)
 rw [show ((0 : Nat) : Int) = 0 from rfl] at p2
 rw [p2]
 by_cases hp : p < t.Methods.length
 ·rw [if_t (by omega), idx_nat hp, Option.bind_some]
  unfold M208
  rw [M100_eq, Option.bind_some, Option.bind_some, Option.bind_some]
  have hlt : Op.bytesLess (t.Methods[p]).Name x = false := p4 p hp (Nat.le_refl _)
  have ec : (if Op.bytesLess (t.Methods[p]).Name x = true then (-1 : Int) else if (t.Methods[p]).Name = x then 0 else 1) = if (t.Methods[p]).Name = x then 0 else 1 := by rw [if_neg (by simp [hlt])]
  rw [ec]
  by_cases he : (t.Methods[p]).Name = x
  ·rw [if_pos he]
   have hf : t.Methods.find? (fun y => y.Name == x) = some t.Methods[p] := by
    rw [List.find?_eq_some_iff_getElem]
    refine ⟨by simp [he], p, hp, rfl, fun j hj => ?_⟩
    have := p3 j (by omega) hj
    unfold mlt at this
    simpa using bl_ne this
   rw [hf]
   simp [idx_nat hp]
  ·rw [if_neg he]
   have hf : t.Methods.find? (fun y => y.Name == x) = none := by
    rw [List.find?_eq_none]
    intro y hy
    obtain ⟨q, hq, rfl⟩ := List.getElem_of_mem hy
    rcases Nat.lt_trichotomy q p with h | h | h
    ·have := p3 q hq h
     unfold mlt at this
     simpa using bl_ne this
    ·subst h; simpa using he
    ·have h2 := List.pairwise_iff_getElem.1 hs p q hp hq h
     have h3 : Op.bytesLess x (t.Methods[p]).Name = true := by
      rcases bl_tri (t.Methods[p]).Name x with g | g | g
      ·rw [g] at hlt; simp at hlt
      ·exact absurd g he
      ·exact g
     have := bl_ne (bl_trans h3 h2)
     simpa using fun e => this e.symm
   rw [hf]
   simp
 ·rw [if_f (by omega)]
  have hf : t.Methods.find? (fun y => y.Name == x) = none := by
   rw [List.find?_eq_none]
   intro y hy
   obtain ⟨q, hq, rfl⟩ := List.getElem_of_mem hy
   have := p3 q hq (by omega)
   unfold mlt at this
   simpa using bl_ne this
  rw [hf]
  simp
def fitB (t : TType) (x : TIface) : Bool := x.Methods.all fun m => (mOf t m).2
theorem M117_eq (F : Nat) (t : TType) (x : TIface) (hlen : t.Methods.length ≤ 200) (hs : t.Methods.Pairwise (fun p q => Op.bytesLess p.Name q.Name = true)) (hF : 1000 ≤ F) : M117 F t x = some (fitB t x) := by
 unfold M117 fitB
 rw [jn_def]
 generalize x.Methods = l
 induction l with
 | nil => rfl
 | cons m l ih =>
  rw [M117_L1, M169_eq F t m hlen hs hF, Option.bind_some, ih, List.all_cons]
  cases (mOf t m).2 <;> simp
abbrev NumM := List (Tx × Int)
def nums (m : NumM) : Int → List Tx → NumM
 | _, [] => m
 | n, x :: l => nums (mput m x n) (n + 1) l
theorem nums_other (x : Tx) : ∀ (l : List Tx) (m : NumM) (n : Int), x ∉ l → mget (nums m n l) x = mget m x
 | [], m, n, _ => rfl
 | y :: l, m, n, h => by
  rw [nums, nums_other x l _ _ (fun hh => h (List.mem_cons_of_mem _ hh)), mget_mput, if_neg (fun e => h (by rw [e]; simp))]
theorem nums_get : ∀ (l : List Tx) (m : NumM) (n : Int) (i : Nat) (h : i < l.length), l.Pairwise (fun a b => Op.bytesLess a b = true) → mget (nums m n l) l[i] = some (n + i)
 | [], m, n, i, h, _ => by simp at h
 | x :: l, m, n, 0, h, hp => by
  have hp := List.pairwise_cons.1 hp
  rw [nums, List.getElem_cons_zero, nums_other x l _ _ (fun hh => bl_ne (hp.1 x hh) rfl), mget_mput, if_pos rfl]; simp
 | x :: l, m, n, i + 1, h, hp => by
  have hp := List.pairwise_cons.1 hp
  rw [nums, List.getElem_cons_succ, nums_get l _ (n + 1) i (by simpa using h) hp.2]
  congr 1; omega
theorem M41_L1_eq {F : Nat} (k : NumM → Option (Option Treach_world)) : ∀ (l : List TFunc) (n : Int) (m : NumM), M41_L1 F k l n m = k (nums m n (l.map (·.Name)))
 | [], n, m => rfl
 | x :: l, n, m => by rw [M41_L1, M41_L1_eq k l]; rfl
theorem M41_L2_eq {F : Nat} (k : NumM → Option (Option Treach_world)) : ∀ (l : List TType) (n : Int) (m : NumM), M41_L2 F k l n m = k (nums m n (l.map (·.Name)))
 | [], n, m => rfl
 | x :: l, n, m => by rw [M41_L2, M41_L2_eq k l]; rfl
theorem M41_L5_eq {F : Nat} (k : SetM → Option (Option Treach_world)) : ∀ (l : List Tx) (m : SetM), M41_L5 F k l m = k (sset m l)
 | [], m => rfl
 | x :: l, m => by rw [M41_L5, M41_L5_eq k l]; rfl
abbrev FitM := List (Tx × List Int)
def fitIdx (x : TIface) : Int → List TType → List Int
 | _, [] => []
 | n, t :: l => if fitB t x = true then n :: fitIdx x (n + 1) l else fitIdx x (n + 1) l
theorem fitIdx_len (x : TIface) : ∀ (l : List TType) (n : Int), (fitIdx x n l).length ≤ l.length
 | [], n => by simp [fitIdx]
 | t :: l, n => by
  have := fitIdx_len x l (n + 1)
  rw [fitIdx]
  split <;> simp <;> omega
theorem fitIdx_mem (x : TIface) : ∀ (l : List TType) (n : Int) (t : Int), t ∈ fitIdx x n l ↔ ∃ i : Nat, ∃ h : i < l.length, t = n + i ∧ fitB l[i] x = true
 | [], n, t => by simp [fitIdx]
 | y :: l, n, t => by
  have ih := fitIdx_mem x l (n + 1) t
  rw [fitIdx]
  constructor
  ·intro h
   have : (t = n ∧ fitB y x = true) ∨ t ∈ fitIdx x (n + 1) l := by
    split at h
    ·rename_i hf
     rcases List.mem_cons.1 h with rfl | h
     ·exact .inl ⟨rfl, hf⟩
     ·exact .inr h
    ·exact .inr h
   rcases this with ⟨rfl, hf⟩ | h
   ·exact ⟨0, by simp, by simp, hf⟩
   ·obtain ⟨i, h1, h2, h3⟩ := ih.1 h
    exact ⟨i + 1, by simpa using h1, by rw [h2]; omega, h3⟩
  ·rintro ⟨i, h1, h2, h3⟩
   cases i with
   | zero =>
    have h3 : fitB y x = true := h3
    rw [if_pos h3]; simp at h2; simp [h2]
   | succ i =>
    have : t ∈ fitIdx x (n + 1) l := ih.2 ⟨i, by simpa using h1, by rw [h2]; omega, h3⟩
    split
    ·exact List.mem_cons_of_mem _ this
    ·exact this
def putFit (T : List TType) (m : FitM) (x : TIface) : FitM := if (fitIdx x 0 T).isEmpty = true then m else mput m x.Name ((mget m x.Name).getD [] ++ fitIdx x 0 T)
theorem M41_L4_eq (F : Nat) (x : TIface) (k : FitM → Option (Option Treach_world)) (hF : 1000 ≤ F) : ∀ (l : List TType) (n : Int) (m : FitM), (∀ t, t ∈ l → t.Methods.length ≤ 200 ∧ t.Methods.Pairwise (fun p q => Op.bytesLess p.Name q.Name = true)) →
  ((mget m x.Name).getD []).length + l.length ≤ 100000 → M41_L4 F x k l n m = k (if (fitIdx x n l).isEmpty = true then m else mput m x.Name ((mget m x.Name).getD [] ++ fitIdx x n l))
 | [], n, m, _, _ => by simp [M41_L4, fitIdx]
 | t :: l, n, m, ht, hb => by
  obtain ⟨t1, t2⟩ := ht t (by simp)
  simp only [List.length_cons] at hb
  rw [M41_L4, M117_eq F t x t1 t2 hF, Option.bind_some]
  simp only [jn_def]
  by_cases hf : fitB t x = true
  ·rw [show fitIdx x n (t :: l) = n :: fitIdx x (n + 1) l by rw [fitIdx, if_pos hf]]
   rw [if_pos hf, if_pos (by simp; omega), M41_L4_eq F x k hF l (n + 1) _ (fun q hq => ht q (List.mem_cons_of_mem _ hq)) (by rw [mget_mput, if_pos rfl]; simp; omega)]
   congr 1
   rw [mget_mput, if_pos rfl, Option.getD_some, if_neg (show ¬ (n :: fitIdx x (n + 1) l).isEmpty = true by simp)]
   split
   ·rename_i he; rw [List.isEmpty_iff.1 he]
   ·rw [mput_mput]; simp
  ·rw [show fitIdx x n (t :: l) = fitIdx x (n + 1) l by rw [fitIdx, if_neg hf]]
   rw [if_neg hf, M41_L4_eq F x k hF l (n + 1) m (fun q hq => ht q (List.mem_cons_of_mem _ hq)) (by omega)]
def fitM (T : List TType) (m : FitM) : List TIface → FitM
 | [] => m
 | x :: l => fitM T (putFit T m x) l
theorem putFit_get (T : List TType) (m : FitM) (x : TIface) (n : Tx) : (mget (putFit T m x) n).getD [] = (mget m n).getD [] ++ if x.Name = n then fitIdx x 0 T else [] := by
 unfold putFit
 by_cases h : fitIdx x 0 T = []
 ·rw [if_pos (by rw [h]; rfl), h]; simp
 ·rw [if_neg (by simpa using h), mget_mput]
  by_cases h2 : x.Name = n
  ·subst h2; simp
  ·rw [if_neg h2, if_neg h2]; simp
theorem M41_L3_eq (F : Nat) (g : TGraph) (k : FitM → Option (Option Treach_world)) (hF : 1000 ≤ F) (hT : ∀ t, t ∈ g.Types → t.Methods.length ≤ 200 ∧ t.Methods.Pairwise (fun p q => Op.bytesLess p.Name q.Name = true)) (htl : g.Types.length ≤ 500) :
  ∀ (l : List TIface) (m : FitM), l.Pairwise (fun a b => Op.bytesLess a.Name b.Name = true) → (∀ x, x ∈ l → (mget m x.Name).getD [] = []) → M41_L3 F g k l m = k (fitM g.Types m l)
 | [], m, _, _ => rfl
 | x :: l, m, hp, hm => by
  have hp := List.pairwise_cons.1 hp
  rw [M41_L3]
  simp only [jn_def]
  rw [M41_L4_eq F x _ hF g.Types 0 m hT (by rw [hm x (by simp)]; simp; omega)]
  rw [M41_L3_eq F g k hF hT htl l _ hp.2 (fun y hy => by
   have := putFit_get g.Types m x y.Name
   unfold putFit at this
   rw [this, hm y (List.mem_cons_of_mem _ hy), if_neg (bl_ne (hp.1 y hy))]; rfl)]
  rfl
theorem fitM_get (T : List TType) (n : Tx) : ∀ (l : List TIface) (m : FitM), l.Pairwise (fun a b => Op.bytesLess a.Name b.Name = true) → (mget (fitM T m l) n).getD [] = (mget m n).getD [] ++ ((l.find? fun x => x.Name == n).elim [] fun x => fitIdx x 0 T)
 | [], m, _ => by simp [fitM]
 | x :: l, m, hp => by
  have hp := List.pairwise_cons.1 hp
  rw [fitM, fitM_get T n l _ hp.2, putFit_get, List.find?_cons]
  by_cases h : x.Name = n
  ·have h2 : l.find? (fun x => x.Name == n) = none := by
    rw [List.find?_eq_none]
    intro y hy
    have := bl_ne (hp.1 y hy)
    rw [h] at this
    simpa using fun e => this e.symm
   rw [if_pos h, h2, show (x.Name == n) = true by simpa using h]; simp
  ·rw [if_neg h, show (x.Name == n) = false by simpa using h]; simp
def wOf (g : TGraph) (how : Int) (fs : List Tx) : Treach_world :=
 Treach_world.mk g (nums [] 0 (g.Funcs.map (·.Name))) (nums [] 0 (g.Types.map (·.Name))) (fitM g.Types [] g.Ifaces) (sset (mput [] [] true) fs) (how == 2)
theorem M41_eq (F : Nat) (g : TGraph) (how : Int) (fs : List Tx) (R : RightG g) (hF : 1000 ≤ F) : M41 F g how fs = some (some (wOf g how fs)) := by
 unfold M41
 simp only [jn_def, M41_L1_eq, M41_L2_eq, M41_L5_eq]
 rw [M41_L3_eq F g _ hF (fun t ht => ⟨(R.t t ht).len, (R.t t ht).srt⟩) R.tl g.Ifaces [] R.isrt (fun x _ => rfl)]
 rfl
def opnE (g : TGraph) (how : Int) (fs : List Tx) : Int := if chk false g ≠ 0 then chk false g else if feE fs ≠ 0 then feE fs else if how = 1 ∨ how = 2 then 0 else 7
theorem M78_eq (F : Nat) (g : TGraph) (how : Int) (fs : List Tx) (hg : okTGraph g) (hfs : ∀ x, x ∈ fs → x.length ≤ maxLen) (hF : 1000 ≤ F) : M78 F g how fs = some (if opnE g how fs ≠ 0 then none else some (wOf g how fs), opnE g how fs) := by
 unfold M78 opnE
 rw [M17_eq F g hg, Option.bind_some, M143_eq F fs hfs, Option.bind_some]
 by_cases h1 : chk false g = 0
 ·rw [if_neg (by simp [h1]), if_neg (show ¬ chk false g ≠ 0 by simp [h1])]
  by_cases h2 : feE fs = 0
  ·rw [if_neg (by simp [h2]), if_neg (show ¬ feE fs ≠ 0 by simp [h2]), M41_eq F g how fs (right_of h1) hF]
   by_cases h3 : how = 1
   ·simp [h3]
   ·by_cases h4 : how = 2
    ·simp [h4]
    ·simp [h3, h4]
  ·rw [if_pos (by simpa using h2), if_pos h2]; simp [h2]
 ·rw [if_pos (by simpa using h1), if_pos h1]; simp [h1]
def fI (w : Treach_world) (x : Tx) : Int := (mget w.funcs x).getD 0
def onB (w : Treach_world) (x : Tx) : Bool := (mget w.on x).getD false
def fitL (w : Treach_world) (x : Tx) : List Int := (mget w.fitting x).getD []
theorem srt_names {α : Type} {f : α → Tx} {l : List α} (h : l.Pairwise (fun a b => Op.bytesLess (f a) (f b) = true)) : (l.map f).Pairwise (fun a b => Op.bytesLess a b = true) := by
 rw [List.pairwise_map]; exact h
theorem onB_eq (g : TGraph) (how : Int) (fs : List Tx) (x : Tx) : onB (wOf g how fs) x = (decide (x = []) || fs.contains x) := by
 unfold onB wOf
 simp only
 have := has_sset x fs (mput [] [] true)
 unfold has at this
 rw [this]
 congr 1
 rw [mget_mput]
 by_cases h : x = []
 ·subst h; simp
 ·rw [if_neg (fun e => h e.symm)]; simp [mget, h]
theorem M191_eq (F : Nat) (t : TType) (m : Tx) : M191 F t m = some (mOf t m) := by
 have key : ∀ l : List TMethod, M191_L1 F m (some ([], false)) l = some (match l.find? (fun y => y.Name == m) with | some y => (y.Func, true) | none => ([], false)) := by
  intro l
  induction l with
  | nil => rfl
  | cons x l ih =>
   rw [M191_L1, List.find?_cons]
   by_cases h : (x.Name == m) = true
   ·rw [if_pos h, h]
   ·rw [if_neg h, ih]
    have : (x.Name == m) = false := by simpa using h
    rw [this]
 unfold M191
 rw [jn_def, key]; rfl
theorem M192_eq (F : Nat) (t : TType) (i : TIface) : M192 F t i = some (fitB t i) := by
 have key : ∀ l : List Tx, M192_L1 F t (some true) l = some (l.all fun m => (mOf t m).2) := by
  intro l
  induction l with
  | nil => rfl
  | cons x l ih =>
   rw [M192_L1, M191_eq, Option.bind_some, List.all_cons]
   cases h : (mOf t x).2
   ·simp
   ·rw [if_neg (by simp), ih]; simp
 unfold M192
 rw [jn_def, key]; rfl
def ifG (g : TGraph) (n : Tx) : TIface := (g.Ifaces.find? fun x => x.Name == n).getD (TIface.mk [] [])
theorem M190_eq (F : Nat) (g : TGraph) (n : Tx) : ∃ b, M190 F g n = some (ifG g n, b) := by
 have key : ∀ l : List TIface, ∃ b, M190_L1 F n (some (TIface.mk [] [], false)) l = some ((l.find? fun x => x.Name == n).getD (TIface.mk [] []), b) := by
  intro l
  induction l with
  | nil => exact ⟨false, rfl⟩
  | cons x l ih =>
   rw [M190_L1, List.find?_cons]
   by_cases h : (x.Name == n) = true
   ·rw [if_pos h, h]; exact ⟨true, rfl⟩
   ·rw [if_neg h]
    have : (x.Name == n) = false := by simpa using h
    rw [this]; exact ih
 unfold M190
 rw [jn_def]; exact key _
def aimO (g : TGraph) (c : TCall) (t : TType) : Option Tprovenderref6_aim := if (mOf t c.Method).2 = true ∧ fitB t (ifG g c.Target) = true then some (Tprovenderref6_aim.mk t.Name (mOf t c.Method).1) else none
def aimsG (g : TGraph) (c : TCall) : List Tprovenderref6_aim := if c.Kind = 1 then [Tprovenderref6_aim.mk [] c.Target] else g.Types.filterMap (aimO g c)
theorem M146_L1_eq (F : Nat) (g : TGraph) (c : TCall) (b : Bool) (k : List Tprovenderref6_aim → Option (List Tprovenderref6_aim)) : ∀ (l : List TType) (o : List Tprovenderref6_aim), o.length + l.length ≤ 1000 →
  M146_L1 F c (ifG g c.Target, b) k l o = k (o ++ l.filterMap (aimO g c))
 | [], o, _ => by simp [M146_L1]
 | t :: l, o, h => by
  simp only [List.length_cons] at h
  rw [M146_L1, jn_def]
  simp only [jn_def]
  rw [M191_eq, Option.bind_some]
  by_cases h1 : (mOf t c.Method).2 = true
  ·rw [if_pos h1, M192_eq, Option.bind_some]
   by_cases h2 : fitB t (ifG g c.Target) = true
   ·rw [if_pos h2, if_pos (by simp; omega), M146_L1_eq F g c b k l _ (by simp; omega), List.filterMap_cons]
    simp [aimO, h1, h2]
   ·rw [if_neg h2, M146_L1_eq F g c b k l _ (by omega), List.filterMap_cons]
    simp [aimO, h2]
  ·rw [if_neg h1, M146_L1_eq F g c b k l _ (by omega), List.filterMap_cons]
   simp [aimO, h1]
theorem M146_eq (F : Nat) (g : TGraph) (c : TCall) (h : g.Types.length ≤ 500) : M146 F g c = some (aimsG g c) := by
 unfold M146 aimsG
 by_cases hk : c.Kind = 1
 ·rw [if_pos (by simp [hk]), if_pos hk]
 ·rw [if_neg (by simpa using hk), if_neg hk]
  obtain ⟨b, hb⟩ := M190_eq F g c.Target
  rw [hb, Option.bind_some, jn_def, M146_L1_eq F g c b _ _ _ (by simp; omega)]
  rfl
theorem aimsG_key (g : TGraph) (c : TCall) : aimsG g c = aimsG g (TCall.mk c.Kind c.Target c.Method []) := rfl
def lks (g : TGraph) (on : Tx → Bool) (name : Tx) : Int → List TCall → List Tprovenderref6_link
 | _, [] => []
 | n, c :: l => if on c.Feature = true then Tprovenderref6_link.mk (TSite.mk name n) (aimsG g c) :: lks g on name (n + 1) l else lks g on name (n + 1) l
def KOk (g : TGraph) (m : List (TCall × (List Tprovenderref6_aim))) : Prop := ∀ k l, mget m k = some l → l = aimsG g k
def lkD (m : List (Tx × (List Tprovenderref6_link))) (x : Tx) : List Tprovenderref6_link := (mget m x).getD []
theorem lkD_put (m : List (Tx × (List Tprovenderref6_link))) (x y : Tx) (v : List Tprovenderref6_link) : lkD (mput m x v) y = if x = y then v else lkD m y := by
 unfold lkD
 rw [mget_mput]
 split <;> rfl
theorem M83_L3_eq (F : Nat) (g : TGraph) (hg : g.Types.length ≤ 500) (m4 : SetM) (x : TFunc) (k : List (TCall × (List Tprovenderref6_aim)) → List (Tx × (List Tprovenderref6_link)) → Option Tprovenderref6_net) :
  ∀ (l : List TCall) (n : Int) (kn : List (TCall × (List Tprovenderref6_aim))) (lk : List (Tx × (List Tprovenderref6_link))), KOk g kn → (lkD lk x.Name).length + l.length ≤ 1000 →
  ∃ kn' lk', M83_L3 F g m4 x k l n kn lk = k kn' lk' ∧ KOk g kn' ∧ ∀ y, lkD lk' y = if x.Name = y then lkD lk x.Name ++ lks g (has m4) x.Name n l else lkD lk y
 | [], n, kn, lk, hk, _ => ⟨kn, lk, rfl, hk, fun y => by simp only [lks, List.append_nil]; split; rename_i h; rw [h]; rfl⟩
 | c :: l, n, kn, lk, hk, hs => by
  simp only [List.length_cons] at hs
  rw [M83_L3, jn_def]
  simp only [jn_def]
  by_cases ho : has m4 c.Feature = true
  ·have ho' : (mget m4 c.Feature).getD false = true := ho
   rw [if_neg (by rw [ho']; simp)]
   have step : ∀ kn2, KOk g kn2 → ∃ kn' lk', (if ((mget lk x.Name).getD [] ++ [Tprovenderref6_link.mk (TSite.mk x.Name n) (aimsG g c)]).length * 48 ≤ 140737488355328 then
     M83_L3 F g m4 x k l (n + 1) kn2 (mput lk x.Name ((mget lk x.Name).getD [] ++ [Tprovenderref6_link.mk (TSite.mk x.Name n) (aimsG g c)])) else none) = k kn' lk' ∧ KOk g kn' ∧
     ∀ y, lkD lk' y = if x.Name = y then lkD lk x.Name ++ lks g (has m4) x.Name n (c :: l) else lkD lk y := by
    intro kn2 hk2
    have hlen : ((mget lk x.Name).getD []).length + l.length + 1 ≤ 1000 := by
     have : (lkD lk x.Name).length + (l.length + 1) ≤ 1000 := hs
     unfold lkD at this; omega
    rw [if_pos (by simp; omega)]
    obtain ⟨kn', lk', e1, e2, e3⟩ := M83_L3_eq F g hg m4 x k l (n + 1) kn2 (mput lk x.Name ((mget lk x.Name).getD [] ++ [Tprovenderref6_link.mk (TSite.mk x.Name n) (aimsG g c)])) hk2 (by rw [lkD_put, if_pos rfl]; simp; omega)
    refine ⟨kn', lk', e1, e2, fun y => ?_⟩
    rw [e3, lkD_put, if_pos rfl, lkD_put]
    by_cases hy : x.Name = y
    ·rw [if_pos hy, if_pos hy, lks, if_pos ho, List.append_assoc]; rfl
    ·rw [if_neg hy, if_neg hy, if_neg hy]
   by_cases hm : (mget kn (TCall.mk c.Kind c.Target c.Method [])).isSome = true
   ·rw [if_neg (by rw [hm]; simp)]
    obtain ⟨v, hv⟩ := Option.isSome_iff_exists.1 hm
    rw [hv, Option.getD_some, hk _ _ hv, ← aimsG_key]
    exact step kn hk
   ·have hm' : (mget kn (TCall.mk c.Kind c.Target c.Method [])).isSome = false := by simpa using hm
    rw [if_pos (by rw [hm']; rfl), M146_eq F g c hg, Option.bind_some]
    refine step _ (fun k' l' h => ?_)
    rw [mget_mput] at h
    split at h
    ·rename_i e; subst e; simp at h; rw [← h]; exact aimsG_key g c
    ·exact hk k' l' h
  ·have ho' : (mget m4 c.Feature).getD false = false := by simpa [has] using ho
   rw [if_pos (by rw [ho']; rfl)]
   obtain ⟨kn', lk', e1, e2, e3⟩ := M83_L3_eq F g hg m4 x k l (n + 1) kn lk hk (by omega)
   exact ⟨kn', lk', e1, e2, fun y => by rw [e3, lks, if_neg ho]⟩
theorem M83_L2_eq (F : Nat) (g : TGraph) (hg : g.Types.length ≤ 500) (m4 : SetM) (k : List (Tx × (List Tprovenderref6_link)) → List (Tx × TFunc) → Option Tprovenderref6_net) :
  ∀ (l : List TFunc) (kn : List (TCall × (List Tprovenderref6_aim))) (lk : List (Tx × (List Tprovenderref6_link))) (fm : List (Tx × TFunc)), KOk g kn → (∀ x, x ∈ l → x.Calls.length ≤ 200) → (∀ x, x ∈ l → lkD lk x.Name = []) →
  l.Pairwise (fun a b => Op.bytesLess a.Name b.Name = true) →
  ∃ lk' fm', M83_L2 F g m4 k l kn lk fm = k lk' fm' ∧ (∀ x, x ∈ l → lkD lk' x.Name = lks g (has m4) x.Name 0 x.Calls ∧ mget fm' x.Name = some x) ∧ ∀ y, (∀ x, x ∈ l → x.Name ≠ y) → lkD lk' y = lkD lk y ∧ mget fm' y = mget fm y
 | [], kn, lk, fm, _, _, _, _ => ⟨lk, fm, rfl, by simp, fun _ _ => ⟨rfl, rfl⟩⟩
 | x :: l, kn, lk, fm, hk, hc, hz, hp => by
  rw [M83_L2, jn_def]
  simp only [jn_def]
  obtain ⟨kn1, lk1, e1, e2, e3⟩ := M83_L3_eq F g hg m4 x (fun m32 m33 => M83_L2 F g m4 k l m32 m33 (mput fm x.Name x)) x.Calls 0 kn lk hk (by rw [hz x (by simp)]; have := hc x (by simp); simp; omega)
  rw [e1]
  rw [List.pairwise_cons] at hp
  have hne : ∀ z, z ∈ l → x.Name ≠ z.Name := fun z hz => bl_ne (hp.1 z hz)
  obtain ⟨lk', fm', f1, f2, f3⟩ := M83_L2_eq F g hg m4 k l kn1 lk1 (mput fm x.Name x) e2 (fun z hz => hc z (List.mem_cons_of_mem _ hz)) (fun z hz' => by rw [e3, if_neg (hne z hz')]; exact hz z (List.mem_cons_of_mem _ hz')) hp.2
  refine ⟨lk', fm', f1, fun z hz' => ?_, fun y hy => ?_⟩
  ·rcases List.mem_cons.1 hz' with e | e
   ·subst e
    obtain ⟨g1, g2⟩ := f3 z.Name (fun q hq => Ne.symm (hne q hq))
    rw [g1, g2, e3, if_pos rfl, hz z (by simp), mget_mput, if_pos rfl]
    exact ⟨rfl, rfl⟩
   ·exact f2 z e
  ·obtain ⟨g1, g2⟩ := f3 y (fun q hq => hy q (List.mem_cons_of_mem _ hq))
   rw [g1, g2, e3, if_neg (hy x (by simp)), mget_mput, if_neg (hy x (by simp))]
   exact ⟨rfl, rfl⟩
theorem M83_L1_eq (F : Nat) (k : SetM → Option Tprovenderref6_net) : ∀ (l : List Tx) (m : SetM), M83_L1 F k l m = k (sset m l)
 | [], m => rfl
 | x :: l, m => by rw [M83_L1, M83_L1_eq F k l]; rfl
def onF (fs : List Tx) (x : Tx) : Bool := decide (x = []) || fs.contains x
theorem has_onF (fs : List Tx) (x : Tx) : has (sset (mput [] [] true) fs) x = onF fs x := by
 rw [has_sset]
 unfold onF
 congr 1
 unfold has
 rw [mget_mput]
 by_cases h : x = []
 ·subst h; simp
 ·rw [if_neg (fun e => h e.symm)]; simp [mget, h]
structure NetOk (g : TGraph) (fs : List Tx) (n : Tprovenderref6_net) : Prop where
 gr : n.g = g
 l : ∀ x, x ∈ g.Funcs → linksN n x.Name = lks g (onF fs) x.Name 0 x.Calls
 f : ∀ x, x ∈ g.Funcs → funcN n x.Name = x
theorem lks_congr (g : TGraph) {on on' : Tx → Bool} (h : ∀ x, on x = on' x) (name : Tx) : ∀ (l : List TCall) (n : Int), lks g on name n l = lks g on' name n l
 | [], _ => rfl
 | c :: l, n => by rw [lks, lks, h, lks_congr g h name l]
theorem M83_eq (F : Nat) (g : TGraph) (fs : List Tx) (R : RightG g) : ∃ n, M83 F g fs = some n ∧ NetOk g fs n := by
 unfold M83
 rw [jn_def, M83_L1_eq]
 simp only [jn_def]
 obtain ⟨lk, fm, e1, e2, _⟩ := M83_L2_eq F g R.tl (sset (mput [] [] true) fs) (fun m14 m15 => some (Tprovenderref6_net.mk g m14 m15)) g.Funcs [] [] [] (by intro k l h; simp [mget] at h) (fun x hx => (R.f x hx).len) (fun _ _ => rfl) R.fsrt
 rw [e1]
 refine ⟨_, rfl, rfl, fun x hx => ?_, fun x hx => ?_⟩
 ·exact (e2 x hx).1.trans (lks_congr g (has_onF fs) _ _ _)
 ·show (mget fm x.Name).getD _ = x
  rw [(e2 x hx).2]; rfl
theorem in_names {g : TGraph} {x : Tx} : fsOf g x = true ↔ ∃ f, f ∈ g.Funcs ∧ f.Name = x := by
 unfold fsOf; simp
theorem mOf_some {t : TType} {m : Tx} (h : (mOf t m).2 = true) : ∃ y, y ∈ t.Methods ∧ y.Name = m ∧ (mOf t m).1 = y.Func := by
 unfold mOf at h ⊢
 cases hf : t.Methods.find? (fun y => y.Name == m) with
 | none => rw [hf] at h; simp at h
 | some y => exact ⟨y, List.mem_of_find?_eq_some hf, by have := List.find?_some hf; simpa using this, rfl⟩
theorem aim_fs {g : TGraph} (R : RightG g) {x : TFunc} (hx : x ∈ g.Funcs) {c : TCall} (hc : c ∈ x.Calls) {a : Tprovenderref6_aim} (ha : a ∈ aimsG g c) : fsOf g a.to = true := by
 have C := (R.f x hx).calls c hc
 unfold aimsG at ha
 split at ha
 ·rename_i hk
  simp at ha; subst ha
  rcases C.kind with ⟨_, h, _⟩ | ⟨h, _⟩
  ·exact h
  ·rw [hk] at h; simp at h
 ·obtain ⟨t, ht, h⟩ := List.mem_filterMap.1 ha
  unfold aimO at h
  split at h
  ·rename_i h1
   simp at h; subst h
   obtain ⟨y, h2, _, h3⟩ := mOf_some h1.1
   show fsOf g (mOf t c.Method).1 = true
   rw [h3]; exact ((R.t t ht).mn y h2).2
  ·simp at h
section
variable {g : TGraph} {fs : List Tx} {n : Tprovenderref6_net} {how : Int}
end
theorem find_uniq {α : Type} {f : α → Tx} : ∀ {l : List α}, l.Pairwise (fun a b => Op.bytesLess (f a) (f b) = true) → ∀ {x : α}, x ∈ l → l.find? (fun y => f y == f x) = some x
 | y :: l, hp, x, hx => by
  rw [List.pairwise_cons] at hp
  rw [List.find?_cons]
  rcases List.mem_cons.1 hx with e | e
  ·subst e; simp
  ·have : (f y == f x) = false := by simpa using bl_ne (hp.1 x e)
   rw [this]; exact find_uniq hp.2 e
theorem ifm_get (t : Tx) (i : TIface) : ∀ (l : List TIface) (m : List (Tx × TIface)), mget (ifm m l) t = some i → (i ∈ l ∧ i.Name = t) ∨ mget m t = some i
 | [], m, h => .inr h
 | x :: l, m, h => by
  rcases ifm_get t i l _ h with h | h
  ·exact .inl ⟨List.mem_cons_of_mem _ h.1, h.2⟩
  ·rw [mget_mput] at h
   split at h
   ·rename_i e; simp at h; subst h; exact .inl ⟨List.mem_cons_self, e⟩
   ·exact .inr h
theorem is_iface {g : TGraph} (R : RightG g) {t : Tx} {l : List Tx} (h : isOf g t = some l) : ∃ i, i ∈ g.Ifaces ∧ i.Name = t ∧ i.Methods = l ∧ g.Ifaces.find? (fun y => y.Name == t) = some i := by
 unfold isOf at h
 rw [Option.map_eq_some_iff] at h
 obtain ⟨i, h1, h2⟩ := h
 rcases ifm_get t i _ _ h1 with h | h
 ·exact ⟨i, h.1, h.2, h2, by rw [← h.2]; exact find_uniq (f := TIface.Name) R.isrt h.1⟩
 ·simp [mget] at h
theorem fit_iff {g : TGraph} (R : RightG g) (how : Int) (fs : List Tx) {n : Tx} {i : TIface} (hf : g.Ifaces.find? (fun y => y.Name == n) = some i) (t : Int) : t ∈ fitL (wOf g how fs) n ↔ ∃ j : Nat, ∃ h : j < g.Types.length, t = j ∧ fitB g.Types[j] i = true := by
 unfold fitL wOf
 simp only
 rw [fitM_get g.Types n g.Ifaces [] R.isrt]
 simp only [mget, Option.getD_none, List.nil_append]
 rw [hf]
 show t ∈ fitIdx i 0 g.Types ↔ _
 rw [fitIdx_mem]
 simp
theorem fI_at {g : TGraph} (R : RightG g) (how : Int) (fs : List Tx) {i : Nat} (h : i < g.Funcs.length) : fI (wOf g how fs) (g.Funcs[i]).Name = i := by
 unfold fI wOf
 simp only
 have := nums_get (g.Funcs.map (·.Name)) [] 0 i (by simpa using h) (srt_names R.fsrt)
 simp only [List.getElem_map] at this
 rw [this]; simp
theorem fs_at {g : TGraph} {x : Tx} (h : fsOf g x = true) : ∃ i : Nat, ∃ h : i < g.Funcs.length, (g.Funcs[i]).Name = x := by
 obtain ⟨f, hf, rfl⟩ := in_names.1 h
 obtain ⟨i, hi, rfl⟩ := List.getElem_of_mem hf
 exact ⟨i, hi, rfl⟩
theorem M151_at {F : Nat} (hF : 1000 ≤ F) {g : TGraph} (R : RightG g) (how : Int) (fs : List Tx) (c : TCall) {i : Nat} (hi : i < g.Types.length) : M151 F (wOf g how fs) c (i : Int) = some (fI (wOf g how fs) (mOf g.Types[i] c.Method).1) := by
 have hT := R.t g.Types[i] (List.getElem_mem _)
 unfold M151
 rw [show idx (wOf g how fs).g.Types (i : Int) = some g.Types[i] from idx_nat hi, Option.bind_some, M169_eq F _ _ hT.len hT.srt hF, Option.bind_some]
 rfl
theorem dis_aim {g : TGraph} (R : RightG g) {x : TFunc} (hx : x ∈ g.Funcs) {c : TCall} (hc : c ∈ x.Calls) (k : c.Kind ≠ 1) : ∃ i, i ∈ g.Ifaces ∧ g.Ifaces.find? (fun y => y.Name == c.Target) = some i ∧ ifG g c.Target = i ∧ ∀ t, fitB t i = true → (mOf t c.Method).2 = true := by
 rcases ((R.f x hx).calls c hc).kind with ⟨h, _⟩ | ⟨_, l, h1, h2⟩
 ·exact absurd h k
 ·obtain ⟨i, i1, i2, i3, i4⟩ := is_iface R h1
  refine ⟨i, i1, i4, by unfold ifG; rw [i4]; rfl, fun t ht => ?_⟩
  unfold fitB at ht
  rw [List.all_eq_true] at ht
  exact ht _ (by rw [i3]; exact h2)
theorem cpt_memI (l : List Int) (x : Int) : x ∈ cpt l ↔ x ∈ l := by
 unfold cpt Lib.compact Lib.compactUpTo
 rw [List.mem_map]
 constructor
 ·rintro ⟨j, hj, rfl⟩
  have hlt := List.mem_range.1 (List.mem_filter.1 hj).1
  rw [getElem!_pos l.toArray j (by simpa using hlt)]
  simp
 ·intro hx
  have key : ∀ j, j < l.length → ∃ i, i ≤ j ∧ Lib.keeps l.toArray i = true ∧ l.toArray[i]! = l.toArray[j]! := by
   intro j
   induction j with
   | zero => exact fun _ => ⟨0, Nat.le_refl _, by simp [Lib.keeps], rfl⟩
   | succ j ih =>
    intro hj
    by_cases he : l.toArray[j + 1]! = l.toArray[j]!
    ·obtain ⟨i, h1, h2, h3⟩ := ih (by omega)
     exact ⟨i, by omega, h2, h3.trans he.symm⟩
    ·exact ⟨j + 1, Nat.le_refl _, by simp only [Lib.keeps, Nat.add_sub_cancel]; exact decide_eq_true (.inr he), rfl⟩
  obtain ⟨j, hj, rfl⟩ := List.getElem_of_mem hx
  obtain ⟨i, h1, h2, h3⟩ := key j hj
  refine ⟨i, List.mem_filter.2 ⟨List.mem_range.2 (by omega), h2⟩, ?_⟩
  rw [h3, getElem!_pos l.toArray j (by simpa using hj)]
  simp
theorem cpt_srtI {l : List Int} (h : l.Pairwise (· ≤ ·)) : (cpt l).Pairwise (· < ·) := by
 unfold cpt Lib.compact Lib.compactUpTo
 rw [List.pairwise_map]
 have hr : ((List.range l.length).filter (Lib.keeps l.toArray)).Pairwise (· < ·) := List.pairwise_lt_range.filter _
 refine List.Pairwise.imp_of_mem ?_ hr
 intro i j hi hj hlt
 have hj1 := List.mem_range.1 (List.mem_filter.1 hj).1
 have hj2 := (List.mem_filter.1 hj).2
 simp only [Lib.keeps, decide_eq_true_eq] at hj2
 have hne : l.toArray[j]! ≠ l.toArray[j - 1]! := hj2.resolve_left (by omega)
 rw [getElem!_pos l.toArray j (by simpa using hj1), getElem!_pos l.toArray (j - 1) (by simp; omega)] at hne
 rw [getElem!_pos l.toArray i (by simp; omega), getElem!_pos l.toArray j (by simpa using hj1)]
 simp only [List.getElem_toArray] at hne ⊢
 rw [List.pairwise_iff_getElem] at h
 have a1 : l[j - 1] ≤ l[j] := h (j - 1) j (by omega) hj1 (by omega)
 have a2 : l[i] ≤ l[j - 1] := by
  by_cases e : i = j - 1
  ·subst e; exact Int.le_refl _
  ·exact h i (j - 1) (by omega) (by omega) (by omega)
 omega
theorem isort_perm (l : List Int) : (isort l).Perm l := List.mergeSort_perm _ _
theorem isort_srt (l : List Int) : (isort l).Pairwise (· ≤ ·) := by
 have := List.pairwise_mergeSort (le := fun x y : Int => decide (x ≤ y)) (fun a b c h h' => by simp only [decide_eq_true_eq] at *; omega) (fun a b => by simp only [Bool.or_eq_true, decide_eq_true_eq]; omega) l
 exact this.imp (fun h => by simpa using h)
theorem M92_L1_eq (F : Nat) (w : Treach_world) (c : TCall) (k : List Int → Option (List Int)) (f : Int → Int) : ∀ (l : List Int) (o : List Int), (∀ t, t ∈ l → M151 F w c t = some (f t)) → o.length + l.length ≤ 100000 → M92_L1 F w c k l o = k (o ++ l.map f)
 | [], o, _, _ => by simp [M92_L1]
 | t :: l, o, h, hl => by
  simp only [List.length_cons] at hl
  rw [M92_L1, h t (by simp), Option.bind_some, if_pos (by simp; omega), M92_L1_eq F w c k f l _ (fun t ht => h t (List.mem_cons_of_mem _ ht)) (by simp; omega)]
  simp
structure TgtOk (g : TGraph) (c : TCall) (l : List Int) : Prop where
 srt : l.Pairwise (· < ·)
 len : l.length ≤ 500
 nat : ∀ v, v ∈ l → ∃ i : Nat, i < g.Funcs.length ∧ v = i
 mem : ∀ i : Nat, ∀ h : i < g.Funcs.length, (i : Int) ∈ l ↔ ∃ a, a ∈ aimsG g c ∧ a.to = (g.Funcs[i]).Name
theorem cpt_lenI (l : List Int) : (cpt l).length ≤ l.length := cpt_len l
theorem M92_eq (F : Nat) (hF : 1000 ≤ F) {g : TGraph} (R : RightG g) (how : Int) (fs : List Tx) {x : TFunc} (hx : x ∈ g.Funcs) {c : TCall} (hc : c ∈ x.Calls) : ∃ l, M92 F (wOf g how fs) c = some l ∧ TgtOk g c l := by
 unfold M92
 by_cases k : c.Kind = 1
 ·rw [if_pos (by simp [k])]
  have ha : Tprovenderref6_aim.mk [] c.Target ∈ aimsG g c := by unfold aimsG; rw [if_pos k]; simp
  obtain ⟨i, hi, he⟩ := fs_at (aim_fs R hx hc ha)
  have he : (g.Funcs[i]).Name = c.Target := he
  have hf : (mget (wOf g how fs).funcs c.Target).getD 0 = (i : Int) := by rw [← he]; exact fI_at R how fs hi
  refine ⟨_, rfl, by simp, by simp, fun v hv => ?_, fun j hj => ?_⟩
  ·simp only [List.mem_singleton] at hv; rw [hf] at hv; exact ⟨i, hi, hv⟩
  ·simp only [List.mem_singleton]
   rw [hf]
   unfold aimsG
   rw [if_pos k]
   simp only [List.mem_singleton]
   constructor
   ·intro h
    have : j = i := by omega
    subst this
    exact ⟨_, rfl, he.symm⟩
   ·rintro ⟨a, rfl, h⟩
    have h : c.Target = (g.Funcs[j]).Name := h
    have h1 := fI_at R how fs hj
    rw [← h, ← he, fI_at R how fs hi] at h1
    omega
 ·rw [if_neg (by simpa using k), jn_def]
  obtain ⟨I, I1, I2, I3, I4⟩ := dis_aim R hx hc k
  have hfit : ∀ t, t ∈ fitL (wOf g how fs) c.Target ↔ ∃ j : Nat, ∃ h : j < g.Types.length, t = j ∧ fitB g.Types[j] I = true := fit_iff R how fs I2
  have hlen : (fitL (wOf g how fs) c.Target).length ≤ 500 := by
   have e : fitL (wOf g how fs) c.Target = fitIdx I 0 g.Types := by
    unfold fitL wOf
    simp only
    rw [fitM_get g.Types c.Target g.Ifaces [] R.isrt]
    simp only [mget, Option.getD_none, List.nil_append]
    rw [I2]; rfl
   rw [e]
   have := fitIdx_len I g.Types 0
   have := R.tl
   omega
  let f : Int → Int := fun t => fI (wOf g how fs) (mOf (g.Types.getD t.toNat (TType.mk [] [])) c.Method).1
  have hm : ∀ t, t ∈ fitL (wOf g how fs) c.Target → M151 F (wOf g how fs) c t = some (f t) := by
   intro t ht
   obtain ⟨j, hj, rfl, _⟩ := (hfit t).1 ht
   rw [M151_at hF R how fs c hj]
   simp only [f, Int.toNat_natCast, List.getD_eq_getElem?_getD, List.getElem?_eq_getElem hj, Option.getD_some]
  have e := M92_L1_eq F (wOf g how fs) c (fun l5 => (M152 F l5).bind fun y17 => if y17.length = l5.length then (M153 F y17).bind fun y20 => some y20 else none) f (fitL (wOf g how fs) c.Target) [] hm (by simp; omega)
  refine ⟨cpt (isort ((fitL (wOf g how fs) c.Target).map f)), ?_, cpt_srtI (isort_srt _), ?_, ?_, ?_⟩
  ·refine e.trans ?_
   simp only [List.nil_append]
   unfold M152
   rw [if_pos (by simp; omega), Option.bind_some, if_pos (isort_perm _).length_eq]
   unfold M153
   rw [if_pos (by rw [(isort_perm _).length_eq]; simp; omega), Option.bind_some]
  ·have := cpt_lenI (isort ((fitL (wOf g how fs) c.Target).map f))
   rw [(isort_perm _).length_eq, List.length_map] at this
   omega
  ·intro v hv
   rw [cpt_memI, (isort_perm _).mem_iff] at hv
   obtain ⟨t, ht, rfl⟩ := List.mem_map.1 hv
   obtain ⟨j, hj, rfl, hft⟩ := (hfit t).1 ht
   have ha : Tprovenderref6_aim.mk (g.Types[j]).Name (mOf g.Types[j] c.Method).1 ∈ aimsG g c := by
    unfold aimsG
    rw [if_neg k]
    exact List.mem_filterMap.2 ⟨g.Types[j], List.getElem_mem _, by unfold aimO; rw [if_pos ⟨I4 _ hft, by rw [I3]; exact hft⟩]⟩
   obtain ⟨q, hq, he⟩ := fs_at (aim_fs R hx hc ha)
   have he : (g.Funcs[q]).Name = (mOf g.Types[j] c.Method).1 := he
   refine ⟨q, hq, ?_⟩
   simp only [f, Int.toNat_natCast, List.getD_eq_getElem?_getD, List.getElem?_eq_getElem hj, Option.getD_some]
   rw [← he]; exact fI_at R how fs hq
  ·intro i hi
   rw [cpt_memI, (isort_perm _).mem_iff, List.mem_map]
   constructor
   ·rintro ⟨t, ht, he⟩
    obtain ⟨j, hj, rfl, hft⟩ := (hfit t).1 ht
    have ha : Tprovenderref6_aim.mk (g.Types[j]).Name (mOf g.Types[j] c.Method).1 ∈ aimsG g c := by
     unfold aimsG
     rw [if_neg k]
     exact List.mem_filterMap.2 ⟨g.Types[j], List.getElem_mem _, by unfold aimO; rw [if_pos ⟨I4 _ hft, by rw [I3]; exact hft⟩]⟩
    obtain ⟨q, hq, hqe⟩ := fs_at (aim_fs R hx hc ha)
    have hqe : (g.Funcs[q]).Name = (mOf g.Types[j] c.Method).1 := hqe
    simp only [f, Int.toNat_natCast, List.getD_eq_getElem?_getD, List.getElem?_eq_getElem hj, Option.getD_some] at he
    rw [← hqe, fI_at R how fs hq] at he
    have : q = i := by omega
    subst this
    exact ⟨_, ha, hqe.symm⟩
   ·rintro ⟨a, ha, he⟩
    unfold aimsG at ha
    rw [if_neg k] at ha
    obtain ⟨t, ht, h⟩ := List.mem_filterMap.1 ha
    unfold aimO at h
    split at h
    ·rename_i h1
     simp only [Option.some.injEq] at h
     subst h
     obtain ⟨j, hj, rfl⟩ := List.getElem_of_mem ht
     refine ⟨j, (hfit _).2 ⟨j, hj, rfl, by rw [← I3]; exact h1.2⟩, ?_⟩
     simp only [f, Int.toNat_natCast, List.getD_eq_getElem?_getD, List.getElem?_eq_getElem hj, Option.getD_some]
     have he : (mOf g.Types[j] c.Method).1 = (g.Funcs[i]).Name := he
     rw [he]; exact fI_at R how fs hi
    ·simp at h
theorem M105_gen (F : Nat) (hF : 10000 ≤ F) (m : SetM) (hn : (m.map (·.1)).Nodup) (hl : m.length ≤ 5000) : ∃ r, M105 F m = some r ∧ r.Pairwise (fun a b => Op.bytesLess a b = true) ∧ ∀ x, x ∈ r ↔ x ∈ m.map (·.1) := by
 unfold M105
 rw [M105_L1_eq, if_pos (by simp; omega), M161_eq, List.nil_append, if_pos (okN_of 13 F _ (by simp; omega) (by simp; omega) (by simp; omega))]
 exact ⟨_, rfl, lt_of_sorted (srtT_srt _) ((srtT_perm _).nodup_iff.2 hn), fun x => (srtT_perm _).mem_iff⟩
end Go.Proofs.YtpbkggamiipdmaaGreat
