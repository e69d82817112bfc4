/- Part of the proof: SD. -/
import Derived.Test.YtpbkggamiipdmaaGreatR3SC
namespace Go.Proofs.YtpbkggamiipdmaaGreat
open Go Go.Pv
set_option linter.unusedVariables false
set_option linter.unusedSimpArgs false
set_option maxRecDepth 100000
theorem methE_zero : ∀ {l : List Tx} {p : Option Tx}, methE p l = 0 → (∀ b, p = some b → ∀ x, x ∈ l → Op.bytesLess b x = true) ∧ l.Pairwise (fun a b => Op.bytesLess a b = true) ∧ ∀ x, x ∈ l → nm x = true
  | [], p, _ => ⟨by simp, List.Pairwise.nil, by simp⟩
  | s :: l, p, h => by
    rw [methE] at h
    split at h
    · rename_i hc; exact absurd h hc
    · rename_i hc
      obtain ⟨h1, h2⟩ := nme_zero (s := s) (p := p) (by simpa using hc)
      obtain ⟨i1, i2, i3⟩ := methE_zero h
      refine ⟨fun b hb x hx => ?_, List.pairwise_cons.2 ⟨i1 s rfl, i2⟩, fun x hx => ?_⟩
      · rcases List.mem_cons.1 hx with rfl | hx
        · exact h2 b hb
        · exact bl_trans (h2 b hb) (i1 s rfl x hx)
      · rcases List.mem_cons.1 hx with rfl | hx
        · exact h1
        · exact i3 x hx
theorem lsE_zero {there : Tx → Bool} : ∀ {l : List Tx} {p : Option Tx}, lsE there false p l = 0 → (∀ b, p = some b → ∀ x, x ∈ l → Op.bytesLess b x = true) ∧ l.Pairwise (fun a b => Op.bytesLess a b = true) ∧ ∀ x, x ∈ l → there x = true
  | [], p, _ => ⟨by simp, List.Pairwise.nil, by simp⟩
  | s :: l, p, h => by
    rw [lsE] at h
    split at h
    · simp at h
    · rename_i h1
      split at h
      · simp at h
      · rename_i h2
        obtain ⟨i1, i2, i3⟩ := lsE_zero h
        have hb0 : ∀ b, p = some b → Op.bytesLess b s = true := fun b hb => by
          subst hb
          simp only [Option.elim_some] at h2
          exact le_iff.1 (by simpa using h2)
        refine ⟨fun b hb x hx => ?_, List.pairwise_cons.2 ⟨i1 s rfl, i2⟩, fun x hx => ?_⟩
        · rcases List.mem_cons.1 hx with rfl | hx
          · exact hb0 b hb
          · exact bl_trans (hb0 b hb) (i1 s rfl x hx)
        · rcases List.mem_cons.1 hx with rfl | hx
          · simpa using h1
          · exact i3 x hx
theorem mtE_zero {fs : Tx → Bool} : ∀ {l : List TMethod} {p : Option Tx}, mtE fs false p l = 0 → (∀ b, p = some b → ∀ x, x ∈ l → Op.bytesLess b x.Name = true) ∧ l.Pairwise (fun a b => Op.bytesLess a.Name b.Name = true) ∧ ∀ x, x ∈ l → nm x.Name = true ∧ fs x.Func = true
  | [], p, _ => ⟨by simp, List.Pairwise.nil, by simp⟩
  | s :: l, p, h => by
    rw [mtE] at h
    split at h
    · rename_i hc; exact absurd h hc
    · rename_i hc
      obtain ⟨h1, h2⟩ := nme_zero (s := s.Name) (p := p) (by simpa using hc)
      split at h
      · simp at h
      · rename_i h3
        obtain ⟨i1, i2, i3⟩ := mtE_zero h
        refine ⟨fun b hb x hx => ?_, List.pairwise_cons.2 ⟨i1 s.Name rfl, i2⟩, fun x hx => ?_⟩
        · rcases List.mem_cons.1 hx with rfl | hx
          · exact h2 b hb
          · exact bl_trans (h2 b hb) (i1 s.Name rfl x hx)
        · rcases List.mem_cons.1 hx with rfl | hx
          · exact ⟨h1, by simpa using h3⟩
          · exact i3 x hx
structure RightI (x : TIface) : Prop where
  nam : nm x.Name = true
  ne : x.Methods ≠ []
  len : x.Methods.length ≤ 200
  srt : x.Methods.Pairwise (fun a b => Op.bytesLess a b = true)
  mn : ∀ s, s ∈ x.Methods → nm s = true
theorem ifE_zero : ∀ {l : List TIface} {p : Option Tx}, ifE p l = 0 → (∀ b, p = some b → ∀ x, x ∈ l → Op.bytesLess b x.Name = true) ∧ l.Pairwise (fun a b => Op.bytesLess a.Name b.Name = true) ∧ ∀ x, x ∈ l → RightI x
  | [], p, _ => ⟨by simp, List.Pairwise.nil, by simp⟩
  | s :: l, p, h => by
    rw [ifE] at h
    split at h
    · rename_i hc; exact absurd h hc
    · rename_i hc
      obtain ⟨h1, h2⟩ := nme_zero (s := s.Name) (p := p) (by simpa using hc)
      split at h
      · simp at h
      · rename_i h3
        split at h
        · simp at h
        · rename_i h4
          split at h
          · rename_i h5; exact absurd h h5
          · rename_i h5
            obtain ⟨_, m2, m3⟩ := methE_zero (show methE none s.Methods = 0 by simpa using h5)
            obtain ⟨i1, i2, i3⟩ := ifE_zero h
            refine ⟨fun b hb x hx => ?_, List.pairwise_cons.2 ⟨i1 s.Name rfl, i2⟩, fun x hx => ?_⟩
            · rcases List.mem_cons.1 hx with rfl | hx
              · exact h2 b hb
              · exact bl_trans (h2 b hb) (i1 s.Name rfl x hx)
            · rcases List.mem_cons.1 hx with rfl | hx
              · exact ⟨h1, h3, by omega, m2, m3⟩
              · exact i3 x hx
structure RightT (fs : Tx → Bool) (x : TType) : Prop where
  nam : nm x.Name = true
  len : x.Methods.length ≤ 200
  srt : x.Methods.Pairwise (fun a b => Op.bytesLess a.Name b.Name = true)
  mn : ∀ s, s ∈ x.Methods → nm s.Name = true ∧ fs s.Func = true
theorem tyE_zero {fs : Tx → Bool} : ∀ {l : List TType} {p : Option Tx}, tyE fs false p l = 0 → (∀ b, p = some b → ∀ x, x ∈ l → Op.bytesLess b x.Name = true) ∧ l.Pairwise (fun a b => Op.bytesLess a.Name b.Name = true) ∧ ∀ x, x ∈ l → RightT fs x
  | [], p, _ => ⟨by simp, List.Pairwise.nil, by simp⟩
  | s :: l, p, h => by
    rw [tyE] at h
    split at h
    · rename_i hc; exact absurd h hc
    · rename_i hc
      obtain ⟨h1, h2⟩ := nme_zero (s := s.Name) (p := p) (by simpa using hc)
      split at h
      · simp at h
      · rename_i h4
        split at h
        · rename_i h5; exact absurd h h5
        · rename_i h5
          obtain ⟨_, m2, m3⟩ := mtE_zero (show mtE fs false none s.Methods = 0 by simpa using h5)
          obtain ⟨i1, i2, i3⟩ := tyE_zero h
          refine ⟨fun b hb x hx => ?_, List.pairwise_cons.2 ⟨i1 s.Name rfl, i2⟩, fun x hx => ?_⟩
          · rcases List.mem_cons.1 hx with rfl | hx
            · exact h2 b hb
            · exact bl_trans (h2 b hb) (i1 s.Name rfl x hx)
          · rcases List.mem_cons.1 hx with rfl | hx
            · exact ⟨h1, by omega, m2, m3⟩
            · exact i3 x hx
structure RightC (fs : Tx → Bool) (is : Tx → Option (List Tx)) (c : TCall) : Prop where
  feat : c.Feature = [] ∨ nm c.Feature = true
  kind : (c.Kind = 1 ∧ fs c.Target = true ∧ c.Method = []) ∨ (c.Kind = 2 ∧ ∃ l, is c.Target = some l ∧ c.Method ∈ l)
theorem clE_zero {fs : Tx → Bool} {is : Tx → Option (List Tx)} {c : TCall} (h : clE fs is false c = 0) : RightC fs is c := by
  unfold clE at h
  have tail : (if c.Feature ≠ [] ∧ nm c.Feature = false then (8 : Int) else 0) = 0 → c.Feature = [] ∨ nm c.Feature = true := by
    intro h
    split at h
    · simp at h
    · rename_i hc
      by_cases h1 : c.Feature = []
      · exact .inl h1
      · refine .inr ?_
        cases h2 : nm c.Feature
        · exact absurd ⟨h1, h2⟩ hc
        · rfl
  split at h
  · rename_i k1
    split at h
    · simp at h
    · rename_i h1
      split at h
      · simp at h
      · rename_i h2
        exact ⟨tail h, .inl ⟨k1, by simpa using h1, by simpa using h2⟩⟩
  · split at h
    · rename_i k1 k2
      split at h
      · simp at h
      · rename_i h1
        refine ⟨tail h, .inr ⟨k2, ?_⟩⟩
        cases hi : is c.Target with
        | none => rw [hi] at h1; simp at h1
        | some l => rw [hi] at h1; exact ⟨l, rfl, by simpa using h1⟩
    · simp at h
theorem csE_zero {fs : Tx → Bool} {is : Tx → Option (List Tx)} : ∀ {l : List TCall}, csE fs is false l = 0 → ∀ c, c ∈ l → RightC fs is c
  | [], _, c, hc => by simp at hc
  | x :: l, h, c, hc => by
    rw [csE] at h
    split at h
    · rename_i h1; exact absurd h h1
    · rename_i h1
      rcases List.mem_cons.1 hc with rfl | hc
      · exact clE_zero (by simpa using h1)
      · exact csE_zero h c hc
structure RightF (fs ts : Tx → Bool) (is : Tx → Option (List Tx)) (x : TFunc) : Prop where
  nam : nm x.Name = true
  comp : nm x.Component = true
  len : x.Calls.length ≤ 200
  calls : ∀ c, c ∈ x.Calls → RightC fs is c
  msrt : x.Makes.Pairwise (fun a b => Op.bytesLess a b = true)
  makes : ∀ t, t ∈ x.Makes → ts t = true
theorem fnE_zero {fs ts : Tx → Bool} {is : Tx → Option (List Tx)} : ∀ {l : List TFunc} {p : Option Tx}, fnE fs ts is false p l = 0 → (∀ b, p = some b → ∀ x, x ∈ l → Op.bytesLess b x.Name = true) ∧ l.Pairwise (fun a b => Op.bytesLess a.Name b.Name = true) ∧ ∀ x, x ∈ l → RightF fs ts is x
  | [], p, _ => ⟨by simp, List.Pairwise.nil, by simp⟩
  | s :: l, p, h => by
    rw [fnE] at h
    split at h
    · rename_i hc; exact absurd h hc
    · rename_i hc
      obtain ⟨h1, h2⟩ := nme_zero (s := s.Name) (p := p) (by simpa using hc)
      split at h
      · simp at h
      · rename_i h3
        split at h
        · simp at h
        · rename_i h4
          split at h
          · rename_i h5; exact absurd h h5
          · rename_i h5
            split at h
            · rename_i h6; exact absurd h h6
            · rename_i h6
              obtain ⟨_, m2, m3⟩ := lsE_zero (show lsE ts false none s.Makes = 0 by simpa using h6)
              obtain ⟨i1, i2, i3⟩ := fnE_zero h
              refine ⟨fun b hb x hx => ?_, List.pairwise_cons.2 ⟨i1 s.Name rfl, i2⟩, fun x hx => ?_⟩
              · rcases List.mem_cons.1 hx with rfl | hx
                · exact h2 b hb
                · exact bl_trans (h2 b hb) (i1 s.Name rfl x hx)
              · rcases List.mem_cons.1 hx with rfl | hx
                · exact ⟨h1, by simpa using h3, by omega, csE_zero (by simpa using h5), m2, m3⟩
                · exact i3 x hx
structure RightG (g : TGraph) : Prop where
  il : g.Ifaces.length ≤ 200
  tl : g.Types.length ≤ 500
  fl : g.Funcs.length ≤ 3000
  isrt : g.Ifaces.Pairwise (fun a b => Op.bytesLess a.Name b.Name = true)
  tsrt : g.Types.Pairwise (fun a b => Op.bytesLess a.Name b.Name = true)
  fsrt : g.Funcs.Pairwise (fun a b => Op.bytesLess a.Name b.Name = true)
  i : ∀ x, x ∈ g.Ifaces → RightI x
  t : ∀ x, x ∈ g.Types → RightT (fsOf g) x
  f : ∀ x, x ∈ g.Funcs → RightF (fsOf g) (tsOf g) (isOf g) x
  esrt : g.Entries.Pairwise (fun a b => Op.bytesLess a b = true)
  e : ∀ s, s ∈ g.Entries → fsOf g s = true
theorem right_of {g : TGraph} (h : chk false g = 0) : RightG g := by
  unfold chk at h
  split at h
  · simp at h
  split at h
  · simp at h
  split at h
  · simp at h
  rename_i h1 h2 h3
  split at h
  · rename_i h4; exact absurd h h4
  split at h
  · rename_i h5; exact absurd h h5
  split at h
  · rename_i h6; exact absurd h h6
  rename_i h4 h5 h6
  obtain ⟨_, a2, a3⟩ := ifE_zero (show ifE none g.Ifaces = 0 by simpa using h4)
  obtain ⟨_, b2, b3⟩ := tyE_zero (show tyE (fsOf g) false none g.Types = 0 by simpa using h5)
  obtain ⟨_, c2, c3⟩ := fnE_zero (show fnE (fsOf g) (tsOf g) (isOf g) false none g.Funcs = 0 by simpa using h6)
  obtain ⟨_, d2, d3⟩ := lsE_zero h
  exact ⟨by omega, by omega, by omega, a2, b2, c2, a3, b3, c3, d2, d3⟩
end Go.Proofs.YtpbkggamiipdmaaGreat
