/- Part of the proof: RX. -/
import Derived.Test.YtpbkggamiipdmaaMRV
namespace Go.Proofs.Ytpbkggamiipdmaa
open Go Go.Pv
set_option linter.unusedVariables false
set_option linter.unusedSimpArgs false
set_option maxRecDepth 100000
theorem nums_val (x : Tx) (v : Int) : ∀ (l : List Tx) (m : NumM) (n : Int), mget (nums m n l) x = some v → mget m x = some v ∨ n ≤ v ∧ v < n + l.length
  | [], m, n, h => .inl h
  | y :: l, m, n, h => by
    rcases nums_val x v l _ _ h with h | h
    · rw [mget_mput] at h
      split at h
      · simp at h; subst h; exact .inr ⟨by omega, by simp; omega⟩
      · exact .inl h
    · exact .inr ⟨by omega, by simp; omega⟩
theorem nums_range (l : List Tx) (x : Tx) (hl : 0 < l.length) : ∃ i : Nat, i < l.length ∧ (mget (nums [] 0 l) x).getD 0 = i := by
  cases h : mget (nums [] 0 l) x with
  | none => exact ⟨0, hl, rfl⟩
  | some v =>
    rcases nums_val x v l [] 0 h with h1 | h1
    · simp [mget] at h1
    · exact ⟨v.toNat, by omega, by simp; omega⟩
theorem srt_names {α : Type} {f : α → Tx} {l : List α} (h : l.Pairwise (fun a b => Op.bytesLess (f a) (f b) = true)) : (l.map f).Pairwise (fun a b => Op.bytesLess a b = true) := by
  rw [List.pairwise_map]; exact h
theorem wok {F : Nat} (hF : 1000 ≤ F) {g : TGraph} (R : RightG g) (how : Int) (fs : List Tx) : WOk F (wOf g how fs) where
  fl := R.fl
  tl := R.tl
  ent := fun e he => by
    have h := R.e e he
    unfold fsOf at h
    have h : e ∈ g.Funcs.map (·.Name) := by simpa using h
    obtain ⟨i, hi, rfl⟩ := List.getElem_of_mem h
    refine ⟨i, show i < g.Funcs.length by simpa using hi, ?_⟩
    unfold fI wOf
    simp only
    rw [nums_get _ _ _ _ hi (srt_names R.fsrt)]; simp
  cl := fun x hx => (R.f x hx).len
  mks := fun x hx t ht => by
    have h := (R.f x hx).makes t ht
    unfold tsOf at h
    have h : t ∈ g.Types.map (·.Name) := by simpa using h
    obtain ⟨i, hi, rfl⟩ := List.getElem_of_mem h
    refine ⟨i, show i < g.Types.length by simpa using hi, ?_⟩
    unfold tI wOf
    simp only
    rw [nums_get _ _ _ _ hi (srt_names R.tsrt)]; simp
  dir := fun x hx c hc => by
    have hN : 0 < (g.Funcs.map (·.Name)).length := by
      have : 0 < g.Funcs.length := List.length_pos_iff.2 (by intro e; have hx : x ∈ g.Funcs := hx; rw [e] at hx; simp at hx)
      simpa using this
    obtain ⟨i, hi, he⟩ := nums_range (g.Funcs.map (·.Name)) c.Target hN
    exact ⟨i, show i < g.Funcs.length by simpa using hi, he⟩
  fit := fun s t ht => by
    unfold fitL wOf at ht
    simp only at ht
    rw [fitM_get g.Types s g.Ifaces [] R.isrt] at ht
    simp only [mget, Option.getD_none, List.nil_append] at ht
    cases hf : g.Ifaces.find? (fun x => x.Name == s) with
    | none => rw [hf] at ht; simp at ht
    | some x =>
      rw [hf] at ht
      obtain ⟨i, hi, he, _⟩ := (fitIdx_mem x g.Types 0 t).1 ht
      exact ⟨i, hi, by omega⟩
  tgt := fun c t ⟨i, hi, he⟩ hN => by
    subst he
    have hi : i < g.Types.length := hi
    have hT := R.t g.Types[i] (List.getElem_mem _)
    obtain ⟨j, hj, hf⟩ := nums_range (g.Funcs.map (·.Name)) (mOf g.Types[i] c.Method).1 (by have hN : 0 < g.Funcs.length := hN; simpa using hN)
    refine ⟨j, show j < g.Funcs.length by simpa using hj, ?_⟩
    unfold M82
    rw [show idx (wOf g how fs).g.Types (i : Int) = some g.Types[i] from idx_nat hi, Option.bind_some, M79_eq F _ _ hT.len hT.srt hF, Option.bind_some]
    exact congrArg some hf
/-- What is reached by more is more. -/
theorem RR.mono {F : Nat} {g : TGraph} {h1 h2 : Int} {f1 f2 : List Tx} (ho : ∀ x, onB (wOf g h1 f1) x = true → onB (wOf g h2 f2) x = true) (hm : (wOf g h2 f2).made = true → (wOf g h1 f1).made = true) :
    ∀ {b : Bool} {v : Int}, RR F (wOf g h1 f1) b v → RR F (wOf g h2 f2) b v := by
  intro b v h
  induction h with
  | entry h => exact RR.entry (w := wOf g h2 f2) h
  | dir hf hx hc hon k ih => exact RR.dir (w := wOf g h2 f2) ih hx hc (ho _ hon) k
  | dis hf hx hc hon k ht hmm hv ih ihm => exact RR.dis (w := wOf g h2 f2) ih hx hc (ho _ hon) k ht (fun h => ihm (hm h)) hv
  | mk hf hx ht ih => exact RR.mk (w := wOf g h2 f2) ih hx ht
theorem onB_eq (g : TGraph) (how : Int) (fs : List Tx) (x : Tx) : onB (wOf g how fs) x = (decide (x = []) || fs.contains x) := by
  unfold onB wOf
  simp only
  have := has_sset x fs (mput [] [] true)
  unfold has at this
  rw [this]
  congr 1
  rw [mget_mput]
  by_cases h : x = []
  · subst h; simp
  · rw [if_neg (fun e => h e.symm)]; simp [mget, h]
theorem M9_L1_eq (F : Nat) (g : TGraph) (hg : g.Funcs.length ≤ 3000) (k : List Tx → Option (List Tx × Int)) : ∀ (l : List Bool) (n : Nat) (o : List Tx), n + l.length ≤ g.Funcs.length → o.length ≤ n →
    ∃ r, M9_L1 F g k l n o = k (o ++ r) ∧ ∀ s, s ∈ r ↔ ∃ i : Nat, ∃ h : n + i < g.Funcs.length, tru l i ∧ (g.Funcs[n + i]).Name = s
  | [], n, o, _, _ => ⟨[], by simp [M9_L1], by simp [tru]⟩
  | x :: l, n, o, hn, ho => by
    simp only [List.length_cons] at hn
    have e : ((n : Int) + 1) = ((n + 1 : Nat) : Int) := rfl
    rw [M9_L1]
    simp only [jn_def, e]
    have tl : ∀ i, tru (x :: l) (i + 1) ↔ tru l i := fun i => by unfold tru; rw [List.getElem?_cons_succ]
    cases x
    · obtain ⟨r, r1, r2⟩ := M9_L1_eq F g hg k l (n + 1) o (by omega) (by omega)
      rw [if_neg (by simp), r1]
      refine ⟨r, rfl, fun s => ?_⟩
      rw [r2]
      constructor
      · rintro ⟨i, h, h1, h2⟩
        refine ⟨i + 1, by omega, (tl i).2 h1, ?_⟩
        rw [← h2]; congr 2; omega
      · rintro ⟨i, h, h1, h2⟩
        cases i with
        | zero => simp [tru] at h1
        | succ i =>
          refine ⟨i, by omega, (tl i).1 h1, ?_⟩
          rw [← h2]; congr 2; omega
    · have hlt : n < g.Funcs.length := by omega
      rw [if_pos rfl, idx_nat hlt, Option.bind_some, if_pos (by simp; omega)]
      obtain ⟨r, r1, r2⟩ := M9_L1_eq F g hg k l (n + 1) (o ++ [(g.Funcs[n]).Name]) (by omega) (by simp; omega)
      rw [r1]
      refine ⟨(g.Funcs[n]).Name :: r, by simp, fun s => ?_⟩
      rw [List.mem_cons, r2]
      constructor
      · rintro (h | ⟨i, h, h1, h2⟩)
        · exact ⟨0, by omega, by simp [tru], h.symm⟩
        · refine ⟨i + 1, by omega, (tl i).2 h1, ?_⟩
          rw [← h2]; congr 2; omega
      · rintro ⟨i, h, h1, h2⟩
        cases i with
        | zero => exact .inl h2.symm
        | succ i =>
          refine .inr ⟨i, by omega, (tl i).1 h1, ?_⟩
          rw [← h2]; congr 2; omega
theorem M9_eq (F : Nat) (g : TGraph) (how : Int) (fs : List Tx) (hg : okTGraph g) (hfs : ∀ x, x ∈ fs → x.length ≤ maxLen) (hF : 10000 ≤ F) :
    ∃ r, M9 F g how fs = some (r, opnE g how fs) ∧ (opnE g how fs = 0 → ∀ s, s ∈ r ↔ ∃ i : Nat, ∃ h : i < g.Funcs.length, RR F (wOf g how fs) false i ∧ (g.Funcs[i]).Name = s) := by
  unfold M9
  rw [M31_eq F g how fs hg hfs (by omega), Option.bind_some]
  by_cases h0 : opnE g how fs = 0
  · rw [h0]
    rw [if_neg (by simp), if_neg (by simp), Option.bind_some]
    have R : RightG g := right_of (by
      unfold opnE at h0
      split at h0
      · rename_i h; exact absurd h0 h
      · rename_i h; simpa using h)
    obtain ⟨sp, s1, s2, s3, s4, s5⟩ := spread_eq (wok (by omega) R how fs) hF
    rw [s1, Option.bind_some, Option.bind_some]
    simp only [jn_def]
    have s2 : sp.funcs.length = g.Funcs.length := s2
    obtain ⟨r, r1, r2⟩ := M9_L1_eq F g R.fl (fun l14 => some (l14, 0)) sp.funcs 0 [] (by omega) (by simp)
    rw [show ((0 : Nat) : Int) = 0 from rfl] at r1
    rw [r1]
    refine ⟨r, rfl, fun _ s => ?_⟩
    rw [r2]
    constructor
    · rintro ⟨i, h, h1, h2⟩
      refine ⟨i, by omega, ((s4 i).1 h1).2, ?_⟩
      rw [← h2]; congr 2; omega
    · rintro ⟨i, h, h1, h2⟩
      refine ⟨i, by omega, (s4 i).2 ⟨h, h1⟩, ?_⟩
      rw [← h2]; congr 2; omega
  · rw [if_pos (by simpa using h0)]
    exact ⟨[], rfl, fun h => absurd h h0⟩
end Go.Proofs.Ytpbkggamiipdmaa
