/- Part of the proof: SW. -/
import Derived.Test.YtpbkggamiipdmaaGreatR3SD
namespace Go.Proofs.YtpbkggamiipdmaaGreat
open Go Go.Pv
set_option linter.unusedVariables false
set_option linter.unusedSimpArgs false
set_option maxRecDepth 100000
theorem M100_eq (F : Nat) (a b : Tx) : M100 F a b = some (if Op.bytesLess a b = true then -1 else if a = b then 0 else 1) := by
  unfold M100 M158
  simp only [beq_self_eq_true, Bool.not_true, Option.bind_some, Bool.false_eq_true, if_false]
  by_cases h : Op.bytesLess a b = true
  · simp [h]
  · by_cases h2 : a = b
    · subst h2; simp [bl_irrefl]
    · simp [h, h2]
def mlt (x : Tx) (m : TMethod) : Bool := Op.bytesLess m.Name x
theorem bs_loop (F : Nat) (a : List TMethod) (x : Tx) (k : Int → Option (Int × Bool)) (hlen : a.length ≤ 100000) (hs : a.Pairwise (fun p q => Op.bytesLess p.Name q.Name = true)) :
    ∀ (n i j : Nat), i ≤ j → j ≤ a.length → j - i < n → (∀ q (h : q < a.length), q < i → mlt x a[q] = true) → (∀ q (h : q < a.length), j ≤ q → mlt x a[q] = false) →
    ∃ p : Nat, p ≤ a.length ∧ M207_L1 F a x k n i j = k p ∧ (∀ q (h : q < a.length), q < p → mlt x a[q] = true) ∧ ∀ q (h : q < a.length), p ≤ q → mlt x a[q] = false
  | 0, i, j, _, _, h, _, _ => by omega
  | n + 1, i, j, hij, hj, hn, h1, h2 => by
    rw [M207_L1]
    by_cases hc : i < j
    · have hm : (i + j) / 2 < a.length := by omega
      rw [if_t (by omega), mid_nat (by omega), idx_nat hm, Option.bind_some]
      unfold M208
      rw [M100_eq, Option.bind_some, Option.bind_some]
      simp only [jn_def]
      by_cases hl : Op.bytesLess (a[(i + j) / 2]).Name x = true
      · rw [if_pos hl, if_t (by omega), show w64 ((((i + j) / 2 : Nat) : Int) + 1) = (((i + j) / 2 + 1 : Nat) : Int) by rw [w64_id (by omega) (by omega)]; rfl]
        refine bs_loop F a x k hlen hs n ((i + j) / 2 + 1) j (by omega) hj (by omega) (fun q h hq => ?_) h2
        rcases Nat.lt_or_ge q ((i + j) / 2) with hq2 | hq2
        · have := List.pairwise_iff_getElem.1 hs q ((i + j) / 2) h hm hq2
          exact bl_trans this hl
        · have : q = (i + j) / 2 := by omega
          subst this; exact hl
      · rw [if_neg hl]
        have e : (if decide ((if a[(i + j) / 2].Name = x then (0 : Int) else 1) < 0) = true then M207_L1 F a x k n (w64 ((((i + j) / 2 : Nat) : Int) + 1)) j else M207_L1 F a x k n i (((i + j) / 2 : Nat) : Int)) = M207_L1 F a x k n i (((i + j) / 2 : Nat) : Int) := by
          have hh : ¬ ((if a[(i + j) / 2].Name = x then (0 : Int) else 1) < 0) := by split <;> omega
          rw [if_f hh]
        rw [e]
        refine bs_loop F a x k hlen hs n i ((i + j) / 2) (by omega) (by omega) (by omega) h1 (fun q h hq => ?_)
        have hl : Op.bytesLess (a[(i + j) / 2]).Name x = false := by simpa using hl
        rcases Nat.lt_or_ge ((i + j) / 2) q with hq2 | hq2
        · have := List.pairwise_iff_getElem.1 hs ((i + j) / 2) q hm h hq2
          unfold mlt
          cases hh : Op.bytesLess (a[q]).Name x
          · rfl
          · rw [bl_trans this hh] at hl; simp at hl
        · have : q = (i + j) / 2 := by omega
          subst this; exact hl
    · have : i = j := by omega
      subst this
      rw [if_f (by omega)]
      exact ⟨i, hj, rfl, h1, h2⟩
def mOf (t : TType) (m : Tx) : Tx × Bool := match t.Methods.find? (fun y => y.Name == m) with | some y => (y.Func, true) | none => ([], false)
theorem M169_eq (F : Nat) (t : TType) (x : Tx) (hlen : t.Methods.length ≤ 200) (hs : t.Methods.Pairwise (fun p q => Op.bytesLess p.Name q.Name = true)) (hF : 1000 ≤ F) : M169 F t x = some (mOf t x) := by
  unfold M169 M207 mOf
  simp only [jn_def]
  obtain ⟨p, p1, p2, p3, p4⟩ := bs_loop F t.Methods x (fun n4 => if decide (n4 < ((t.Methods.length : Nat) : Int)) = true then (idx t.Methods n4).bind fun x19 => (M208 F x19 x).bind fun y21 => some (n4, y21 == 0) else some (n4, false)) (by omega) hs F 0 t.Methods.length (by omega) (Nat.le_refl _) (by omega) (fun q h hq => by omega) (fun q h hq => by omega)
  rw [show ((0 : Nat) : Int) = 0 from rfl] at p2
  rw [p2]
  by_cases hp : p < t.Methods.length
  · rw [if_t (by omega), idx_nat hp, Option.bind_some]
    unfold M208
    rw [M100_eq, Option.bind_some, Option.bind_some, Option.bind_some]
    have hlt : Op.bytesLess (t.Methods[p]).Name x = false := p4 p hp (Nat.le_refl _)
    have ec : (if Op.bytesLess (t.Methods[p]).Name x = true then (-1 : Int) else if (t.Methods[p]).Name = x then 0 else 1) = if (t.Methods[p]).Name = x then 0 else 1 := by rw [if_neg (by simp [hlt])]
    rw [ec]
    by_cases he : (t.Methods[p]).Name = x
    · rw [if_pos he]
      have hf : t.Methods.find? (fun y => y.Name == x) = some t.Methods[p] := by
        rw [List.find?_eq_some_iff_getElem]
        refine ⟨by simp [he], p, hp, rfl, fun j hj => ?_⟩
        have := p3 j (by omega) hj
        unfold mlt at this
        simpa using bl_ne this
      rw [hf]
      simp [idx_nat hp]
    · rw [if_neg he]
      have hf : t.Methods.find? (fun y => y.Name == x) = none := by
        rw [List.find?_eq_none]
        intro y hy
        obtain ⟨q, hq, rfl⟩ := List.getElem_of_mem hy
        rcases Nat.lt_trichotomy q p with h | h | h
        · have := p3 q hq h
          unfold mlt at this
          simpa using bl_ne this
        · subst h; simpa using he
        · have h2 := List.pairwise_iff_getElem.1 hs p q hp hq h
          have h3 : Op.bytesLess x (t.Methods[p]).Name = true := by
            rcases bl_tri (t.Methods[p]).Name x with g | g | g
            · rw [g] at hlt; simp at hlt
            · exact absurd g he
            · exact g
          have := bl_ne (bl_trans h3 h2)
          simpa using fun e => this e.symm
      rw [hf]
      simp
  · rw [if_f (by omega)]
    have hf : t.Methods.find? (fun y => y.Name == x) = none := by
      rw [List.find?_eq_none]
      intro y hy
      obtain ⟨q, hq, rfl⟩ := List.getElem_of_mem hy
      have := p3 q hq (by omega)
      unfold mlt at this
      simpa using bl_ne this
    rw [hf]
    simp
def fitB (t : TType) (x : TIface) : Bool := x.Methods.all fun m => (mOf t m).2
theorem M117_eq (F : Nat) (t : TType) (x : TIface) (hlen : t.Methods.length ≤ 200) (hs : t.Methods.Pairwise (fun p q => Op.bytesLess p.Name q.Name = true)) (hF : 1000 ≤ F) : M117 F t x = some (fitB t x) := by
  unfold M117 fitB
  rw [jn_def]
  generalize x.Methods = l
  induction l with
  | nil => rfl
  | cons m l ih =>
    rw [M117_L1, M169_eq F t m hlen hs hF, Option.bind_some, ih, List.all_cons]
    cases (mOf t m).2 <;> simp
abbrev NumM := List (Tx × Int)
def nums (m : NumM) : Int → List Tx → NumM
  | _, [] => m
  | n, x :: l => nums (mput m x n) (n + 1) l
theorem nums_other (x : Tx) : ∀ (l : List Tx) (m : NumM) (n : Int), x ∉ l → mget (nums m n l) x = mget m x
  | [], m, n, _ => rfl
  | y :: l, m, n, h => by
    rw [nums, nums_other x l _ _ (fun hh => h (List.mem_cons_of_mem _ hh)), mget_mput, if_neg (fun e => h (by rw [e]; simp))]
theorem nums_get : ∀ (l : List Tx) (m : NumM) (n : Int) (i : Nat) (h : i < l.length), l.Pairwise (fun a b => Op.bytesLess a b = true) → mget (nums m n l) l[i] = some (n + i)
  | [], m, n, i, h, _ => by simp at h
  | x :: l, m, n, 0, h, hp => by
    have hp := List.pairwise_cons.1 hp
    rw [nums, List.getElem_cons_zero, nums_other x l _ _ (fun hh => bl_ne (hp.1 x hh) rfl), mget_mput, if_pos rfl]; simp
  | x :: l, m, n, i + 1, h, hp => by
    have hp := List.pairwise_cons.1 hp
    rw [nums, List.getElem_cons_succ, nums_get l _ (n + 1) i (by simpa using h) hp.2]
    congr 1; omega
theorem M41_L1_eq {F : Nat} (k : NumM → Option (Option Treach_world)) : ∀ (l : List TFunc) (n : Int) (m : NumM), M41_L1 F k l n m = k (nums m n (l.map (·.Name)))
  | [], n, m => rfl
  | x :: l, n, m => by rw [M41_L1, M41_L1_eq k l]; rfl
theorem M41_L2_eq {F : Nat} (k : NumM → Option (Option Treach_world)) : ∀ (l : List TType) (n : Int) (m : NumM), M41_L2 F k l n m = k (nums m n (l.map (·.Name)))
  | [], n, m => rfl
  | x :: l, n, m => by rw [M41_L2, M41_L2_eq k l]; rfl
theorem M41_L5_eq {F : Nat} (k : SetM → Option (Option Treach_world)) : ∀ (l : List Tx) (m : SetM), M41_L5 F k l m = k (sset m l)
  | [], m => rfl
  | x :: l, m => by rw [M41_L5, M41_L5_eq k l]; rfl
abbrev FitM := List (Tx × List Int)
def fitIdx (x : TIface) : Int → List TType → List Int
  | _, [] => []
  | n, t :: l => if fitB t x = true then n :: fitIdx x (n + 1) l else fitIdx x (n + 1) l
def putFit (T : List TType) (m : FitM) (x : TIface) : FitM := if (fitIdx x 0 T).isEmpty = true then m else mput m x.Name ((mget m x.Name).getD [] ++ fitIdx x 0 T)
theorem M41_L4_eq (F : Nat) (x : TIface) (k : FitM → Option (Option Treach_world)) (hF : 1000 ≤ F) : ∀ (l : List TType) (n : Int) (m : FitM), (∀ t, t ∈ l → t.Methods.length ≤ 200 ∧ t.Methods.Pairwise (fun p q => Op.bytesLess p.Name q.Name = true)) →
    ((mget m x.Name).getD []).length + l.length ≤ 100000 → M41_L4 F x k l n m = k (if (fitIdx x n l).isEmpty = true then m else mput m x.Name ((mget m x.Name).getD [] ++ fitIdx x n l))
  | [], n, m, _, _ => by simp [M41_L4, fitIdx]
  | t :: l, n, m, ht, hb => by
    obtain ⟨t1, t2⟩ := ht t (by simp)
    simp only [List.length_cons] at hb
    rw [M41_L4, M117_eq F t x t1 t2 hF, Option.bind_some]
    simp only [jn_def]
    by_cases hf : fitB t x = true
    · rw [show fitIdx x n (t :: l) = n :: fitIdx x (n + 1) l by rw [fitIdx, if_pos hf]]
      rw [if_pos hf, if_pos (by simp; omega), M41_L4_eq F x k hF l (n + 1) _ (fun q hq => ht q (List.mem_cons_of_mem _ hq)) (by rw [mget_mput, if_pos rfl]; simp; omega)]
      congr 1
      rw [mget_mput, if_pos rfl, Option.getD_some, if_neg (show ¬ (n :: fitIdx x (n + 1) l).isEmpty = true by simp)]
      split
      · rename_i he; rw [List.isEmpty_iff.1 he]
      · rw [mput_mput]; simp
    · rw [show fitIdx x n (t :: l) = fitIdx x (n + 1) l by rw [fitIdx, if_neg hf]]
      rw [if_neg hf, M41_L4_eq F x k hF l (n + 1) m (fun q hq => ht q (List.mem_cons_of_mem _ hq)) (by omega)]
def fitM (T : List TType) (m : FitM) : List TIface → FitM
  | [] => m
  | x :: l => fitM T (putFit T m x) l
theorem putFit_get (T : List TType) (m : FitM) (x : TIface) (n : Tx) : (mget (putFit T m x) n).getD [] = (mget m n).getD [] ++ if x.Name = n then fitIdx x 0 T else [] := by
  unfold putFit
  by_cases h : fitIdx x 0 T = []
  · rw [if_pos (by rw [h]; rfl), h]; simp
  · rw [if_neg (by simpa using h), mget_mput]
    by_cases h2 : x.Name = n
    · subst h2; simp
    · rw [if_neg h2, if_neg h2]; simp
theorem M41_L3_eq (F : Nat) (g : TGraph) (k : FitM → Option (Option Treach_world)) (hF : 1000 ≤ F) (hT : ∀ t, t ∈ g.Types → t.Methods.length ≤ 200 ∧ t.Methods.Pairwise (fun p q => Op.bytesLess p.Name q.Name = true)) (htl : g.Types.length ≤ 500) :
    ∀ (l : List TIface) (m : FitM), l.Pairwise (fun a b => Op.bytesLess a.Name b.Name = true) → (∀ x, x ∈ l → (mget m x.Name).getD [] = []) → M41_L3 F g k l m = k (fitM g.Types m l)
  | [], m, _, _ => rfl
  | x :: l, m, hp, hm => by
    have hp := List.pairwise_cons.1 hp
    rw [M41_L3]
    simp only [jn_def]
    rw [M41_L4_eq F x _ hF g.Types 0 m hT (by rw [hm x (by simp)]; simp; omega)]
    rw [M41_L3_eq F g k hF hT htl l _ hp.2 (fun y hy => by
      have := putFit_get g.Types m x y.Name
      unfold putFit at this
      rw [this, hm y (List.mem_cons_of_mem _ hy), if_neg (bl_ne (hp.1 y hy))]; rfl)]
    rfl
def wOf (g : TGraph) (how : Int) (fs : List Tx) : Treach_world :=
  Treach_world.mk g (nums [] 0 (g.Funcs.map (·.Name))) (nums [] 0 (g.Types.map (·.Name))) (fitM g.Types [] g.Ifaces) (sset (mput [] [] true) fs) (how == 2)
theorem M41_eq (F : Nat) (g : TGraph) (how : Int) (fs : List Tx) (R : RightG g) (hF : 1000 ≤ F) : M41 F g how fs = some (some (wOf g how fs)) := by
  unfold M41
  simp only [jn_def, M41_L1_eq, M41_L2_eq, M41_L5_eq]
  rw [M41_L3_eq F g _ hF (fun t ht => ⟨(R.t t ht).len, (R.t t ht).srt⟩) R.tl g.Ifaces [] R.isrt (fun x _ => rfl)]
  rfl
end Go.Proofs.YtpbkggamiipdmaaGreat
