/- Part of the proof: SN. -/
import Derived.Test.YtpbkggamiipdmaaGreatR3SW
namespace Go.Proofs.YtpbkggamiipdmaaGreat
open Go Go.Pv
set_option linter.unusedVariables false
set_option linter.unusedSimpArgs false
set_option maxRecDepth 100000
def SrI (l : List TIface) : Prop := l.Pairwise fun a b => Op.bytesLess a.Name b.Name = true
theorem geI (F : Nat) {l : List TIface} (hs : SrI l) {i j : Int} (h0 : 0 ≤ i) (h1 : i < j) (h2 : j < (l.length : Int)) {β : Type} {k : Int → Option β} {r : Option β} (hk : ∀ c, ¬ c < 0 → k c = r) : ((idx l j).bind fun x => (idx l i).bind fun y => (M121 F x y).bind k) = r := by
  obtain ⟨a, rfl⟩ : ∃ a : Nat, i = (a : Int) := ⟨i.toNat, by omega⟩
  obtain ⟨b, rfl⟩ : ∃ b : Nat, j = (b : Int) := ⟨j.toNat, by omega⟩
  have hb : b < l.length := by omega
  have ha : a < l.length := by omega
  have hlt := List.pairwise_iff_getElem.mp hs a b ha hb (by omega)
  rw [idx_nat hb, Option.bind_some, idx_nat ha, Option.bind_some]
  unfold M121 M44
  simp only [Option.bind_some]
  rw [M100_eq, Option.bind_some, Option.bind_some]
  apply hk
  have hn : ¬ Op.bytesLess l[b].Name l[a].Name = true := by
    intro h
    simp [bl_asymm hlt] at h
  rw [if_neg hn]
  by_cases h : l[b].Name = l[a].Name
  · rw [if_pos h]; omega
  · rw [if_neg h]; omega
theorem M209_L2_s (F : Nat) {l : List TIface} (hs : SrI l) (hl : l.length ≤ 100000) {a1 j : Int} (h0 : 0 ≤ a1) (h2 : j < (l.length : Int)) (k : List TIface → Option (List TIface)) (n : Nat) : M209_L2 F a1 k (n + 1) j l = k l := by
  rw [M209_L2]
  by_cases h : j > a1
  · rw [if_t h, w64_id (by omega) (by omega)]
    exact geI F hs (by omega) (by omega) h2 fun c hc => if_f hc
  · rw [if_f h]
theorem M209_L1_s (F : Nat) {l : List TIface} (hs : SrI l) (hl : l.length ≤ 100000) (hF : 1 ≤ F) {a1 a2 : Int} (h0 : 0 ≤ a1) (ha : a2 ≤ (l.length : Int)) : ∀ (n : Nat) (j : Int), 0 ≤ j → (0 : Int) < n → a2 - j < n → M209_L1 F a1 a2 n j l = some l
  | 0, j, hj, hn, _ => by
    exfalso
    omega
  | n + 1, j, hj, _, hn => by
    rw [M209_L1]
    by_cases h : j < a2
    · obtain ⟨m, rfl⟩ : ∃ m, F = m + 1 := ⟨F - 1, by omega⟩
      rw [if_t h]
      simp only [jn_def]
      rw [M209_L2_s _ hs hl h0 (by omega), w64_id (by omega) (by omega)]
      exact M209_L1_s (m + 1) hs hl hF h0 ha n (j + 1) (by omega) (by omega) (by omega)
    · rw [if_f h]
theorem M276_s (F : Nat) {l : List TIface} (hs : SrI l) {i j s : Int} (h0 : 0 ≤ i) (h1 : i < j) (h2 : j < (l.length : Int)) : M276 F i j l s = some (i, j, s) := by
  unfold M276
  exact geI F hs h0 h1 h2 fun c hc => if_f hc
theorem M261_s (F : Nat) {l : List TIface} (hs : SrI l) {i j m s : Int} (h0 : 0 ≤ i) (h1 : i < j) (h2 : j < m) (h3 : m < (l.length : Int)) : M261 F i j m l s = some (j, s) := by
  unfold M261
  simp only [M276_s F hs h0 h1 (show j < (l.length : Int) by omega), M276_s F hs (show 0 ≤ j by omega) h2 h3, Option.bind_some]
theorem M260_s (F : Nat) {l : List TIface} (hs : SrI l) (hl : l.length ≤ 100000) {j s : Int} (h0 : 1 ≤ j) (h3 : j + 1 < (l.length : Int)) : M260 F j l s = some (j, s) := by
  unfold M260
  rw [w64_id (by omega) (by omega), w64_id (by omega) (by omega), M261_s F hs (by omega) (by omega) (by omega) h3, Option.bind_some]
theorem M214_L2_s (F : Nat) {l : List TIface} (hs : SrI l) (hl : l.length ≤ 100000) (k : Int → Option (Bool × List TIface)) : ∀ (n : Nat) (j : Int), 1 ≤ j → j ≤ (l.length : Int) → (l.length : Int) - j < n → M214_L2 F (l.length : Int) l k n j = k (l.length : Int)
  | 0, j, hj, hn, h => by exfalso; omega
  | n + 1, j, hj, hn, hh => by
    rw [M214_L2]
    by_cases h : j < (l.length : Int)
    · rw [if_t h, w64_id (n := j - 1) (by omega) (by omega)]
      refine geI F hs (by omega) (by omega) h fun c hc => ?_
      rw [w64_id (by omega) (by omega)]
      simp only [hc, decide_false, Bool.not_false, if_true]
      exact M214_L2_s F hs hl k n (j + 1) (by omega) (by omega) (by omega)
    · rw [if_f h, show j = (l.length : Int) by omega]
theorem M214_s (F : Nat) {l : List TIface} (hs : SrI l) (hl : l.length ≤ 100000) (h1 : 1 ≤ l.length) (hF : 100001 ≤ F) : M214 F 0 (l.length : Int) l = some (true, l) := by
  unfold M214
  rw [jn_def, if_pos (by decide), show (5 : Int).toNat = 4 + 1 from rfl, M214_L1]
  simp only [jn_def]
  rw [w64_id (n := 0 + 1) (by omega) (by omega), M214_L2_s F hs hl _ F _ (by omega) (by omega) (by omega)]
  simp
theorem M209_s (F : Nat) {l : List TIface} (hs : SrI l) (hl : l.length ≤ 100000) (hF : 100001 ≤ F) : M209 F 0 (l.length : Int) l = some l := by
  unfold M209
  rw [w64_id (n := 0 + 1) (by omega) (by omega)]
  exact M209_L1_s F hs hl (by omega) (by omega) (by omega) F _ (by omega) (by omega) (by omega)
theorem M212_s (F : Nat) {l : List TIface} (hs : SrI l) (hl : l.length ≤ 100000) (h12 : 12 < l.length) : ∃ p, M212 F 0 (l.length : Int) l = some (p, 1) := by
  unfold M212
  simp only [jn_def]
  rw [w64_id (n := (l.length : Int) - 0) (by omega) (by omega)]
  have hq : Int.tdiv ((l.length : Int) - 0) 4 = ((l.length / 4 : Nat) : Int) := by
    rw [Int.sub_zero, Int.tdiv_eq_ediv_of_nonneg (by omega)]; rfl
  rw [hq]
  have e0 : w64 ((l.length / 4 : Nat) : Int) = ((l.length / 4 : Nat) : Int) := w64_id (by omega) (by omega)
  rw [e0]
  generalize hqq : ((l.length / 4 : Nat) : Int) = q
  have hq1 : 3 ≤ q := by omega
  have hq2 : q * 4 ≤ (l.length : Int) := by omega
  rw [w64_id (n := q * 1) (by omega) (by omega), w64_id (n := q * 2) (by omega) (by omega), w64_id (n := q * 3) (by omega) (by omega)]
  rw [w64_id (n := 0 + q * 1) (by omega) (by omega), w64_id (n := 0 + q * 2) (by omega) (by omega), w64_id (n := 0 + q * 3) (by omega) (by omega)]
  rw [if_t (show (l.length : Int) - 0 ≥ 8 by omega)]
  by_cases h : (l.length : Int) - 0 ≥ 50
  · rw [if_t h]
    rw [M260_s F hs hl (by omega) (by omega), Option.bind_some, M260_s F hs hl (by omega) (by omega), Option.bind_some, M260_s F hs hl (by omega) (by omega), Option.bind_some, M261_s F hs (by omega) (by omega) (by omega) (by omega), Option.bind_some]
    exact ⟨_, rfl⟩
  · rw [if_f h]
    rw [M261_s F hs (by omega) (by omega) (by omega) (by omega), Option.bind_some]
    exact ⟨_, rfl⟩
theorem M171_s (F : Nat) {l : List TIface} (hs : SrI l) (hl : l.length ≤ 100000) (hF : 100001 ≤ F) (lim : Int) (hlim : 12 < l.length → lim ≠ 0) : M171 (F + 1) 0 (l.length : Int) lim l = some l := by
  obtain ⟨m, rfl⟩ : ∃ m, F = m + 1 := ⟨F - 1, by omega⟩
  rw [M171, M171_B, M171_L1]
  rw [w64_id (n := (l.length : Int) - 0) (by omega) (by omega)]
  by_cases h : (l.length : Int) - 0 ≤ 12
  · rw [if_t h, M209_s _ hs hl hF, Option.bind_some, if_pos rfl]
  · rw [if_f h]
    have h0 : (lim == 0) = false := by simpa using hlim (by omega)
    rw [h0]
    obtain ⟨p, hp⟩ := M212_s (m + 1) hs hl (by omega)
    simp only [jn_def, Bool.not_true, Bool.false_eq_true, if_false, hp, Option.bind_some]
    rw [M214_s _ hs hl (by omega) hF]
    simp
end Go.Proofs.YtpbkggamiipdmaaGreat
namespace Go.Proofs.YtpbkggamiipdmaaGreat
open Go Go.Pv
set_option linter.unusedVariables false
set_option linter.unusedSimpArgs false
set_option maxRecDepth 100000
def lenT : List UInt8 := [0, 1, 2, 2, 3, 3, 3, 3, 4, 4, 4, 4, 4, 4, 4, 4, 5, 5, 5, 5, 5, 5, 5, 5, 5, 5, 5, 5, 5, 5, 5, 5, 6, 6, 6, 6, 6, 6, 6, 6, 6, 6, 6, 6, 6, 6, 6, 6, 6, 6, 6, 6, 6, 6, 6, 6, 6, 6, 6, 6, 6, 6, 6, 6, 7, 7, 7, 7, 7, 7, 7, 7, 7, 7, 7, 7, 7, 7, 7, 7, 7, 7, 7, 7, 7, 7, 7, 7, 7, 7, 7, 7, 7, 7, 7, 7, 7, 7, 7, 7, 7, 7, 7, 7, 7, 7, 7, 7, 7, 7, 7, 7, 7, 7, 7, 7, 7, 7, 7, 7, 7, 7, 7, 7, 7, 7, 7, 7, 8, 8, 8, 8, 8, 8, 8, 8, 8, 8, 8, 8, 8, 8, 8, 8, 8, 8, 8, 8, 8, 8, 8, 8, 8, 8, 8, 8, 8, 8, 8, 8, 8, 8, 8, 8, 8, 8, 8, 8, 8, 8, 8, 8, 8, 8, 8, 8, 8, 8, 8, 8, 8, 8, 8, 8, 8, 8, 8, 8, 8, 8, 8, 8, 8, 8, 8, 8, 8, 8, 8, 8, 8, 8, 8, 8, 8, 8, 8, 8, 8, 8, 8, 8, 8, 8, 8, 8, 8, 8, 8, 8, 8, 8, 8, 8, 8, 8, 8, 8, 8, 8, 8, 8, 8, 8, 8, 8, 8, 8, 8, 8, 8, 8, 8, 8, 8, 8, 8, 8, 8, 8, 8, 8, 8, 8, 8, 8]
theorem lenT_ok : ∀ k : Fin 256, (lenT[k.val]?).elim false (fun c => decide (k.val = 0) || decide (1 ≤ c.toNat)) = true := by decide +kernel
theorem wrap8 {k : Int} (h : 0 ≤ k) (h' : k < 256) : IntKind.wrap .u8 k = k := by
  obtain ⟨a, rfl⟩ : ∃ a : Nat, k = (a : Int) := ⟨k.toNat, by omega⟩
  simp [IntKind.wrap, IntKind.bits, IntKind.signed]
  omega
theorem lenT_idx {k n : Int} (h : 0 ≤ k) (h' : k < 256) (hn : 0 ≤ n) (hn' : n ≤ 1000) : ∃ y, ((idx lenT (IntKind.wrap .u8 k)).bind fun c14 => some (w64 (n + (w64 (c14.toNat : Int))))) = some y ∧ (1 ≤ k → 1 ≤ y) := by
  rw [wrap8 h h']
  obtain ⟨a, rfl⟩ : ∃ a : Nat, k = (a : Int) := ⟨k.toNat, by omega⟩
  have ha : a < 256 := by omega
  have hl : a < lenT.length := ha
  have hk := lenT_ok ⟨a, ha⟩
  rw [idx_nat hl, Option.bind_some]
  refine ⟨_, rfl, fun h1 => ?_⟩
  simp only [List.getElem?_eq_getElem hl, Option.elim] at hk
  have hc : 1 ≤ (lenT[a]).toNat := by
    rcases Bool.or_eq_true _ _ ▸ hk with h2 | h2
    · simp at h2; omega
    · simpa using h2
  have hc2 : (lenT[a]).toNat < 256 := UInt8.toNat_lt _
  rw [w64_id (n := ((lenT[a]).toNat : Int)) (by omega) (by omega), w64_id (by omega) (by omega)]
  omega
theorem M135_s (F : Nat) {n : Int} (h : 0 ≤ n) (h' : n ≤ 100000) : ∃ y, M135 F n = some y ∧ (1 ≤ n → 1 ≤ y) := by
  unfold M135 M186
  simp only [jn_def]
  rw [← lenT]
  rw [if_f (show ¬ n ≥ 4294967296 by omega)]
  have e16 : (2 ^ (min (Int.toNat 16) (IntKind.bits .u64)) : Int) = 65536 := by decide
  have e8 : (2 ^ (min (Int.toNat 8) (IntKind.bits .u64)) : Int) = 256 := by decide
  rw [e16, e8]
  by_cases h1 : n ≥ 65536
  · rw [if_t h1, Int.fdiv_eq_ediv_of_nonneg _ (by omega), if_f (by omega), w64_id (n := 0 + 16) (by omega) (by omega)]
    obtain ⟨y, e, hy⟩ := lenT_idx (k := n / 65536) (n := 0 + 16) (by omega) (by omega) (by omega) (by omega)
    rw [e, Option.bind_some]
    exact ⟨y, rfl, fun _ => hy (by omega)⟩
  · rw [if_f h1]
    by_cases h2 : n ≥ 256
    · rw [if_t h2, Int.fdiv_eq_ediv_of_nonneg _ (by omega), w64_id (n := 0 + 8) (by omega) (by omega)]
      obtain ⟨y, e, hy⟩ := lenT_idx (k := n / 256) (n := 0 + 8) (by omega) (by omega) (by omega) (by omega)
      rw [e, Option.bind_some]
      exact ⟨y, rfl, fun _ => hy (by omega)⟩
    · rw [if_f h2]
      obtain ⟨y, e, hy⟩ := lenT_idx (k := n) (n := 0) (by omega) (by omega) (by omega) (by omega)
      rw [e, Option.bind_some]
      exact ⟨y, rfl, fun _ => hy (by omega)⟩
theorem wrap64 {k : Nat} (h' : k ≤ 100000) : IntKind.wrap .u64 (k : Int) = (k : Int) := by
  simp [IntKind.wrap, IntKind.bits, IntKind.signed]
  omega
theorem M120_s (F : Nat) {l : List TIface} (hs : SrI l) (hl : l.length ≤ 100000) (hF : 100002 ≤ F) : M120 F l = some l := by
  unfold M120
  rw [wrap64 hl]
  obtain ⟨y, e, hy⟩ := M135_s F (n := (l.length : Int)) (by omega) (by omega)
  obtain ⟨m, rfl⟩ : ∃ m, F = m + 1 := ⟨F - 1, by omega⟩
  rw [e, Option.bind_some, M171_s m hs hl (by omega) y (by omega), Option.bind_some, if_pos rfl]
theorem M49_s (F : Nat) {l : List Tx} (h : l.length ≤ 100000) : M49 F l = some l := by
  unfold M49
  refine nilq_same ?_ (fun h0 => ?_)
  · rw [if_neg (by simp), if_pos (by simp; omega)]; rfl
  · rw [if_pos rfl, List.length_eq_zero_iff.mp h0]
theorem M43_L1_s (F : Nat) (k : List TIface → Option (List TIface)) : ∀ (l acc : List TIface), (∀ x, x ∈ l → x.Methods.length ≤ 100000) → acc.length + l.length ≤ 100000 → M43_L1 F k l acc = k (acc ++ l)
  | [], acc, _, _ => by rw [M43_L1, List.append_nil]
  | x :: l, acc, hm, hn => by
    simp only [List.length_cons] at hn
    rw [M43_L1, M45, M49_s F (hm x (by simp)), Option.bind_some, Option.bind_some, if_pos (by simp; omega), M43_L1_s F k l _ (fun y hy => hm y (by simp [hy])) (by simp; omega)]
    simp
theorem M43_s (F : Nat) {l : List TIface} (hs : SrI l) (hl : l.length ≤ 100000) (hm : ∀ x, x ∈ l → x.Methods.length ≤ 100000) (hF : 100002 ≤ F) : M43 F l = some l := by
  unfold M43
  rw [jn_def, M43_L1_s F _ l [] hm (by simp; omega), List.nil_append, M120_s F hs hl hF, Option.bind_some, if_pos rfl]
end Go.Proofs.YtpbkggamiipdmaaGreat
namespace Go.Proofs.YtpbkggamiipdmaaGreat
open Go Go.Pv
set_option linter.unusedVariables false
set_option linter.unusedSimpArgs false
set_option maxRecDepth 100000
def SrT (l : List TType) : Prop := l.Pairwise fun a b => Op.bytesLess a.Name b.Name = true
theorem geT (F : Nat) {l : List TType} (hs : SrT l) {i j : Int} (h0 : 0 ≤ i) (h1 : i < j) (h2 : j < (l.length : Int)) {β : Type} {k : Int → Option β} {r : Option β} (hk : ∀ c, ¬ c < 0 → k c = r) : ((idx l j).bind fun x => (idx l i).bind fun y => (M123 F x y).bind k) = r := by
  obtain ⟨a, rfl⟩ : ∃ a : Nat, i = (a : Int) := ⟨i.toNat, by omega⟩
  obtain ⟨b, rfl⟩ : ∃ b : Nat, j = (b : Int) := ⟨j.toNat, by omega⟩
  have hb : b < l.length := by omega
  have ha : a < l.length := by omega
  have hlt := List.pairwise_iff_getElem.mp hs a b ha hb (by omega)
  rw [idx_nat hb, Option.bind_some, idx_nat ha, Option.bind_some]
  unfold M123 M47
  simp only [Option.bind_some]
  rw [M100_eq, Option.bind_some, Option.bind_some]
  apply hk
  have hn : ¬ Op.bytesLess l[b].Name l[a].Name = true := by
    intro h
    simp [bl_asymm hlt] at h
  rw [if_neg hn]
  by_cases h : l[b].Name = l[a].Name
  · rw [if_pos h]; omega
  · rw [if_neg h]; omega
theorem M217_L2_s (F : Nat) {l : List TType} (hs : SrT l) (hl : l.length ≤ 100000) {a1 j : Int} (h0 : 0 ≤ a1) (h2 : j < (l.length : Int)) (k : List TType → Option (List TType)) (n : Nat) : M217_L2 F a1 k (n + 1) j l = k l := by
  rw [M217_L2]
  by_cases h : j > a1
  · rw [if_t h, w64_id (by omega) (by omega)]
    exact geT F hs (by omega) (by omega) h2 fun c hc => if_f hc
  · rw [if_f h]
theorem M217_L1_s (F : Nat) {l : List TType} (hs : SrT l) (hl : l.length ≤ 100000) (hF : 1 ≤ F) {a1 a2 : Int} (h0 : 0 ≤ a1) (ha : a2 ≤ (l.length : Int)) : ∀ (n : Nat) (j : Int), 0 ≤ j → (0 : Int) < n → a2 - j < n → M217_L1 F a1 a2 n j l = some l
  | 0, j, hj, hn, _ => by
    exfalso
    omega
  | n + 1, j, hj, _, hn => by
    rw [M217_L1]
    by_cases h : j < a2
    · obtain ⟨m, rfl⟩ : ∃ m, F = m + 1 := ⟨F - 1, by omega⟩
      rw [if_t h]
      simp only [jn_def]
      rw [M217_L2_s _ hs hl h0 (by omega), w64_id (by omega) (by omega)]
      exact M217_L1_s (m + 1) hs hl hF h0 ha n (j + 1) (by omega) (by omega) (by omega)
    · rw [if_f h]
theorem M277_s (F : Nat) {l : List TType} (hs : SrT l) {i j s : Int} (h0 : 0 ≤ i) (h1 : i < j) (h2 : j < (l.length : Int)) : M277 F i j l s = some (i, j, s) := by
  unfold M277
  exact geT F hs h0 h1 h2 fun c hc => if_f hc
theorem M264_s (F : Nat) {l : List TType} (hs : SrT l) {i j m s : Int} (h0 : 0 ≤ i) (h1 : i < j) (h2 : j < m) (h3 : m < (l.length : Int)) : M264 F i j m l s = some (j, s) := by
  unfold M264
  simp only [M277_s F hs h0 h1 (show j < (l.length : Int) by omega), M277_s F hs (show 0 ≤ j by omega) h2 h3, Option.bind_some]
theorem M263_s (F : Nat) {l : List TType} (hs : SrT l) (hl : l.length ≤ 100000) {j s : Int} (h0 : 1 ≤ j) (h3 : j + 1 < (l.length : Int)) : M263 F j l s = some (j, s) := by
  unfold M263
  rw [w64_id (by omega) (by omega), w64_id (by omega) (by omega), M264_s F hs (by omega) (by omega) (by omega) h3, Option.bind_some]
theorem M222_L2_s (F : Nat) {l : List TType} (hs : SrT l) (hl : l.length ≤ 100000) (k : Int → Option (Bool × List TType)) : ∀ (n : Nat) (j : Int), 1 ≤ j → j ≤ (l.length : Int) → (l.length : Int) - j < n → M222_L2 F (l.length : Int) l k n j = k (l.length : Int)
  | 0, j, hj, hn, h => by exfalso; omega
  | n + 1, j, hj, hn, hh => by
    rw [M222_L2]
    by_cases h : j < (l.length : Int)
    · rw [if_t h, w64_id (n := j - 1) (by omega) (by omega)]
      refine geT F hs (by omega) (by omega) h fun c hc => ?_
      rw [w64_id (by omega) (by omega)]
      simp only [hc, decide_false, Bool.not_false, if_true]
      exact M222_L2_s F hs hl k n (j + 1) (by omega) (by omega) (by omega)
    · rw [if_f h, show j = (l.length : Int) by omega]
theorem M222_s (F : Nat) {l : List TType} (hs : SrT l) (hl : l.length ≤ 100000) (h1 : 1 ≤ l.length) (hF : 100001 ≤ F) : M222 F 0 (l.length : Int) l = some (true, l) := by
  unfold M222
  rw [jn_def, if_pos (by decide), show (5 : Int).toNat = 4 + 1 from rfl, M222_L1]
  simp only [jn_def]
  rw [w64_id (n := 0 + 1) (by omega) (by omega), M222_L2_s F hs hl _ F _ (by omega) (by omega) (by omega)]
  simp
theorem M217_s (F : Nat) {l : List TType} (hs : SrT l) (hl : l.length ≤ 100000) (hF : 100001 ≤ F) : M217 F 0 (l.length : Int) l = some l := by
  unfold M217
  rw [w64_id (n := 0 + 1) (by omega) (by omega)]
  exact M217_L1_s F hs hl (by omega) (by omega) (by omega) F _ (by omega) (by omega) (by omega)
theorem M220_s (F : Nat) {l : List TType} (hs : SrT l) (hl : l.length ≤ 100000) (h12 : 12 < l.length) : ∃ p, M220 F 0 (l.length : Int) l = some (p, 1) := by
  unfold M220
  simp only [jn_def]
  rw [w64_id (n := (l.length : Int) - 0) (by omega) (by omega)]
  have hq : Int.tdiv ((l.length : Int) - 0) 4 = ((l.length / 4 : Nat) : Int) := by
    rw [Int.sub_zero, Int.tdiv_eq_ediv_of_nonneg (by omega)]; rfl
  rw [hq]
  have e0 : w64 ((l.length / 4 : Nat) : Int) = ((l.length / 4 : Nat) : Int) := w64_id (by omega) (by omega)
  rw [e0]
  generalize hqq : ((l.length / 4 : Nat) : Int) = q
  have hq1 : 3 ≤ q := by omega
  have hq2 : q * 4 ≤ (l.length : Int) := by omega
  rw [w64_id (n := q * 1) (by omega) (by omega), w64_id (n := q * 2) (by omega) (by omega), w64_id (n := q * 3) (by omega) (by omega)]
  rw [w64_id (n := 0 + q * 1) (by omega) (by omega), w64_id (n := 0 + q * 2) (by omega) (by omega), w64_id (n := 0 + q * 3) (by omega) (by omega)]
  rw [if_t (show (l.length : Int) - 0 ≥ 8 by omega)]
  by_cases h : (l.length : Int) - 0 ≥ 50
  · rw [if_t h]
    rw [M263_s F hs hl (by omega) (by omega), Option.bind_some, M263_s F hs hl (by omega) (by omega), Option.bind_some, M263_s F hs hl (by omega) (by omega), Option.bind_some, M264_s F hs (by omega) (by omega) (by omega) (by omega), Option.bind_some]
    exact ⟨_, rfl⟩
  · rw [if_f h]
    rw [M264_s F hs (by omega) (by omega) (by omega) (by omega), Option.bind_some]
    exact ⟨_, rfl⟩
theorem M172_s (F : Nat) {l : List TType} (hs : SrT l) (hl : l.length ≤ 100000) (hF : 100001 ≤ F) (lim : Int) (hlim : 12 < l.length → lim ≠ 0) : M172 (F + 1) 0 (l.length : Int) lim l = some l := by
  obtain ⟨m, rfl⟩ : ∃ m, F = m + 1 := ⟨F - 1, by omega⟩
  rw [M172, M172_B, M172_L1]
  rw [w64_id (n := (l.length : Int) - 0) (by omega) (by omega)]
  by_cases h : (l.length : Int) - 0 ≤ 12
  · rw [if_t h, M217_s _ hs hl hF, Option.bind_some, if_pos rfl]
  · rw [if_f h]
    have h0 : (lim == 0) = false := by simpa using hlim (by omega)
    rw [h0]
    obtain ⟨p, hp⟩ := M220_s (m + 1) hs hl (by omega)
    simp only [jn_def, Bool.not_true, Bool.false_eq_true, if_false, hp, Option.bind_some]
    rw [M222_s _ hs hl (by omega) hF]
    simp
theorem M122_s (F : Nat) {l : List TType} (hs : SrT l) (hl : l.length ≤ 100000) (hF : 100002 ≤ F) : M122 F l = some l := by
  unfold M122
  rw [wrap64 hl]
  obtain ⟨y, e, hy⟩ := M135_s F (n := (l.length : Int)) (by omega) (by omega)
  obtain ⟨m, rfl⟩ : ∃ m, F = m + 1 := ⟨F - 1, by omega⟩
  rw [e, Option.bind_some, M172_s m hs hl (by omega) y (by omega), Option.bind_some, if_pos rfl]
theorem M124_s (F : Nat) {l : List TMethod} (h : l.length ≤ 100000) : M124 F l = some l := by
  unfold M124
  refine nilq_same ?_ (fun h0 => ?_)
  · rw [if_neg (by simp), if_pos (by simp; omega)]; rfl
  · rw [if_pos rfl, List.length_eq_zero_iff.mp h0]
theorem M46_L1_s (F : Nat) (k : List TType → Option (List TType)) : ∀ (l acc : List TType), (∀ x, x ∈ l → x.Methods.length ≤ 100000) → acc.length + l.length ≤ 100000 → M46_L1 F k l acc = k (acc ++ l)
  | [], acc, _, _ => by rw [M46_L1, List.append_nil]
  | x :: l, acc, hm, hn => by
    simp only [List.length_cons] at hn
    rw [M46_L1, M48, M124_s F (hm x (by simp)), Option.bind_some, Option.bind_some, if_pos (by simp; omega), M46_L1_s F k l _ (fun y hy => hm y (by simp [hy])) (by simp; omega)]
    simp
theorem M46_s (F : Nat) {l : List TType} (hs : SrT l) (hl : l.length ≤ 100000) (hm : ∀ x, x ∈ l → x.Methods.length ≤ 100000) (hF : 100002 ≤ F) : M46 F l = some l := by
  unfold M46
  rw [jn_def, M46_L1_s F _ l [] hm (by simp; omega), List.nil_append, M122_s F hs hl hF, Option.bind_some, if_pos rfl]
end Go.Proofs.YtpbkggamiipdmaaGreat
namespace Go.Proofs.YtpbkggamiipdmaaGreat
open Go Go.Pv
set_option linter.unusedVariables false
set_option linter.unusedSimpArgs false
set_option maxRecDepth 100000
theorem dropI {α : Type} {a : List α} {n : Nat} {x : α} {l : List α} (h : a.drop n = x :: l) : idx a (n : Int) = some x ∧ a.drop (n + 1) = l := by
  have hn : n < a.length := by
    apply Classical.byContradiction
    intro hc
    rw [List.drop_eq_nil_of_le (by omega)] at h
    simp at h
  rw [List.drop_eq_getElem_cons hn] at h
  injection h with h1 h2
  exact ⟨by rw [idx_nat hn, h1], h2⟩
theorem M26_L1_s (F : Nat) (a : List Tx) (k : Option Bool) : ∀ (l : List Tx) (n : Nat), a.drop n = l → M26_L1 F a k l n = k
  | [], n, _ => by rw [M26_L1]
  | x :: l, n, h => by
    obtain ⟨h1, h2⟩ := dropI h
    rw [M26_L1, h1, Option.bind_some, if_neg (by simp)]
    exact M26_L1_s F a k l (n + 1) h2
theorem M26_s (F : Nat) (a : List Tx) : M26 F a a = some true := by
  unfold M26
  rw [if_neg (by simp), jn_def]
  exact M26_L1_s F a _ a 0 rfl
theorem M52_s (F : Nat) (x : TIface) : M52 F x x = some true := by
  unfold M52
  rw [if_pos (by simp), M26_s]; rfl
theorem M55_L1_s (F : Nat) (a : List TIface) (k : Option Bool) : ∀ (l : List TIface) (n : Nat), a.drop n = l → M55_L1 F a k l n = k
  | [], n, _ => by rw [M55_L1]
  | x :: l, n, h => by
    obtain ⟨h1, h2⟩ := dropI h
    rw [M55_L1, h1, Option.bind_some, M52_s, Option.bind_some, if_neg (by simp)]
    exact M55_L1_s F a k l (n + 1) h2
theorem M55_s (F : Nat) (a : List TIface) : M55 F a a = some true := by
  unfold M55
  rw [if_neg (by simp), jn_def]
  exact M55_L1_s F a _ a 0 rfl
theorem M54_L1_s (F : Nat) (a : List TMethod) (k : Option Bool) : ∀ (l : List TMethod) (n : Nat), a.drop n = l → M54_L1 F a k l n = k
  | [], n, _ => by rw [M54_L1]
  | x :: l, n, h => by
    obtain ⟨h1, h2⟩ := dropI h
    rw [M54_L1, h1, Option.bind_some, if_neg (by simp)]
    exact M54_L1_s F a k l (n + 1) h2
theorem M54_s (F : Nat) (a : List TMethod) : M54 F a a = some true := by
  unfold M54
  rw [if_neg (by simp), jn_def]
  exact M54_L1_s F a _ a 0 rfl
theorem M53_s (F : Nat) (x : TType) : M53 F x x = some true := by
  unfold M53
  rw [if_pos (by simp), M54_s]; rfl
theorem M56_L1_s (F : Nat) (a : List TType) (k : Option Bool) : ∀ (l : List TType) (n : Nat), a.drop n = l → M56_L1 F a k l n = k
  | [], n, _ => by rw [M56_L1]
  | x :: l, n, h => by
    obtain ⟨h1, h2⟩ := dropI h
    rw [M56_L1, h1, Option.bind_some, M53_s, Option.bind_some, if_neg (by simp)]
    exact M56_L1_s F a k l (n + 1) h2
theorem M56_s (F : Nat) (a : List TType) : M56 F a a = some true := by
  unfold M56
  rw [if_neg (by simp), jn_def]
  exact M56_L1_s F a _ a 0 rfl
theorem M126_L1_s (F : Nat) (a : List TCall) (k : Option Bool) : ∀ (l : List TCall) (n : Nat), a.drop n = l → M126_L1 F a k l n = k
  | [], n, _ => by rw [M126_L1]
  | x :: l, n, h => by
    obtain ⟨h1, h2⟩ := dropI h
    rw [M126_L1, h1, Option.bind_some, if_neg (by simp)]
    exact M126_L1_s F a k l (n + 1) h2
theorem M126_s (F : Nat) (a : List TCall) : M126 F a a = some true := by
  unfold M126
  rw [if_neg (by simp), jn_def]
  exact M126_L1_s F a _ a 0 rfl
theorem M58_s (F : Nat) (x : TFunc) : M58 F x x = some true := by
  unfold M58
  rw [if_pos (by simp), if_pos (by simp), M126_s, Option.bind_some, if_pos rfl, M26_s]; rfl
theorem M57_L1_s (F : Nat) (a : List TFunc) (k : Option Bool) : ∀ (l : List TFunc) (n : Nat), a.drop n = l → M57_L1 F a k l n = k
  | [], n, _ => by rw [M57_L1]
  | x :: l, n, h => by
    obtain ⟨h1, h2⟩ := dropI h
    rw [M57_L1, h1, Option.bind_some, M58_s, Option.bind_some, if_neg (by simp)]
    exact M57_L1_s F a k l (n + 1) h2
theorem M57_s (F : Nat) (a : List TFunc) : M57 F a a = some true := by
  unfold M57
  rw [if_neg (by simp), jn_def]
  exact M57_L1_s F a _ a 0 rfl
theorem M13_s (F : Nat) (g : TGraph) : M13 F g g = some true := by
  unfold M13
  rw [M55_s, Option.bind_some, if_pos rfl, M56_s, Option.bind_some, if_pos rfl, M57_s, Option.bind_some, if_pos rfl, M26_s]; rfl
theorem M3_s {F : Nat} {g : TGraph} {a : List TSite} {r : TGraph × Int} (h : M11 F g a = some r) (h' : M12 F g a = some r) : M3 F g a = some true := by
  unfold M3 M14
  rw [h, h', Option.bind_some, Option.bind_some, if_pos (by simp), M13_s, Option.bind_some, if_pos rfl]; rfl
end Go.Proofs.YtpbkggamiipdmaaGreat
namespace Go.Proofs.YtpbkggamiipdmaaGreat
open Go Go.Pv
set_option linter.unusedVariables false
set_option linter.unusedSimpArgs false
set_option maxRecDepth 100000
abbrev SiteM := List (TSite × Bool)
abbrev emG : TGraph := TGraph.mk ([] : List TIface) ([] : List TType) ([] : List TFunc) ([] : List (List UInt8))
def fnd (g : TGraph) (x : Tx) : Option TFunc := g.Funcs.find? fun f => f.Name == x
def atE (g : TGraph) (s : TSite) : Int := match fnd g s.Func with
  | none => 4
  | some f => if s.Call < 0 then 9 else if s.Call ≥ ((f.Calls.length : Nat) : Int) then 9 else 0
def lt (s t : TSite) : Bool := if Op.bytesLess s.Func t.Func = true then true else if (s.Func == t.Func) = true then decide (s.Call < t.Call) else false
def swE (g : TGraph) : Option TSite → List TSite → Int
  | _, [] => 0
  | p, s :: l => if atE g s ≠ 0 then atE g s else if p.elim false (fun q => !lt q s) = true then 10 else swE g (some s) l
def pv (a : List TSite) (n : Nat) : Option TSite := if n = 0 then none else a[n - 1]?
def sput (m : SiteM) (l : List TSite) : SiteM := l.foldl (fun m x => mput m x true) m
theorem M125_L1_s (F : Nat) (x : Tx) (k : Option (TFunc × Bool)) : ∀ l : List TFunc, M125_L1 F x k l = match l.find? (fun f => f.Name == x) with | some f => some (f, true) | none => k
  | [] => by rw [M125_L1]; rfl
  | f :: l => by
    rw [M125_L1, List.find?_cons]
    by_cases h : (f.Name == x) = true
    · rw [if_pos h, h]
    · rw [if_neg h, M125_L1_s F x k l]
      simp only [Bool.not_eq_true] at h
      rw [h]
theorem M50_s (F : Nat) (g : TGraph) (s : TSite) : ∃ c, M50 F g s = some (c, atE g s) := by
  unfold M50 M125 atE fnd
  rw [jn_def, M125_L1_s]
  cases h : g.Funcs.find? (fun f => f.Name == s.Func) with
  | none => exact ⟨_, rfl⟩
  | some f =>
    simp only [Option.bind_some, Bool.not_true, Bool.false_eq_true, if_false]
    by_cases h1 : s.Call < 0
    · rw [if_t h1, if_pos h1]; exact ⟨_, rfl⟩
    · rw [if_f h1, if_neg h1]
      by_cases h2 : s.Call ≥ ((f.Calls.length : Nat) : Int)
      · rw [if_t h2, if_pos h2]; exact ⟨_, rfl⟩
      · rw [if_f h2, if_neg h2]
        obtain ⟨a, ha⟩ : ∃ a : Nat, s.Call = (a : Int) := ⟨s.Call.toNat, by omega⟩
        rw [ha, idx_nat (by omega), Option.bind_some]
        exact ⟨_, rfl⟩
theorem M51_s (F : Nat) (s t : TSite) : M51 F s t = some (lt s t) := by
  unfold M51 lt
  split
  · rfl
  · split <;> rfl
theorem pv_next {a : List TSite} {n : Nat} {x : TSite} {l : List TSite} (h : a.drop n = x :: l) : pv a (n + 1) = some x := by
  obtain ⟨hn, h1, _⟩ := drop_at h
  unfold pv
  rw [if_neg (by omega), Nat.add_sub_cancel, List.getElem?_eq_getElem hn, h1]
theorem M12_L1_s (F : Nat) (g : TGraph) (a : List TSite) (ha : a.length ≤ maxLen) (k : SiteM → Option (TGraph × Int)) : ∀ (l : List TSite) (n : Nat) (m : SiteM), a.drop n = l → M12_L1 F g a k l n m = if swE g (pv a n) l ≠ 0 then some (emG, swE g (pv a n) l) else k (sput m l)
  | [], n, m, _ => by rw [M12_L1]; simp [swE, sput]
  | s :: l, n, m, h => by
    obtain ⟨hn, h1, h2⟩ := drop_at h
    have ih := M12_L1_s F g a ha k l (n + 1) (mput m s true) h2
    rw [pv_next h, show ((n + 1 : Nat) : Int) = (n : Int) + 1 from rfl] at ih
    obtain ⟨c, hc⟩ := M50_s F g s
    rw [M12_L1]
    simp only [jn_def]
    rw [hc, Option.bind_some, swE, ih]
    by_cases h3 : atE g s = 0
    · simp only [h3, bne_self_eq_false, Bool.false_eq_true, if_false, ne_eq, not_true_eq_false]
      by_cases h4 : n = 0
      · subst h4
        rw [if_f (by omega)]
        simp [pv, sput]
      · obtain ⟨h5, h6⟩ := prev_idx hn h4 ha
        rw [if_t (by omega), h6, Option.bind_some, M51_s, Option.bind_some]
        have e : pv a n = some a[n - 1] := by unfold pv; rw [if_neg h4, List.getElem?_eq_getElem h5]
        rw [e]
        simp only [Option.elim]
        have h8 : lt a[n - 1] s = true ∨ lt a[n - 1] s = false := by cases lt a[n - 1] s <;> simp
        rcases h8 with h7 | h7 <;> simp [h7, sput, emG]
    · rw [if_pos (by simpa using h3), if_pos h3, if_pos h3]
end Go.Proofs.YtpbkggamiipdmaaGreat
namespace Go.Proofs.YtpbkggamiipdmaaGreat
open Go Go.Pv
set_option linter.unusedVariables false
set_option linter.unusedSimpArgs false
set_option maxRecDepth 100000
theorem M119_s (F : Nat) (a b : Int) : M119 F a b = some (if a < b then -1 else if a > b then 1 else 0) := by
  unfold M119 M170
  simp only [Option.bind_some, bne_self_eq_false, Bool.false_eq_true, if_false]
  by_cases h : a < b
  · rw [if_t h, if_pos h]
  · rw [if_f h, if_neg h]
    by_cases h2 : a > b
    · rw [if_t h2, if_pos h2]
    · rw [if_f h2, if_neg h2]
theorem M118_s (F : Nat) (a b : Int) : M118 F [a, b] = some (if a ≠ 0 then a else if b ≠ 0 then b else 0) := by
  unfold M118
  simp only [jn_def, M118_L1]
  by_cases h : a = 0
  · by_cases h2 : b = 0
    · simp [h, h2]
    · simp [h, h2]
  · simp [h]
theorem M42_s (F : Nat) (s t : TSite) : ∃ c, M42 F s t = some c ∧ decide (c ≥ 0) = !lt s t := by
  unfold M42
  rw [M100_eq, Option.bind_some, M119_s, Option.bind_some, M118_s, Option.bind_some]
  refine ⟨_, rfl, ?_⟩
  unfold lt
  by_cases h : Op.bytesLess s.Func t.Func = true
  · simp [h]
  · by_cases h2 : s.Func = t.Func
    · rw [h2] at h ⊢
      by_cases h3 : s.Call < t.Call
      · simp [h, h3]
      · by_cases h4 : s.Call > t.Call
        · simp [h, h3, h4]
        · simp [h, h3, h4]
    · simp [h, h2]
theorem fn_look (g : TGraph) (R : RightG g) (x : Tx) : (mget (nums [] 0 (g.Funcs.map (·.Name))) x = none ∧ fnd g x = none) ∨ ∃ (i : Nat) (f : TFunc), mget (nums [] 0 (g.Funcs.map (·.Name))) x = some (i : Int) ∧ idx g.Funcs (i : Int) = some f ∧ fnd g x = some f := by
  cases h : fnd g x with
  | none =>
    left
    refine ⟨?_, rfl⟩
    rw [nums_other]
    · rfl
    · intro hm
      obtain ⟨f, hf, hx⟩ := List.mem_map.1 hm
      have := List.find?_eq_none.1 h f hf
      simp [hx] at this
  | some f =>
    right
    have h1 := List.find?_some h
    have h2 := List.mem_of_find?_eq_some h
    obtain ⟨i, hi, he⟩ := List.getElem_of_mem h2
    have hi' : i < (g.Funcs.map (·.Name)).length := by simpa using hi
    have h3 := nums_get (g.Funcs.map (·.Name)) [] 0 i hi' (List.pairwise_map.2 R.fsrt)
    have h4 : (g.Funcs.map (·.Name))[i] = x := by
      rw [List.getElem_map, he]; simpa using h1
    rw [h4, Int.zero_add] at h3
    exact ⟨i, f, h3, by rw [idx_nat hi, he], rfl⟩
theorem M11_L1_s (F : Nat) (g : TGraph) (R : RightG g) (a : List TSite) (ha : a.length ≤ maxLen) (k : SiteM → Option (TGraph × Int)) : ∀ (l : List TSite) (n : Nat) (m : SiteM), a.drop n = l → M11_L1 F g a (wOf g 1 []) k l n m = if swE g (pv a n) l ≠ 0 then some (emG, swE g (pv a n) l) else k (sput m l)
  | [], n, m, _ => by rw [M11_L1]; simp [swE, sput]
  | s :: l, n, m, h => by
    obtain ⟨hn, h1, h2⟩ := drop_at h
    have ih := M11_L1_s F g R a ha k l (n + 1) (mput m s true) h2
    rw [pv_next h, show ((n + 1 : Nat) : Int) = (n : Int) + 1 from rfl] at ih
    rw [M11_L1]
    simp only [jn_def]
    rw [ih, show (wOf g 1 []).funcs = nums [] 0 (g.Funcs.map (·.Name)) from rfl, swE]
    rcases fn_look g R s.Func with ⟨e1, e2⟩ | ⟨i, f, e1, e2, e3⟩
    · have h3 : atE g s = 4 := by unfold atE; rw [e2]
      rw [e1]
      simp [h3, emG]
    · rw [e1]
      simp only [Option.isSome_some, Bool.not_true, Bool.false_eq_true, if_false, Option.getD_some, e2, Option.bind_some]
      by_cases h4 : s.Call < 0
      · have h3 : atE g s = 9 := by unfold atE; rw [e3]; simp [h4]
        rw [if_t h4]
        simp [h3, emG]
      · rw [if_f h4]
        by_cases h5 : s.Call ≥ ((f.Calls.length : Nat) : Int)
        · have h3 : atE g s = 9 := by unfold atE; rw [e3]; simp only; rw [if_neg h4, if_pos h5]
          rw [if_t h5]
          simp [h3, emG]
        · have h3 : atE g s = 0 := by unfold atE; rw [e3]; simp only; rw [if_neg h4, if_neg h5]
          rw [if_f h5]
          simp only [h3, ne_eq, not_true_eq_false, if_false]
          by_cases h6 : n = 0
          · subst h6
            rw [if_f (by omega)]
            simp [pv, sput]
          · obtain ⟨h7, h8⟩ := prev_idx hn h6 ha
            obtain ⟨c, hc, hd⟩ := M42_s F a[n - 1] s
            rw [if_t (by omega), h8, Option.bind_some, hc, Option.bind_some, hd]
            have e : pv a n = some a[n - 1] := by unfold pv; rw [if_neg h6, List.getElem?_eq_getElem h7]
            rw [e]
            simp only [Option.elim]
            have h8 : lt a[n - 1] s = true ∨ lt a[n - 1] s = false := by cases lt a[n - 1] s <;> simp
            rcases h8 with h7 | h7 <;> simp [h7, sput, emG]
end Go.Proofs.YtpbkggamiipdmaaGreat
namespace Go.Proofs.YtpbkggamiipdmaaGreat
open Go Go.Pv
set_option linter.unusedVariables false
set_option linter.unusedSimpArgs false
set_option maxRecDepth 100000
theorem pig : ∀ (a b : List Tx), a.Pairwise (fun a b => Op.bytesLess a b = true) → (∀ x, x ∈ a → x ∈ b) → a.length ≤ b.length
  | [], b, _, _ => by simp
  | x :: a, b, hp, h => by
    have hp := List.pairwise_cons.1 hp
    have hx : x ∈ b := h x (by simp)
    have ih := pig a (b.erase x) hp.2 (fun y hy => (List.mem_erase_of_ne (bl_ne (hp.1 y hy)).symm).2 (h y (by simp [hy])))
    rw [List.length_erase_of_mem hx] at ih
    have := List.length_pos_of_mem hx
    simp only [List.length_cons]
    omega
def keepC (m : SiteM) (x : Tx) : Int → List TCall → List TCall
  | _, [] => []
  | n, c :: l => if (!((mget m (TSite.mk x n)).getD false)) = true then c :: keepC m x (n + 1) l else keepC m x (n + 1) l
def cutF (m : SiteM) (x : TFunc) : TFunc := TFunc.mk x.Name x.Component (keepC m x.Name 0 x.Calls) x.Makes
theorem M11_L3_s (F : Nat) (m : SiteM) (x : TFunc) (k : List TCall → Option (TGraph × Int)) : ∀ (l : List TCall) (n : Int) (acc : List TCall), acc.length + l.length ≤ 100000 → M11_L3 F m x k l n acc = k (acc ++ keepC m x.Name n l)
  | [], n, acc, _ => by rw [M11_L3, keepC, List.append_nil]
  | c :: l, n, acc, h => by
    simp only [List.length_cons] at h
    rw [M11_L3]
    simp only [jn_def]
    rw [keepC]
    by_cases h1 : (!((mget m (TSite.mk x.Name n)).getD false)) = true
    · rw [if_pos h1, if_pos h1, if_pos (by simp; omega), M11_L3_s F m x k l (n + 1) _ (by simp; omega)]
      simp
    · rw [if_neg h1, if_neg h1, M11_L3_s F m x k l (n + 1) _ (by omega)]
theorem M12_L3_s (F : Nat) (m : SiteM) (x : TFunc) (k : List TCall → Option (TGraph × Int)) : ∀ (l : List TCall) (n : Int) (acc : List TCall), acc.length + l.length ≤ 100000 → M12_L3 F m x k l n acc = k (acc ++ keepC m x.Name n l)
  | [], n, acc, _ => by rw [M12_L3, keepC, List.append_nil]
  | c :: l, n, acc, h => by
    simp only [List.length_cons] at h
    rw [M12_L3]
    simp only [jn_def]
    rw [keepC]
    by_cases h1 : (!((mget m (TSite.mk x.Name n)).getD false)) = true
    · rw [if_pos h1, if_pos h1, if_pos (by simp; omega), M12_L3_s F m x k l (n + 1) _ (by simp; omega)]
      simp
    · rw [if_neg h1, if_neg h1, M12_L3_s F m x k l (n + 1) _ (by omega)]
theorem M11_L2_s (F : Nat) (m : SiteM) (k : List TFunc → Option (TGraph × Int)) : ∀ (l acc : List TFunc), (∀ x, x ∈ l → x.Calls.length ≤ 200 ∧ x.Makes.length ≤ 100000) → acc.length + l.length ≤ 100000 → M11_L2 F m k l acc = k (acc ++ l.map (cutF m))
  | [], acc, _, _ => by rw [M11_L2, List.map_nil, List.append_nil]
  | x :: l, acc, hx, h => by
    simp only [List.length_cons] at h
    have h1 := hx x (by simp)
    rw [M11_L2]
    simp only [jn_def]
    rw [M49_s F h1.2, Option.bind_some, M11_L3_s F m x _ x.Calls 0 [] (by simp; omega), if_pos (by simp; omega), M11_L2_s F m k l _ (fun y hy => hx y (by simp [hy])) (by simp; omega)]
    simp [cutF]
theorem M12_L2_s (F : Nat) (m : SiteM) (k : List TFunc → Option (TGraph × Int)) : ∀ (l acc : List TFunc), (∀ x, x ∈ l → x.Calls.length ≤ 200 ∧ x.Makes.length ≤ 100000) → acc.length + l.length ≤ 100000 → M12_L2 F m k l acc = k (acc ++ l.map (cutF m))
  | [], acc, _, _ => by rw [M12_L2, List.map_nil, List.append_nil]
  | x :: l, acc, hx, h => by
    simp only [List.length_cons] at h
    have h1 := hx x (by simp)
    rw [M12_L2]
    simp only [jn_def]
    rw [M12_L3_s F m x _ x.Calls 0 [] (by simp; omega), if_pos (by simp; omega), M12_L2_s F m k l _ (fun y hy => hx y (by simp [hy])) (by simp; omega)]
    simp [cutF]
theorem plain_3 (g : TGraph) (a : List TSite) (hg : okTGraph g) (ha : (∀ s, s ∈ a → (fun x : TSite => okTSite x) s) ∧ a.length ≤ maxLen) : ∃ F, M3 F g a = some true := by
  refine ⟨200000, ?_⟩
  generalize hF : 200000 = F
  have hF : 100002 ≤ F := by omega
  by_cases h0 : chk false g = 0
  · have R := right_of h0
    have hm : ∀ x, x ∈ g.Funcs → x.Calls.length ≤ 200 ∧ x.Makes.length ≤ 100000 := fun x hx => by
      refine ⟨(R.f x hx).len, ?_⟩
      have h1 := pig x.Makes (g.Types.map (·.Name)) (R.f x hx).msrt (fun t ht => by
        have h2 := (R.f x hx).makes t ht
        simpa [tsOf] using h2)
      have := R.tl
      simp at h1
      omega
    have he : g.Entries.length ≤ 100000 := by
      have h1 := pig g.Entries (g.Funcs.map (·.Name)) R.esrt (fun t ht => by
        have h2 := R.e t ht
        simpa [fsOf] using h2)
      have := R.fl
      simp at h1
      omega
    have hfl := R.fl
    have hil := R.il
    have htl := R.tl
    have k1 : M11 F g a = some (if swE g none a ≠ 0 then (emG, swE g none a) else (TGraph.mk g.Ifaces g.Types (g.Funcs.map (cutF (sput [] a))) g.Entries, 0)) := by
      unfold M11
      rw [M17_eq F g hg, Option.bind_some, h0, if_neg (by simp), M41_eq F g 1 [] R (by omega), Option.bind_some]
      simp only [jn_def]
      rw [Option.bind_some, show (0 : Int) = ((0 : Nat) : Int) from rfl, M11_L1_s F g R a ha.2 _ a 0 [] rfl]
      rw [show pv a 0 = none from rfl]
      by_cases h1 : swE g none a = 0
      · rw [if_neg (by simp [h1]), if_neg (by simp [h1])]
        rw [M43_s F R.isrt (by omega) (fun x hx => by have := (R.i x hx).len; omega) hF, Option.bind_some]
        rw [M46_s F R.tsrt (by omega) (fun x hx => by have := (R.t x hx).len; omega) hF, Option.bind_some]
        rw [M49_s F he, Option.bind_some, M11_L2_s F _ _ g.Funcs [] hm (by simp; omega)]
        rfl
      · rw [if_pos h1, if_pos (show swE g none a ≠ ((0 : Nat) : Int) from h1)]
    have k2 : M12 F g a = some (if swE g none a ≠ 0 then (emG, swE g none a) else (TGraph.mk g.Ifaces g.Types (g.Funcs.map (cutF (sput [] a))) g.Entries, 0)) := by
      unfold M12
      rw [M18_eq F g hg, Option.bind_some, h0, if_neg (by simp)]
      simp only [jn_def]
      rw [show (0 : Int) = ((0 : Nat) : Int) from rfl, M12_L1_s F g a ha.2 _ a 0 [] rfl]
      rw [show pv a 0 = none from rfl]
      by_cases h1 : swE g none a = 0
      · rw [if_neg (by simp [h1]), if_neg (by simp [h1])]
        rw [M12_L2_s F _ _ g.Funcs [] hm (by simp; omega)]
        rfl
      · rw [if_pos h1, if_pos (show swE g none a ≠ ((0 : Nat) : Int) from h1)]
    exact M3_s k1 k2
  · have k1 : M11 F g a = some (emG, chk false g) := by
      unfold M11
      rw [M17_eq F g hg, Option.bind_some, if_pos (by simpa using h0)]
    have k2 : M12 F g a = some (emG, chk false g) := by
      unfold M12
      rw [M18_eq F g hg, Option.bind_some, if_pos (by simpa using h0)]
    exact M3_s k1 k2
end Go.Proofs.YtpbkggamiipdmaaGreat
