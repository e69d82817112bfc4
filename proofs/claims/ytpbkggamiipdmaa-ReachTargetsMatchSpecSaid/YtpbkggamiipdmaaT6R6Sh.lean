/- Part of the proof: RP6, R6Sh. -/
import Derived.Test.YtpbkggamiipdmaaT6RP5
import Derived.Shelf.Small.Bits
import Derived.Shelf.Strconv.Itoa0
import Derived.Shelf.Sort.Plain
import Derived.Ground.Names2Prog
import Derived.Shelf.Slices.Clone
import Derived.Shelf.Slices.CompactI
import Derived.Shelf.Slices.CompactS
import Derived.Shelf.Slices.SearchI
import Derived.Shelf.Slices.Delete
import Derived.Shelf.Slices.Cells
import Derived.Shelf.Slices.In.SortNone
import Derived.Shelf.Slices.Empties
import Derived.Ground.SlgnProg
import Derived.Shelf.SlicesE.Clone
import Derived.Test.YtpbkggamiipdmaaProg
namespace Go.Proofs.Ytpbkggamiipdmaa
open Go Go.Pv
set_option linter.unusedVariables false
theorem cpt_memI (l : List Int) (x : Int) : x ∈ cpt l ↔ x ∈ l := by
  unfold cpt Lib.compact Lib.compactUpTo
  rw [List.mem_map]
  constructor
  · rintro ⟨j, hj, rfl⟩
    have hlt := List.mem_range.1 (List.mem_filter.1 hj).1
    rw [getElem!_pos l.toArray j (by simpa using hlt)]
    simp
  · intro hx
    have key : ∀ j, j < l.length → ∃ i, i ≤ j ∧ Lib.keeps l.toArray i = true ∧ l.toArray[i]! = l.toArray[j]! := by
      intro j
      induction j with
      | zero => exact fun _ => ⟨0, Nat.le_refl _, by simp [Lib.keeps], rfl⟩
      | succ j ih =>
        intro hj
        by_cases he : l.toArray[j + 1]! = l.toArray[j]!
        · obtain ⟨i, h1, h2, h3⟩ := ih (by omega)
          exact ⟨i, by omega, h2, h3.trans he.symm⟩
        · exact ⟨j + 1, Nat.le_refl _, by simp only [Lib.keeps, Nat.add_sub_cancel]; exact decide_eq_true (.inr he), rfl⟩
    obtain ⟨j, hj, rfl⟩ := List.getElem_of_mem hx
    obtain ⟨i, h1, h2, h3⟩ := key j hj
    refine ⟨i, List.mem_filter.2 ⟨List.mem_range.2 (by omega), h2⟩, ?_⟩
    rw [h3, getElem!_pos l.toArray j (by simpa using hj)]
    simp
theorem cpt_srtI {l : List Int} (h : l.Pairwise (· ≤ ·)) : (cpt l).Pairwise (· < ·) := by
  unfold cpt Lib.compact Lib.compactUpTo
  rw [List.pairwise_map]
  have hr : ((List.range l.length).filter (Lib.keeps l.toArray)).Pairwise (· < ·) := List.pairwise_lt_range.filter _
  refine List.Pairwise.imp_of_mem ?_ hr
  intro i j hi hj hlt
  have hj1 := List.mem_range.1 (List.mem_filter.1 hj).1
  have hj2 := (List.mem_filter.1 hj).2
  simp only [Lib.keeps, decide_eq_true_eq] at hj2
  have hne : l.toArray[j]! ≠ l.toArray[j - 1]! := hj2.resolve_left (by omega)
  rw [getElem!_pos l.toArray j (by simpa using hj1), getElem!_pos l.toArray (j - 1) (by simp; omega)] at hne
  rw [getElem!_pos l.toArray i (by simp; omega), getElem!_pos l.toArray j (by simpa using hj1)]
  simp only [List.getElem_toArray] at hne ⊢
  rw [List.pairwise_iff_getElem] at h
  have a1 : l[j - 1] ≤ l[j] := h (j - 1) j (by omega) hj1 (by omega)
  have a2 : l[i] ≤ l[j - 1] := by
    by_cases e : i = j - 1
    · subst e; exact Int.le_refl _
    · exact h i (j - 1) (by omega) (by omega) (by omega)
  omega
theorem isort_perm (l : List Int) : (isort l).Perm l := List.mergeSort_perm _ _
theorem isort_srt (l : List Int) : (isort l).Pairwise (· ≤ ·) := by
  have := List.pairwise_mergeSort (le := fun x y : Int => decide (x ≤ y)) (fun a b c h h' => by simp only [decide_eq_true_eq] at *; omega) (fun a b => by simp only [Bool.or_eq_true, decide_eq_true_eq]; omega) l
  exact this.imp (fun h => by simpa using h)
/-- The place of a name in a list, or -1. -/
theorem M45_eq (F : Nat) (x : Tx) : ∀ (l : List TType) (n : Nat), ∃ r, M45_L1 F x (some (-1)) l n = some r ∧ ((l.find? (fun y => y.Name == x) = none ∧ r = -1) ∨ ∃ i : Nat, ∃ h : i < l.length, r = ((n + i : Nat) : Int) ∧ l.find? (fun y => y.Name == x) = some l[i])
  | [], n => ⟨-1, rfl, .inl ⟨rfl, rfl⟩⟩
  | y :: l, n => by
    rw [M45_L1, M46, Option.bind_some, List.find?_cons]
    by_cases h : (y.Name == x) = true
    · rw [if_pos h, h]; exact ⟨n, rfl, .inr ⟨0, by simp, by simp, rfl⟩⟩
    · rw [if_neg h]
      have : (y.Name == x) = false := by simpa using h
      rw [this]
      obtain ⟨r, e1, e2⟩ := M45_eq F x l (n + 1)
      refine ⟨r, e1, e2.imp id ?_⟩
      rintro ⟨i, hi, e3, e4⟩
      exact ⟨i + 1, by simpa using hi, by rw [e3]; congr 1; omega, by simpa using e4⟩
theorem M47_eq (F : Nat) (x : Tx) : ∀ (l : List TIface) (n : Nat), ∃ r, M47_L1 F x (some (-1)) l n = some r ∧ ((l.find? (fun y => y.Name == x) = none ∧ r = -1) ∨ ∃ i : Nat, ∃ h : i < l.length, r = ((n + i : Nat) : Int) ∧ l.find? (fun y => y.Name == x) = some l[i])
  | [], n => ⟨-1, rfl, .inl ⟨rfl, rfl⟩⟩
  | y :: l, n => by
    rw [M47_L1, M48, Option.bind_some, List.find?_cons]
    by_cases h : (y.Name == x) = true
    · rw [if_pos h, h]; exact ⟨n, rfl, .inr ⟨0, by simp, by simp, rfl⟩⟩
    · rw [if_neg h]
      have : (y.Name == x) = false := by simpa using h
      rw [this]
      obtain ⟨r, e1, e2⟩ := M47_eq F x l (n + 1)
      refine ⟨r, e1, e2.imp id ?_⟩
      rintro ⟨i, hi, e3, e4⟩
      exact ⟨i + 1, by simpa using hi, by rw [e3]; congr 1; omega, by simpa using e4⟩
theorem M51_eq (F : Nat) (g : TGraph) (n : Tx) : M51 F g n = some (match g.Types.find? fun x => x.Name == n with | some x => (x, true) | none => (TType.mk [] [], false)) := by
  have key : ∀ l : List TType, M51_L1 F n (some (TType.mk [] [], false)) l = some (match l.find? fun x => x.Name == n with | some x => (x, true) | none => (TType.mk [] [], false)) := by
    intro l
    induction l with
    | nil => rfl
    | cons x l ih =>
      rw [M51_L1, List.find?_cons]
      by_cases h : (x.Name == n) = true
      · rw [if_pos h, h]
      · rw [if_neg h, ih]
        have : (x.Name == n) = false := by simpa using h
        rw [this]
  unfold M51
  rw [jn_def, key]
theorem M52_full (F : Nat) (g : TGraph) (n : Tx) : M52 F g n = some (match g.Ifaces.find? fun x => x.Name == n with | some x => (x, true) | none => (TIface.mk [] [], false)) := by
  have key : ∀ l : List TIface, M52_L1 F n (some (TIface.mk [] [], false)) l = some (match l.find? fun x => x.Name == n with | some x => (x, true) | none => (TIface.mk [] [], false)) := by
    intro l
    induction l with
    | nil => rfl
    | cons x l ih =>
      rw [M52_L1, List.find?_cons]
      by_cases h : (x.Name == n) = true
      · rw [if_pos h, h]
      · rw [if_neg h, ih]
        have : (x.Name == n) = false := by simpa using h
        rw [this]
  unfold M52
  rw [jn_def, key]
theorem M71_eq (F : Nat) (g : TGraph) (n : Tx) : M71 F g n = some (match g.Funcs.find? fun x => x.Name == n with | some x => (x, true) | none => (TFunc.mk [] [] [] [], false)) := by
  have key : ∀ l : List TFunc, M71_L1 F n (some (TFunc.mk [] [] [] [], false)) l = some (match l.find? fun x => x.Name == n with | some x => (x, true) | none => (TFunc.mk [] [] [] [], false)) := by
    intro l
    induction l with
    | nil => rfl
    | cons x l ih =>
      rw [M71_L1, List.find?_cons]
      by_cases h : (x.Name == n) = true
      · rw [if_pos h, h]
      · rw [if_neg h, ih]
        have : (x.Name == n) = false := by simpa using h
        rw [this]
  unfold M71
  rw [jn_def, key]
theorem fits_eq (F : Nat) (hF : 1000 ≤ F) (g : TGraph) (hg : okTGraph g) (t i : Tx) : ∃ b e, M23 F g t i = some (b, e) ∧ M24 F g t i = some (b, e) := by
  unfold M23 M24
  rw [M44_eq F g hg, M50_eq F g hg, Option.bind_some, Option.bind_some]
  by_cases h0 : chk false g = 0
  · have R := right_of h0
    rw [h0, if_neg (by simp), if_neg (by simp), M51_eq, M52_full, Option.bind_some, Option.bind_some]
    unfold M45 M47
    rw [jn_def, jn_def]
    obtain ⟨r1, a1, a2⟩ := M45_eq F t g.Types 0
    obtain ⟨r2, b1, b2⟩ := M47_eq F i g.Ifaces 0
    rw [show ((0 : Nat) : Int) = 0 from rfl] at a1 b1
    rw [a1, b1, Option.bind_some, Option.bind_some]
    rcases a2 with ⟨a2, rfl⟩ | ⟨p, hp, rfl, a2⟩
    · exact ⟨false, 4, by simp, by rw [a2]; simp⟩
    · rcases b2 with ⟨b2, rfl⟩ | ⟨q, hq, rfl, b2⟩
      · exact ⟨false, 4, by rw [if_neg (by simp)]; simp, by rw [a2, b2]; simp⟩
      · refine ⟨fitB g.Types[p] g.Ifaces[q], 0, ?_, ?_⟩
        · rw [if_neg (by simp), if_neg (by simp)]
          simp only [Nat.zero_add]
          have hT := R.t g.Types[p] (List.getElem_mem _)
          rw [idx_nat hp, idx_nat hq, Option.bind_some, Option.bind_some, M49_eq F _ _ hT.len hT.srt hF, Option.bind_some]
        · rw [a2, b2]
          simp only [Bool.not_true, Bool.false_eq_true, if_false]
          rw [M53_eq, Option.bind_some]
  · exact ⟨false, chk false g, by rw [if_pos (by simpa using h0)], by rw [if_pos (by simpa using h0)]⟩
theorem M55_eq (F : Nat) (w : Treach_world) (hw : w.g.Funcs.length ≤ 3000) : ∀ (l : List Int) (o : List Tx), (∀ v, v ∈ l → ∃ i : Nat, i < w.g.Funcs.length ∧ v = i) → o.length + l.length ≤ 100000 →
    M55_L1 F w (fun l4 => some l4) l o = some (o ++ l.map fun v => ((idx w.g.Funcs v).getD (TFunc.mk [] [] [] [])).Name)
  | [], o, _, _ => by simp [M55_L1]
  | v :: l, o, h, hl => by
    simp only [List.length_cons] at hl
    obtain ⟨i, hi, rfl⟩ := h v (by simp)
    rw [M55_L1, idx_nat hi, Option.bind_some, if_pos (by simp; omega), M55_eq F w hw l _ (fun v hv => h v (List.mem_cons_of_mem _ hv)) (by simp; omega)]
    simp [idx_nat hi]
theorem M56_L1_eq (F : Nat) (w : Treach_world) (c : TCall) (k : List Int → Option (List Int)) (f : Int → Int) : ∀ (l : List Int) (o : List Int), (∀ t, t ∈ l → M82 F w c t = some (f t)) → o.length + l.length ≤ 100000 → M56_L1 F w c k l o = k (o ++ l.map f)
  | [], o, _, _ => by simp [M56_L1]
  | t :: l, o, h, hl => by
    simp only [List.length_cons] at hl
    rw [M56_L1, h t (by simp), Option.bind_some, if_pos (by simp; omega), M56_L1_eq F w c k f l _ (fun t ht => h t (List.mem_cons_of_mem _ ht)) (by simp; omega)]
    simp
/-- The functions to which a call leads, by their numbers. -/
structure TgtOk (g : TGraph) (c : TCall) (l : List Int) : Prop where
  srt : l.Pairwise (· < ·)
  len : l.length ≤ 500
  nat : ∀ v, v ∈ l → ∃ i : Nat, i < g.Funcs.length ∧ v = i
  mem : ∀ i : Nat, ∀ h : i < g.Funcs.length, (i : Int) ∈ l ↔ ∃ a, a ∈ aimsG g c ∧ a.to = (g.Funcs[i]).Name
theorem cpt_lenI (l : List Int) : (cpt l).length ≤ l.length := cpt_len l
theorem M56_eq (F : Nat) (hF : 1000 ≤ F) {g : TGraph} (R : RightG g) (how : Int) (fs : List Tx) {x : TFunc} (hx : x ∈ g.Funcs) {c : TCall} (hc : c ∈ x.Calls) : ∃ l, M56 F (wOf g how fs) c = some l ∧ TgtOk g c l := by
  unfold M56
  by_cases k : c.Kind = 1
  · rw [if_pos (by simp [k])]
    have ha : Tprovenderref6_aim.mk [] c.Target ∈ aimsG g c := by unfold aimsG; rw [if_pos k]; simp
    obtain ⟨i, hi, he⟩ := fs_at (aim_fs R hx hc ha)
    have he : (g.Funcs[i]).Name = c.Target := he
    have hf : (mget (wOf g how fs).funcs c.Target).getD 0 = (i : Int) := by rw [← he]; exact fI_at R how fs hi
    refine ⟨_, rfl, by simp, by simp, fun v hv => ?_, fun j hj => ?_⟩
    · simp only [List.mem_singleton] at hv; rw [hf] at hv; exact ⟨i, hi, hv⟩
    · simp only [List.mem_singleton]
      rw [hf]
      unfold aimsG
      rw [if_pos k]
      simp only [List.mem_singleton]
      constructor
      · intro h
        have : j = i := by omega
        subst this
        exact ⟨_, rfl, he.symm⟩
      · rintro ⟨a, rfl, h⟩
        have h : c.Target = (g.Funcs[j]).Name := h
        have h1 := fI_at R how fs hj
        rw [← h, ← he, fI_at R how fs hi] at h1
        omega
  · rw [if_neg (by simpa using k), jn_def]
    obtain ⟨I, I1, I2, I3, I4⟩ := dis_aim R hx hc k
    have hfit : ∀ t, t ∈ fitL (wOf g how fs) c.Target ↔ ∃ j : Nat, ∃ h : j < g.Types.length, t = j ∧ fitB g.Types[j] I = true := fit_iff R how fs I2
    have hlen : (fitL (wOf g how fs) c.Target).length ≤ 500 := by
      have e : fitL (wOf g how fs) c.Target = fitIdx I 0 g.Types := by
        unfold fitL wOf
        simp only
        rw [fitM_get g.Types c.Target g.Ifaces [] R.isrt]
        simp only [mget, Option.getD_none, List.nil_append]
        rw [I2]; rfl
      rw [e]
      have := fitIdx_len I g.Types 0
      have := R.tl
      omega
    let f : Int → Int := fun t => fI (wOf g how fs) (mOf (g.Types.getD t.toNat (TType.mk [] [])) c.Method).1
    have hm : ∀ t, t ∈ fitL (wOf g how fs) c.Target → M82 F (wOf g how fs) c t = some (f t) := by
      intro t ht
      obtain ⟨j, hj, rfl, _⟩ := (hfit t).1 ht
      rw [M82_at hF R how fs c hj]
      simp only [f, Int.toNat_natCast, List.getD_eq_getElem?_getD, List.getElem?_eq_getElem hj, Option.getD_some]
    have e := M56_L1_eq F (wOf g how fs) c (fun l5 => (M83 F l5).bind fun y17 => if y17.length = l5.length then (M84 F y17).bind fun y20 => some y20 else none) f (fitL (wOf g how fs) c.Target) [] hm (by simp; omega)
    refine ⟨cpt (isort ((fitL (wOf g how fs) c.Target).map f)), ?_, cpt_srtI (isort_srt _), ?_, ?_, ?_⟩
    · refine e.trans ?_
      simp only [List.nil_append]
      unfold M83
      rw [if_pos (by simp; omega), Option.bind_some, if_pos (isort_perm _).length_eq]
      unfold M84
      rw [if_pos (by rw [(isort_perm _).length_eq]; simp; omega), Option.bind_some]
    · have := cpt_lenI (isort ((fitL (wOf g how fs) c.Target).map f))
      rw [(isort_perm _).length_eq, List.length_map] at this
      omega
    · intro v hv
      rw [cpt_memI, (isort_perm _).mem_iff] at hv
      obtain ⟨t, ht, rfl⟩ := List.mem_map.1 hv
      obtain ⟨j, hj, rfl, hft⟩ := (hfit t).1 ht
      have ha : Tprovenderref6_aim.mk (g.Types[j]).Name (mOf g.Types[j] c.Method).1 ∈ aimsG g c := by
        unfold aimsG
        rw [if_neg k]
        exact List.mem_filterMap.2 ⟨g.Types[j], List.getElem_mem _, by unfold aimO; rw [if_pos ⟨I4 _ hft, by rw [I3]; exact hft⟩]⟩
      obtain ⟨q, hq, he⟩ := fs_at (aim_fs R hx hc ha)
      have he : (g.Funcs[q]).Name = (mOf g.Types[j] c.Method).1 := he
      refine ⟨q, hq, ?_⟩
      simp only [f, Int.toNat_natCast, List.getD_eq_getElem?_getD, List.getElem?_eq_getElem hj, Option.getD_some]
      rw [← he]; exact fI_at R how fs hq
    · intro i hi
      rw [cpt_memI, (isort_perm _).mem_iff, List.mem_map]
      constructor
      · rintro ⟨t, ht, he⟩
        obtain ⟨j, hj, rfl, hft⟩ := (hfit t).1 ht
        have ha : Tprovenderref6_aim.mk (g.Types[j]).Name (mOf g.Types[j] c.Method).1 ∈ aimsG g c := by
          unfold aimsG
          rw [if_neg k]
          exact List.mem_filterMap.2 ⟨g.Types[j], List.getElem_mem _, by unfold aimO; rw [if_pos ⟨I4 _ hft, by rw [I3]; exact hft⟩]⟩
        obtain ⟨q, hq, hqe⟩ := fs_at (aim_fs R hx hc ha)
        have hqe : (g.Funcs[q]).Name = (mOf g.Types[j] c.Method).1 := hqe
        simp only [f, Int.toNat_natCast, List.getD_eq_getElem?_getD, List.getElem?_eq_getElem hj, Option.getD_some] at he
        rw [← hqe, fI_at R how fs hq] at he
        have : q = i := by omega
        subst this
        exact ⟨_, ha, hqe.symm⟩
      · rintro ⟨a, ha, he⟩
        unfold aimsG at ha
        rw [if_neg k] at ha
        obtain ⟨t, ht, h⟩ := List.mem_filterMap.1 ha
        unfold aimO at h
        split at h
        · rename_i h1
          simp only [Option.some.injEq] at h
          subst h
          obtain ⟨j, hj, rfl⟩ := List.getElem_of_mem ht
          refine ⟨j, (hfit _).2 ⟨j, hj, rfl, by rw [← I3]; exact h1.2⟩, ?_⟩
          simp only [f, Int.toNat_natCast, List.getD_eq_getElem?_getD, List.getElem?_eq_getElem hj, Option.getD_some]
          have he : (mOf g.Types[j] c.Method).1 = (g.Funcs[i]).Name := he
          rw [he]; exact fI_at R how fs hi
        · simp at h
/-- Names of numbers that rise, rise. -/
theorem names_of {g : TGraph} (R : RightG g) {c : TCall} {l : List Int} (T : TgtOk g c l) :
    ((l.map fun v => ((idx g.Funcs v).getD (TFunc.mk [] [] [] [])).Name).Pairwise fun a b => Op.bytesLess a b = true) ∧ ∀ s, s ∈ (l.map fun v => ((idx g.Funcs v).getD (TFunc.mk [] [] [] [])).Name) ↔ fsOf g s = true ∧ ∃ a, a ∈ aimsG g c ∧ a.to = s := by
  constructor
  · rw [List.pairwise_map]
    refine List.Pairwise.imp_of_mem ?_ T.srt
    intro a b ha hb hlt
    obtain ⟨i, hi, rfl⟩ := T.nat a ha
    obtain ⟨j, hj, rfl⟩ := T.nat b hb
    rw [idx_nat hi, idx_nat hj]
    have := List.pairwise_iff_getElem.1 R.fsrt i j hi hj (by omega)
    exact this
  · intro s
    rw [List.mem_map]
    constructor
    · rintro ⟨v, hv, rfl⟩
      obtain ⟨i, hi, rfl⟩ := T.nat v hv
      rw [idx_nat hi]
      exact ⟨in_names.2 ⟨g.Funcs[i], List.getElem_mem _, rfl⟩, (T.mem i hi).1 hv⟩
    · rintro ⟨hs, a, ha, he⟩
      obtain ⟨i, hi, hie⟩ := fs_at hs
      exact ⟨i, (T.mem i hi).2 ⟨a, ha, by rw [he, hie]⟩, by rw [idx_nat hi]; exact hie⟩
theorem sset_keys (y : Tx) : ∀ (l : List Tx) (m : SetM), y ∈ (sset m l).map (·.1) ↔ y ∈ l ∨ y ∈ m.map (·.1)
  | [], m => by simp [sset]
  | x :: l, m => by
    rw [sset, sset_keys y l, List.mem_cons]
    have : y ∈ (mput m x true).map (·.1) ↔ y = x ∨ y ∈ m.map (·.1) := by
      rw [mput_keys]
      split
      · rename_i h
        exact ⟨.inr, fun hh => hh.elim (fun e => by rw [e]; exact h) id⟩
      · simp [or_comm]
    rw [this]
    exact ⟨fun h => h.elim (fun h => .inl (.inr h)) (fun h => h.elim (fun h => .inl (.inl h)) .inr), fun h => h.elim (fun h => h.elim (fun h => .inr (.inl h)) .inl) (fun h => .inr (.inr h))⟩
theorem sset_nodup : ∀ (l : List Tx) (m : SetM), (m.map (·.1)).Nodup → ((sset m l).map (·.1)).Nodup
  | [], m, h => h
  | x :: l, m, h => by
    refine sset_nodup l _ ?_
    rw [mput_keys]
    split
    · exact h
    · rename_i hx
      rw [List.nodup_append]
      exact ⟨h, by simp, fun a ha b hb e => hx (by simp at hb; rw [← hb, ← e]; exact ha)⟩
theorem M34_gen (F : Nat) (hF : 10000 ≤ F) (m : SetM) (hn : (m.map (·.1)).Nodup) (hl : m.length ≤ 5000) : ∃ r, M34 F m = some r ∧ r.Pairwise (fun a b => Op.bytesLess a b = true) ∧ ∀ x, x ∈ r ↔ x ∈ m.map (·.1) := by
  unfold M34
  rw [M34_L1_eq, if_pos (by simp; omega), M72_eq, List.nil_append, if_pos (okN_of 13 F _ (by simp; omega) (by simp; omega) (by simp; omega))]
  exact ⟨_, rfl, lt_of_sorted (srtT_srt _) ((srtT_perm _).nodup_iff.2 hn), fun x => (srtT_perm _).mem_iff⟩
theorem M26_L1_eq (F : Nat) (k : SetM → Option (List Tx × Int)) : ∀ (l : List Tprovenderref6_aim) (m : SetM), M26_L1 F k l m = k (sset m (l.map (·.to)))
  | [], m => rfl
  | x :: l, m => by rw [M26_L1, M26_L1_eq F k l]; rfl
theorem aims_len {g : TGraph} (R : RightG g) (c : TCall) : (aimsG g c).length ≤ 501 := by
  unfold aimsG
  split
  · simp
  · have := List.length_filterMap_le (aimO g c) g.Types
    have := R.tl
    omega
theorem nums_none {l : List Tx} {x : Tx} (h : x ∉ l) : mget (nums [] 0 l) x = none := by rw [nums_other x l [] 0 h]; rfl
theorem targets_eq (F : Nat) (hF : 10000 ≤ F) (g : TGraph) (hg : okTGraph g) (s : TSite) (hs : okTSite s) : ∃ l e, M25 F g s = some (l, e) ∧ M26 F g s = some (l, e) := by
  unfold M25 M26
  rw [M44_eq F g hg, M50_eq F g hg, Option.bind_some, Option.bind_some]
  by_cases h0 : chk false g = 0
  · have R := right_of h0
    rw [h0, if_neg (by simp), if_neg (by simp), M54_eq F g 1 [] R (by omega), Option.bind_some, Option.bind_some]
    unfold M57
    rw [M71_eq, Option.bind_some]
    by_cases hf : fsOf g s.Func = true
    · obtain ⟨i, hi, he⟩ := fs_at hf
      have hget : mget (wOf g 1 []).funcs s.Func = some (i : Int) := by
        have := nums_get (g.Funcs.map (·.Name)) [] 0 i (by simpa using hi) (srt_names R.fsrt)
        simp only [List.getElem_map] at this
        rw [he] at this
        show mget (nums [] 0 (g.Funcs.map (·.Name))) s.Func = some (i : Int)
        rw [this]; simp
      have hfind : g.Funcs.find? (fun x => x.Name == s.Func) = some g.Funcs[i] := by rw [← he]; exact find_uniq (f := TFunc.Name) R.fsrt (List.getElem_mem _)
      rw [hget, hfind]
      simp only [Option.isSome_some, Bool.not_true, Bool.false_eq_true, if_false, Option.getD_some]
      by_cases h1 : s.Call < 0
      · exact ⟨[], 9, by simp [h1], by simp [h1]⟩
      · have hd : decide (s.Call < 0) = false := by simpa using h1
        rw [hd]
        simp only [Bool.false_eq_true, if_false]
        rw [idx_nat hi, Option.bind_some]
        by_cases h2 : s.Call ≥ (((g.Funcs[i]).Calls.length : Nat) : Int)
        · exact ⟨[], 9, by simp [h2], by simp [h2]⟩
        · have hd2 : decide (s.Call ≥ (((g.Funcs[i]).Calls.length : Nat) : Int)) = false := by simpa using h2
          rw [hd2]
          simp only [Bool.false_eq_true, if_false]
          have hlt : s.Call.toNat < (g.Funcs[i]).Calls.length := by omega
          have hcall : idx (g.Funcs[i]).Calls s.Call = some (g.Funcs[i]).Calls[s.Call.toNat] := by
            simp [idx, show 0 ≤ s.Call by omega, hlt]
          simp only [idx_nat hi, Option.bind_some, hcall]
          obtain ⟨l, e1, T⟩ := M56_eq F (by omega) R 1 [] (List.getElem_mem hi) (List.getElem_mem hlt)
          rw [e1, Option.bind_some]
          unfold M55
          rw [jn_def, M55_eq F _ R.fl l [] T.nat (by have := T.len; simp; omega), Option.bind_some]
          obtain ⟨n1, n2⟩ := names_of R T
          rw [if_neg (by simp), M58_eq F g _ R.tl, Option.bind_some, jn_def, M26_L1_eq]
          have hal := aims_len R (g.Funcs[i]).Calls[s.Call.toNat]
          have hnd := sset_nodup ((aimsG g (g.Funcs[i]).Calls[s.Call.toNat]).map (·.to)) [] (by simp)
          have hle : (sset [] ((aimsG g (g.Funcs[i]).Calls[s.Call.toNat]).map (·.to))).length ≤ 5000 := by
            have := List.Nodup.length_le_of_subset (l₂ := (aimsG g (g.Funcs[i]).Calls[s.Call.toNat]).map (·.to)) hnd (fun x hx => by rw [sset_keys] at hx; simpa using hx)
            simp at this; omega
          obtain ⟨r, r1, r2, r3⟩ := M34_gen F hF _ hnd hle
          rw [r1, Option.bind_some]
          refine ⟨r, 0, ?_, rfl⟩
          congr 2
          refine rise_ext n1 r2 fun x => ?_
          rw [List.nil_append]
          refine (n2 x).trans ?_
          rw [r3, sset_keys]
          simp only [List.map_nil, List.not_mem_nil, or_false, List.mem_map]
          constructor
          · rintro ⟨_, a, ha, he⟩; exact ⟨a, ha, he⟩
          · rintro ⟨a, ha, he⟩; exact ⟨by rw [← he]; exact aim_fs R (List.getElem_mem hi) (List.getElem_mem hlt) ha, a, ha, he⟩
    · have hnn : s.Func ∉ g.Funcs.map (·.Name) := by simpa [fsOf] using hf
      have hget : mget (wOf g 1 []).funcs s.Func = none := nums_none hnn
      have hfind : g.Funcs.find? (fun x => x.Name == s.Func) = none := by
        rw [List.find?_eq_none]
        intro x hx hxe
        exact hnn (List.mem_map.2 ⟨x, hx, by simpa using hxe⟩)
      exact ⟨[], 4, by rw [hget]; simp, by rw [hfind]; simp⟩
  · exact ⟨[], chk false g, by rw [if_pos (by simpa using h0)], by rw [if_pos (by simpa using h0)]⟩
theorem plain_6 (g : TGraph) (t i : Tx) (s : TSite) (hg : okTGraph g) (ht : t.length ≤ maxLen) (hi : i.length ≤ maxLen) (hs : okTSite s) : ∃ F, M6 F g t i s = some true := by
  refine ⟨20003, ?_⟩
  generalize hF : 20003 = F
  obtain ⟨b, e, f1, f2⟩ := fits_eq F (by omega) g hg t i
  obtain ⟨l, e', t1, t2⟩ := targets_eq F (by omega) g hg s hs
  unfold M6
  simp only [f1, f2, t1, t2, Option.bind_some, M15_same]
  simp [M11]
end Go.Proofs.Ytpbkggamiipdmaa

/-
  DERIVED: THE SHELF's CONTRACTS AT THIS DUMP, IN PLAIN WORDS (tools/lay-plain.mjs out of 'TryShelf.lean', which tools/lay-shelf.mjs wrote): THE SAME DECLARATIONS UNDER THE SAME NAMES: 'import', 'namespace', 'open', 'def', 'theorem' AND NOTHING ELSE: no command of the shelf's: FOR A HAND-IN. Each laying: the table of numbers ('.._ren') and one theorem, a field a fact of the dump's own or the kernel's comparison; each contract: ONE APPLICATION.
-/
namespace Go.Proofs
open Go.Shelf
def Try.lays189_ren : Go.Shelf.Ren := ⟨fun | 189 => 83 | 125 => 76 | 257 => 115 | 128 => 103 | 129 => 104 | 294 => 129 | 295 => 130 | 296 => 131 | 297 => 132 | 298 => 133 | 299 => 134 | 216 => 135 | 300 => 136 | 301 => 137 | 328 => 139 | 329 => 122 | 330 => 123 | 331 => 140 | 332 => 141 | 215 => 142 | 343 => 143 | n => n, fun | 28 => 62 | 3 => 3 | 46 => 157 | 0 => 0 | 51 => 189 | 53 => 191 | 4 => 4 | 183 => 183 | 182 => 182 | 131 => 109 | 5 => 5 | 9 => 9 | 218 => 205 | 222 => 209 | 228 => 218 | 229 => 219 | n => n, fun | n => n⟩
theorem Try.lays189 : Go.Proofs.Lays.n189 Try.prog Try.lays189_ren := {
  mixed := by kernel_rfl
  f125 := Try.func76.trans (congrArg some (by kernel_rfl))
  f128 := Try.func103.trans (congrArg some (by kernel_rfl))
  f129 := Try.func104.trans (congrArg some (by kernel_rfl))
  f189 := Try.func83.trans (congrArg some (by kernel_rfl))
  f215 := Try.func142.trans (congrArg some (by kernel_rfl))
  f216 := Try.func135.trans (congrArg some (by kernel_rfl))
  f257 := Try.func115.trans (congrArg some (by kernel_rfl))
  f294 := Try.func129.trans (congrArg some (by kernel_rfl))
  f295 := Try.func130.trans (congrArg some (by kernel_rfl))
  f296 := Try.func131.trans (congrArg some (by kernel_rfl))
  f297 := Try.func132.trans (congrArg some (by kernel_rfl))
  f298 := Try.func133.trans (congrArg some (by kernel_rfl))
  f299 := Try.func134.trans (congrArg some (by kernel_rfl))
  f300 := Try.func136.trans (congrArg some (by kernel_rfl))
  f301 := Try.func137.trans (congrArg some (by kernel_rfl))
  f328 := Try.func139.trans (congrArg some (by kernel_rfl))
  f329 := Try.func122.trans (congrArg some (by kernel_rfl))
  f330 := Try.func123.trans (congrArg some (by kernel_rfl))
  f331 := Try.func140.trans (congrArg some (by kernel_rfl))
  f332 := Try.func141.trans (congrArg some (by kernel_rfl))
  f343 := Try.func143.trans (congrArg some (by kernel_rfl))
  t0 := Try.underlying0
  a0 := Try.isAgg0
  z0 := Try.sizeOf0
  v0 := Try.zeroValue0
  t3 := Try.underlying3
  a3 := Try.isAgg3
  z3 := Try.sizeOf3
  v3 := Try.zeroValue3
  t4 := Try.underlying4
  a4 := Try.isAgg4
  z4 := Try.sizeOf4
  v4 := Try.zeroValue4
  t5 := Try.underlying5
  a5 := Try.isAgg5
  z5 := Try.sizeOf5
  v5 := Try.zeroValue5
  t9 := Try.underlying9
  a9 := Try.isAgg9
  z9 := Try.sizeOf9
  v9 := Try.zeroValue9
  t28 := Try.underlying62
  a28 := Try.isAgg62
  z28 := Try.sizeOf62
  v28 := Try.zeroValue62
  t46 := Try.underlying157
  a46 := Try.isAgg157
  z46 := Try.sizeOf157
  v46 := Try.zeroValue157
  t51 := Try.underlying189
  a51 := Try.isAgg189
  z51 := Try.sizeOf189
  v51 := Try.zeroValue189
  t53 := Try.underlying191
  a53 := Try.isAgg191
  z53 := Try.sizeOf191
  v53 := Try.zeroValue191
  t131 := Try.underlying109
  a131 := Try.isAgg109
  z131 := Try.sizeOf109
  v131 := Try.zeroValue109
  t182 := Try.underlying182
  a182 := Try.isAgg182
  z182 := Try.sizeOf182
  v182 := Try.zeroValue182
  t183 := Try.underlying183
  a183 := Try.isAgg183
  z183 := Try.sizeOf183
  v183 := Try.zeroValue183
  t218 := Try.underlying205
  a218 := Try.isAgg205
  z218 := Try.sizeOf205
  v218 := Try.zeroValue205
  t222 := Try.underlying209
  a222 := Try.isAgg209
  z222 := Try.sizeOf209
  v222 := Try.zeroValue209
  t228 := Try.underlying218
  a228 := Try.isAgg218
  z228 := Try.sizeOf218
  v228 := Try.zeroValue218
  t229 := Try.underlying219
  a229 := Try.isAgg219
  z229 := Try.sizeOf219
  v229 := Try.zeroValue219 }
open Go.Sort Go.RowKit in
theorem Try.slices_Sort_int (blk off cap : Nat) (zs : List Int) (w : World) (hH : Holds (Value.int .i64) w blk off zs.toArray) (hblk : blk < w.heap.size) (hsz : zs.length < 4611686018427387904) :
    Calls Try.prog 83 #[.slice (some ⟨blk, off, none⟩) zs.length cap] w fun e w' =>
      e = .returned (.tuple #[]) ∧ ∃ n os, w' = grow (putRow (Value.int .i64) (Sort.ahead w n) blk off (zs.mergeSort fun x y => decide (x ≤ y)).toArray) os := Any.slices_Sort_int Try.lays189 blk off cap zs w hH hblk hsz
def Try.laysNm220_ren : Go.Shelf.Ren := ⟨fun | 20 => 84 | n => n, fun | 22 => 62 | 3 => 3 | 4 => 4 | 0 => 0 | n => n, fun | n => n⟩
theorem Try.laysNm220 : Go.Proofs.Lays2.n20 Try.prog Try.laysNm220_ren := {
  mixed := by kernel_rfl
  f20 := Try.func84.trans (congrArg some (by kernel_rfl))
  t0 := Try.underlying0
  a0 := Try.isAgg0
  z0 := Try.sizeOf0
  v0 := Try.zeroValue0
  t3 := Try.underlying3
  a3 := Try.isAgg3
  z3 := Try.sizeOf3
  v3 := Try.zeroValue3
  t4 := Try.underlying4
  a4 := Try.isAgg4
  z4 := Try.sizeOf4
  v4 := Try.zeroValue4
  t22 := Try.underlying62
  a22 := Try.isAgg62
  z22 := Try.sizeOf62
  v22 := Try.zeroValue62
  i3 := by kernel_rfl }
open Go.RowKit Go.Lib Go.Sort in
/-- slices.Compact at []int: "Compact replaces consecutive runs of equal elements with a single copy. This is like the uniq command found on Unix. Compact modifies the contents of the slice s and returns the modified slice, which may have a smaller length. Compact zeroes the elements between the new length and the original length. The result preserves the nilness of s.": IT RETURNS THE SLICE CUT TO 'Lib.compact zs'; ITS CELLS HOLD 'Lib.compact zs', THEN ZERO VALUES up to the old length; all else is as it was, but for the count of draws. IN THE WORDS OF slices.Sort's CONTRACT ('Holds', 'putRow'): so the everyday 'slices.Sort(xs); xs = slices.Compact(xs)' goes from the one contract to the other. It asks 'zs.length ≤ cap' (every slice's: the reslicing 's[:k]' looks at it). Length 0, nil: '.._empty'. (LAID: no walk: one application.) -/
theorem Try.slices_Compact_int (blk off cap : Nat) (zs : List Int) (w : World) (hH : Holds (Value.int .i64) w blk off zs.toArray) (hsz : zs.length ≤ 9223372036854775807) (hcap : zs.length ≤ cap) :
    Calls Try.prog 84 #[.slice (some ⟨blk, off, none⟩) zs.length cap] w fun e w' => e = .returned (.slice (some ⟨blk, off, none⟩) (Lib.compact zs).length cap) ∧ ∃ q, w' = putRow (Value.int .i64) (Sort.ahead w q) blk off (Lib.compact zs ++ List.replicate (zs.length - (Lib.compact zs).length) 0).toArray := Any.slices_Compact_int Try.laysNm220 blk off cap zs w hH hsz hcap
open Go.RowKit Go.Lib Go.Sort in
/-- The same at a slice of length 0, a nil one too: it comes back as it is. (LAID: no walk: one application.) -/
theorem Try.slices_Compact_int_empty (a : Option Addr) (cap : Nat) (w : World) :
    Calls Try.prog 84 #[.slice a 0 cap] w fun e w' => e = .returned (.slice a 0 cap) ∧ w' = w := Any.slices_Compact_int_empty Try.laysNm220 a cap w
open Go.RowKit Go.Sort in
/-- .. and plain. (LAID: no walk: one application.) -/
theorem Try.slices_Sort_int_none (p : Option Addr) (cap : Nat) (w : World) :
    Calls Try.prog 83 #[.slice p 0 cap] w fun e w' => e = .returned (.tuple #[]) ∧ w' = w := Any.slices_Sort_int_none Try.lays189 p cap w
end Go.Proofs
