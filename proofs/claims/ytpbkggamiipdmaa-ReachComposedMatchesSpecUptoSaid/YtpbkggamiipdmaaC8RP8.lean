/- Part of the proof: RP5, RP6, RP7a, RP7b, RP8a, RP8b, RP8c, RP8. -/
import Derived.Test.YtpbkggamiipdmaaC8RP
import Derived.Test.YtpbkggamiipdmaaC8RB
namespace Go.Proofs.Ytpbkggamiipdmaa
open Go Go.Pv
set_option linter.unusedVariables false
def pick {α : Type} (f : α → Tx) : List α → List Bool → List Tx
 | x :: xs, b :: l => if b = true then f x :: pick f xs l else pick f xs l
 | _, _ => []
theorem pick_sub {α : Type} (f : α → Tx) : ∀ (xs : List α) (l : List Bool), (pick f xs l).Sublist (xs.map f)
 | [], l => by cases l <;> simp [pick]
 | x :: xs, [] => by simp [pick]
 | x :: xs, b :: l => by
  rw [pick, List.map_cons]
  split
  ·exact (pick_sub f xs l).cons_cons _
  ·exact (pick_sub f xs l).cons _
theorem pick_mem {α : Type} (f : α → Tx) (s : Tx) : ∀ (xs : List α) (l : List Bool), s ∈ pick f xs l ↔ ∃ i : Nat, ∃ h : i < xs.length, tru l i ∧ f xs[i] = s
 | [], l => by cases l <;> simp [pick]
 | x :: xs, [] => by simp [pick, tru]
 | x :: xs, b :: l => by
  have ih := pick_mem f s xs l
  have tl : ∀ i, tru (b :: l) (i + 1) ↔ tru l i := fun i => by unfold tru; rw [List.getElem?_cons_succ]
  have key : (∃ i : Nat, ∃ h : i < (x :: xs).length, tru (b :: l) i ∧ f (x :: xs)[i] = s) ↔ (b = true ∧ f x = s) ∨ ∃ i : Nat, ∃ h : i < xs.length, tru l i ∧ f xs[i] = s := by
   constructor
   ·rintro ⟨i, h, h1, h2⟩
    cases i with
    | zero => exact .inl ⟨by simpa [tru] using h1, h2⟩
    | succ i => exact .inr ⟨i, by simpa using h, (tl i).1 h1, h2⟩
   ·rintro (⟨h1, h2⟩ | ⟨i, h, h1, h2⟩)
    ·exact ⟨0, by simp, by simp [tru, h1], h2⟩
    ·exact ⟨i + 1, by simpa using h, (tl i).2 h1, h2⟩
  rw [key, pick]
  split
  ·rename_i hb; rw [List.mem_cons, ih]; simp [hb, eq_comm]
  ·rename_i hb; rw [ih]; simp [hb]
theorem opn_parts {g : TGraph} {how : Int} {fs : List Tx} (h : opnE g how fs = 0) : RightG g ∧ (how = 1 ∨ how = 2) := by
 unfold opnE at h
 split at h
 ·rename_i h1; exact absurd h h1
 ·rename_i h1
  split at h
  ·rename_i h2; exact absurd h h2
  ·split at h
   ·rename_i h3; exact ⟨right_of (by simpa using h1), h3⟩
   ·simp at h
theorem M15_L1_same (F : Nat) (a : List Tx) (k : Option Bool) : ∀ (l : List Tx) (n : Nat), a.drop n = l → M15_L1 F a k l n = k
 | [], n, _ => rfl
 | x :: l, n, h => by
  obtain ⟨hn, h1, h2⟩ := drop_at h
  rw [M15_L1, idx_nat hn, Option.bind_some, if_neg (by simp [h1])]
  exact M15_L1_same F a k l (n + 1) h2
theorem M15_same (F : Nat) (a : List Tx) : M15 F a a = some true := by
 unfold M15
 rw [if_neg (by simp), jn_def]
 exact M15_L1_same F a _ a 0 rfl
theorem cpt_memI (l : List Int) (x : Int) : x ∈ cpt l ↔ x ∈ l := by
 unfold cpt Lib.compact Lib.compactUpTo
 rw [List.mem_map]
 constructor
 ·rintro ⟨j, hj, rfl⟩
  have hlt := List.mem_range.1 (List.mem_filter.1 hj).1
  rw [getElem!_pos l.toArray j (by simpa using hlt)]
  simp
 ·intro hx
  have key : ∀ j, j < l.length → ∃ i, i ≤ j ∧ Lib.keeps l.toArray i = true ∧ l.toArray[i]! = l.toArray[j]! := by
   intro j
   induction j with
   | zero => exact fun _ => ⟨0, Nat.le_refl _, by simp [Lib.keeps], rfl⟩
   | succ j ih =>
    intro hj
    by_cases he : l.toArray[j + 1]! = l.toArray[j]!
    ·obtain ⟨i, h1, h2, h3⟩ := ih (by omega)
     exact ⟨i, by omega, h2, h3.trans he.symm⟩
    ·exact ⟨j + 1, Nat.le_refl _, by simp only [Lib.keeps, Nat.add_sub_cancel]; exact decide_eq_true (.inr he), rfl⟩
  obtain ⟨j, hj, rfl⟩ := List.getElem_of_mem hx
  obtain ⟨i, h1, h2, h3⟩ := key j hj
  refine ⟨i, List.mem_filter.2 ⟨List.mem_range.2 (by omega), h2⟩, ?_⟩
  rw [h3, getElem!_pos l.toArray j (by simpa using hj)]
  simp
theorem cpt_srtI {l : List Int} (h : l.Pairwise (· ≤ ·)) : (cpt l).Pairwise (· < ·) := by
 unfold cpt Lib.compact Lib.compactUpTo
 rw [List.pairwise_map]
 have hr : ((List.range l.length).filter (Lib.keeps l.toArray)).Pairwise (· < ·) := List.pairwise_lt_range.filter _
 refine List.Pairwise.imp_of_mem ?_ hr
 intro i j hi hj hlt
 have hj1 := List.mem_range.1 (List.mem_filter.1 hj).1
 have hj2 := (List.mem_filter.1 hj).2
 simp only [Lib.keeps, decide_eq_true_eq] at hj2
 have hne : l.toArray[j]! ≠ l.toArray[j - 1]! := hj2.resolve_left (by omega)
 rw [getElem!_pos l.toArray j (by simpa using hj1), getElem!_pos l.toArray (j - 1) (by simp; omega)] at hne
 rw [getElem!_pos l.toArray i (by simp; omega), getElem!_pos l.toArray j (by simpa using hj1)]
 simp only [List.getElem_toArray] at hne ⊢
 rw [List.pairwise_iff_getElem] at h
 have a1 : l[j - 1] ≤ l[j] := h (j - 1) j (by omega) hj1 (by omega)
 have a2 : l[i] ≤ l[j - 1] := by
  by_cases e : i = j - 1
  ·subst e; exact Int.le_refl _
  ·exact h i (j - 1) (by omega) (by omega) (by omega)
 omega
theorem isort_perm (l : List Int) : (isort l).Perm l := List.mergeSort_perm _ _
theorem isort_srt (l : List Int) : (isort l).Pairwise (· ≤ ·) := by
 have := List.pairwise_mergeSort (le := fun x y : Int => decide (x ≤ y)) (fun a b c h h' => by simp only [decide_eq_true_eq] at *; omega) (fun a b => by simp only [Bool.or_eq_true, decide_eq_true_eq]; omega) l
 exact this.imp (fun h => by simpa using h)
theorem M56_L1_eq (F : Nat) (w : Treach_world) (c : TCall) (k : List Int → Option (List Int)) (f : Int → Int) : ∀ (l : List Int) (o : List Int), (∀ t, t ∈ l → M82 F w c t = some (f t)) → o.length + l.length ≤ 100000 → M56_L1 F w c k l o = k (o ++ l.map f)
 | [], o, _, _ => by simp [M56_L1]
 | t :: l, o, h, hl => by
  simp only [List.length_cons] at hl
  rw [M56_L1, h t (by simp), Option.bind_some, if_pos (by simp; omega), M56_L1_eq F w c k f l _ (fun t ht => h t (List.mem_cons_of_mem _ ht)) (by simp; omega)]
  simp
structure TgtOk (g : TGraph) (c : TCall) (l : List Int) : Prop where
 srt : l.Pairwise (· < ·)
 len : l.length ≤ 500
 nat : ∀ v, v ∈ l → ∃ i : Nat, i < g.Funcs.length ∧ v = i
 mem : ∀ i : Nat, ∀ h : i < g.Funcs.length, (i : Int) ∈ l ↔ ∃ a, a ∈ aimsG g c ∧ a.to = (g.Funcs[i]).Name
theorem cpt_lenI (l : List Int) : (cpt l).length ≤ l.length := cpt_len l
theorem M34_gen (F : Nat) (hF : 10000 ≤ F) (m : SetM) (hn : (m.map (·.1)).Nodup) (hl : m.length ≤ 5000) : ∃ r, M34 F m = some r ∧ r.Pairwise (fun a b => Op.bytesLess a b = true) ∧ ∀ x, x ∈ r ↔ x ∈ m.map (·.1) := by
 unfold M34
 rw [M34_L1_eq, if_pos (by simp; omega), M72_eq, List.nil_append, if_pos (okN_of 13 F _ (by simp; omega) (by simp; omega) (by simp; omega))]
 exact ⟨_, rfl, lt_of_sorted (srtT_srt _) ((srtT_perm _).nodup_iff.2 hn), fun x => (srtT_perm _).mem_iff⟩
theorem nums_none {l : List Tx} {x : Tx} (h : x ∉ l) : mget (nums [] 0 l) x = none := by rw [nums_other x l [] 0 h]; rfl
theorem fget_at {g : TGraph} (R : RightG g) (how : Int) (fs : List Tx) {i : Nat} (hi : i < g.Funcs.length) : mget (wOf g how fs).funcs (g.Funcs[i]).Name = some (i : Int) := by
 show mget (nums [] 0 (g.Funcs.map (·.Name))) _ = _
 have := nums_get (g.Funcs.map (·.Name)) [] 0 i (by simpa using hi) (srt_names R.fsrt)
 simp only [List.getElem_map] at this
 rw [this]; simp
theorem fget_none {g : TGraph} (how : Int) (fs : List Tx) {x : Tx} (h : fsOf g x = false) : mget (wOf g how fs).funcs x = none := nums_none (by simpa [fsOf] using h)
section
variable {g : TGraph} {how : Int} {fs : List Tx} {F : Nat} {rl : List Tx} {sp : Treach_spread}
end
def CallOk (g : TGraph) (c : TCall) : Prop := (∀ a, a ∈ aimsG g c → fsOf g a.to = true) ∧ (c.Kind ≠ 1 → ∃ i, i ∈ g.Ifaces ∧ g.Ifaces.find? (fun y => y.Name == c.Target) = some i ∧ ifG g c.Target = i ∧ ∀ t, fitB t i = true → (mOf t c.Method).2 = true)
theorem CallOk.of {g : TGraph} (R : RightG g) {x : TFunc} (hx : x ∈ g.Funcs) {c : TCall} (hc : c ∈ x.Calls) : CallOk g c := ⟨fun _ ha => aim_fs R hx hc ha, fun k => dis_aim R hx hc k⟩
def ocall (o : TOuter) : TCall := TCall.mk (if o.Method = [] then 1 else 2) o.Target o.Method []
def outOk (g : TGraph) (o : TOuter) : Bool := if o.Method = [] then fsOf g o.Target else g.Ifaces.any fun i => i.Name == o.Target && i.Methods.contains o.Method
def sumOk (g : TGraph) (s : TSummary) : Bool := (s.Func :: s.Within).all (fsOf g) && s.Outer.all (outOk g)
theorem CallOk.outer {g : TGraph} (R : RightG g) {o : TOuter} (h : outOk g o = true) : CallOk g (ocall o) := by
 unfold outOk at h
 split at h
 ·rename_i he
  have hk : (ocall o).Kind = 1 := by unfold ocall; rw [if_pos he]
  refine ⟨fun a ha => ?_, fun k => absurd hk k⟩
  unfold aimsG at ha
  rw [if_pos hk] at ha
  simp only [List.mem_singleton] at ha
  subst ha; exact h
 ·rename_i he
  have hk : (ocall o).Kind ≠ 1 := by unfold ocall; rw [if_neg he]; exact (by decide : (2 : Int) ≠ 1)
  obtain ⟨i, hi, hh⟩ := List.any_eq_true.1 h
  rw [Bool.and_eq_true, beq_iff_eq] at hh
  refine ⟨fun a ha => ?_, fun _ => ⟨i, hi, ?_, ?_, fun t ht => ?_⟩⟩
  ·unfold aimsG at ha
   rw [if_neg hk] at ha
   obtain ⟨t, ht, h⟩ := List.mem_filterMap.1 ha
   unfold aimO at h
   split at h
   ·rename_i h1
    simp at h; subst h
    obtain ⟨y, h2, _, h3⟩ := mOf_some h1.1
    show fsOf g (mOf t (ocall o).Method).1 = true
    rw [h3]; exact ((R.t t ht).mn y h2).2
   ·simp at h
  ·show g.Ifaces.find? (fun y => y.Name == o.Target) = some i
   rw [← hh.1]; exact find_uniq (f := TIface.Name) R.isrt hi
  ·show ifG g o.Target = i
   unfold ifG
   rw [← hh.1, find_uniq (f := TIface.Name) R.isrt hi]; rfl
  ·unfold fitB at ht
   rw [List.all_eq_true] at ht
   exact ht o.Method (by simpa using hh.2)
theorem M56_gen (F : Nat) (hF : 1000 ≤ F) {g : TGraph} (R : RightG g) (how : Int) (fs : List Tx) {c : TCall} (H : CallOk g c) : ∃ l, M56 F (wOf g how fs) c = some l ∧ TgtOk g c l := by
 unfold M56
 by_cases k : c.Kind = 1
 ·rw [if_pos (by simp [k])]
  have ha : Tprovenderref6_aim.mk [] c.Target ∈ aimsG g c := by unfold aimsG; rw [if_pos k]; simp
  obtain ⟨i, hi, he⟩ := fs_at (H.1 _ ha)
  have he : (g.Funcs[i]).Name = c.Target := he
  have hf : (mget (wOf g how fs).funcs c.Target).getD 0 = (i : Int) := by rw [← he]; exact fI_at R how fs hi
  refine ⟨_, rfl, by simp, by simp, fun v hv => ?_, fun j hj => ?_⟩
  ·simp only [List.mem_singleton] at hv; rw [hf] at hv; exact ⟨i, hi, hv⟩
  ·simp only [List.mem_singleton]
   rw [hf]
   unfold aimsG
   rw [if_pos k]
   simp only [List.mem_singleton]
   constructor
   ·intro h
    have : j = i := by omega
    subst this
    exact ⟨_, rfl, he.symm⟩
   ·rintro ⟨a, rfl, h⟩
    have h : c.Target = (g.Funcs[j]).Name := h
    have h1 := fI_at R how fs hj
    rw [← h, ← he, fI_at R how fs hi] at h1
    omega
 ·rw [if_neg (by simpa using k), jn_def]
  obtain ⟨I, I1, I2, I3, I4⟩ := H.2 k
  have hfit : ∀ t, t ∈ fitL (wOf g how fs) c.Target ↔ ∃ j : Nat, ∃ h : j < g.Types.length, t = j ∧ fitB g.Types[j] I = true := fit_iff R how fs I2
  have hlen : (fitL (wOf g how fs) c.Target).length ≤ 500 := by
   have e : fitL (wOf g how fs) c.Target = fitIdx I 0 g.Types := by
    unfold fitL wOf
    simp only
    rw [fitM_get g.Types c.Target g.Ifaces [] R.isrt]
    simp only [mget, Option.getD_none, List.nil_append]
    rw [I2]; rfl
   rw [e]
   have := fitIdx_len I g.Types 0
   have := R.tl
   omega
  let f : Int → Int := fun t => fI (wOf g how fs) (mOf (g.Types.getD t.toNat (TType.mk [] [])) c.Method).1
  have hm : ∀ t, t ∈ fitL (wOf g how fs) c.Target → M82 F (wOf g how fs) c t = some (f t) := by
   intro t ht
   obtain ⟨j, hj, rfl, _⟩ := (hfit t).1 ht
   rw [M82_at hF R how fs c hj]
   simp only [f, Int.toNat_natCast, List.getD_eq_getElem?_getD, List.getElem?_eq_getElem hj, Option.getD_some]
  have e := M56_L1_eq F (wOf g how fs) c (fun l5 => (M83 F l5).bind fun y17 => if y17.length = l5.length then (M84 F y17).bind fun y20 => some y20 else none) f (fitL (wOf g how fs) c.Target) [] hm (by simp; omega)
  refine ⟨cpt (isort ((fitL (wOf g how fs) c.Target).map f)), ?_, cpt_srtI (isort_srt _), ?_, ?_, ?_⟩
  ·refine e.trans ?_
   simp only [List.nil_append]
   unfold M83
   rw [if_pos (by simp; omega), Option.bind_some, if_pos (isort_perm _).length_eq]
   unfold M84
   rw [if_pos (by rw [(isort_perm _).length_eq]; simp; omega), Option.bind_some]
  ·have := cpt_lenI (isort ((fitL (wOf g how fs) c.Target).map f))
   rw [(isort_perm _).length_eq, List.length_map] at this
   omega
  ·intro v hv
   rw [cpt_memI, (isort_perm _).mem_iff] at hv
   obtain ⟨t, ht, rfl⟩ := List.mem_map.1 hv
   obtain ⟨j, hj, rfl, hft⟩ := (hfit t).1 ht
   have ha : Tprovenderref6_aim.mk (g.Types[j]).Name (mOf g.Types[j] c.Method).1 ∈ aimsG g c := by
    unfold aimsG
    rw [if_neg k]
    exact List.mem_filterMap.2 ⟨g.Types[j], List.getElem_mem _, by unfold aimO; rw [if_pos ⟨I4 _ hft, by rw [I3]; exact hft⟩]⟩
   obtain ⟨q, hq, he⟩ := fs_at (H.1 _ ha)
   have he : (g.Funcs[q]).Name = (mOf g.Types[j] c.Method).1 := he
   refine ⟨q, hq, ?_⟩
   simp only [f, Int.toNat_natCast, List.getD_eq_getElem?_getD, List.getElem?_eq_getElem hj, Option.getD_some]
   rw [← he]; exact fI_at R how fs hq
  ·intro i hi
   rw [cpt_memI, (isort_perm _).mem_iff, List.mem_map]
   constructor
   ·rintro ⟨t, ht, he⟩
    obtain ⟨j, hj, rfl, hft⟩ := (hfit t).1 ht
    have ha : Tprovenderref6_aim.mk (g.Types[j]).Name (mOf g.Types[j] c.Method).1 ∈ aimsG g c := by
     unfold aimsG
     rw [if_neg k]
     exact List.mem_filterMap.2 ⟨g.Types[j], List.getElem_mem _, by unfold aimO; rw [if_pos ⟨I4 _ hft, by rw [I3]; exact hft⟩]⟩
    obtain ⟨q, hq, hqe⟩ := fs_at (H.1 _ ha)
    have hqe : (g.Funcs[q]).Name = (mOf g.Types[j] c.Method).1 := hqe
    simp only [f, Int.toNat_natCast, List.getD_eq_getElem?_getD, List.getElem?_eq_getElem hj, Option.getD_some] at he
    rw [← hqe, fI_at R how fs hq] at he
    have : q = i := by omega
    subst this
    exact ⟨_, ha, hqe.symm⟩
   ·rintro ⟨a, ha, he⟩
    unfold aimsG at ha
    rw [if_neg k] at ha
    obtain ⟨t, ht, h⟩ := List.mem_filterMap.1 ha
    unfold aimO at h
    split at h
    ·rename_i h1
     simp only [Option.some.injEq] at h
     subst h
     obtain ⟨j, hj, rfl⟩ := List.getElem_of_mem ht
     refine ⟨j, (hfit _).2 ⟨j, hj, rfl, by rw [← I3]; exact h1.2⟩, ?_⟩
     simp only [f, Int.toNat_natCast, List.getD_eq_getElem?_getD, List.getElem?_eq_getElem hj, Option.getD_some]
     have he : (mOf g.Types[j] c.Method).1 = (g.Funcs[i]).Name := he
     rw [he]; exact fI_at R how fs hi
    ·simp at h
theorem M119_eq (F : Nat) (x : TIface) (a b : Tx) : M119 F x a b = some (x.Name == a && x.Methods.contains b) := by
 unfold M119
 by_cases h : x.Name = a
 ·rw [if_pos (by simpa using h), M16_eq, Option.bind_some]; simp [h]
 ·rw [if_neg (by simpa using h)]; simp [h]
theorem M47_1_eq (F : Nat) (a b : Tx) : ∀ (l : List TIface) (n : Nat), ∃ r, M47_1_L1 F a b (some (-1)) l (n : Int) = some r ∧ decide (r ≥ 0) = l.any fun i => i.Name == a && i.Methods.contains b
 | [], n => ⟨-1, rfl, rfl⟩
 | x :: l, n => by
  rw [M47_1_L1, M119_eq, Option.bind_some, List.any_cons]
  cases h : (x.Name == a && x.Methods.contains b)
  ·obtain ⟨r, e1, e2⟩ := M47_1_eq F a b l (n + 1)
   exact ⟨r, by simpa using e1, by simpa using e2⟩
  ·exact ⟨n, by simp, by simp⟩
theorem M90_eq (F : Nat) (w : Treach_world) (a b : Tx) : M90 F w a b = some (w.g.Ifaces.any fun i => i.Name == a && i.Methods.contains b) := by
 unfold M90 M118 M47_1
 rw [jn_def]
 obtain ⟨r, e1, e2⟩ := M47_1_eq F a b w.g.Ifaces 0
 rw [show ((0 : Nat) : Int) = 0 from rfl] at e1
 rw [e1, Option.bind_some, e2]; rfl
section
variable {g : TGraph} {fs : List Tx} {F : Nat}
theorem fget_isSome (R : RightG g) (how : Int) (fs : List Tx) (x : Tx) : (mget (wOf g how fs).funcs x).isSome = fsOf g x := by
 cases h : fsOf g x
 ·rw [fget_none how fs h]; rfl
 ·obtain ⟨i, hi, rfl⟩ := fs_at h
  rw [fget_at R how fs hi]; rfl
theorem M61_L2_eq (R : RightG g) (how : Int) (fs : List Tx) (k : Option Int) : ∀ l : List TOuter, M61_L2 F (wOf g how fs) k l = if l.all (outOk g) = true then k else some 4
 | [] => rfl
 | o :: l => by
  rw [M61_L2, jn_def, List.all_cons, fget_isSome R, M90_eq, M61_L2_eq R how fs k l]
  simp only [Option.bind_some]
  by_cases h : o.Method = []
  ·have h1 : (o.Method == ([] : Tx)) = true := by simpa using h
   have e : outOk g o = fsOf g o.Target := by unfold outOk; rw [if_pos h]
   simp only [e, h1, if_true]
   cases fsOf g o.Target <;> simp
  ·have h1 : (o.Method == ([] : Tx)) = false := by simpa using h
   have hw : (wOf g how fs).g.Ifaces = g.Ifaces := rfl
   have e : outOk g o = g.Ifaces.any fun i => i.Name == o.Target && i.Methods.contains o.Method := by unfold outOk; rw [if_neg h]
   simp only [e, h1, if_false, Bool.not_false, Bool.false_eq_true, if_true, hw]
   cases (g.Ifaces.any fun i => i.Name == o.Target && i.Methods.contains o.Method) <;> simp
theorem M61_L1_eq (R : RightG g) (how : Int) (fs : List Tx) (k : Option Int) : ∀ l : List Tx, M61_L1 F (wOf g how fs) k l = if l.all (fsOf g) = true then k else some 4
 | [] => rfl
 | x :: l => by
  rw [M61_L1, List.all_cons, fget_isSome R, M61_L1_eq R how fs k l]
  cases fsOf g x <;> simp
theorem M61_eq (R : RightG g) (how : Int) (fs : List Tx) (s : TSummary) (m : List (Tx × TSummary)) (h : s.Within.length ≤ 1048576) : M61 F (wOf g how fs) s m = some (if sumOk g s = true then if (mget m s.Func).isSome = true then 5 else 0 else 4) := by
 unfold M61
 rw [if_pos (by simp; omega), jn_def, jn_def, M61_L1_eq R, M61_L2_eq R]
 unfold sumOk
 rw [show [s.Func] ++ s.Within = s.Func :: s.Within from rfl]
 cases (s.Func :: s.Within).all (fsOf g) <;> cases s.Outer.all (outOk g) <;> cases (mget m s.Func).isSome <;> rfl
theorem nfun_eq (x : Tx) : (mget (nOf g).funcs x).getD false = fsOf g x := by
 have := has_sset x (g.Funcs.map (·.Name)) []
 unfold has at this
 show (mget (sset [] (g.Funcs.map (·.Name))) x).getD false = _
 rw [this]; simp [mget, fsOf]
theorem ifm_some (t : Tx) : ∀ (l : List TIface) (m : List (Tx × TIface)), ((∃ i, i ∈ l ∧ i.Name = t) ∨ (mget m t).isSome = true) → (mget (ifm m l) t).isSome = true
 | [], m, h => h.elim (fun ⟨_, h, _⟩ => by simp at h) id
 | x :: l, m, h => by
  rw [ifm]
  refine ifm_some t l _ ?_
  rw [mget_mput]
  by_cases e : x.Name = t
  ·rw [if_pos e]; exact .inr rfl
  ·rw [if_neg e]
   refine h.imp (fun ⟨i, h1, h2⟩ => ⟨i, ?_, h2⟩) id
   rcases List.mem_cons.1 h1 with e' | e'
   ·exact absurd (by rw [← e']; exact h2) e
   ·exact e'
theorem ifm_find (R : RightG g) (t : Tx) : mget (ifm [] g.Ifaces) t = g.Ifaces.find? (fun y => y.Name == t) := by
 cases h : mget (ifm [] g.Ifaces) t with
 | none =>
  symm
  rw [List.find?_eq_none]
  intro i hi he
  have := ifm_some t g.Ifaces [] (.inl ⟨i, hi, by simpa using he⟩)
  rw [h] at this; simp at this
 | some i =>
  rcases ifm_get t i _ _ h with h1 | h1
  ·rw [← h1.2]; exact (find_uniq (f := TIface.Name) R.isrt h1.1).symm
  ·simp [mget] at h1
theorem any_find (R : RightG g) (t m : Tx) : (g.Ifaces.any fun i => i.Name == t && i.Methods.contains m) = (g.Ifaces.find? (fun y => y.Name == t)).elim false fun i => i.Methods.contains m := by
 cases h : g.Ifaces.find? (fun y => y.Name == t) with
 | none =>
  rw [List.find?_eq_none] at h
  show (g.Ifaces.any fun i => i.Name == t && i.Methods.contains m) = false
  rw [List.any_eq_false]
  intro i hi
  have := h i hi
  simp at this
  simp [this]
 | some i =>
  have hi := List.mem_of_find?_eq_some h
  have hn : i.Name = t := by have := List.find?_some h; simpa using this
  rw [Bool.eq_iff_iff, List.any_eq_true]
  constructor
  ·rintro ⟨j, hj, hh⟩
   rw [Bool.and_eq_true, beq_iff_eq] at hh
   have := find_uniq (f := TIface.Name) R.isrt hj
   rw [hh.1, h] at this
   simp only [Option.some.injEq] at this
   subst this; exact hh.2
  ·intro hh
   exact ⟨i, hi, by rw [Bool.and_eq_true]; exact ⟨by simpa using hn, hh⟩⟩
theorem nif_eq (R : RightG g) (t : Tx) : mget (nOf g).ifaces t = (g.Ifaces.find? (fun y => y.Name == t)).map fun x => sset [] x.Methods := by
 rw [← ifm_find R]
 exact rfm_get t g.Ifaces [] [] rfl
theorem M64_L2_eq (R : RightG g) (k : Option Int) : ∀ l : List TOuter, M64_L2 F (nOf g) k l = if l.all (outOk g) = true then k else some 4
 | [] => rfl
 | o :: l => by
  rw [M64_L2, jn_def, List.all_cons, nfun_eq, nif_eq R, M64_L2_eq R k l]
  by_cases h : o.Method = []
  ·have h1 : (o.Method == ([] : Tx)) = true := by simpa using h
   have e : outOk g o = fsOf g o.Target := by unfold outOk; rw [if_pos h]
   simp only [e, h1, if_true, Bool.not_true, Bool.false_eq_true, if_false]
   cases fsOf g o.Target <;> simp
  ·have h1 : (o.Method == ([] : Tx)) = false := by simpa using h
   have e : outOk g o = (g.Ifaces.find? (fun y => y.Name == o.Target)).elim false fun i => i.Methods.contains o.Method := by unfold outOk; rw [if_neg h, any_find R]
   simp only [e, h1, if_false, Bool.not_false, Bool.false_eq_true, if_true]
   cases hf : g.Ifaces.find? (fun y => y.Name == o.Target) with
   | none => simp
   | some i =>
    have : (mget (sset [] i.Methods) o.Method).getD false = i.Methods.contains o.Method := by
     have := has_sset o.Method i.Methods []
     unfold has at this
     rw [this]; simp [mget]
    simp only [Option.map_some, Option.isSome_some, if_true, Option.getD_some, this, Option.elim_some]
    by_cases hc : i.Methods.contains o.Method = true
    ·simp only [hc, Bool.not_true, Bool.false_eq_true, if_false, Bool.true_and]
    ·rw [Bool.not_eq_true] at hc
     simp only [hc, Bool.not_false, Bool.false_and, Bool.false_eq_true, if_false, if_true]
theorem M64_L1_eq (k : Option Int) : ∀ l : List Tx, M64_L1 F (nOf g) k l = if l.all (fsOf g) = true then k else some 4
 | [] => rfl
 | x :: l => by
  rw [M64_L1, List.all_cons, nfun_eq, M64_L1_eq k l]
  cases fsOf g x <;> simp
theorem M64_eq (R : RightG g) (s : TSummary) : M64 F (nOf g) s = some (if sumOk g s = true then 0 else 4) := by
 unfold M64
 rw [jn_def, jn_def, nfun_eq, M64_L1_eq, M64_L2_eq R]
 unfold sumOk
 rw [List.all_cons]
 cases fsOf g s.Func <;> cases s.Within.all (fsOf g) <;> cases s.Outer.all (outOk g) <;> rfl
def knE (g : TGraph) : List TSummary → List (Tx × TSummary) → Int
 | [], _ => 0
 | s :: l, m => if sumOk g s = true then if (mget m s.Func).isSome = true then 5 else knE g l (mput m s.Func s) else 4
def knM : List TSummary → List (Tx × TSummary) → List (Tx × TSummary)
 | [], m => m
 | s :: l, m => knM l (mput m s.Func s)
theorem knE_append : ∀ (l l' : List TSummary) (m : List (Tx × TSummary)), knE g (l ++ l') m = if knE g l m ≠ 0 then knE g l m else knE g l' (knM l m)
 | [], l', m => rfl
 | s :: l, l', m => by
  rw [List.cons_append, knE, knE, knE_append l l', knM]
  cases sumOk g s
  ·rfl
  ·cases (mget m s.Func).isSome <;> rfl
theorem knM_append : ∀ (l l' : List TSummary) (m : List (Tx × TSummary)), knM (l ++ l') m = knM l' (knM l m)
 | [], l', m => rfl
 | s :: l, l', m => by rw [List.cons_append, knM, knM_append l l', knM]
theorem kn_get (x : Tx) (s : TSummary) : ∀ (l : List TSummary) (m : List (Tx × TSummary)), knE g l m = 0 → mget (knM l m) x = some s → (s ∈ l ∧ sumOk g s = true ∧ s.Func = x) ∨ mget m x = some s
 | [], m, _, h => .inr h
 | t :: l, m, h0, h => by
  rw [knE] at h0
  split at h0
  ·rename_i h1
   split at h0
   ·simp at h0
   ·rcases kn_get x s l _ h0 h with h2 | h2
    ·exact .inl ⟨List.mem_cons_of_mem _ h2.1, h2.2⟩
    ·rw [mget_mput] at h2
     split at h2
     ·rename_i e
      simp only [Option.some.injEq] at h2; subst h2
      exact .inl ⟨by simp, h1, e⟩
     ·exact .inr h2
  ·simp at h0
theorem M29_L2_eq (R : RightG g) (how : Int) (fs : List Tx) (k : List (Tx × TSummary) → Option (List Tx × Int)) : ∀ (l : List TSummary) (m : List (Tx × TSummary)), (∀ s, s ∈ l → s.Within.length ≤ 1048576) →
  M29_L2 F (wOf g how fs) k l m = if knE g l m ≠ 0 then some ([], knE g l m) else k (knM l m)
 | [], m, _ => rfl
 | s :: l, m, h => by
  rw [M29_L2, M61_eq R how fs s m (h s (by simp)), Option.bind_some, M29_L2_eq R how fs k l _ (fun t ht => h t (List.mem_cons_of_mem _ ht)), knE, knM]
  cases sumOk g s
  ·rfl
  ·cases (mget m s.Func).isSome <;> rfl
theorem M30_L2_eq (R : RightG g) (k : List (Tx × TSummary) → Option (List Tx × Int)) : ∀ (l : List TSummary) (m : List (Tx × TSummary)),
  M30_L2 F g k l m = if knE g l m ≠ 0 then some ([], knE g l m) else k (knM l m)
 | [], m => rfl
 | s :: l, m => by
  rw [M30_L2, M65_eq, Option.bind_some, M64_eq R, Option.bind_some, M30_L2_eq R k l, knE, knM]
  cases sumOk g s
  ·rfl
  ·cases (mget m s.Func).isSome <;> rfl
theorem M30_L1_eq (R : RightG g) (k : List (Tx × TSummary) → Option (List Tx × Int)) : ∀ (l : List (List TSummary)) (m : List (Tx × TSummary)),
  M30_L1 F g k l m = if knE g l.flatten m ≠ 0 then some ([], knE g l.flatten m) else k (knM l.flatten m)
 | [], m => rfl
 | s :: l, m => by
  rw [M30_L1]
  simp only [jn_def]
  rw [M30_L2_eq R, List.flatten_cons, knE_append, knM_append, M30_L1_eq R k l]
  by_cases h : knE g s m = 0
  ·simp [h]
  ·simp [h]
end
set_option maxRecDepth 100000
section
variable {g : TGraph} {fs : List Tx} {F : Nat} {m : List (Tx × TSummary)}
def Nums (g : TGraph) (l : List Int) (xs : List Tx) : Prop := (∀ v, v ∈ l → ∃ i : Nat, i < g.Funcs.length ∧ v = i) ∧ ∀ i : Nat, ∀ h : i < g.Funcs.length, (i : Int) ∈ l ↔ (g.Funcs[i]).Name ∈ xs
theorem Nums.nil : Nums g [] [] := ⟨by simp, by simp⟩
theorem Nums.app {l l' : List Int} {xs xs' : List Tx} (a : Nums g l xs) (b : Nums g l' xs') : Nums g (l ++ l') (xs ++ xs') :=
 ⟨fun v h => by
  rcases List.mem_append.1 h with h | h
  ·exact a.1 v h
  ·exact b.1 v h, fun i h => by rw [List.mem_append, List.mem_append, a.2 i h, b.2 i h]⟩
theorem Nums.of {c : TCall} {l : List Int} (T : TgtOk g c l) : Nums g l ((aimsG g c).map (·.to)) := ⟨T.nat, fun i h => (T.mem i h).trans (by simp)⟩
theorem name_inj (R : RightG g) {i j : Nat} (hi : i < g.Funcs.length) (hj : j < g.Funcs.length) (h : (g.Funcs[i]).Name = (g.Funcs[j]).Name) : i = j := by
 have h1 := fget_at R 1 [] hi
 rw [h, fget_at R 1 [] hj] at h1
 simp only [Option.some.injEq] at h1
 omega
theorem Nums.one (R : RightG g) (how : Int) (fs : List Tx) {x : Tx} (hx : fsOf g x = true) : Nums g [((mget (wOf g how fs).funcs x).getD 0)] [x] := by
  obtain ⟨i, hi, rfl⟩ := fs_at hx
  rw [fget_at R how fs hi]
  refine ⟨fun v hv => ?_, fun j hj => ?_⟩
  · simp only [Option.getD_some, List.mem_singleton] at hv; exact ⟨i, hi, hv⟩
  · simp only [Option.getD_some, List.mem_singleton]
    exact ⟨fun h => by have : j = i := by omega
                       subst this; rfl, fun h => by rw [name_inj R hj hi h]⟩
def ldC (g : TGraph) (fs : List Tx) (l : List TCall) : List Tx := l.flatMap fun c => if onF fs c.Feature = true then (aimsG g c).map (·.to) else []
def ldO (g : TGraph) (l : List TOuter) : List Tx := l.flatMap fun o => (aimsG g (ocall o)).map (·.to)
def ldN (g : TGraph) (fs : List Tx) (m : List (Tx × TSummary)) (x : TFunc) : List Tx :=
 match mget m x.Name with
 | none => ldC g fs x.Calls
 | some s => s.Within ++ ldO g s.Outer
theorem M62_L1_eq (R : RightG g) (hF : 1000 ≤ F) (how : Int) (k : List Int → Option (List Int)) : ∀ (l : List TCall) (a : List Int), (∀ c, c ∈ l → CallOk g c) → a.length + l.length * 500 ≤ 1000000000000 →
  ∃ l', M62_L1 F (wOf g how fs) k l a = k (a ++ l') ∧ Nums g l' (ldC g fs l) ∧ l'.length ≤ l.length * 500
 | [], a, _, _ => ⟨[], by simp [M62_L1], Nums.nil, by simp⟩
 | c :: l, a, h, hl => by
  simp only [List.length_cons] at hl
  rw [M62_L1]
  simp only [jn_def]
  have ho : (mget (wOf g how fs).on c.Feature).getD false = onF fs c.Feature := has_onF fs c.Feature
  rw [ho]
  cases hq : onF fs c.Feature
  ·obtain ⟨l', e1, e2, e3⟩ := M62_L1_eq R hF how k l a (fun c hc => h c (List.mem_cons_of_mem _ hc)) (by omega)
   refine ⟨l', by rw [if_neg (by simp), e1], ?_, by simp; omega⟩
   unfold ldC
   rw [List.flatMap_cons, hq, if_neg (by simp), List.nil_append]; exact e2
  ·obtain ⟨t, t1, T⟩ := M56_gen F hF R how fs (h c (by simp))
   have := T.len
   obtain ⟨l', e1, e2, e3⟩ := M62_L1_eq R hF how k l (a ++ t) (fun c hc => h c (List.mem_cons_of_mem _ hc)) (by simp; omega)
   refine ⟨t ++ l', by rw [if_pos rfl, t1, Option.bind_some, if_pos (by simp; omega), e1, List.append_assoc], ?_, by simp; omega⟩
   unfold ldC
   rw [List.flatMap_cons, hq, if_pos rfl]
   exact (Nums.of T).app e2
theorem M62_L2_eq (R : RightG g) (how : Int) (k : List Int → Option (List Int)) : ∀ (l : List Tx) (a : List Int), (∀ x, x ∈ l → fsOf g x = true) → a.length + l.length ≤ 1000000000000 →
  ∃ l', M62_L2 F (wOf g how fs) k l a = k (a ++ l') ∧ Nums g l' l ∧ l'.length ≤ l.length
 | [], a, _, _ => ⟨[], by simp [M62_L2], Nums.nil, by simp⟩
 | x :: l, a, h, hl => by
  simp only [List.length_cons] at hl
  rw [M62_L2]
  obtain ⟨l', e1, e2, e3⟩ := M62_L2_eq R how k l (a ++ [((mget (wOf g how fs).funcs x).getD 0)]) (fun c hc => h c (List.mem_cons_of_mem _ hc)) (by simp; omega)
  exact ⟨[((mget (wOf g how fs).funcs x).getD 0)] ++ l', by rw [if_pos (by simp; omega), e1, List.append_assoc], (Nums.one R how fs (h x (by simp))).app e2, by simp; omega⟩
theorem M62_L3_eq (R : RightG g) (hF : 1000 ≤ F) (how : Int) (k : List Int → Option (List Int)) : ∀ (l : List TOuter) (a : List Int), (∀ c, c ∈ l → outOk g c = true) → a.length + l.length * 500 ≤ 1000000000000 →
  ∃ l', M62_L3 F (wOf g how fs) k l a = k (a ++ l') ∧ Nums g l' (ldO g l) ∧ l'.length ≤ l.length * 500
 | [], a, _, _ => ⟨[], by simp [M62_L3], Nums.nil, by simp⟩
 | o :: l, a, h, hl => by
  simp only [List.length_cons] at hl
  rw [M62_L3]
  simp only [jn_def]
  have e : ∀ b : List Int → Option (List Int), (if (!(o.Method == ([] : Tx))) = true then (M56 F (wOf g how fs) (TCall.mk 2 o.Target o.Method [])).bind b else (M56 F (wOf g how fs) (TCall.mk 1 o.Target o.Method [])).bind b) = (M56 F (wOf g how fs) (ocall o)).bind b := by
   intro b
   unfold ocall
   by_cases he : o.Method = []
   ·rw [if_neg (by simp [he]), if_pos he]
   ·rw [if_pos (by simpa using he), if_neg he]
  rw [e]
  obtain ⟨t, t1, T⟩ := M56_gen F hF R how fs (CallOk.outer R (h o (by simp)))
  have := T.len
  obtain ⟨l', e1, e2, e3⟩ := M62_L3_eq R hF how k l (a ++ t) (fun c hc => h c (List.mem_cons_of_mem _ hc)) (by simp; omega)
  refine ⟨t ++ l', by rw [t1, Option.bind_some, if_pos (by simp; omega), e1, List.append_assoc], ?_, by simp; omega⟩
  unfold ldO
  rw [List.flatMap_cons]
  exact (Nums.of T).app e2
def SmOk (g : TGraph) (m : List (Tx × TSummary)) : Prop := ∀ x s, mget m x = some s → sumOk g s = true ∧ s.Within.length ≤ 1048576 ∧ s.Outer.length ≤ 1048576
theorem sumOk_parts {s : TSummary} (h : sumOk g s = true) : (∀ x, x ∈ s.Within → fsOf g x = true) ∧ ∀ o, o ∈ s.Outer → outOk g o = true := by
 unfold sumOk at h
 rw [Bool.and_eq_true, List.all_eq_true, List.all_eq_true] at h
 exact ⟨fun x hx => h.1 x (List.mem_cons_of_mem _ hx), h.2⟩
theorem M62_eq (R : RightG g) (hF : 1000 ≤ F) (how : Int) (hm : SmOk g m) {i : Nat} (hi : i < g.Funcs.length) : ∃ l, M62 F (wOf g how fs) (i : Int) m = some l ∧ Nums g l (ldN g fs m g.Funcs[i]) ∧ l.length ≤ 526000000 := by
 have hf := R.f _ (List.getElem_mem hi)
 have e0 : idx (wOf g how fs).g.Funcs (i : Int) = some g.Funcs[i] := idx_nat hi
 unfold M62 ldN
 rw [e0, Option.bind_some, Option.bind_some]
 cases hg : mget m (g.Funcs[i]).Name with
 | none =>
  rw [if_pos (by simp), jn_def]
  obtain ⟨l', e1, e2, e3⟩ := M62_L1_eq (F := F) (fs := fs) R hF how (fun l10 => some l10) (g.Funcs[i]).Calls [] (fun c hc => CallOk.of R (List.getElem_mem hi) hc) (by have := hf.len; simp; omega)
  exact ⟨l', e1, e2, by have := hf.len; omega⟩
 | some s =>
  obtain ⟨h1, h2, h3⟩ := hm _ _ hg
  obtain ⟨p1, p2⟩ := sumOk_parts h1
  rw [if_neg (by simp), jn_def]
  simp only [Option.getD_some, jn_def]
  obtain ⟨l', e1, e2, e3⟩ := M62_L2_eq (F := F) (fs := fs) R how (fun l26 => M62_L3 F (wOf g how fs) (fun l37 => some l37) s.Outer l26) s.Within [] p1 (by simp; omega)
  rw [e1, List.nil_append]
  obtain ⟨l'', f1, f2, f3⟩ := M62_L3_eq (F := F) (fs := fs) R hF how (fun l37 => some l37) s.Outer l' p2 (by omega)
  exact ⟨l' ++ l'', f1, e2.app f2, by simp; omega⟩
inductive RC (g : TGraph) (fs : List Tx) (m : List (Tx × TSummary)) : Tx → Prop
 | entry {x : Tx} : x ∈ g.Entries → RC g fs m x
 | step {x : TFunc} {y : Tx} : RC g fs m x.Name → x ∈ g.Funcs → y ∈ ldN g fs m x → RC g fs m y
structure BInv (g : TGraph) (fs : List Tx) (m : List (Tx × TSummary)) (seen : List Bool) (queue : List Int) : Prop where
 len : seen.length = g.Funcs.length
 q : ∀ v, v ∈ queue → ∃ i : Nat, ∃ h : i < g.Funcs.length, v = i ∧ RC g fs m (g.Funcs[i]).Name
 s : ∀ i (h : i < g.Funcs.length), seen[i]? = some true → RC g fs m (g.Funcs[i]).Name
 e : ∀ i (h : i < g.Funcs.length), (g.Funcs[i]).Name ∈ g.Entries → seen[i]? = some true ∨ (i : Int) ∈ queue
 l : ∀ i (h : i < g.Funcs.length), seen[i]? = some true → ∀ j (h' : j < g.Funcs.length), (g.Funcs[j]).Name ∈ ldN g fs m g.Funcs[i] → seen[j]? = some true ∨ (j : Int) ∈ queue
theorem BInv.done {seen : List Bool} (I : BInv g fs m seen []) (i : Nat) (h : i < g.Funcs.length) : seen[i]? = some true ↔ RC g fs m (g.Funcs[i]).Name := by
 refine ⟨I.s i h, fun hr => ?_⟩
 have key : ∀ y, RC g fs m y → ∀ i (h : i < g.Funcs.length), (g.Funcs[i]).Name = y → seen[i]? = some true := by
  intro y hy
  induction hy with
  | entry he => exact fun i h e => (I.e i h (by rw [e]; exact he)).resolve_right (by simp)
  | @step x y hx hm hl ih =>
   intro i h e
   obtain ⟨j, hj, rfl⟩ := List.getElem_of_mem hm
   exact (I.l j hj (ih j hj rfl) i h (by rw [e]; exact hl)).resolve_right (by simp)
 exact key _ hr i h rfl
theorem BInv.skip {seen : List Bool} {i : Nat} {q : List Int} (I : BInv g fs m seen ((i : Int) :: q)) (h : seen[i]? = some true) : BInv g fs m seen q := by
 have w : ∀ j : Nat, (j : Int) ∈ (i : Int) :: q → seen[j]? = some true ∨ (j : Int) ∈ q := by
  intro j hj
  rcases List.mem_cons.1 hj with e | e
  ·have : j = i := by omega
   subst this; exact .inl h
  ·exact .inr e
 exact ⟨I.len, fun v hv => I.q v (List.mem_cons_of_mem _ hv), I.s, fun j hj he => (I.e j hj he).elim .inl (w j), fun a ha hs j hj hl => (I.l a ha hs j hj hl).elim .inl (w j)⟩
theorem BInv.take {seen : List Bool} {i : Nat} {q l : List Int} (hi : i < g.Funcs.length) (I : BInv g fs m seen ((i : Int) :: q)) (N : Nums g l (ldN g fs m g.Funcs[i])) : BInv g fs m (seen.set i true) (q ++ l) := by
 have hri : RC g fs m (g.Funcs[i]).Name := by
  obtain ⟨j, hj, e, hr⟩ := I.q (i : Int) (by simp)
  have : i = j := by omega
  subst this; exact hr
 have hl : i < seen.length := by rw [I.len]; exact hi
 have st : ∀ j, (seen.set i true)[j]? = some true ↔ j = i ∨ seen[j]? = some true := by
  intro j
  rw [List.getElem?_set]
  by_cases e : i = j
  ·subst e; simp [hl]
  ·rw [if_neg e]; exact ⟨.inr, fun h => h.resolve_left (fun e' => e e'.symm)⟩
 have w : ∀ j : Nat, seen[j]? = some true ∨ (j : Int) ∈ (i : Int) :: q → (seen.set i true)[j]? = some true ∨ (j : Int) ∈ q ++ l := by
  intro j hj
  rw [st, List.mem_append]
  rcases hj with h | h
  ·exact .inl (.inr h)
  ·rcases List.mem_cons.1 h with e | e
   ·exact .inl (.inl (by omega))
   ·exact .inr (.inl e)
 refine ⟨by simp [I.len], fun v hv => ?_, fun j hj hs => ?_, fun j hj he => w j (I.e j hj he), fun a ha hs j hj hl' => ?_⟩
 ·rcases List.mem_append.1 hv with h | h
  ·exact I.q v (List.mem_cons_of_mem _ h)
  ·obtain ⟨j, hj, rfl⟩ := N.1 v h
   exact ⟨j, hj, rfl, .step hri (List.getElem_mem hi) ((N.2 j hj).1 h)⟩
 ·rcases (st j).1 hs with e | e
  ·subst e; exact hri
  ·exact I.s j hj e
 ·rcases (st a).1 hs with e | e
  ·subst e
   exact .inr (List.mem_append.2 (.inr ((N.2 j hj).2 hl')))
  ·exact w j (I.l a ha e j hj hl')
theorem M29_L4_eq (R : RightG g) (hF : 1000 ≤ F) (hm : SmOk g m) (k : List Bool → Option (List Tx × Int)) : ∀ (n : Nat) (seen : List Bool) (q : List Int), BInv g fs m seen q → q.length + seen.count false * 526000001 < n → q.length + seen.count false * 526000001 ≤ 5000000000000 →
  ∃ seen', M29_L4 F (wOf g 1 fs).g.Ifaces (wOf g 1 fs).g.Types (wOf g 1 fs).g.Funcs (wOf g 1 fs).g.Entries (wOf g 1 fs).funcs (wOf g 1 fs).types (wOf g 1 fs).fitting (wOf g 1 fs).on (wOf g 1 fs).made m k n seen q = k seen' ∧ seen'.length = g.Funcs.length ∧ ∀ i (h : i < g.Funcs.length), seen'[i]? = some true ↔ RC g fs m (g.Funcs[i]).Name
 | 0, _, _, _, hn, _ => by omega
 | n + 1, seen, [], I, _, _ => ⟨seen, by rw [M29_L4]; simp, I.len, I.done⟩
 | n + 1, seen, v :: q, I, hn, hb => by
  obtain ⟨i, hi, rfl, _⟩ := I.q v (by simp)
  have hl : i < seen.length := by rw [I.len]; exact hi
  have e1 : idx seen (i : Int) = some seen[i] := idx_nat hl
  rw [M29_L4, if_pos (by simp), show idx ((i : Int) :: q) 0 = some (i : Int) from rfl, Option.bind_some, if_pos (by simp), e1, Option.bind_some, Option.bind_some]
  simp only [List.length_cons] at hn hb
  by_cases hs : seen[i] = true
  ·rw [if_pos hs, show ((i : Int) :: q).drop 1 = q from rfl]
   exact M29_L4_eq R hF hm k n seen q (I.skip (by rw [List.getElem?_eq_getElem hl, hs])) (by omega) (by omega)
  ·have hs' : seen[i] = false := by simpa using hs
   rw [if_neg hs]
   obtain ⟨l, f1, f2, f3⟩ := M62_eq (F := F) (fs := fs) R hF 1 hm hi
   have ew : Treach_world.mk (TGraph.mk (wOf g 1 fs).g.Ifaces (wOf g 1 fs).g.Types (wOf g 1 fs).g.Funcs (wOf g 1 fs).g.Entries) (wOf g 1 fs).funcs (wOf g 1 fs).types (wOf g 1 fs).fitting (wOf g 1 fs).on (wOf g 1 fs).made = wOf g 1 fs := rfl
   have hc : (seen.set i true).count false + 1 = seen.count false := by
    have h1 := List.count_set (l := seen) (i := i) (a := true) (b := false) hl
    have h2 : 0 < seen.count false := List.count_pos_iff.2 (by rw [← hs']; exact List.getElem_mem hl)
    rw [hs'] at h1
    simp at h1
    omega
   rw [ew, f1, Option.bind_some, show ((i : Int) :: q).drop 1 = q from rfl, if_pos (by simp; omega), show ((i : Int)).toNat = i from Int.toNat_natCast i]
   exact M29_L4_eq R hF hm k n _ _ (I.take hi f2) (by simp; omega) (by simp; omega)
theorem M29_L3_eq (R : RightG g) (k : List Int → Option (List Tx × Int)) : ∀ (l : List Tx) (a : List Int), (∀ x, x ∈ l → fsOf g x = true) → a.length + l.length ≤ 100000 →
  ∃ l', M29_L3 F (wOf g 1 fs).funcs k l a = k (a ++ l') ∧ Nums g l' l ∧ l'.length ≤ l.length
 | [], a, _, _ => ⟨[], by simp [M29_L3], Nums.nil, by simp⟩
 | x :: l, a, h, hl => by
  simp only [List.length_cons] at hl
  rw [M29_L3]
  obtain ⟨l', e1, e2, e3⟩ := M29_L3_eq R k l (a ++ [((mget (wOf g 1 fs).funcs x).getD 0)]) (fun c hc => h c (List.mem_cons_of_mem _ hc)) (by simp; omega)
  exact ⟨[((mget (wOf g 1 fs).funcs x).getD 0)] ++ l', by rw [if_pos (by simp; omega), e1, List.append_assoc], (Nums.one R 1 fs (h x (by simp))).app e2, by simp; omega⟩
theorem M29_L5_eq (hl : g.Funcs.length ≤ 3000) (k : List Tx → Option (List Tx × Int)) : ∀ (l : List Bool) (r : List TFunc) (n : Nat) (o : List Tx), g.Funcs.drop n = r → l.length = r.length → o.length + l.length ≤ 100000 → M29_L5 F g k l (n : Int) o = k (o ++ pick (·.Name) r l)
 | [], r, n, o, _, _, _ => by cases r <;> simp [M29_L5, pick]
 | b :: l, [], n, o, _, h, _ => by simp at h
 | b :: l, f :: r, n, o, hd, h, ho => by
  obtain ⟨hn, hx, hr⟩ := drop_at hd
  simp only [List.length_cons] at h ho
  have ih := fun o' ho' => M29_L5_eq hl k l r (n + 1) o' hr (by omega) ho'
  rw [show ((n + 1 : Nat) : Int) = (n : Int) + 1 from rfl] at ih
  rw [M29_L5, pick]
  simp only [jn_def]
  cases b
  ·rw [if_neg (by simp), if_neg (by simp), ih o (by omega)]
  ·rw [if_pos rfl, if_pos rfl, idx_nat hn, Option.bind_some, if_pos (by simp; omega), ih _ (by simp; omega), hx, List.append_assoc]
   rfl
end
section
variable {g : TGraph} {fs : List Tx} {F : Nat} {m : List (Tx × TSummary)}
def setOf (l : List Tx) : SetM := l.map fun x => (x, true)
theorem setOf_get (x : Tx) : ∀ l : List Tx, (mget (setOf l) x).getD false = l.contains x
 | [] => rfl
 | y :: l => by
  have ih := setOf_get x l
  show (mget ((y, true) :: setOf l) x).getD false = _
  rw [mget, List.contains_cons]
  by_cases h : y = x
  ·subst h; simp
  ·have h' : (x == y) = false := by simpa using fun e => h e.symm
   simp only [h, h', if_false, Bool.false_or, ih]
theorem setOf_put (x : Tx) : ∀ l : List Tx, x ∉ l → mput (setOf l) x true = setOf (l ++ [x])
 | [], _ => rfl
 | y :: l, h => by
  have h1 : y ≠ x := fun e => h (by rw [e]; simp)
  have h2 : x ∉ l := fun e => h (List.mem_cons_of_mem _ e)
  show mput ((y, true) :: setOf l) x true = (y, true) :: setOf (l ++ [x])
  rw [mput, if_neg h1, setOf_put x l h2]
def add (l : List Tx) (x : Tx) : List Tx := if l.contains x = true then l else l ++ [x]
def adds (l xs : List Tx) : List Tx := xs.foldl add l
def NL (g : TGraph) (l : List Tx) : Prop := l.Nodup ∧ ∀ x, x ∈ l → fsOf g x = true
theorem NL.len (R : RightG g) {l : List Tx} (h : NL g l) : l.length ≤ 3000 := by
 have := List.Nodup.length_le_of_subset (l₂ := g.Funcs.map (·.Name)) h.1 (fun x hx => by have := h.2 x hx; simpa [fsOf] using this)
 have := R.fl
 simp at *; omega
theorem NL.add {l : List Tx} (h : NL g l) {x : Tx} (hx : fsOf g x = true) : NL g (add l x) := by
 unfold Go.Proofs.Ytpbkggamiipdmaa.add
 split
 ·exact h
 ·rename_i hn
  have hn : x ∉ l := by simpa using hn
  refine ⟨?_, fun y hy => ?_⟩
  ·rw [List.nodup_append]
   exact ⟨h.1, by simp, fun a ha b hb e => hn (by simp at hb; rw [← hb, ← e]; exact ha)⟩
  ·rcases List.mem_append.1 hy with e | e
   ·exact h.2 y e
   ·simp at e; subst e; exact hx
theorem add_mem {l : List Tx} {x y : Tx} : y ∈ add l x ↔ y ∈ l ∨ y = x := by
 unfold add
 split
 ·rename_i h
  have h : x ∈ l := by simpa using h
  exact ⟨.inl, fun e => e.elim id (fun e => by rw [e]; exact h)⟩
 ·simp
theorem add_pre (l : List Tx) (x : Tx) : l <+: add l x := by
 unfold add
 split
 ·exact List.prefix_refl _
 ·exact List.prefix_append _ _
theorem adds_nl : ∀ (xs l : List Tx), NL g l → (∀ x, x ∈ xs → fsOf g x = true) → NL g (adds l xs)
 | [], l, h, _ => h
 | x :: xs, l, h, hx => adds_nl xs (add l x) (h.add (hx x (by simp))) (fun y hy => hx y (List.mem_cons_of_mem _ hy))
theorem adds_mem {y : Tx} : ∀ (xs l : List Tx), y ∈ adds l xs ↔ y ∈ l ∨ y ∈ xs
 | [], l => by simp [adds]
 | x :: xs, l => by
  show y ∈ adds (add l x) xs ↔ _
  rw [adds_mem xs, add_mem, List.mem_cons, or_assoc]
theorem adds_pre : ∀ (xs l : List Tx), l <+: adds l xs
 | [], l => List.prefix_refl _
 | x :: xs, l => (add_pre l x).trans (adds_pre xs (add l x))
theorem adds_append (l xs ys : List Tx) : adds l (xs ++ ys) = adds (adds l xs) ys := by unfold adds; rw [List.foldl_append]
theorem M66_eq (R : RightG g) {l : List Tx} (h : NL g l) (x : Tx) : M66 F x (setOf l) l = some (setOf (add l x), add l x) := by
 have := h.len R
 unfold M66 add
 rw [setOf_get]
 by_cases hc : l.contains x = true
 ·rw [hc, if_neg (by simp), if_pos rfl]
 ·rw [if_neg hc, if_pos (by simpa using hc), if_pos (by simp; omega), setOf_put x l (by simpa using hc)]
theorem M30_L6_eq (R : RightG g) (k : SetM → List Tx → Option (List Tx × Int)) : ∀ (xs : List Tprovenderref6_aim) (l : List Tx), NL g l → (∀ a, a ∈ xs → fsOf g a.to = true) → M30_L6 F k xs (setOf l) l = k (setOf (adds l (xs.map (·.to)))) (adds l (xs.map (·.to)))
 | [], l, _, _ => rfl
 | x :: xs, l, h, hx => by
  rw [M30_L6, M66_eq R h, Option.bind_some, M30_L6_eq R k xs _ (h.add (hx x (by simp))) (fun a ha => hx a (List.mem_cons_of_mem _ ha))]; rfl
theorem M30_L9_eq (R : RightG g) (k : SetM → List Tx → Option (List Tx × Int)) : ∀ (xs : List Tprovenderref6_aim) (l : List Tx), NL g l → (∀ a, a ∈ xs → fsOf g a.to = true) → M30_L9 F k xs (setOf l) l = k (setOf (adds l (xs.map (·.to)))) (adds l (xs.map (·.to)))
 | [], l, _, _ => rfl
 | x :: xs, l, h, hx => by
  rw [M30_L9, M66_eq R h, Option.bind_some, M30_L9_eq R k xs _ (h.add (hx x (by simp))) (fun a ha => hx a (List.mem_cons_of_mem _ ha))]; rfl
theorem M30_L7_eq (R : RightG g) (k : SetM → List Tx → Option (List Tx × Int)) : ∀ (xs : List Tx) (l : List Tx), NL g l → (∀ a, a ∈ xs → fsOf g a = true) → M30_L7 F k xs (setOf l) l = k (setOf (adds l xs)) (adds l xs)
 | [], l, _, _ => rfl
 | x :: xs, l, h, hx => by
  rw [M30_L7, M66_eq R h, Option.bind_some, M30_L7_eq R k xs _ (h.add (hx x (by simp))) (fun a ha => hx a (List.mem_cons_of_mem _ ha))]; rfl
theorem M30_L3_eq (R : RightG g) (k : SetM → List Tx → Option (List Tx × Int)) : ∀ (xs : List Tx) (l : List Tx), NL g l → (∀ a, a ∈ xs → fsOf g a = true) → M30_L3 F k xs (setOf l) l = k (setOf (adds l xs)) (adds l xs)
 | [], l, _, _ => rfl
 | x :: xs, l, h, hx => by
  rw [M30_L3, M66_eq R h, Option.bind_some, M30_L3_eq R k xs _ (h.add (hx x (by simp))) (fun a ha => hx a (List.mem_cons_of_mem _ ha))]; rfl
theorem M30_L5_eq (R : RightG g) (k : SetM → List Tx → Option (List Tx × Int)) : ∀ (xs : List Tprovenderref6_link) (l : List Tx), NL g l → (∀ x, x ∈ xs → ∀ a, a ∈ x.aims → fsOf g a.to = true) →
  M30_L5 F k xs (setOf l) l = k (setOf (adds l (xs.flatMap fun x => x.aims.map (·.to)))) (adds l (xs.flatMap fun x => x.aims.map (·.to)))
 | [], l, _, _ => rfl
 | x :: xs, l, h, hx => by
  rw [M30_L5]
  simp only [jn_def]
  rw [M30_L6_eq R _ _ l h (hx x (by simp)), M30_L5_eq R k xs _ (adds_nl _ _ h (fun y hy => by
   obtain ⟨a, ha, rfl⟩ := List.mem_map.1 hy
   exact hx x (by simp) a ha)) (fun a ha => hx a (List.mem_cons_of_mem _ ha)), List.flatMap_cons, adds_append]
theorem M30_L8_eq (R : RightG g) (k : SetM → List Tx → Option (List Tx × Int)) : ∀ (xs : List TOuter) (l : List Tx), NL g l → (∀ x, x ∈ xs → outOk g x = true) →
  M30_L8 F g k xs (setOf l) l = k (setOf (adds l (ldO g xs))) (adds l (ldO g xs))
 | [], l, _, _ => rfl
 | o :: xs, l, h, hx => by
  rw [M30_L8]
  simp only [jn_def]
  have e : ∀ b : List Tprovenderref6_aim → Option (List Tx × Int), (if (!(o.Method == ([] : Tx))) = true then (M58 F g (TCall.mk 2 o.Target o.Method [])).bind b else (M58 F g (TCall.mk 1 o.Target [] [])).bind b) = (M58 F g (ocall o)).bind b := by
   intro b
   unfold ocall
   by_cases he : o.Method = []
   ·rw [if_neg (by simp [he]), if_pos he, he]
   ·rw [if_pos (by simpa using he), if_neg he]
  rw [e, M58_eq F g _ R.tl, Option.bind_some]
  have C := CallOk.outer R (hx o (by simp))
  rw [M30_L9_eq R _ _ l h (fun a ha => C.1 a ha), M30_L8_eq R k xs _ (adds_nl _ _ h (fun y hy => by
   obtain ⟨a, ha, rfl⟩ := List.mem_map.1 hy
   exact C.1 a ha)) (fun a ha => hx a (List.mem_cons_of_mem _ ha))]
  unfold ldO
  rw [List.flatMap_cons, adds_append]
theorem lks_flat (on : Tx → Bool) (name : Tx) : ∀ (l : List TCall) (n : Int), ((lks g on name n l).flatMap fun x => x.aims.map (·.to)) = l.flatMap fun c => if on c.Feature = true then (aimsG g c).map (·.to) else []
 | [], n => rfl
 | c :: l, n => by
  rw [lks, List.flatMap_cons]
  by_cases h : on c.Feature = true
  ·rw [if_pos h, if_pos h, List.flatMap_cons, lks_flat on name l]
  ·rw [if_neg h, if_neg h, lks_flat on name l]; rfl
theorem lks_aims (on : Tx → Bool) (name : Tx) : ∀ (l : List TCall) (n : Int) (x : Tprovenderref6_link), x ∈ lks g on name n l → ∃ c, c ∈ l ∧ x.aims = aimsG g c
 | [], n, x, h => by simp [lks] at h
 | c :: l, n, x, h => by
  rw [lks] at h
  split at h
  ·rcases List.mem_cons.1 h with e | e
   ·exact ⟨c, by simp, by rw [e]⟩
   ·obtain ⟨c', h1, h2⟩ := lks_aims on name l _ x e
    exact ⟨c', List.mem_cons_of_mem _ h1, h2⟩
  ·obtain ⟨c', h1, h2⟩ := lks_aims on name l _ x h
   exact ⟨c', List.mem_cons_of_mem _ h1, h2⟩
theorem ldN_fs (R : RightG g) (hm : SmOk g m) {x : TFunc} (hx : x ∈ g.Funcs) {y : Tx} (hy : y ∈ ldN g fs m x) : fsOf g y = true := by
 unfold ldN at hy
 cases hg : mget m x.Name with
 | none =>
  rw [hg] at hy
  obtain ⟨c, hc, h⟩ := List.mem_flatMap.1 hy
  split at h
  ·obtain ⟨a, ha, rfl⟩ := List.mem_map.1 h
   exact aim_fs R hx hc ha
  ·simp at h
 | some s =>
  rw [hg] at hy
  obtain ⟨h1, _, _⟩ := hm _ _ hg
  obtain ⟨p1, p2⟩ := sumOk_parts h1
  rcases List.mem_append.1 hy with h | h
  ·exact p1 y h
  ·obtain ⟨o, ho, h⟩ := List.mem_flatMap.1 h
   obtain ⟨a, ha, rfl⟩ := List.mem_map.1 h
   exact (CallOk.outer R (p2 o ho)).1 a ha
structure QInv (g : TGraph) (fs : List Tx) (m : List (Tx × TSummary)) (i : Nat) (l : List Tx) : Prop where
 nl : NL g l
 r : ∀ x, x ∈ l → RC g fs m x
 e : ∀ x, x ∈ g.Entries → x ∈ l
 l : ∀ j (h : j < l.length), j < i → ∀ x, x ∈ g.Funcs → x.Name = l[j] → ∀ y, y ∈ ldN g fs m x → y ∈ l
theorem QInv.done {i : Nat} {l : List Tx} (I : QInv g fs m i l) (h : l.length ≤ i) (y : Tx) : y ∈ l ↔ RC g fs m y := by
 refine ⟨I.r y, fun hr => ?_⟩
 induction hr with
 | entry he => exact I.e _ he
 | @step x y hx hm hl ih =>
  obtain ⟨j, hj, e⟩ := List.getElem_of_mem ih
  exact I.l j hj (by omega) x hm e.symm y hl
theorem QInv.next (R : RightG g) (hm : SmOk g m) {i : Nat} {l : List Tx} (I : QInv g fs m i l) (h : i < l.length) {x : TFunc} (hx : x ∈ g.Funcs) (hn : x.Name = l[i]) : QInv g fs m (i + 1) (adds l (ldN g fs m x)) := by
 obtain ⟨t, ht⟩ := adds_pre (ldN g fs m x) l
 refine ⟨adds_nl _ _ I.nl (fun y hy => ldN_fs R hm hx hy), fun y hy => ?_, fun y hy => (adds_mem _ _).2 (.inl (I.e y hy)), fun j hj hji z hz hzn y hy => ?_⟩
 ·rcases (adds_mem _ _).1 hy with e | e
  ·exact I.r y e
  ·exact .step (by rw [hn]; exact I.r _ (List.getElem_mem h)) hx e
 ·have hjl : j < l.length := by omega
  have hge : (adds l (ldN g fs m x))[j] = l[j] := by
   have : (adds l (ldN g fs m x))[j]? = l[j]? := by rw [← ht, List.getElem?_append_left hjl]
   rw [List.getElem?_eq_getElem hj, List.getElem?_eq_getElem hjl] at this
   simpa using this
  rw [hge] at hzn
  refine (adds_mem _ _).2 ?_
  by_cases e : j = i
  ·subst e
   have : z = x := by
    have h1 := find_uniq (f := TFunc.Name) R.fsrt hz
    rw [hzn, ← hn, find_uniq (f := TFunc.Name) R.fsrt hx] at h1
    simpa using h1.symm
   subst this; exact .inr hy
  ·exact .inl (I.l j hjl (by omega) z hz hzn y hy)
theorem M30_L4_eq (R : RightG g) (hm : SmOk g m) {n : Tprovenderref6_net} (N : NetOk g fs n) (k : SetM → List Tx → Option (List Tx × Int)) : ∀ (d i : Nat) (l : List Tx), QInv g fs m i l → i ≤ l.length → 3001 ≤ d + i →
  ∃ l', M30_L4 F g m n k d (i : Int) (setOf l) l = k (setOf l') l' ∧ NL g l' ∧ ∀ y, y ∈ l' ↔ RC g fs m y
 | 0, i, l, I, h1, h2 => by have := I.nl.len R; omega
 | d + 1, i, l, I, h1, h2 => by
  have hlen := I.nl.len R
  rw [M30_L4]
  by_cases hlt : i < l.length
  ·rw [if_pos (by simpa using hlt)]
   simp only [jn_def]
   have hmem : l[i] ∈ l := List.getElem_mem hlt
   obtain ⟨x, hx, hn⟩ := in_names.1 (I.nl.2 _ hmem)
   have I' := I.next R hm hlt hx hn
   have hle : i + 1 ≤ (adds l (ldN g fs m x)).length := by
    have := (adds_pre (ldN g fs m x) l).length_le
    omega
   obtain ⟨l', f1, f2, f3⟩ := M30_L4_eq R hm N k d (i + 1) _ I' hle (by omega)
   refine ⟨l', ?_, f2, f3⟩
   rw [show ((i + 1 : Nat) : Int) = (i : Int) + 1 from rfl] at f1
   have hw : w64 ((i : Int) + 1) = (i : Int) + 1 := w64_id (by omega) (by omega)
   rw [← f1, idx_nat hlt, Option.bind_some, Option.bind_some, hw]
   unfold ldN at f1 I' ⊢
   cases hg : mget m l[i] with
   | none =>
    have hk : (mget n.links l[i]).getD [] = lks g (onF fs) x.Name 0 x.Calls := by rw [← hn]; exact N.l x hx
    rw [if_pos (by simp), hk, M30_L5_eq R _ _ l I.nl (fun y hy a ha => by
     obtain ⟨c, hc, e⟩ := lks_aims _ _ _ _ _ hy
     rw [e] at ha; exact aim_fs R hx hc ha), lks_flat, hn, hg]
    rfl
   | some s =>
    obtain ⟨q1, _, _⟩ := hm _ _ hg
    obtain ⟨p1, p2⟩ := sumOk_parts q1
    rw [if_neg (by simp)]
    simp only [Option.getD_some]
    rw [M30_L7_eq R _ _ l I.nl p1, M30_L8_eq R _ _ _ (adds_nl _ _ I.nl p1) p2, ← adds_append, hn, hg]
  ·rw [if_neg (by simpa using hlt)]
   exact ⟨l, rfl, I.nl, I.done (by omega)⟩
end
theorem M34_setOf (F : Nat) (hF : 10000 ≤ F) {l : List Tx} (h : l.Nodup) (hl : l.length ≤ 5000) : ∃ r, M34 F (setOf l) = some r ∧ r.Pairwise (fun a b => Op.bytesLess a b = true) ∧ ∀ x, x ∈ r ↔ x ∈ l := by
 have e : (setOf l).map (·.1) = l := by unfold setOf; rw [List.map_map]; simp [Function.comp_def]
 obtain ⟨r, r1, r2, r3⟩ := M34_gen F hF (setOf l) (by rw [e]; exact h) (by unfold setOf; simpa using hl)
 exact ⟨r, r1, r2, fun x => by rw [r3, e]⟩
section
variable {g : TGraph} {fs : List Tx} {F : Nat} {m : List (Tx × TSummary)}
theorem M29_L1_eq (R : RightG g) (how : Int) (fs : List Tx) (k : (List TIface) → (List TType) → (List TFunc) → (List (List UInt8)) → (List ((List UInt8) × Int)) → (List ((List UInt8) × Int)) → (List ((List UInt8) × (List Int))) → (List ((List UInt8) × Bool)) → Bool → (List ((List UInt8) × TSummary)) → Option ((List (List UInt8)) × Int)) : ∀ (l : List (List TSummary)) (m : List (Tx × TSummary)), (∀ a, a ∈ l → ∀ s, s ∈ a → s.Within.length ≤ 1048576) →
  M29_L1 F (wOf g how fs) k l m = if knE g l.flatten m ≠ 0 then some ([], knE g l.flatten m) else k (wOf g how fs).g.Ifaces (wOf g how fs).g.Types (wOf g how fs).g.Funcs (wOf g how fs).g.Entries (wOf g how fs).funcs (wOf g how fs).types (wOf g how fs).fitting (wOf g how fs).on (wOf g how fs).made (knM l.flatten m)
 | [], m, _ => rfl
 | s :: l, m, h => by
  rw [M29_L1]
  simp only [jn_def]
  rw [M29_L2_eq R how fs _ s m (h s (by simp)), List.flatten_cons, knE_append, knM_append, M29_L1_eq R how fs k l _ (fun a ha => h a (List.mem_cons_of_mem _ ha))]
  by_cases h : knE g s m = 0
  ·simp [h]
  ·simp [h]
structure CAns (g : TGraph) (fs : List Tx) (m : List (Tx × TSummary)) (r : List Tx) : Prop where
 srt : r.Pairwise (fun a b => Op.bytesLess a b = true)
 mem : ∀ x, x ∈ r ↔ RC g fs m x
theorem CAns.uniq {r r' : List Tx} (a : CAns g fs m r) (b : CAns g fs m r') : r = r' := rise_ext a.srt b.srt fun x => (a.mem x).trans (b.mem x).symm
theorem RC.isfs (R : RightG g) (hm : SmOk g m) {y : Tx} (h : RC g fs m y) : fsOf g y = true := by
 cases h with
 | entry h => exact R.e _ h
 | step hx hf hl => exact ldN_fs R hm hf hl
theorem entries_nl (R : RightG g) : NL g g.Entries := ⟨nodup_lt R.esrt, R.e⟩
theorem sm_ok {l : List (List TSummary)} (hs : ∀ a, a ∈ l → ∀ s, s ∈ a → s.Within.length ≤ 1048576 ∧ s.Outer.length ≤ 1048576) (h0 : knE g l.flatten [] = 0) : SmOk g (knM l.flatten []) := by
 intro x s h
 rcases kn_get x s _ _ h0 h with ⟨h1, h2, _⟩ | h1
 ·obtain ⟨a, ha, hsa⟩ := List.mem_flatten.1 h1
  exact ⟨h2, hs a ha s hsa⟩
 ·simp [mget] at h1
theorem M29_eq (hF : 2000000000000 ≤ F) (hg : okTGraph g) (hfs : ∀ x, x ∈ fs → x.length ≤ maxLen) (l : List (List TSummary)) (hs : ∀ a, a ∈ l → ∀ s, s ∈ a → s.Within.length ≤ 1048576 ∧ s.Outer.length ≤ 1048576) :
  ∃ r, M29 F g fs l = some (if opnE g 1 fs ≠ 0 then ([], opnE g 1 fs) else if knE g l.flatten [] ≠ 0 then ([], knE g l.flatten []) else (r, 0)) ∧ (opnE g 1 fs = 0 → knE g l.flatten [] = 0 → CAns g fs (knM l.flatten []) r) := by
 unfold M29
 rw [M31_eq F g 1 fs hg hfs (by omega), Option.bind_some]
 by_cases h0 : opnE g 1 fs = 0
 ·obtain ⟨R, _⟩ := opn_parts h0
  simp only [h0, ne_eq, not_true_eq_false, if_false, bne_self_eq_false, Bool.false_eq_true, jn_def, Option.bind_some]
  rw [M29_L1_eq R 1 fs _ l [] (fun a ha s hsa => (hs a ha s hsa).1)]
  by_cases h1 : knE g l.flatten [] = 0
  ·have hm := sm_ok hs h1
   have hfl := R.fl
   rw [if_neg (by simpa using h1), if_pos (by omega)]
   obtain ⟨q, q1, q2, q3⟩ := M29_L3_eq (F := F) (fs := fs) R (fun l45 => M29_L4 F (wOf g 1 fs).g.Ifaces (wOf g 1 fs).g.Types (wOf g 1 fs).g.Funcs (wOf g 1 fs).g.Entries (wOf g 1 fs).funcs (wOf g 1 fs).types (wOf g 1 fs).fitting (wOf g 1 fs).on (wOf g 1 fs).made (knM l.flatten []) (fun l56 => M29_L5 F g (fun l74 => some (l74, 0)) l56 0 []) F (List.replicate (((g.Funcs.length : Nat) : Int)).toNat false) l45) g.Entries [] R.e (by have := (entries_nl R).len R; simp; omega)
   rw [q1, List.nil_append]
   have hq := (entries_nl R).len R
   have I : BInv g fs (knM l.flatten []) (List.replicate (((g.Funcs.length : Nat) : Int)).toNat false) q := by
    have no : ∀ i : Nat, (List.replicate (((g.Funcs.length : Nat) : Int)).toNat false)[i]? ≠ some true := by
     intro i h
     have := List.mem_of_getElem? h
     rw [List.mem_replicate] at this
     simp at this
    refine ⟨by simp, fun v hv => ?_, fun i hi h => absurd h (no i), fun i hi he => .inr ((q2.2 i hi).2 he), fun i hi h => absurd h (no i)⟩
    obtain ⟨i, hi, rfl⟩ := q2.1 v hv
    exact ⟨i, hi, rfl, .entry ((q2.2 i hi).1 hv)⟩
   have hcnt : (List.replicate (((g.Funcs.length : Nat) : Int)).toNat false).count false = g.Funcs.length := by simp
   obtain ⟨seen, s1, s2, s3⟩ := M29_L4_eq (F := F) R (by omega) hm (fun l56 => M29_L5 F g (fun l74 => some (l74, 0)) l56 0 []) F _ q I (by rw [hcnt]; omega) (by rw [hcnt]; omega)
   rw [s1]
   have := M29_L5_eq (F := F) R.fl (fun l74 => some (l74, 0)) seen g.Funcs 0 [] rfl s2 (by simp; omega)
   rw [show ((0 : Nat) : Int) = 0 from rfl, List.nil_append] at this
   rw [this]
   refine ⟨_, by rw [if_neg (by simpa using h1)], fun _ _ => ⟨List.Pairwise.sublist (pick_sub _ _ _) (srt_names R.fsrt), fun x => ?_⟩⟩
   rw [pick_mem]
   constructor
   ·rintro ⟨i, hi, h, rfl⟩; exact (s3 i hi).1 h
   ·intro h
    obtain ⟨i, hi, rfl⟩ := fs_at (h.isfs R hm)
    exact ⟨i, hi, (s3 i hi).2 h, rfl⟩
  ·exact ⟨[], by rw [if_pos (by simpa using h1), if_pos (by simpa using h1)], fun _ h => absurd h h1⟩
 ·have h0' : (opnE g 1 fs != 0) = true := by simpa using h0
  exact ⟨[], by simp only [ne_eq, h0, not_false_eq_true, if_true, h0'], fun h => absurd h h0⟩
theorem M30_eq (hF : 2000000000000 ≤ F) (hg : okTGraph g) (hfs : ∀ x, x ∈ fs → x.length ≤ maxLen) (hl : fs.length ≤ maxLen) (l : List (List TSummary)) (hs : ∀ a, a ∈ l → ∀ s, s ∈ a → s.Within.length ≤ 1048576 ∧ s.Outer.length ≤ 1048576) :
  ∃ r, M30 F g fs l = some (if opnE g 1 fs ≠ 0 then ([], opnE g 1 fs) else if knE g l.flatten [] ≠ 0 then ([], knE g l.flatten []) else (r, 0)) ∧ (opnE g 1 fs = 0 → knE g l.flatten [] = 0 → CAns g fs (knM l.flatten []) r) := by
 unfold M30
 rw [M50_eq F g hg, Option.bind_some, M63_eq F fs hfs hl, Option.bind_some]
 unfold opnE
 by_cases c1 : chk false g = 0
 ·by_cases c2 : feE fs = 0
  ·have R := right_of c1
   simp only [c1, c2, ne_eq, not_true_eq_false, if_false, bne_self_eq_false, Bool.false_eq_true, jn_def, true_or, if_true]
   rw [M30_L1_eq R]
   by_cases h1 : knE g l.flatten [] = 0
   ·have hm := sm_ok hs h1
    rw [if_neg (by simpa using h1)]
    obtain ⟨n, e1, N⟩ := M35_eq F g fs R
    rw [e1, Option.bind_some]
    have e3 := M30_L3_eq (F := F) R (fun m41 l42 => M30_L4 F g (knM l.flatten []) n (fun m56 l57 => (M34 F m56).bind fun y156 => some (y156, (0 : Int))) F 0 m41 l42) g.Entries [] ⟨List.nodup_nil, by simp⟩ R.e
    have e3' : M30_L3 F (fun m41 l42 => M30_L4 F g (knM l.flatten []) n (fun m56 l57 => (M34 F m56).bind fun y156 => some (y156, (0 : Int))) F 0 m41 l42) g.Entries [] [] = _ := e3
    rw [e3']
    have I : QInv g fs (knM l.flatten []) 0 (adds [] g.Entries) := by
     refine ⟨adds_nl _ _ ⟨List.nodup_nil, by simp⟩ R.e, fun x hx => ?_, fun x hx => (adds_mem _ _).2 (.inr hx), fun j hj h => by omega⟩
     rcases (adds_mem _ _).1 hx with e | e
     ·simp at e
     ·exact .entry e
    obtain ⟨l', f1, f2, f3⟩ := M30_L4_eq (F := F) R hm N (fun m56 l57 => (M34 F m56).bind fun y156 => some (y156, (0 : Int))) F 0 _ I (by omega) (by omega)
    rw [show ((0 : Nat) : Int) = 0 from rfl] at f1
    rw [f1]
    obtain ⟨r, r1, r2, r3⟩ := M34_setOf F (by omega) f2.1 (by have := f2.len R; omega)
    rw [r1, Option.bind_some]
    exact ⟨r, by rw [if_neg (by simpa using h1)], fun _ _ => ⟨r2, fun x => (r3 x).trans (f3 x)⟩⟩
   ·exact ⟨[], by rw [if_pos (by simpa using h1), if_pos (by simpa using h1)], fun _ h => absurd h h1⟩
  ·have c2' : (feE fs != 0) = true := by simpa using c2
   exact ⟨[], by simp only [c1, c2, c2', ne_eq, not_true_eq_false, not_false_eq_true, if_false, if_true, bne_self_eq_false, Bool.false_eq_true], fun h => by simp [c1, c2] at h⟩
 ·have c1' : (chk false g != 0) = true := by simpa using c1
  exact ⟨[], by simp only [c1, c1', ne_eq, not_false_eq_true, if_true], fun h => by simp [c1] at h⟩
end
theorem sum_memC {α : Type} {f : α → Nat} {x : α} : ∀ {l : List α}, x ∈ l → f x ≤ (l.map f).sum
 | y :: l, h => by
  rw [List.map_cons, List.sum_cons]
  rcases List.mem_cons.1 h with e | e
  ·subst e; omega
  ·have := sum_memC (f := f) e; omega
theorem sum_lenC {α : Type} {f : α → Nat} (hf : ∀ x, 1 ≤ f x) : ∀ l : List α, l.length ≤ (l.map f).sum
 | [] => by simp
 | y :: l => by
  rw [List.map_cons, List.sum_cons, List.length_cons]
  have := sum_lenC hf l
  have := hf y
  omega
theorem plain_8 (g : TGraph) (fs : List Tx) (l : List (List TSummary)) (hg : okTGraph g) (hfs : (∀ a, a ∈ fs → (fun x : List UInt8 => x.length ≤ maxLen) a) ∧ fs.length ≤ maxLen) (hl : (∀ a, a ∈ l → (fun x : (List TSummary) => ((∀ a, a ∈ x → (fun x : TSummary => (okTSummary x)) a) ∧ x.length ≤ maxLen)) a) ∧ l.length ≤ maxLen)
  (hb : szTGraph g + ((fs.map (fun x : (List UInt8) => (x.length + 1))).sum + 1) + ((l.map (fun x : (List TSummary) => ((x.map (fun x : TSummary => (szTSummary x))).sum + 1))).sum + 1) ≤ 1048576) : ∃ F, M8 F g fs l = some true := by
 refine ⟨2000000000000, ?_⟩
 generalize hF : 2000000000000 = F
 have hs : ∀ a, a ∈ l → ∀ s, s ∈ a → s.Within.length ≤ 1048576 ∧ s.Outer.length ≤ 1048576 := by
  intro a ha s hsa
  have h1 := sum_memC (f := fun x : (List TSummary) => ((x.map (fun x : TSummary => (szTSummary x))).sum + 1)) ha
  have h2 := sum_memC (f := fun x : TSummary => szTSummary x) hsa
  have h3 := sum_lenC (f := fun x : (List UInt8) => x.length + 1) (fun _ => by omega) s.Within
  have h4 := sum_lenC (f := fun x : TOuter => szTOuter x) (fun x => by unfold szTOuter; omega) s.Outer
  have h5 : szTSummary s = (s.Func.length + 1) + (((s.Within.map (fun x : (List UInt8) => (x.length + 1))).sum + 1) + (((s.Outer.map (fun x : TOuter => (szTOuter x))).sum + 1) + 0)) + 1 := rfl
  omega
 obtain ⟨r, a1, a2⟩ := M29_eq (F := F) (by omega) hg hfs.1 l hs
 obtain ⟨r', b1, b2⟩ := M30_eq (F := F) (by omega) hg hfs.1 hfs.2 l hs
 unfold M8
 rw [a1, b1, Option.bind_some, Option.bind_some]
 have fin : ((M11 F).bind fun y12 => some y12) = some true := rfl
 by_cases h0 : opnE g 1 fs = 0
 ·by_cases h1 : knE g l.flatten [] = 0
  ·simp only [h0, h1, ne_eq, not_true_eq_false, if_false]
   rw [(a2 h0 h1).uniq (b2 h0 h1), M15_same, fin]; rfl
  ·simp only [h0, h1, ne_eq, not_true_eq_false, not_false_eq_true, if_false, if_true]
   rw [M15_same, fin]; simp
 ·simp only [h0, ne_eq, not_false_eq_true, if_true]
  rw [M15_same, fin]; simp
end Go.Proofs.Ytpbkggamiipdmaa
