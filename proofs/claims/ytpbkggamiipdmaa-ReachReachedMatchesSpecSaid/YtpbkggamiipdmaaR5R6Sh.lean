/- Part of the proof: RN3, KW, RP, RP5, R6Sh. -/
import Derived.Test.YtpbkggamiipdmaaR5RN2
import Derived.Test.YtpbkggamiipdmaaR5RA
import Derived.KernelRfl
import Derived.Shelf.Small.Bits
import Derived.Shelf.Strconv.Itoa0
import Derived.Shelf.Sort.Plain
import Derived.Ground.Names2Prog
import Derived.Shelf.Slices.Clone
import Derived.Shelf.Slices.CompactI
import Derived.Shelf.Slices.CompactS
import Derived.Shelf.Slices.SearchI
import Derived.Shelf.Slices.Delete
import Derived.Shelf.Slices.Cells
import Derived.Shelf.Slices.In.SortNone
import Derived.Shelf.Slices.Empties
import Derived.Ground.SlgnProg
import Derived.Shelf.SlicesE.Clone
import Derived.Test.YtpbkggamiipdmaaProg
namespace Go.Proofs.Ytpbkggamiipdmaa
open Go Go.Pv
set_option linter.unusedVariables false
theorem find_uniq {α : Type} {f : α → Tx} : ∀ {l : List α}, l.Pairwise (fun a b => Op.bytesLess (f a) (f b) = true) → ∀ {x : α}, x ∈ l → l.find? (fun y => f y == f x) = some x
  | y :: l, hp, x, hx => by
    rw [List.pairwise_cons] at hp
    rw [List.find?_cons]
    rcases List.mem_cons.1 hx with e | e
    · subst e; simp
    · have : (f y == f x) = false := by simpa using bl_ne (hp.1 x e)
      rw [this]; exact find_uniq hp.2 e
theorem ifm_get (t : Tx) (i : TIface) : ∀ (l : List TIface) (m : List (Tx × TIface)), mget (ifm m l) t = some i → (i ∈ l ∧ i.Name = t) ∨ mget m t = some i
  | [], m, h => .inr h
  | x :: l, m, h => by
    rcases ifm_get t i l _ h with h | h
    · exact .inl ⟨List.mem_cons_of_mem _ h.1, h.2⟩
    · rw [mget_mput] at h
      split at h
      · rename_i e; simp at h; subst h; exact .inl ⟨List.mem_cons_self, e⟩
      · exact .inr h
theorem is_iface {g : TGraph} (R : RightG g) {t : Tx} {l : List Tx} (h : isOf g t = some l) : ∃ i, i ∈ g.Ifaces ∧ i.Name = t ∧ i.Methods = l ∧ g.Ifaces.find? (fun y => y.Name == t) = some i := by
  unfold isOf at h
  rw [Option.map_eq_some_iff] at h
  obtain ⟨i, h1, h2⟩ := h
  rcases ifm_get t i _ _ h1 with h | h
  · exact ⟨i, h.1, h.2, h2, by rw [← h.2]; exact find_uniq (f := TIface.Name) R.isrt h.1⟩
  · simp [mget] at h
theorem fit_iff {g : TGraph} (R : RightG g) (how : Int) (fs : List Tx) {n : Tx} {i : TIface} (hf : g.Ifaces.find? (fun y => y.Name == n) = some i) (t : Int) : t ∈ fitL (wOf g how fs) n ↔ ∃ j : Nat, ∃ h : j < g.Types.length, t = j ∧ fitB g.Types[j] i = true := by
  unfold fitL wOf
  simp only
  rw [fitM_get g.Types n g.Ifaces [] R.isrt]
  simp only [mget, Option.getD_none, List.nil_append]
  rw [hf]
  show t ∈ fitIdx i 0 g.Types ↔ _
  rw [fitIdx_mem]
  simp
theorem fI_at {g : TGraph} (R : RightG g) (how : Int) (fs : List Tx) {i : Nat} (h : i < g.Funcs.length) : fI (wOf g how fs) (g.Funcs[i]).Name = i := by
  unfold fI wOf
  simp only
  have := nums_get (g.Funcs.map (·.Name)) [] 0 i (by simpa using h) (srt_names R.fsrt)
  simp only [List.getElem_map] at this
  rw [this]; simp
theorem tI_at {g : TGraph} (R : RightG g) (how : Int) (fs : List Tx) {i : Nat} (h : i < g.Types.length) : tI (wOf g how fs) (g.Types[i]).Name = i := by
  unfold tI wOf
  simp only
  have := nums_get (g.Types.map (·.Name)) [] 0 i (by simpa using h) (srt_names R.tsrt)
  simp only [List.getElem_map] at this
  rw [this]; simp
theorem fs_at {g : TGraph} {x : Tx} (h : fsOf g x = true) : ∃ i : Nat, ∃ h : i < g.Funcs.length, (g.Funcs[i]).Name = x := by
  obtain ⟨f, hf, rfl⟩ := in_names.1 h
  obtain ⟨i, hi, rfl⟩ := List.getElem_of_mem hf
  exact ⟨i, hi, rfl⟩
theorem ts_at {g : TGraph} {x : Tx} (h : tsOf g x = true) : ∃ i : Nat, ∃ h : i < g.Types.length, (g.Types[i]).Name = x := by
  obtain ⟨f, hf, rfl⟩ := in_types.1 h
  obtain ⟨i, hi, rfl⟩ := List.getElem_of_mem hf
  exact ⟨i, hi, rfl⟩
theorem M82_at {F : Nat} (hF : 1000 ≤ F) {g : TGraph} (R : RightG g) (how : Int) (fs : List Tx) (c : TCall) {i : Nat} (hi : i < g.Types.length) : M82 F (wOf g how fs) c (i : Int) = some (fI (wOf g how fs) (mOf g.Types[i] c.Method).1) := by
  have hT := R.t g.Types[i] (List.getElem_mem _)
  unfold M82
  rw [show idx (wOf g how fs).g.Types (i : Int) = some g.Types[i] from idx_nat hi, Option.bind_some, M79_eq F _ _ hT.len hT.srt hF, Option.bind_some]
  rfl
theorem idx_at {α : Type} {l : List α} {f : Int} {x : α} (h : idx l f = some x) : ∃ i : Nat, ∃ hi : i < l.length, f = i ∧ l[i] = x := by
  have h1 := idx_lt h
  have h2 := idx_some h
  exact ⟨f.toNat, h1, by have := h2.1; omega, (List.getElem?_eq_some_iff.1 h2.2).2⟩
/-- A dispatched call of a right graph, an aim of it. -/
theorem dis_aim {g : TGraph} (R : RightG g) {x : TFunc} (hx : x ∈ g.Funcs) {c : TCall} (hc : c ∈ x.Calls) (k : c.Kind ≠ 1) : ∃ i, i ∈ g.Ifaces ∧ g.Ifaces.find? (fun y => y.Name == c.Target) = some i ∧ ifG g c.Target = i ∧ ∀ t, fitB t i = true → (mOf t c.Method).2 = true := by
  rcases ((R.f x hx).calls c hc).kind with ⟨h, _⟩ | ⟨_, l, h1, h2⟩
  · exact absurd h k
  · obtain ⟨i, i1, i2, i3, i4⟩ := is_iface R h1
    refine ⟨i, i1, i4, by unfold ifG; rw [i4]; rfl, fun t ht => ?_⟩
    unfold fitB at ht
    rw [List.all_eq_true] at ht
    exact ht _ (by rw [i3]; exact h2)
theorem RR_RN {F : Nat} (hF : 1000 ≤ F) {g : TGraph} (R : RightG g) {how : Int} (hh : how = 1 ∨ how = 2) {fs : List Tx} {b : Bool} {v : Int} (h : RR F (wOf g how fs) b v) :
    if b then ∃ i : Nat, ∃ h : i < g.Types.length, v = i ∧ RN g how (onF fs) true (g.Types[i]).Name else ∃ i : Nat, ∃ h : i < g.Funcs.length, v = i ∧ RN g how (onF fs) false (g.Funcs[i]).Name := by
  induction h with
  | @entry e h =>
    have h : e ∈ g.Entries := h
    obtain ⟨i, hi, he⟩ := fs_at (R.e e h)
    subst he
    show ∃ j, _
    exact ⟨i, hi, fI_at R how fs hi, .entry h⟩
  | @dir f x c hf hx hc ho k ih =>
    obtain ⟨i, hi, rfl, ih2⟩ := (show ∃ i : Nat, ∃ h : i < g.Funcs.length, f = i ∧ RN g how (onF fs) false (g.Funcs[i]).Name from ih)
    obtain ⟨i', hi', e1, e2⟩ := idx_at hx
    have : i' = i := by omega
    subst this
    have hx : g.Funcs[i'] = x := e2
    have hxm : x ∈ g.Funcs := by rw [← hx]; exact List.getElem_mem _
    rw [hx] at ih2
    have ha : Tprovenderref6_aim.mk [] c.Target ∈ aimsG g c := by unfold aimsG; rw [if_pos k]; simp
    obtain ⟨j, hj, he⟩ := fs_at (aim_fs R hxm hc ha)
    have he : (g.Funcs[j]).Name = c.Target := he
    show ∃ j, _
    refine ⟨j, hj, by rw [← he]; exact fI_at R how fs hj, ?_⟩
    rw [he]
    rw [onB_eq] at ho
    exact .aim ih2 hxm hc ho ha (fun _ h => absurd rfl h)
  | @dis f t v x c hf hx hc ho k ht hm hv ih ihm =>
    obtain ⟨i, hi, rfl, ih2⟩ := (show ∃ i : Nat, ∃ h : i < g.Funcs.length, f = i ∧ RN g how (onF fs) false (g.Funcs[i]).Name from ih)
    obtain ⟨i', hi', e1, e2⟩ := idx_at hx
    have : i' = i := by omega
    subst this
    have hx : g.Funcs[i'] = x := e2
    have hxm : x ∈ g.Funcs := by rw [← hx]; exact List.getElem_mem _
    rw [hx] at ih2
    obtain ⟨I, I1, I2, I3, I4⟩ := dis_aim R hxm hc k
    obtain ⟨j, hj, rfl, hfit⟩ := (fit_iff R how fs I2 t).1 ht
    rw [M82_at hF R how fs c hj] at hv
    simp only [Option.some.injEq] at hv
    have ha : Tprovenderref6_aim.mk (g.Types[j]).Name (mOf g.Types[j] c.Method).1 ∈ aimsG g c := by
      unfold aimsG
      rw [if_neg k]
      exact List.mem_filterMap.2 ⟨g.Types[j], List.getElem_mem _, by unfold aimO; rw [if_pos ⟨I4 _ hfit, by rw [I3]; exact hfit⟩]⟩
    obtain ⟨q, hq, he⟩ := fs_at (aim_fs R hxm hc ha)
    have he : (g.Funcs[q]).Name = (mOf g.Types[j] c.Method).1 := he
    show ∃ j, _
    refine ⟨q, hq, by rw [← hv, ← he]; exact fI_at R how fs hq, ?_⟩
    rw [he]
    rw [onB_eq] at ho
    refine .aim ih2 hxm hc ho ha (fun h1 _ => ?_)
    have hmd : (wOf g how fs).made = true := by
      have : how = 2 := hh.resolve_left h1
      simp [wOf, this]
    obtain ⟨j', hj', e1, e2⟩ := (show ∃ i : Nat, ∃ h : i < g.Types.length, (j : Int) = i ∧ RN g how (onF fs) true (g.Types[i]).Name from ihm hmd)
    have : j' = j := by omega
    subst this
    exact e2
  | @mk f x t hf hx ht ih =>
    obtain ⟨i, hi, rfl, ih2⟩ := (show ∃ i : Nat, ∃ h : i < g.Funcs.length, f = i ∧ RN g how (onF fs) false (g.Funcs[i]).Name from ih)
    obtain ⟨i', hi', e1, e2⟩ := idx_at hx
    have : i' = i := by omega
    subst this
    have hx : g.Funcs[i'] = x := e2
    have hxm : x ∈ g.Funcs := by rw [← hx]; exact List.getElem_mem _
    rw [hx] at ih2
    obtain ⟨j, hj, he⟩ := ts_at ((R.f x hxm).makes t ht)
    subst he
    show ∃ j, _
    exact ⟨j, hj, tI_at R how fs hj, .mk ih2 hxm ht⟩
theorem RN_RR {F : Nat} (hF : 1000 ≤ F) {g : TGraph} (R : RightG g) {how : Int} {fs : List Tx} {b : Bool} {y : Tx} (h : RN g how (onF fs) b y) :
    if b then RR F (wOf g how fs) true (tI (wOf g how fs) y) else RR F (wOf g how fs) false (fI (wOf g how fs) y) := by
  induction h with
  | @entry e h => exact RR.entry (w := wOf g how fs) h
  | @aim x c a hf hx hc ho ha hm ih ihm =>
    have ih : RR F (wOf g how fs) false (fI (wOf g how fs) x.Name) := ih
    obtain ⟨i, hi, rfl⟩ := List.getElem_of_mem hx
    rw [fI_at R how fs hi] at ih
    have hix : idx (wOf g how fs).g.Funcs (i : Int) = some g.Funcs[i] := idx_nat hi
    have hon : onB (wOf g how fs) c.Feature = true := by rw [onB_eq]; exact ho
    show RR F (wOf g how fs) false _
    unfold aimsG at ha
    split at ha
    · rename_i k
      simp at ha; subst ha
      exact .dir ih hix hc hon k
    · rename_i k
      obtain ⟨t, ht, h⟩ := List.mem_filterMap.1 ha
      unfold aimO at h
      split at h
      · rename_i h1
        simp only [Option.some.injEq] at h
        subst h
        obtain ⟨j, hj, rfl⟩ := List.getElem_of_mem ht
        obtain ⟨I, I1, I2, I3, I4⟩ := dis_aim R hx hc k
        refine .dis ih hix hc hon k ((fit_iff R how fs I2 (j : Int)).2 ⟨j, hj, rfl, by rw [← I3]; exact h1.2⟩) (fun hmd => ?_) (M82_at hF R how fs c hj)
        have h2 : how ≠ 1 := by intro e; simp [wOf, e] at hmd
        have h3 : (g.Types[j]).Name ≠ [] := by
          have := (R.t _ ht).nam
          intro e; rw [e] at this; simp [nm] at this
        have := ihm h2 h3
        rw [← tI_at R how fs hj]
        exact this
      · simp at h
  | @mk x t hf hx ht ih =>
    have ih : RR F (wOf g how fs) false (fI (wOf g how fs) x.Name) := ih
    obtain ⟨i, hi, rfl⟩ := List.getElem_of_mem hx
    rw [fI_at R how fs hi] at ih
    exact RR.mk (w := wOf g how fs) ih (idx_nat hi) ht
theorem reach_iff {F : Nat} (hF : 1000 ≤ F) {g : TGraph} (R : RightG g) {how : Int} (hh : how = 1 ∨ how = 2) (fs : List Tx) {i : Nat} (hi : i < g.Funcs.length) : RR F (wOf g how fs) false (i : Int) ↔ RN g how (onF fs) false (g.Funcs[i]).Name := by
  constructor
  · intro h
    obtain ⟨j, hj, e, h2⟩ := (show ∃ j : Nat, ∃ h : j < g.Funcs.length, (i : Int) = j ∧ RN g how (onF fs) false (g.Funcs[j]).Name from RR_RN hF R hh h)
    have : j = i := by omega
    subst this; exact h2
  · intro h
    have : RR F (wOf g how fs) false (fI (wOf g how fs) (g.Funcs[i]).Name) := RN_RR hF R h
    rw [fI_at R how fs hi] at this; exact this
theorem made_iff {F : Nat} (hF : 1000 ≤ F) {g : TGraph} (R : RightG g) {how : Int} (hh : how = 1 ∨ how = 2) (fs : List Tx) {i : Nat} (hi : i < g.Types.length) : RR F (wOf g how fs) true (i : Int) ↔ RN g how (onF fs) true (g.Types[i]).Name := by
  constructor
  · intro h
    obtain ⟨j, hj, e, h2⟩ := (show ∃ j : Nat, ∃ h : j < g.Types.length, (i : Int) = j ∧ RN g how (onF fs) true (g.Types[j]).Name from RR_RN hF R hh h)
    have : j = i := by omega
    subst this; exact h2
  · intro h
    have : RR F (wOf g how fs) true (tI (wOf g how fs) (g.Types[i]).Name) := RN_RR hF R h
    rw [tI_at R how fs hi] at this; exact this
end Go.Proofs.Ytpbkggamiipdmaa



namespace Go.Proofs.Ytpbkggamiipdmaa
open Go Go.Pv
set_option linter.unusedVariables false
def pick {α : Type} (f : α → Tx) : List α → List Bool → List Tx
  | x :: xs, b :: l => if b = true then f x :: pick f xs l else pick f xs l
  | _, _ => []
theorem pick_sub {α : Type} (f : α → Tx) : ∀ (xs : List α) (l : List Bool), (pick f xs l).Sublist (xs.map f)
  | [], l => by cases l <;> simp [pick]
  | x :: xs, [] => by simp [pick]
  | x :: xs, b :: l => by
    rw [pick, List.map_cons]
    split
    · exact (pick_sub f xs l).cons_cons _
    · exact (pick_sub f xs l).cons _
theorem pick_mem {α : Type} (f : α → Tx) (s : Tx) : ∀ (xs : List α) (l : List Bool), s ∈ pick f xs l ↔ ∃ i : Nat, ∃ h : i < xs.length, tru l i ∧ f xs[i] = s
  | [], l => by cases l <;> simp [pick]
  | x :: xs, [] => by simp [pick, tru]
  | x :: xs, b :: l => by
    have ih := pick_mem f s xs l
    have tl : ∀ i, tru (b :: l) (i + 1) ↔ tru l i := fun i => by unfold tru; rw [List.getElem?_cons_succ]
    have key : (∃ i : Nat, ∃ h : i < (x :: xs).length, tru (b :: l) i ∧ f (x :: xs)[i] = s) ↔ (b = true ∧ f x = s) ∨ ∃ i : Nat, ∃ h : i < xs.length, tru l i ∧ f xs[i] = s := by
      constructor
      · rintro ⟨i, h, h1, h2⟩
        cases i with
        | zero => exact .inl ⟨by simpa [tru] using h1, h2⟩
        | succ i => exact .inr ⟨i, by simpa using h, (tl i).1 h1, h2⟩
      · rintro (⟨h1, h2⟩ | ⟨i, h, h1, h2⟩)
        · exact ⟨0, by simp, by simp [tru, h1], h2⟩
        · exact ⟨i + 1, by simpa using h, (tl i).2 h1, h2⟩
    rw [key, pick]
    split
    · rename_i hb; rw [List.mem_cons, ih]; simp [hb, eq_comm]
    · rename_i hb; rw [ih]; simp [hb]
theorem drop_cons {α : Type} {xs : List α} {n : Nat} (h : n < xs.length) : xs.drop n = xs[n] :: xs.drop (n + 1) := by simp
theorem pick_loop {α : Type} (xs : List α) (f : α → Tx) (hx : xs.length ≤ 3000) {R : Type} (k : List Tx → Option R) (L : List Bool → Int → List Tx → Option R)
    (h0 : ∀ n o, L [] n o = k o) (h1 : ∀ b l (n : Nat) o, L (b :: l) n o = if b = true then (idx xs (n : Int)).bind fun x => if (o ++ [f x]).length * 16 ≤ 140737488355328 then L l ((n + 1 : Nat) : Int) (o ++ [f x]) else none else L l ((n + 1 : Nat) : Int) o) :
    ∀ (l : List Bool) (n : Nat) (o : List Tx), n + l.length ≤ xs.length → o.length ≤ n → L l n o = k (o ++ pick f (xs.drop n) l)
  | [], n, o, _, _ => by
    rw [h0]
    cases hd : xs.drop n <;> simp [pick]
  | b :: l, n, o, hn, ho => by
    simp only [List.length_cons] at hn
    have hlt : n < xs.length := by omega
    rw [h1, drop_cons hlt, pick]
    by_cases hb : b = true
    · rw [if_pos hb, if_pos hb, idx_nat hlt, Option.bind_some, if_pos (by simp; omega), pick_loop xs f hx k L h0 h1 l (n + 1) _ (by omega) (by simp; omega)]
      simp
    · rw [if_neg hb, if_neg hb, pick_loop xs f hx k L h0 h1 l (n + 1) _ (by omega) (by omega)]
theorem M9_full (F : Nat) (g : TGraph) (how : Int) (fs : List Tx) (hg : okTGraph g) (hfs : ∀ x, x ∈ fs → x.length ≤ maxLen) (hF : 10000 ≤ F) (h0 : opnE g how fs = 0) (R : RightG g) (hh : how = 1 ∨ how = 2) :
    ∃ sp : Treach_spread, (∀ (r : Type) (k : Treach_world → Treach_spread → Option r), ((M31 F g how fs).bind fun y4 => (y4.1).bind fun x7 => (M32 F x7 (-1)).bind fun y9 => y9.bind fun x11 => k x7 x11) = k (wOf g how fs) sp) ∧ sp.funcs.length = g.Funcs.length ∧ sp.made.length = g.Types.length ∧
      (∀ i : Nat, ∀ h : i < g.Funcs.length, tru sp.funcs i ↔ RN g how (onF fs) false (g.Funcs[i]).Name) ∧ ∀ i : Nat, ∀ h : i < g.Types.length, tru sp.made i ↔ RN g how (onF fs) true (g.Types[i]).Name := by
  obtain ⟨sp, s1, s2, s3, s4, s5⟩ := spread_eq (wok (F := F) (by omega) R how fs) hF
  refine ⟨sp, fun r k => ?_, s2, s3, fun i h => ?_, fun i h => ?_⟩
  · rw [M31_eq F g how fs hg hfs (by omega), h0, Option.bind_some, if_neg (by simp), Option.bind_some, s1, Option.bind_some, Option.bind_some]
  · rw [s4, ← reach_iff (F := F) (by omega) R hh fs h]
    exact ⟨fun q => q.2, fun q => ⟨h, q⟩⟩
  · rw [s5, ← made_iff (F := F) (by omega) R hh fs h]
    exact ⟨fun q => q.2, fun q => ⟨h, q⟩⟩
theorem opn_parts {g : TGraph} {how : Int} {fs : List Tx} (h : opnE g how fs = 0) : RightG g ∧ (how = 1 ∨ how = 2) := by
  unfold opnE at h
  split at h
  · rename_i h1; exact absurd h h1
  · rename_i h1
    split at h
    · rename_i h2; exact absurd h h2
    · split at h
      · rename_i h3; exact ⟨right_of (by simpa using h1), h3⟩
      · simp at h
theorem M31_err (F : Nat) (g : TGraph) (how : Int) (fs : List Tx) (hg : okTGraph g) (hfs : ∀ x, x ∈ fs → x.length ≤ maxLen) (hF : 10000 ≤ F) (h : opnE g how fs ≠ 0) : M31 F g how fs = some (none, opnE g how fs) := by
  rw [M31_eq F g how fs hg hfs (by omega), if_pos h]
/-- What the program's Reached, Made and Used return. -/
structure Ans (g : TGraph) (how : Int) (fs : List Tx) (r m u : List Tx) : Prop where
  rs : r.Pairwise (fun a b => Op.bytesLess a b = true)
  ms : m.Pairwise (fun a b => Op.bytesLess a b = true)
  us : u.Pairwise (fun a b => Op.bytesLess a b = true)
  r : ∀ x, x ∈ r ↔ RN g how (onF fs) false x
  m : ∀ x, x ∈ m ↔ RN g how (onF fs) true x
  u : ∀ c, c ∈ u ↔ ∃ x, x ∈ g.Funcs ∧ RN g how (onF fs) false x.Name ∧ x.Component = c
theorem Ans.uniq {g : TGraph} {how : Int} {fs r m u r' m' u' : List Tx} (A : Ans g how fs r m u) (B : Ans g how fs r' m' u') : r = r' ∧ m = m' ∧ u = u' :=
  ⟨rise_ext A.rs B.rs fun x => (A.r x).trans (B.r x).symm, rise_ext A.ms B.ms fun x => (A.m x).trans (B.m x).symm, rise_ext A.us B.us fun x => (A.u x).trans (B.u x).symm⟩
theorem prog_ans (F : Nat) (g : TGraph) (how : Int) (fs : List Tx) (hg : okTGraph g) (hfs : ∀ x, x ∈ fs → x.length ≤ maxLen) (hF : 10000 ≤ F) :
    ∃ r m u, M9 F g how fs = some (r, opnE g how fs) ∧ M19 F g how fs = some (m, opnE g how fs) ∧ M21 F g how fs = some (u, opnE g how fs) ∧ if opnE g how fs = 0 then Ans g how fs r m u else r = [] ∧ m = [] ∧ u = [] := by
  by_cases h0 : opnE g how fs = 0
  · obtain ⟨R, hh⟩ := opn_parts h0
    obtain ⟨sp, s1, s2, s3, s4, s5⟩ := M9_full F g how fs hg hfs hF h0 R hh
    have h31 := M31_eq F g how fs hg hfs (show 1000 ≤ F by omega)
    have hfl := R.fl
    have htl := R.tl
    have e9 : M9 F g how fs = some (pick (·.Name) g.Funcs sp.funcs, 0) := by
      have := s1 _ (fun _ x11 => M9_L1 F g (fun l14 => some (l14, 0)) x11.funcs 0 [])
      rw [h31, h0] at this
      unfold M9
      rw [h31, h0]
      simp only [Option.bind_some] at this ⊢
      rw [if_neg (by simp)]
      simp only [jn_def]
      rw [this]
      have := pick_loop g.Funcs (·.Name) hfl (fun l14 => some (l14, (0 : Int))) (fun l n o => M9_L1 F g (fun l14 => some (l14, 0)) l n o) (fun n o => rfl) (fun b l n o => rfl) sp.funcs 0 [] (by omega) (by simp)
      simpa using this
    have e19 : M19 F g how fs = some (pick (·.Name) g.Types sp.made, 0) := by
      have := s1 _ (fun _ x11 => M19_L1 F g (fun l14 => some (l14, 0)) x11.made 0 [])
      rw [h31, h0] at this
      unfold M19
      rw [h31, h0]
      simp only [Option.bind_some] at this ⊢
      rw [if_neg (by simp)]
      simp only [jn_def]
      rw [this]
      have := pick_loop g.Types (·.Name) (by omega) (fun l14 => some (l14, (0 : Int))) (fun l n o => M19_L1 F g (fun l14 => some (l14, 0)) l n o) (fun n o => rfl) (fun b l n o => rfl) sp.made 0 [] (by omega) (by simp)
      simpa using this
    have hsub := pick_sub (fun x : TFunc => x.Component) g.Funcs sp.funcs
    have hlen : (pick (fun x : TFunc => x.Component) g.Funcs sp.funcs).length ≤ 3000 := by have := hsub.length_le; simp at this; omega
    have e21 : M21 F g how fs = some (cpt (srtT (pick (·.Component) g.Funcs sp.funcs)), 0) := by
      have := s1 _ (fun _ x11 => M21_L1 F g (fun l14 => (M42 F l14).bind fun y29 => if y29.length = l14.length then (M43 F y29).bind fun y32 => some (y32, 0) else none) x11.funcs 0 [])
      rw [h31, h0] at this
      unfold M21
      rw [h31, h0]
      simp only [Option.bind_some] at this ⊢
      rw [if_neg (by simp)]
      simp only [jn_def]
      rw [this]
      have := pick_loop g.Funcs (·.Component) hfl (fun l14 => (M42 F l14).bind fun y29 => if y29.length = l14.length then (M43 F y29).bind fun y32 => some (y32, (0 : Int)) else none)
        (fun l n o => M21_L1 F g (fun l14 => (M42 F l14).bind fun y29 => if y29.length = l14.length then (M43 F y29).bind fun y32 => some (y32, 0) else none) l n o) (fun n o => rfl) (fun b l n o => rfl) sp.funcs 0 [] (by omega) (by simp)
      refine (show _ = _ by simpa using this).trans ?_
      unfold M42
      rw [if_pos (by omega), Option.bind_some, tsort_eq, if_pos (srtT_perm _).length_eq]
      unfold M43
      rw [if_pos (by rw [(srtT_perm _).length_eq]; omega), Option.bind_some]
    refine ⟨_, _, _, by rw [h0]; exact e9, by rw [h0]; exact e19, by rw [h0]; exact e21, ?_⟩
    rw [if_pos h0]
    refine ⟨?_, ?_, cpt_srt (srtT_srt _), fun x => ?_, fun x => ?_, fun c => ?_⟩
    · exact List.Pairwise.sublist (pick_sub _ _ _) (srt_names R.fsrt)
    · exact List.Pairwise.sublist (pick_sub _ _ _) (srt_names R.tsrt)
    · rw [pick_mem]
      constructor
      · rintro ⟨i, h, h1, rfl⟩; exact (s4 i h).1 h1
      · intro h
        obtain ⟨i, hi, he⟩ := fs_at (g := g) (by simpa using h.names R)
        exact ⟨i, hi, (s4 i hi).2 (by rw [he]; exact h), he⟩
    · rw [pick_mem]
      constructor
      · rintro ⟨i, h, h1, rfl⟩; exact (s5 i h).1 h1
      · intro h
        obtain ⟨i, hi, he⟩ := ts_at (g := g) (by simpa using h.names R)
        exact ⟨i, hi, (s5 i hi).2 (by rw [he]; exact h), he⟩
    · rw [cpt_mem, (srtT_perm _).mem_iff, pick_mem]
      constructor
      · rintro ⟨i, h, h1, rfl⟩; exact ⟨g.Funcs[i], List.getElem_mem _, (s4 i h).1 h1, rfl⟩
      · rintro ⟨x, hx, h, rfl⟩
        obtain ⟨i, hi, rfl⟩ := List.getElem_of_mem hx
        exact ⟨i, hi, (s4 i hi).2 h, rfl⟩
  · have h31 := M31_err F g how fs hg hfs hF h0
    refine ⟨[], [], [], ?_, ?_, ?_, by rw [if_neg h0]; exact ⟨rfl, rfl, rfl⟩⟩
    · unfold M9; rw [h31, Option.bind_some, if_pos (by simpa using h0)]
    · unfold M19; rw [h31, Option.bind_some, if_pos (by simpa using h0)]
    · unfold M21; rw [h31, Option.bind_some, if_pos (by simpa using h0)]
theorem ref_ans (F : Nat) (g : TGraph) (how : Int) (fs : List Tx) (hg : okTGraph g) (hfs : ∀ x, x ∈ fs → x.length ≤ maxLen) (hl : fs.length ≤ maxLen) (hF : 10000 ≤ F) :
    ∃ r m u, M10 F g how fs = some (r, opnE g how fs) ∧ M20 F g how fs = some (m, opnE g how fs) ∧ M22 F g how fs = some (u, opnE g how fs) ∧ if opnE g how fs = 0 then Ans g how fs r m u else r = [] ∧ m = [] ∧ u = [] := by
  have h33 := M33_eq F g how fs hg hfs hl
  by_cases h0 : opnE g how fs = 0
  · obtain ⟨R, hh⟩ := opn_parts h0
    obtain ⟨n, e1, N⟩ := M35_eq F g fs R
    obtain ⟨t, e2, X⟩ := M36_eq (how := how) R N F hF
    have hfl := R.fl
    have htl := R.tl
    have b1 : t.reached.length ≤ 3000 := by
      have := key_len X.r (l := g.Funcs.map (·.Name)) (fun x hx => by have h := ((X.hr x).1 hx).names R; simpa [fsOf] using h)
      simp at this; omega
    have b2 : t.made.length ≤ 500 := by
      have := key_len X.m (l := g.Types.map (·.Name)) (fun x hx => by have h := ((X.hm x).1 hx).names R; simpa [tsOf] using h)
      simp at this; omega
    have b3 : (insAll [] (t.reached.map fun e => (funcN n e.1).Component)).length ≤ 3000 := by
      have := key_len (SetOk.nil.insAll (t.reached.map fun e => (funcN n e.1).Component)) (l := t.reached.map fun e => (funcN n e.1).Component) (fun x hx => by rw [insAll_keys] at hx; simpa using hx)
      simp at this; omega
    have hu : ∀ c, c ∈ (insAll [] (t.reached.map fun e => (funcN n e.1).Component)).map (·.1) ↔ ∃ x, x ∈ g.Funcs ∧ RN g how (onF fs) false x.Name ∧ x.Component = c := by
      intro c
      rw [insAll_keys]
      simp only [List.map_nil, List.not_mem_nil, or_false]
      constructor
      · intro h
        obtain ⟨e, he, rfl⟩ := List.mem_map.1 h
        have h1 : e.1 ∈ t.reached.map (·.1) := List.mem_map.2 ⟨e, he, rfl⟩
        have h2 := (X.hr _).1 h1
        obtain ⟨x, hx, hxe⟩ := in_names.1 (show fsOf g e.1 = true by simpa using h2.names R)
        exact ⟨x, hx, by rw [hxe]; exact h2, by rw [← hxe, N.f x hx]⟩
      · rintro ⟨x, hx, h, rfl⟩
        obtain ⟨e, he, hee⟩ := List.mem_map.1 ((X.hr _).2 h)
        exact List.mem_map.2 ⟨e, he, by rw [hee, N.f x hx]⟩
    refine ⟨t.reached.map (·.1), t.made.map (·.1), (insAll [] (t.reached.map fun e => (funcN n e.1).Component)).map (·.1), ?_, ?_, ?_, ?_⟩
    · unfold M10; rw [h33, h0, Option.bind_some, if_neg (by simp), e1, Option.bind_some, e2, Option.bind_some, M34_eq F hF _ X.r (by omega), Option.bind_some]
    · unfold M20; rw [h33, h0, Option.bind_some, if_neg (by simp), e1, Option.bind_some, e2, Option.bind_some, M34_eq F hF _ X.m (by omega), Option.bind_some]
    · unfold M22; rw [h33, h0, Option.bind_some, if_neg (by simp), e1, Option.bind_some, e2, Option.bind_some, M22_L1_eq, M34_eq F hF _ (SetOk.nil.insAll _) (by omega), Option.bind_some]
    · rw [if_pos h0]
      exact ⟨X.r.srt, X.m.srt, (SetOk.nil.insAll _).srt, X.hr, X.hm, hu⟩
  · refine ⟨[], [], [], ?_, ?_, ?_, by rw [if_neg h0]; exact ⟨rfl, rfl, rfl⟩⟩
    · unfold M10; rw [h33, Option.bind_some, if_pos (by simpa using h0)]
    · unfold M20; rw [h33, Option.bind_some, if_pos (by simpa using h0)]
    · unfold M22; rw [h33, Option.bind_some, if_pos (by simpa using h0)]
theorem M15_L1_same (F : Nat) (a : List Tx) (k : Option Bool) : ∀ (l : List Tx) (n : Nat), a.drop n = l → M15_L1 F a k l n = k
  | [], n, _ => rfl
  | x :: l, n, h => by
    obtain ⟨hn, h1, h2⟩ := drop_at h
    rw [M15_L1, idx_nat hn, Option.bind_some, if_neg (by simp [h1])]
    exact M15_L1_same F a k l (n + 1) h2
theorem M15_same (F : Nat) (a : List Tx) : M15 F a a = some true := by
  unfold M15
  rw [if_neg (by simp), jn_def]
  exact M15_L1_same F a _ a 0 rfl
theorem plain_5 (g : TGraph) (how : Int) (fs : List Tx) (hg : okTGraph g) (hi : (IntKind.i64).min ≤ how ∧ how ≤ (IntKind.i64).max) (hfs : (∀ a, a ∈ fs → (fun x : List UInt8 => x.length ≤ maxLen) a) ∧ fs.length ≤ maxLen) : ∃ F, M5 F g how fs = some true := by
  refine ⟨20003, ?_⟩
  generalize hF : 20003 = F
  obtain ⟨r, m, u, e1, e2, e3, A⟩ := prog_ans F g how fs hg hfs.1 (by omega)
  obtain ⟨r', m', u', f1, f2, f3, B⟩ := ref_ans F g how fs hg hfs.1 hfs.2 (by omega)
  have : r = r' ∧ m = m' ∧ u = u' := by
    by_cases h0 : opnE g how fs = 0
    · rw [if_pos h0] at A B; exact A.uniq B
    · rw [if_neg h0] at A B
      obtain ⟨rfl, rfl, rfl⟩ := A
      obtain ⟨rfl, rfl, rfl⟩ := B
      exact ⟨rfl, rfl, rfl⟩
  obtain ⟨rfl, rfl, rfl⟩ := this
  unfold M5
  simp only [e1, e2, e3, f1, f2, f3, Option.bind_some, M15_same]
  simp [M11]
end Go.Proofs.Ytpbkggamiipdmaa

/-
  DERIVED: THE SHELF's CONTRACTS AT THIS DUMP, IN PLAIN WORDS (tools/lay-plain.mjs out of 'TryShelf.lean', which tools/lay-shelf.mjs wrote): THE SAME DECLARATIONS UNDER THE SAME NAMES: 'import', 'namespace', 'open', 'def', 'theorem' AND NOTHING ELSE: no command of the shelf's: FOR A HAND-IN. Each laying: the table of numbers ('.._ren') and one theorem, a field a fact of the dump's own or the kernel's comparison; each contract: ONE APPLICATION.
-/
namespace Go.Proofs
open Go.Shelf
def Try.lays190_ren : Go.Shelf.Ren := ⟨fun | 190 => 42 | 125 => 76 | 258 => 75 | 128 => 103 | 129 => 104 | 302 => 94 | 303 => 95 | 304 => 96 | 305 => 97 | 306 => 98 | 307 => 99 | 308 => 100 | 309 => 101 | 310 => 102 | 333 => 121 | 329 => 122 | 330 => 123 | 334 => 124 | 335 => 125 | 336 => 126 | 344 => 138 | n => n, fun | 31 => 25 | 9 => 9 | 3 => 3 | 46 => 157 | 0 => 0 | 51 => 189 | 53 => 191 | 4 => 4 | 183 => 183 | 182 => 182 | 131 => 109 | 5 => 5 | 218 => 205 | 222 => 209 | 228 => 218 | 229 => 219 | n => n, fun | n => n⟩
theorem Try.lays190 : Go.Proofs.Lays.n190 Try.prog Try.lays190_ren := {
  mixed := by kernel_rfl
  f125 := Try.func76.trans (congrArg some (by kernel_rfl))
  f128 := Try.func103.trans (congrArg some (by kernel_rfl))
  f129 := Try.func104.trans (congrArg some (by kernel_rfl))
  f190 := Try.func42.trans (congrArg some (by kernel_rfl))
  f258 := Try.func75.trans (congrArg some (by kernel_rfl))
  f302 := Try.func94.trans (congrArg some (by kernel_rfl))
  f303 := Try.func95.trans (congrArg some (by kernel_rfl))
  f304 := Try.func96.trans (congrArg some (by kernel_rfl))
  f305 := Try.func97.trans (congrArg some (by kernel_rfl))
  f306 := Try.func98.trans (congrArg some (by kernel_rfl))
  f307 := Try.func99.trans (congrArg some (by kernel_rfl))
  f308 := Try.func100.trans (congrArg some (by kernel_rfl))
  f309 := Try.func101.trans (congrArg some (by kernel_rfl))
  f310 := Try.func102.trans (congrArg some (by kernel_rfl))
  f329 := Try.func122.trans (congrArg some (by kernel_rfl))
  f330 := Try.func123.trans (congrArg some (by kernel_rfl))
  f333 := Try.func121.trans (congrArg some (by kernel_rfl))
  f334 := Try.func124.trans (congrArg some (by kernel_rfl))
  f335 := Try.func125.trans (congrArg some (by kernel_rfl))
  f336 := Try.func126.trans (congrArg some (by kernel_rfl))
  f344 := Try.func138.trans (congrArg some (by kernel_rfl))
  t0 := Try.underlying0
  a0 := Try.isAgg0
  z0 := Try.sizeOf0
  v0 := Try.zeroValue0
  t3 := Try.underlying3
  a3 := Try.isAgg3
  z3 := Try.sizeOf3
  v3 := Try.zeroValue3
  t4 := Try.underlying4
  a4 := Try.isAgg4
  z4 := Try.sizeOf4
  v4 := Try.zeroValue4
  t5 := Try.underlying5
  a5 := Try.isAgg5
  z5 := Try.sizeOf5
  v5 := Try.zeroValue5
  t9 := Try.underlying9
  a9 := Try.isAgg9
  z9 := Try.sizeOf9
  v9 := Try.zeroValue9
  t31 := Try.underlying25
  a31 := Try.isAgg25
  z31 := Try.sizeOf25
  v31 := Try.zeroValue25
  t46 := Try.underlying157
  a46 := Try.isAgg157
  z46 := Try.sizeOf157
  v46 := Try.zeroValue157
  t51 := Try.underlying189
  a51 := Try.isAgg189
  z51 := Try.sizeOf189
  v51 := Try.zeroValue189
  t53 := Try.underlying191
  a53 := Try.isAgg191
  z53 := Try.sizeOf191
  v53 := Try.zeroValue191
  t131 := Try.underlying109
  a131 := Try.isAgg109
  z131 := Try.sizeOf109
  v131 := Try.zeroValue109
  t182 := Try.underlying182
  a182 := Try.isAgg182
  z182 := Try.sizeOf182
  v182 := Try.zeroValue182
  t183 := Try.underlying183
  a183 := Try.isAgg183
  z183 := Try.sizeOf183
  v183 := Try.zeroValue183
  t218 := Try.underlying205
  a218 := Try.isAgg205
  z218 := Try.sizeOf205
  v218 := Try.zeroValue205
  t222 := Try.underlying209
  a222 := Try.isAgg209
  z222 := Try.sizeOf209
  v222 := Try.zeroValue209
  t228 := Try.underlying218
  a228 := Try.isAgg218
  z228 := Try.sizeOf218
  v228 := Try.zeroValue218
  t229 := Try.underlying219
  a229 := Try.isAgg219
  z229 := Try.sizeOf219
  v229 := Try.zeroValue219 }
open Go.Sort Go.RowKit in
theorem Try.slices_Sort_string (blk off cap : Nat) (ss : List (List UInt8)) (w : World) (hH : Holds encStr w blk off ss.toArray) (hblk : blk < w.heap.size) (hsz : ss.length < 4611686018427387904) :
    Calls Try.prog 42 #[.slice (some ⟨blk, off, none⟩) ss.length cap] w fun e w' =>
      e = .returned (.tuple #[]) ∧ ∃ n os, w' = grow (putRow encStr (Sort.ahead w n) blk off (ss.mergeSort fun x y => decide (x ≤ y)).toArray) os := Any.slices_Sort_string Try.lays190 blk off cap ss w hH hblk hsz
def Try.lays194_ren : Go.Shelf.Ren := ⟨fun | 194 => 43 | n => n, fun | 31 => 25 | 9 => 9 | 3 => 3 | 4 => 4 | 0 => 0 | n => n, fun | n => n⟩
theorem Try.lays194 : Go.Proofs.Lays.n194 Try.prog Try.lays194_ren := {
  mixed := by kernel_rfl
  f194 := Try.func43.trans (congrArg some (by kernel_rfl))
  t0 := Try.underlying0
  a0 := Try.isAgg0
  z0 := Try.sizeOf0
  v0 := Try.zeroValue0
  t3 := Try.underlying3
  a3 := Try.isAgg3
  z3 := Try.sizeOf3
  v3 := Try.zeroValue3
  t4 := Try.underlying4
  a4 := Try.isAgg4
  z4 := Try.sizeOf4
  v4 := Try.zeroValue4
  t9 := Try.underlying9
  a9 := Try.isAgg9
  z9 := Try.sizeOf9
  v9 := Try.zeroValue9
  t31 := Try.underlying25
  a31 := Try.isAgg25
  z31 := Try.sizeOf25
  v31 := Try.zeroValue25 }
open Go.RowKit Go.Lib Go.Sort in
/-- slices.Compact at []string: "Compact replaces consecutive runs of equal elements with a single copy. This is like the uniq command found on Unix. Compact modifies the contents of the slice s and returns the modified slice, which may have a smaller length. Compact zeroes the elements between the new length and the original length. The result preserves the nilness of s.": IT RETURNS THE SLICE CUT TO 'Lib.compact zs'; ITS CELLS HOLD 'Lib.compact zs', THEN ZERO VALUES up to the old length; all else is as it was, but for the count of draws. IN THE WORDS OF slices.Sort's CONTRACT ('Holds', 'putRow'): so the everyday 'slices.Sort(xs); xs = slices.Compact(xs)' goes from the one contract to the other. It asks 'zs.length ≤ cap' (every slice's: the reslicing 's[:k]' looks at it). Length 0, nil: '.._empty'. (LAID: no walk: one application.) -/
theorem Try.slices_Compact_string (blk off cap : Nat) (zs : List (List UInt8)) (w : World) (hH : Holds encStr w blk off zs.toArray) (hsz : zs.length ≤ 9223372036854775807) (hcap : zs.length ≤ cap) :
    Calls Try.prog 43 #[.slice (some ⟨blk, off, none⟩) zs.length cap] w fun e w' => e = .returned (.slice (some ⟨blk, off, none⟩) (Lib.compact zs).length cap) ∧ ∃ q, w' = putRow encStr (Sort.ahead w q) blk off (Lib.compact zs ++ List.replicate (zs.length - (Lib.compact zs).length) []).toArray := Any.slices_Compact_string Try.lays194 blk off cap zs w hH hsz hcap
open Go.RowKit Go.Lib Go.Sort in
/-- The same at a slice of length 0, a nil one too: it comes back as it is. (LAID: no walk: one application.) -/
theorem Try.slices_Compact_string_empty (a : Option Addr) (cap : Nat) (w : World) :
    Calls Try.prog 43 #[.slice a 0 cap] w fun e w' => e = .returned (.slice a 0 cap) ∧ w' = w := Any.slices_Compact_string_empty Try.lays194 a cap w
open Go.RowKit Go.Sort in
/-- .. and plain. (LAID: no walk: one application.) -/
theorem Try.slices_Sort_string_none (p : Option Addr) (cap : Nat) (w : World) :
    Calls Try.prog 42 #[.slice p 0 cap] w fun e w' => e = .returned (.tuple #[]) ∧ w' = w := Any.slices_Sort_string_none Try.lays190 p cap w
end Go.Proofs
