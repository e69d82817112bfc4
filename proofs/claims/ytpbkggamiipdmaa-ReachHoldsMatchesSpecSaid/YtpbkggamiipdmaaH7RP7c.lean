/- Part of the proof: RN3, KW, RP, RP5, RP6, RP7a, RP7b, RP7c. -/
import Derived.Test.YtpbkggamiipdmaaH7RN2
import Derived.Test.YtpbkggamiipdmaaH7RA
import Derived.KernelRfl
namespace Go.Proofs.Ytpbkggamiipdmaa
open Go Go.Pv
set_option linter.unusedVariables false
theorem find_uniq {α : Type} {f : α → Tx} : ∀ {l : List α}, l.Pairwise (fun a b => Op.bytesLess (f a) (f b) = true) → ∀ {x : α}, x ∈ l → l.find? (fun y => f y == f x) = some x
 | y :: l, hp, x, hx => by
  rw [List.pairwise_cons] at hp
  rw [List.find?_cons]
  rcases List.mem_cons.1 hx with e | e
  ·subst e; simp
  ·have : (f y == f x) = false := by simpa using bl_ne (hp.1 x e)
   rw [this]; exact find_uniq hp.2 e
theorem ifm_get (t : Tx) (i : TIface) : ∀ (l : List TIface) (m : List (Tx × TIface)), mget (ifm m l) t = some i → (i ∈ l ∧ i.Name = t) ∨ mget m t = some i
 | [], m, h => .inr h
 | x :: l, m, h => by
  rcases ifm_get t i l _ h with h | h
  ·exact .inl ⟨List.mem_cons_of_mem _ h.1, h.2⟩
  ·rw [mget_mput] at h
   split at h
   ·rename_i e; simp at h; subst h; exact .inl ⟨List.mem_cons_self, e⟩
   ·exact .inr h
theorem is_iface {g : TGraph} (R : RightG g) {t : Tx} {l : List Tx} (h : isOf g t = some l) : ∃ i, i ∈ g.Ifaces ∧ i.Name = t ∧ i.Methods = l ∧ g.Ifaces.find? (fun y => y.Name == t) = some i := by
 unfold isOf at h
 rw [Option.map_eq_some_iff] at h
 obtain ⟨i, h1, h2⟩ := h
 rcases ifm_get t i _ _ h1 with h | h
 ·exact ⟨i, h.1, h.2, h2, by rw [← h.2]; exact find_uniq (f := TIface.Name) R.isrt h.1⟩
 ·simp [mget] at h
theorem fit_iff {g : TGraph} (R : RightG g) (how : Int) (fs : List Tx) {n : Tx} {i : TIface} (hf : g.Ifaces.find? (fun y => y.Name == n) = some i) (t : Int) : t ∈ fitL (wOf g how fs) n ↔ ∃ j : Nat, ∃ h : j < g.Types.length, t = j ∧ fitB g.Types[j] i = true := by
 unfold fitL wOf
 simp only
 rw [fitM_get g.Types n g.Ifaces [] R.isrt]
 simp only [mget, Option.getD_none, List.nil_append]
 rw [hf]
 show t ∈ fitIdx i 0 g.Types ↔ _
 rw [fitIdx_mem]
 simp
theorem fI_at {g : TGraph} (R : RightG g) (how : Int) (fs : List Tx) {i : Nat} (h : i < g.Funcs.length) : fI (wOf g how fs) (g.Funcs[i]).Name = i := by
 unfold fI wOf
 simp only
 have := nums_get (g.Funcs.map (·.Name)) [] 0 i (by simpa using h) (srt_names R.fsrt)
 simp only [List.getElem_map] at this
 rw [this]; simp
theorem tI_at {g : TGraph} (R : RightG g) (how : Int) (fs : List Tx) {i : Nat} (h : i < g.Types.length) : tI (wOf g how fs) (g.Types[i]).Name = i := by
 unfold tI wOf
 simp only
 have := nums_get (g.Types.map (·.Name)) [] 0 i (by simpa using h) (srt_names R.tsrt)
 simp only [List.getElem_map] at this
 rw [this]; simp
theorem fs_at {g : TGraph} {x : Tx} (h : fsOf g x = true) : ∃ i : Nat, ∃ h : i < g.Funcs.length, (g.Funcs[i]).Name = x := by
 obtain ⟨f, hf, rfl⟩ := in_names.1 h
 obtain ⟨i, hi, rfl⟩ := List.getElem_of_mem hf
 exact ⟨i, hi, rfl⟩
theorem ts_at {g : TGraph} {x : Tx} (h : tsOf g x = true) : ∃ i : Nat, ∃ h : i < g.Types.length, (g.Types[i]).Name = x := by
 obtain ⟨f, hf, rfl⟩ := in_types.1 h
 obtain ⟨i, hi, rfl⟩ := List.getElem_of_mem hf
 exact ⟨i, hi, rfl⟩
theorem M82_at {F : Nat} (hF : 1000 ≤ F) {g : TGraph} (R : RightG g) (how : Int) (fs : List Tx) (c : TCall) {i : Nat} (hi : i < g.Types.length) : M82 F (wOf g how fs) c (i : Int) = some (fI (wOf g how fs) (mOf g.Types[i] c.Method).1) := by
 have hT := R.t g.Types[i] (List.getElem_mem _)
 unfold M82
 rw [show idx (wOf g how fs).g.Types (i : Int) = some g.Types[i] from idx_nat hi, Option.bind_some, M79_eq F _ _ hT.len hT.srt hF, Option.bind_some]
 rfl
theorem idx_at {α : Type} {l : List α} {f : Int} {x : α} (h : idx l f = some x) : ∃ i : Nat, ∃ hi : i < l.length, f = i ∧ l[i] = x := by
 have h1 := idx_lt h
 have h2 := idx_some h
 exact ⟨f.toNat, h1, by have := h2.1; omega, (List.getElem?_eq_some_iff.1 h2.2).2⟩
theorem dis_aim {g : TGraph} (R : RightG g) {x : TFunc} (hx : x ∈ g.Funcs) {c : TCall} (hc : c ∈ x.Calls) (k : c.Kind ≠ 1) : ∃ i, i ∈ g.Ifaces ∧ g.Ifaces.find? (fun y => y.Name == c.Target) = some i ∧ ifG g c.Target = i ∧ ∀ t, fitB t i = true → (mOf t c.Method).2 = true := by
 rcases ((R.f x hx).calls c hc).kind with ⟨h, _⟩ | ⟨_, l, h1, h2⟩
 ·exact absurd h k
 ·obtain ⟨i, i1, i2, i3, i4⟩ := is_iface R h1
  refine ⟨i, i1, i4, by unfold ifG; rw [i4]; rfl, fun t ht => ?_⟩
  unfold fitB at ht
  rw [List.all_eq_true] at ht
  exact ht _ (by rw [i3]; exact h2)
theorem RR_RN {F : Nat} (hF : 1000 ≤ F) {g : TGraph} (R : RightG g) {how : Int} (hh : how = 1 ∨ how = 2) {fs : List Tx} {b : Bool} {v : Int} (h : RR F (wOf g how fs) b v) :
  if b then ∃ i : Nat, ∃ h : i < g.Types.length, v = i ∧ RN g how (onF fs) true (g.Types[i]).Name else ∃ i : Nat, ∃ h : i < g.Funcs.length, v = i ∧ RN g how (onF fs) false (g.Funcs[i]).Name := by
 induction h with
 | @entry e h =>
  have h : e ∈ g.Entries := h
  obtain ⟨i, hi, he⟩ := fs_at (R.e e h)
  subst he
  show ∃ j, _
  exact ⟨i, hi, fI_at R how fs hi, .entry h⟩
 | @dir f x c hf hx hc ho k ih =>
  obtain ⟨i, hi, rfl, ih2⟩ := (show ∃ i : Nat, ∃ h : i < g.Funcs.length, f = i ∧ RN g how (onF fs) false (g.Funcs[i]).Name from ih)
  obtain ⟨i', hi', e1, e2⟩ := idx_at hx
  have : i' = i := by omega
  subst this
  have hx : g.Funcs[i'] = x := e2
  have hxm : x ∈ g.Funcs := by rw [← hx]; exact List.getElem_mem _
  rw [hx] at ih2
  have ha : Tprovenderref6_aim.mk [] c.Target ∈ aimsG g c := by unfold aimsG; rw [if_pos k]; simp
  obtain ⟨j, hj, he⟩ := fs_at (aim_fs R hxm hc ha)
  have he : (g.Funcs[j]).Name = c.Target := he
  show ∃ j, _
  refine ⟨j, hj, by rw [← he]; exact fI_at R how fs hj, ?_⟩
  rw [he]
  rw [onB_eq] at ho
  exact .aim ih2 hxm hc ho ha (fun _ h => absurd rfl h)
 | @dis f t v x c hf hx hc ho k ht hm hv ih ihm =>
  obtain ⟨i, hi, rfl, ih2⟩ := (show ∃ i : Nat, ∃ h : i < g.Funcs.length, f = i ∧ RN g how (onF fs) false (g.Funcs[i]).Name from ih)
  obtain ⟨i', hi', e1, e2⟩ := idx_at hx
  have : i' = i := by omega
  subst this
  have hx : g.Funcs[i'] = x := e2
  have hxm : x ∈ g.Funcs := by rw [← hx]; exact List.getElem_mem _
  rw [hx] at ih2
  obtain ⟨I, I1, I2, I3, I4⟩ := dis_aim R hxm hc k
  obtain ⟨j, hj, rfl, hfit⟩ := (fit_iff R how fs I2 t).1 ht
  rw [M82_at hF R how fs c hj] at hv
  simp only [Option.some.injEq] at hv
  have ha : Tprovenderref6_aim.mk (g.Types[j]).Name (mOf g.Types[j] c.Method).1 ∈ aimsG g c := by
   unfold aimsG
   rw [if_neg k]
   exact List.mem_filterMap.2 ⟨g.Types[j], List.getElem_mem _, by unfold aimO; rw [if_pos ⟨I4 _ hfit, by rw [I3]; exact hfit⟩]⟩
  obtain ⟨q, hq, he⟩ := fs_at (aim_fs R hxm hc ha)
  have he : (g.Funcs[q]).Name = (mOf g.Types[j] c.Method).1 := he
  show ∃ j, _
  refine ⟨q, hq, by rw [← hv, ← he]; exact fI_at R how fs hq, ?_⟩
  rw [he]
  rw [onB_eq] at ho
  refine .aim ih2 hxm hc ho ha (fun h1 _ => ?_)
  have hmd : (wOf g how fs).made = true := by
   have : how = 2 := hh.resolve_left h1
   simp [wOf, this]
  obtain ⟨j', hj', e1, e2⟩ := (show ∃ i : Nat, ∃ h : i < g.Types.length, (j : Int) = i ∧ RN g how (onF fs) true (g.Types[i]).Name from ihm hmd)
  have : j' = j := by omega
  subst this
  exact e2
 | @mk f x t hf hx ht ih =>
  obtain ⟨i, hi, rfl, ih2⟩ := (show ∃ i : Nat, ∃ h : i < g.Funcs.length, f = i ∧ RN g how (onF fs) false (g.Funcs[i]).Name from ih)
  obtain ⟨i', hi', e1, e2⟩ := idx_at hx
  have : i' = i := by omega
  subst this
  have hx : g.Funcs[i'] = x := e2
  have hxm : x ∈ g.Funcs := by rw [← hx]; exact List.getElem_mem _
  rw [hx] at ih2
  obtain ⟨j, hj, he⟩ := ts_at ((R.f x hxm).makes t ht)
  subst he
  show ∃ j, _
  exact ⟨j, hj, tI_at R how fs hj, .mk ih2 hxm ht⟩
theorem RN_RR {F : Nat} (hF : 1000 ≤ F) {g : TGraph} (R : RightG g) {how : Int} {fs : List Tx} {b : Bool} {y : Tx} (h : RN g how (onF fs) b y) :
  if b then RR F (wOf g how fs) true (tI (wOf g how fs) y) else RR F (wOf g how fs) false (fI (wOf g how fs) y) := by
 induction h with
 | @entry e h => exact RR.entry (w := wOf g how fs) h
 | @aim x c a hf hx hc ho ha hm ih ihm =>
  have ih : RR F (wOf g how fs) false (fI (wOf g how fs) x.Name) := ih
  obtain ⟨i, hi, rfl⟩ := List.getElem_of_mem hx
  rw [fI_at R how fs hi] at ih
  have hix : idx (wOf g how fs).g.Funcs (i : Int) = some g.Funcs[i] := idx_nat hi
  have hon : onB (wOf g how fs) c.Feature = true := by rw [onB_eq]; exact ho
  show RR F (wOf g how fs) false _
  unfold aimsG at ha
  split at ha
  ·rename_i k
   simp at ha; subst ha
   exact .dir ih hix hc hon k
  ·rename_i k
   obtain ⟨t, ht, h⟩ := List.mem_filterMap.1 ha
   unfold aimO at h
   split at h
   ·rename_i h1
    simp only [Option.some.injEq] at h
    subst h
    obtain ⟨j, hj, rfl⟩ := List.getElem_of_mem ht
    obtain ⟨I, I1, I2, I3, I4⟩ := dis_aim R hx hc k
    refine .dis ih hix hc hon k ((fit_iff R how fs I2 (j : Int)).2 ⟨j, hj, rfl, by rw [← I3]; exact h1.2⟩) (fun hmd => ?_) (M82_at hF R how fs c hj)
    have h2 : how ≠ 1 := by intro e; simp [wOf, e] at hmd
    have h3 : (g.Types[j]).Name ≠ [] := by
     have := (R.t _ ht).nam
     intro e; rw [e] at this; simp [nm] at this
    have := ihm h2 h3
    rw [← tI_at R how fs hj]
    exact this
   ·simp at h
 | @mk x t hf hx ht ih =>
  have ih : RR F (wOf g how fs) false (fI (wOf g how fs) x.Name) := ih
  obtain ⟨i, hi, rfl⟩ := List.getElem_of_mem hx
  rw [fI_at R how fs hi] at ih
  exact RR.mk (w := wOf g how fs) ih (idx_nat hi) ht
theorem reach_iff {F : Nat} (hF : 1000 ≤ F) {g : TGraph} (R : RightG g) {how : Int} (hh : how = 1 ∨ how = 2) (fs : List Tx) {i : Nat} (hi : i < g.Funcs.length) : RR F (wOf g how fs) false (i : Int) ↔ RN g how (onF fs) false (g.Funcs[i]).Name := by
 constructor
 ·intro h
  obtain ⟨j, hj, e, h2⟩ := (show ∃ j : Nat, ∃ h : j < g.Funcs.length, (i : Int) = j ∧ RN g how (onF fs) false (g.Funcs[j]).Name from RR_RN hF R hh h)
  have : j = i := by omega
  subst this; exact h2
 ·intro h
  have : RR F (wOf g how fs) false (fI (wOf g how fs) (g.Funcs[i]).Name) := RN_RR hF R h
  rw [fI_at R how fs hi] at this; exact this
theorem made_iff {F : Nat} (hF : 1000 ≤ F) {g : TGraph} (R : RightG g) {how : Int} (hh : how = 1 ∨ how = 2) (fs : List Tx) {i : Nat} (hi : i < g.Types.length) : RR F (wOf g how fs) true (i : Int) ↔ RN g how (onF fs) true (g.Types[i]).Name := by
 constructor
 ·intro h
  obtain ⟨j, hj, e, h2⟩ := (show ∃ j : Nat, ∃ h : j < g.Types.length, (i : Int) = j ∧ RN g how (onF fs) true (g.Types[j]).Name from RR_RN hF R hh h)
  have : j = i := by omega
  subst this; exact h2
 ·intro h
  have : RR F (wOf g how fs) true (tI (wOf g how fs) (g.Types[i]).Name) := RN_RR hF R h
  rw [tI_at R how fs hi] at this; exact this
def pick {α : Type} (f : α → Tx) : List α → List Bool → List Tx
 | x :: xs, b :: l => if b = true then f x :: pick f xs l else pick f xs l
 | _, _ => []
theorem pick_sub {α : Type} (f : α → Tx) : ∀ (xs : List α) (l : List Bool), (pick f xs l).Sublist (xs.map f)
 | [], l => by cases l <;> simp [pick]
 | x :: xs, [] => by simp [pick]
 | x :: xs, b :: l => by
  rw [pick, List.map_cons]
  split
  ·exact (pick_sub f xs l).cons_cons _
  ·exact (pick_sub f xs l).cons _
theorem pick_mem {α : Type} (f : α → Tx) (s : Tx) : ∀ (xs : List α) (l : List Bool), s ∈ pick f xs l ↔ ∃ i : Nat, ∃ h : i < xs.length, tru l i ∧ f xs[i] = s
 | [], l => by cases l <;> simp [pick]
 | x :: xs, [] => by simp [pick, tru]
 | x :: xs, b :: l => by
  have ih := pick_mem f s xs l
  have tl : ∀ i, tru (b :: l) (i + 1) ↔ tru l i := fun i => by unfold tru; rw [List.getElem?_cons_succ]
  have key : (∃ i : Nat, ∃ h : i < (x :: xs).length, tru (b :: l) i ∧ f (x :: xs)[i] = s) ↔ (b = true ∧ f x = s) ∨ ∃ i : Nat, ∃ h : i < xs.length, tru l i ∧ f xs[i] = s := by
   constructor
   ·rintro ⟨i, h, h1, h2⟩
    cases i with
    | zero => exact .inl ⟨by simpa [tru] using h1, h2⟩
    | succ i => exact .inr ⟨i, by simpa using h, (tl i).1 h1, h2⟩
   ·rintro (⟨h1, h2⟩ | ⟨i, h, h1, h2⟩)
    ·exact ⟨0, by simp, by simp [tru, h1], h2⟩
    ·exact ⟨i + 1, by simpa using h, (tl i).2 h1, h2⟩
  rw [key, pick]
  split
  ·rename_i hb; rw [List.mem_cons, ih]; simp [hb, eq_comm]
  ·rename_i hb; rw [ih]; simp [hb]
theorem drop_cons {α : Type} {xs : List α} {n : Nat} (h : n < xs.length) : xs.drop n = xs[n] :: xs.drop (n + 1) := by simp
theorem pick_loop {α : Type} (xs : List α) (f : α → Tx) (hx : xs.length ≤ 3000) {R : Type} (k : List Tx → Option R) (L : List Bool → Int → List Tx → Option R)
  (h0 : ∀ n o, L [] n o = k o) (h1 : ∀ b l (n : Nat) o, L (b :: l) n o = if b = true then (idx xs (n : Int)).bind fun x => if (o ++ [f x]).length * 16 ≤ 140737488355328 then L l ((n + 1 : Nat) : Int) (o ++ [f x]) else none else L l ((n + 1 : Nat) : Int) o) :
  ∀ (l : List Bool) (n : Nat) (o : List Tx), n + l.length ≤ xs.length → o.length ≤ n → L l n o = k (o ++ pick f (xs.drop n) l)
 | [], n, o, _, _ => by
  rw [h0]
  cases hd : xs.drop n <;> simp [pick]
 | b :: l, n, o, hn, ho => by
  simp only [List.length_cons] at hn
  have hlt : n < xs.length := by omega
  rw [h1, drop_cons hlt, pick]
  by_cases hb : b = true
  ·rw [if_pos hb, if_pos hb, idx_nat hlt, Option.bind_some, if_pos (by simp; omega), pick_loop xs f hx k L h0 h1 l (n + 1) _ (by omega) (by simp; omega)]
   simp
  ·rw [if_neg hb, if_neg hb, pick_loop xs f hx k L h0 h1 l (n + 1) _ (by omega) (by omega)]
theorem M9_full (F : Nat) (g : TGraph) (how : Int) (fs : List Tx) (hg : okTGraph g) (hfs : ∀ x, x ∈ fs → x.length ≤ maxLen) (hF : 10000 ≤ F) (h0 : opnE g how fs = 0) (R : RightG g) (hh : how = 1 ∨ how = 2) :
  ∃ sp : Treach_spread, (∀ (r : Type) (k : Treach_world → Treach_spread → Option r), ((M31 F g how fs).bind fun y4 => (y4.1).bind fun x7 => (M32 F x7 (-1)).bind fun y9 => y9.bind fun x11 => k x7 x11) = k (wOf g how fs) sp) ∧ sp.funcs.length = g.Funcs.length ∧ sp.made.length = g.Types.length ∧
   (∀ i : Nat, ∀ h : i < g.Funcs.length, tru sp.funcs i ↔ RN g how (onF fs) false (g.Funcs[i]).Name) ∧ ∀ i : Nat, ∀ h : i < g.Types.length, tru sp.made i ↔ RN g how (onF fs) true (g.Types[i]).Name := by
 obtain ⟨sp, s1, s2, s3, s4, s5⟩ := spread_eq (wok (F := F) (by omega) R how fs) hF
 refine ⟨sp, fun r k => ?_, s2, s3, fun i h => ?_, fun i h => ?_⟩
 ·rw [M31_eq F g how fs hg hfs (by omega), h0, Option.bind_some, if_neg (by simp), Option.bind_some, s1, Option.bind_some, Option.bind_some]
 ·rw [s4, ← reach_iff (F := F) (by omega) R hh fs h]
  exact ⟨fun q => q.2, fun q => ⟨h, q⟩⟩
 ·rw [s5, ← made_iff (F := F) (by omega) R hh fs h]
  exact ⟨fun q => q.2, fun q => ⟨h, q⟩⟩
theorem opn_parts {g : TGraph} {how : Int} {fs : List Tx} (h : opnE g how fs = 0) : RightG g ∧ (how = 1 ∨ how = 2) := by
 unfold opnE at h
 split at h
 ·rename_i h1; exact absurd h h1
 ·rename_i h1
  split at h
  ·rename_i h2; exact absurd h h2
  ·split at h
   ·rename_i h3; exact ⟨right_of (by simpa using h1), h3⟩
   ·simp at h
theorem M31_err (F : Nat) (g : TGraph) (how : Int) (fs : List Tx) (hg : okTGraph g) (hfs : ∀ x, x ∈ fs → x.length ≤ maxLen) (hF : 10000 ≤ F) (h : opnE g how fs ≠ 0) : M31 F g how fs = some (none, opnE g how fs) := by
 rw [M31_eq F g how fs hg hfs (by omega), if_pos h]
structure Ans (g : TGraph) (how : Int) (fs : List Tx) (r m u : List Tx) : Prop where
 rs : r.Pairwise (fun a b => Op.bytesLess a b = true)
 ms : m.Pairwise (fun a b => Op.bytesLess a b = true)
 us : u.Pairwise (fun a b => Op.bytesLess a b = true)
 r : ∀ x, x ∈ r ↔ RN g how (onF fs) false x
 m : ∀ x, x ∈ m ↔ RN g how (onF fs) true x
 u : ∀ c, c ∈ u ↔ ∃ x, x ∈ g.Funcs ∧ RN g how (onF fs) false x.Name ∧ x.Component = c
theorem prog_ans (F : Nat) (g : TGraph) (how : Int) (fs : List Tx) (hg : okTGraph g) (hfs : ∀ x, x ∈ fs → x.length ≤ maxLen) (hF : 10000 ≤ F) :
  ∃ r m u, M9 F g how fs = some (r, opnE g how fs) ∧ M19 F g how fs = some (m, opnE g how fs) ∧ M21 F g how fs = some (u, opnE g how fs) ∧ if opnE g how fs = 0 then Ans g how fs r m u else r = [] ∧ m = [] ∧ u = [] := by
 by_cases h0 : opnE g how fs = 0
 ·obtain ⟨R, hh⟩ := opn_parts h0
  obtain ⟨sp, s1, s2, s3, s4, s5⟩ := M9_full F g how fs hg hfs hF h0 R hh
  have h31 := M31_eq F g how fs hg hfs (show 1000 ≤ F by omega)
  have hfl := R.fl
  have htl := R.tl
  have e9 : M9 F g how fs = some (pick (·.Name) g.Funcs sp.funcs, 0) := by
   have := s1 _ (fun _ x11 => M9_L1 F g (fun l14 => some (l14, 0)) x11.funcs 0 [])
   rw [h31, h0] at this
   unfold M9
   rw [h31, h0]
   simp only [Option.bind_some] at this ⊢
   rw [if_neg (by simp)]
   simp only [jn_def]
   rw [this]
   have := pick_loop g.Funcs (·.Name) hfl (fun l14 => some (l14, (0 : Int))) (fun l n o => M9_L1 F g (fun l14 => some (l14, 0)) l n o) (fun n o => rfl) (fun b l n o => rfl) sp.funcs 0 [] (by omega) (by simp)
   simpa using this
  have e19 : M19 F g how fs = some (pick (·.Name) g.Types sp.made, 0) := by
   have := s1 _ (fun _ x11 => M19_L1 F g (fun l14 => some (l14, 0)) x11.made 0 [])
   rw [h31, h0] at this
   unfold M19
   rw [h31, h0]
   simp only [Option.bind_some] at this ⊢
   rw [if_neg (by simp)]
   simp only [jn_def]
   rw [this]
   have := pick_loop g.Types (·.Name) (by omega) (fun l14 => some (l14, (0 : Int))) (fun l n o => M19_L1 F g (fun l14 => some (l14, 0)) l n o) (fun n o => rfl) (fun b l n o => rfl) sp.made 0 [] (by omega) (by simp)
   simpa using this
  have hsub := pick_sub (fun x : TFunc => x.Component) g.Funcs sp.funcs
  have hlen : (pick (fun x : TFunc => x.Component) g.Funcs sp.funcs).length ≤ 3000 := by have := hsub.length_le; simp at this; omega
  have e21 : M21 F g how fs = some (cpt (srtT (pick (·.Component) g.Funcs sp.funcs)), 0) := by
   have := s1 _ (fun _ x11 => M21_L1 F g (fun l14 => (M42 F l14).bind fun y29 => if y29.length = l14.length then (M43 F y29).bind fun y32 => some (y32, 0) else none) x11.funcs 0 [])
   rw [h31, h0] at this
   unfold M21
   rw [h31, h0]
   simp only [Option.bind_some] at this ⊢
   rw [if_neg (by simp)]
   simp only [jn_def]
   rw [this]
   have := pick_loop g.Funcs (·.Component) hfl (fun l14 => (M42 F l14).bind fun y29 => if y29.length = l14.length then (M43 F y29).bind fun y32 => some (y32, (0 : Int)) else none)
    (fun l n o => M21_L1 F g (fun l14 => (M42 F l14).bind fun y29 => if y29.length = l14.length then (M43 F y29).bind fun y32 => some (y32, 0) else none) l n o) (fun n o => rfl) (fun b l n o => rfl) sp.funcs 0 [] (by omega) (by simp)
   refine (show _ = _ by simpa using this).trans ?_
   unfold M42
   rw [if_pos (by omega), Option.bind_some, tsort_eq, if_pos (srtT_perm _).length_eq]
   unfold M43
   rw [if_pos (by rw [(srtT_perm _).length_eq]; omega), Option.bind_some]
  refine ⟨_, _, _, by rw [h0]; exact e9, by rw [h0]; exact e19, by rw [h0]; exact e21, ?_⟩
  rw [if_pos h0]
  refine ⟨?_, ?_, cpt_srt (srtT_srt _), fun x => ?_, fun x => ?_, fun c => ?_⟩
  ·exact List.Pairwise.sublist (pick_sub _ _ _) (srt_names R.fsrt)
  ·exact List.Pairwise.sublist (pick_sub _ _ _) (srt_names R.tsrt)
  ·rw [pick_mem]
   constructor
   ·rintro ⟨i, h, h1, rfl⟩; exact (s4 i h).1 h1
   ·intro h
    obtain ⟨i, hi, he⟩ := fs_at (g := g) (by simpa using h.names R)
    exact ⟨i, hi, (s4 i hi).2 (by rw [he]; exact h), he⟩
  ·rw [pick_mem]
   constructor
   ·rintro ⟨i, h, h1, rfl⟩; exact (s5 i h).1 h1
   ·intro h
    obtain ⟨i, hi, he⟩ := ts_at (g := g) (by simpa using h.names R)
    exact ⟨i, hi, (s5 i hi).2 (by rw [he]; exact h), he⟩
  ·rw [cpt_mem, (srtT_perm _).mem_iff, pick_mem]
   constructor
   ·rintro ⟨i, h, h1, rfl⟩; exact ⟨g.Funcs[i], List.getElem_mem _, (s4 i h).1 h1, rfl⟩
   ·rintro ⟨x, hx, h, rfl⟩
    obtain ⟨i, hi, rfl⟩ := List.getElem_of_mem hx
    exact ⟨i, hi, (s4 i hi).2 h, rfl⟩
 ·have h31 := M31_err F g how fs hg hfs hF h0
  refine ⟨[], [], [], ?_, ?_, ?_, by rw [if_neg h0]; exact ⟨rfl, rfl, rfl⟩⟩
  ·unfold M9; rw [h31, Option.bind_some, if_pos (by simpa using h0)]
  ·unfold M19; rw [h31, Option.bind_some, if_pos (by simpa using h0)]
  ·unfold M21; rw [h31, Option.bind_some, if_pos (by simpa using h0)]
theorem cpt_memI (l : List Int) (x : Int) : x ∈ cpt l ↔ x ∈ l := by
 unfold cpt Lib.compact Lib.compactUpTo
 rw [List.mem_map]
 constructor
 ·rintro ⟨j, hj, rfl⟩
  have hlt := List.mem_range.1 (List.mem_filter.1 hj).1
  rw [getElem!_pos l.toArray j (by simpa using hlt)]
  simp
 ·intro hx
  have key : ∀ j, j < l.length → ∃ i, i ≤ j ∧ Lib.keeps l.toArray i = true ∧ l.toArray[i]! = l.toArray[j]! := by
   intro j
   induction j with
   | zero => exact fun _ => ⟨0, Nat.le_refl _, by simp [Lib.keeps], rfl⟩
   | succ j ih =>
    intro hj
    by_cases he : l.toArray[j + 1]! = l.toArray[j]!
    ·obtain ⟨i, h1, h2, h3⟩ := ih (by omega)
     exact ⟨i, by omega, h2, h3.trans he.symm⟩
    ·exact ⟨j + 1, Nat.le_refl _, by simp only [Lib.keeps, Nat.add_sub_cancel]; exact decide_eq_true (.inr he), rfl⟩
  obtain ⟨j, hj, rfl⟩ := List.getElem_of_mem hx
  obtain ⟨i, h1, h2, h3⟩ := key j hj
  refine ⟨i, List.mem_filter.2 ⟨List.mem_range.2 (by omega), h2⟩, ?_⟩
  rw [h3, getElem!_pos l.toArray j (by simpa using hj)]
  simp
theorem cpt_srtI {l : List Int} (h : l.Pairwise (· ≤ ·)) : (cpt l).Pairwise (· < ·) := by
 unfold cpt Lib.compact Lib.compactUpTo
 rw [List.pairwise_map]
 have hr : ((List.range l.length).filter (Lib.keeps l.toArray)).Pairwise (· < ·) := List.pairwise_lt_range.filter _
 refine List.Pairwise.imp_of_mem ?_ hr
 intro i j hi hj hlt
 have hj1 := List.mem_range.1 (List.mem_filter.1 hj).1
 have hj2 := (List.mem_filter.1 hj).2
 simp only [Lib.keeps, decide_eq_true_eq] at hj2
 have hne : l.toArray[j]! ≠ l.toArray[j - 1]! := hj2.resolve_left (by omega)
 rw [getElem!_pos l.toArray j (by simpa using hj1), getElem!_pos l.toArray (j - 1) (by simp; omega)] at hne
 rw [getElem!_pos l.toArray i (by simp; omega), getElem!_pos l.toArray j (by simpa using hj1)]
 simp only [List.getElem_toArray] at hne ⊢
 rw [List.pairwise_iff_getElem] at h
 have a1 : l[j - 1] ≤ l[j] := h (j - 1) j (by omega) hj1 (by omega)
 have a2 : l[i] ≤ l[j - 1] := by
  by_cases e : i = j - 1
  ·subst e; exact Int.le_refl _
  ·exact h i (j - 1) (by omega) (by omega) (by omega)
 omega
theorem isort_perm (l : List Int) : (isort l).Perm l := List.mergeSort_perm _ _
theorem isort_srt (l : List Int) : (isort l).Pairwise (· ≤ ·) := by
 have := List.pairwise_mergeSort (le := fun x y : Int => decide (x ≤ y)) (fun a b c h h' => by simp only [decide_eq_true_eq] at *; omega) (fun a b => by simp only [Bool.or_eq_true, decide_eq_true_eq]; omega) l
 exact this.imp (fun h => by simpa using h)
theorem M71_eq (F : Nat) (g : TGraph) (n : Tx) : M71 F g n = some (match g.Funcs.find? fun x => x.Name == n with | some x => (x, true) | none => (TFunc.mk [] [] [] [], false)) := by
 have key : ∀ l : List TFunc, M71_L1 F n (some (TFunc.mk [] [] [] [], false)) l = some (match l.find? fun x => x.Name == n with | some x => (x, true) | none => (TFunc.mk [] [] [] [], false)) := by
  intro l
  induction l with
  | nil => rfl
  | cons x l ih =>
   rw [M71_L1, List.find?_cons]
   by_cases h : (x.Name == n) = true
   ·rw [if_pos h, h]
   ·rw [if_neg h, ih]
    have : (x.Name == n) = false := by simpa using h
    rw [this]
 unfold M71
 rw [jn_def, key]
theorem M56_L1_eq (F : Nat) (w : Treach_world) (c : TCall) (k : List Int → Option (List Int)) (f : Int → Int) : ∀ (l : List Int) (o : List Int), (∀ t, t ∈ l → M82 F w c t = some (f t)) → o.length + l.length ≤ 100000 → M56_L1 F w c k l o = k (o ++ l.map f)
 | [], o, _, _ => by simp [M56_L1]
 | t :: l, o, h, hl => by
  simp only [List.length_cons] at hl
  rw [M56_L1, h t (by simp), Option.bind_some, if_pos (by simp; omega), M56_L1_eq F w c k f l _ (fun t ht => h t (List.mem_cons_of_mem _ ht)) (by simp; omega)]
  simp
structure TgtOk (g : TGraph) (c : TCall) (l : List Int) : Prop where
 srt : l.Pairwise (· < ·)
 len : l.length ≤ 500
 nat : ∀ v, v ∈ l → ∃ i : Nat, i < g.Funcs.length ∧ v = i
 mem : ∀ i : Nat, ∀ h : i < g.Funcs.length, (i : Int) ∈ l ↔ ∃ a, a ∈ aimsG g c ∧ a.to = (g.Funcs[i]).Name
theorem cpt_lenI (l : List Int) : (cpt l).length ≤ l.length := cpt_len l
theorem M56_eq (F : Nat) (hF : 1000 ≤ F) {g : TGraph} (R : RightG g) (how : Int) (fs : List Tx) {x : TFunc} (hx : x ∈ g.Funcs) {c : TCall} (hc : c ∈ x.Calls) : ∃ l, M56 F (wOf g how fs) c = some l ∧ TgtOk g c l := by
 unfold M56
 by_cases k : c.Kind = 1
 ·rw [if_pos (by simp [k])]
  have ha : Tprovenderref6_aim.mk [] c.Target ∈ aimsG g c := by unfold aimsG; rw [if_pos k]; simp
  obtain ⟨i, hi, he⟩ := fs_at (aim_fs R hx hc ha)
  have he : (g.Funcs[i]).Name = c.Target := he
  have hf : (mget (wOf g how fs).funcs c.Target).getD 0 = (i : Int) := by rw [← he]; exact fI_at R how fs hi
  refine ⟨_, rfl, by simp, by simp, fun v hv => ?_, fun j hj => ?_⟩
  ·simp only [List.mem_singleton] at hv; rw [hf] at hv; exact ⟨i, hi, hv⟩
  ·simp only [List.mem_singleton]
   rw [hf]
   unfold aimsG
   rw [if_pos k]
   simp only [List.mem_singleton]
   constructor
   ·intro h
    have : j = i := by omega
    subst this
    exact ⟨_, rfl, he.symm⟩
   ·rintro ⟨a, rfl, h⟩
    have h : c.Target = (g.Funcs[j]).Name := h
    have h1 := fI_at R how fs hj
    rw [← h, ← he, fI_at R how fs hi] at h1
    omega
 ·rw [if_neg (by simpa using k), jn_def]
  obtain ⟨I, I1, I2, I3, I4⟩ := dis_aim R hx hc k
  have hfit : ∀ t, t ∈ fitL (wOf g how fs) c.Target ↔ ∃ j : Nat, ∃ h : j < g.Types.length, t = j ∧ fitB g.Types[j] I = true := fit_iff R how fs I2
  have hlen : (fitL (wOf g how fs) c.Target).length ≤ 500 := by
   have e : fitL (wOf g how fs) c.Target = fitIdx I 0 g.Types := by
    unfold fitL wOf
    simp only
    rw [fitM_get g.Types c.Target g.Ifaces [] R.isrt]
    simp only [mget, Option.getD_none, List.nil_append]
    rw [I2]; rfl
   rw [e]
   have := fitIdx_len I g.Types 0
   have := R.tl
   omega
  let f : Int → Int := fun t => fI (wOf g how fs) (mOf (g.Types.getD t.toNat (TType.mk [] [])) c.Method).1
  have hm : ∀ t, t ∈ fitL (wOf g how fs) c.Target → M82 F (wOf g how fs) c t = some (f t) := by
   intro t ht
   obtain ⟨j, hj, rfl, _⟩ := (hfit t).1 ht
   rw [M82_at hF R how fs c hj]
   simp only [f, Int.toNat_natCast, List.getD_eq_getElem?_getD, List.getElem?_eq_getElem hj, Option.getD_some]
  have e := M56_L1_eq F (wOf g how fs) c (fun l5 => (M83 F l5).bind fun y17 => if y17.length = l5.length then (M84 F y17).bind fun y20 => some y20 else none) f (fitL (wOf g how fs) c.Target) [] hm (by simp; omega)
  refine ⟨cpt (isort ((fitL (wOf g how fs) c.Target).map f)), ?_, cpt_srtI (isort_srt _), ?_, ?_, ?_⟩
  ·refine e.trans ?_
   simp only [List.nil_append]
   unfold M83
   rw [if_pos (by simp; omega), Option.bind_some, if_pos (isort_perm _).length_eq]
   unfold M84
   rw [if_pos (by rw [(isort_perm _).length_eq]; simp; omega), Option.bind_some]
  ·have := cpt_lenI (isort ((fitL (wOf g how fs) c.Target).map f))
   rw [(isort_perm _).length_eq, List.length_map] at this
   omega
  ·intro v hv
   rw [cpt_memI, (isort_perm _).mem_iff] at hv
   obtain ⟨t, ht, rfl⟩ := List.mem_map.1 hv
   obtain ⟨j, hj, rfl, hft⟩ := (hfit t).1 ht
   have ha : Tprovenderref6_aim.mk (g.Types[j]).Name (mOf g.Types[j] c.Method).1 ∈ aimsG g c := by
    unfold aimsG
    rw [if_neg k]
    exact List.mem_filterMap.2 ⟨g.Types[j], List.getElem_mem _, by unfold aimO; rw [if_pos ⟨I4 _ hft, by rw [I3]; exact hft⟩]⟩
   obtain ⟨q, hq, he⟩ := fs_at (aim_fs R hx hc ha)
   have he : (g.Funcs[q]).Name = (mOf g.Types[j] c.Method).1 := he
   refine ⟨q, hq, ?_⟩
   simp only [f, Int.toNat_natCast, List.getD_eq_getElem?_getD, List.getElem?_eq_getElem hj, Option.getD_some]
   rw [← he]; exact fI_at R how fs hq
  ·intro i hi
   rw [cpt_memI, (isort_perm _).mem_iff, List.mem_map]
   constructor
   ·rintro ⟨t, ht, he⟩
    obtain ⟨j, hj, rfl, hft⟩ := (hfit t).1 ht
    have ha : Tprovenderref6_aim.mk (g.Types[j]).Name (mOf g.Types[j] c.Method).1 ∈ aimsG g c := by
     unfold aimsG
     rw [if_neg k]
     exact List.mem_filterMap.2 ⟨g.Types[j], List.getElem_mem _, by unfold aimO; rw [if_pos ⟨I4 _ hft, by rw [I3]; exact hft⟩]⟩
    obtain ⟨q, hq, hqe⟩ := fs_at (aim_fs R hx hc ha)
    have hqe : (g.Funcs[q]).Name = (mOf g.Types[j] c.Method).1 := hqe
    simp only [f, Int.toNat_natCast, List.getD_eq_getElem?_getD, List.getElem?_eq_getElem hj, Option.getD_some] at he
    rw [← hqe, fI_at R how fs hq] at he
    have : q = i := by omega
    subst this
    exact ⟨_, ha, hqe.symm⟩
   ·rintro ⟨a, ha, he⟩
    unfold aimsG at ha
    rw [if_neg k] at ha
    obtain ⟨t, ht, h⟩ := List.mem_filterMap.1 ha
    unfold aimO at h
    split at h
    ·rename_i h1
     simp only [Option.some.injEq] at h
     subst h
     obtain ⟨j, hj, rfl⟩ := List.getElem_of_mem ht
     refine ⟨j, (hfit _).2 ⟨j, hj, rfl, by rw [← I3]; exact h1.2⟩, ?_⟩
     simp only [f, Int.toNat_natCast, List.getD_eq_getElem?_getD, List.getElem?_eq_getElem hj, Option.getD_some]
     have he : (mOf g.Types[j] c.Method).1 = (g.Funcs[i]).Name := he
     rw [he]; exact fI_at R how fs hi
    ·simp at h
theorem nums_none {l : List Tx} {x : Tx} (h : x ∉ l) : mget (nums [] 0 l) x = none := by rw [nums_other x l [] 0 h]; rfl
def Marks (p : Nat → Bool) (l l' : List Bool) : Prop := l'.length = l.length ∧ ∀ i (h : i < l.length), l'[i]? = some (l[i] || p i)
theorem Marks.refl {p : Nat → Bool} {l : List Bool} (h : ∀ i, i < l.length → p i = false) : Marks p l l := ⟨rfl, fun i hi => by rw [List.getElem?_eq_getElem hi, h i hi, Bool.or_false]⟩
theorem Marks.trans {p q : Nat → Bool} {l l' l'' : List Bool} (a : Marks p l l') (b : Marks q l' l'') : Marks (fun i => p i || q i) l l'' :=
 ⟨b.1.trans a.1, fun i hi => by
  have hi' : i < l'.length := by rw [a.1]; exact hi
  rw [b.2 i hi']
  have := a.2 i hi
  rw [List.getElem?_eq_getElem hi', Option.some.injEq] at this
  rw [this, Bool.or_assoc]⟩
theorem Marks.congr {p q : Nat → Bool} {l l' : List Bool} (a : Marks p l l') (h : ∀ i, i < l.length → p i = q i) : Marks q l l' := ⟨a.1, fun i hi => by rw [a.2 i hi, h i hi]⟩
theorem Marks.uniq {p : Nat → Bool} {l l' l'' : List Bool} (a : Marks p l l') (b : Marks p l l'') : l' = l'' := by
 apply List.ext_getElem?
 intro i
 by_cases hi : i < l.length
 ·rw [a.2 i hi, b.2 i hi]
 ·rw [List.getElem?_eq_none (by rw [a.1]; omega), List.getElem?_eq_none (by rw [b.1]; omega)]
theorem Marks.set {l : List Bool} {j : Nat} (hj : j < l.length) : Marks (fun i => decide (i = j)) l (l.set j true) :=
 ⟨by simp, fun i hi => by
  rw [List.getElem?_set]
  by_cases h : j = i
  ·subst h; simp [hi]
  ·rw [if_neg h, List.getElem?_eq_getElem hi]
   have : decide (i = j) = false := by simp; omega
   simp only [this, Bool.or_false]⟩
def rbL (rl : List Tx) (g : TGraph) : Option Tx → List TMadeBy → Bool
 | _, [] => true
 | p, m :: l => (p.elim true fun t => Op.bytesLess t m.Type_) && (rl.contains m.Func && (((g.Funcs.find? fun x => x.Name == m.Func).elim false fun x => x.Makes.contains m.Type_) && rbL rl g (some m.Type_) l))
def prvM (a : List TMadeBy) (n : Nat) : Option Tx := if n = 0 then none else (a[n - 1]?).map (·.Type_)
theorem prvM_next {a : List TMadeBy} {x : TMadeBy} {n : Nat} (hn : n < a.length) (hx : a[n] = x) : prvM a (n + 1) = some x.Type_ := by
 unfold prvM
 rw [if_neg (by omega), Nat.add_sub_cancel, List.getElem?_eq_getElem hn, hx]; rfl
def callF (fs : List Tx) (x : TFunc) (h : THop) : Option TCall :=
 if h.Site.Func = x.Name ∧ 0 ≤ h.Site.Call then (x.Calls[h.Site.Call.toNat]?).bind fun c => if onF fs c.Feature = true then some c else none else none
def aimsTo (g : TGraph) (c : TCall) (to : Tx) : List Tprovenderref6_aim := (aimsG g c).filter fun a => a.to == to
def mkP (g : TGraph) (c : TCall) (to : Tx) (m : TMadeBy) : Bool := (aimsTo g c to).any fun a => !(a.typ == ([] : Tx)) && m.Type_ == a.typ
def mkI (g : TGraph) (c : TCall) (to : Tx) (M : List TMadeBy) (i : Nat) : Bool := (M[i]?).elim false (mkP g c to)
theorem find_none {g : TGraph} {x : Tx} (h : fsOf g x = false) : g.Funcs.find? (fun y => y.Name == x) = none := by
 rw [List.find?_eq_none]
 intro y hy hye
 have : fsOf g x = true := in_names.2 ⟨y, hy, by simpa using hye⟩
 rw [h] at this; simp at this
theorem find_at {g : TGraph} (R : RightG g) {i : Nat} (hi : i < g.Funcs.length) : g.Funcs.find? (fun y => y.Name == (g.Funcs[i]).Name) = some g.Funcs[i] := find_uniq (f := TFunc.Name) R.fsrt (List.getElem_mem _)
theorem fget_at {g : TGraph} (R : RightG g) (how : Int) (fs : List Tx) {i : Nat} (hi : i < g.Funcs.length) : mget (wOf g how fs).funcs (g.Funcs[i]).Name = some (i : Int) := by
 show mget (nums [] 0 (g.Funcs.map (·.Name))) _ = _
 have := nums_get (g.Funcs.map (·.Name)) [] 0 i (by simpa using hi) (srt_names R.fsrt)
 simp only [List.getElem_map] at this
 rw [this]; simp
theorem fget_none {g : TGraph} (how : Int) (fs : List Tx) {x : Tx} (h : fsOf g x = false) : mget (wOf g how fs).funcs x = none := nums_none (by simpa [fsOf] using h)
theorem tget_at {g : TGraph} (R : RightG g) (how : Int) (fs : List Tx) {i : Nat} (hi : i < g.Types.length) : mget (wOf g how fs).types (g.Types[i]).Name = some (i : Int) := by
 show mget (nums [] 0 (g.Types.map (·.Name))) _ = _
 have := nums_get (g.Types.map (·.Name)) [] 0 i (by simpa using hi) (srt_names R.tsrt)
 simp only [List.getElem_map] at this
 rw [this]; simp
theorem tget_none {g : TGraph} (how : Int) (fs : List Tx) {x : Tx} (h : tsOf g x = false) : mget (wOf g how fs).types x = none := nums_none (by simpa [tsOf] using h)
section
variable {g : TGraph} {how : Int} {fs : List Tx} {F : Nat} {rl : List Tx} {sp : Treach_spread}
theorem M85_L1_eq (R : RightG g) (hsl : sp.funcs.length = g.Funcs.length) (hsp : ∀ i : Nat, ∀ h : i < g.Funcs.length, tru sp.funcs i ↔ (g.Funcs[i]).Name ∈ rl) (hrl : ∀ x, x ∈ rl → fsOf g x = true) (a : List TMadeBy) (ha : a.length ≤ maxLen) (k : Option Bool) :
  ∀ (l : List TMadeBy) (n : Nat), a.drop n = l → M85_L1 F (wOf g how fs) sp a k l (n : Int) = if rbL rl g (prvM a n) l = true then k else some false
 | [], n, _ => by simp [M85_L1, rbL]
 | m :: l, n, h => by
  obtain ⟨hn, h1, h2⟩ := drop_at h
  have ih := M85_L1_eq R hsl hsp hrl a ha k l (n + 1) h2
  rw [prvM_next hn h1] at ih
  have ih : M85_L1 F (wOf g how fs) sp a k l ((n : Int) + 1) = if rbL rl g (some m.Type_) l = true then k else some false := ih
  rw [M85_L1, rbL]
  simp only [jn_def]
  by_cases hf : fsOf g m.Func = true
  ·obtain ⟨i, hi, he⟩ := fs_at hf
   have hg1 : mget (wOf g how fs).funcs m.Func = some (i : Int) := by rw [← he]; exact fget_at R how fs hi
   have hfd : (g.Funcs.find? fun x => x.Name == m.Func) = some g.Funcs[i] := by rw [← he]; exact find_at R hi
   rw [hg1, hfd]
   simp only [Option.isSome_some, Bool.not_true, Bool.false_eq_true, if_false, Option.getD_some, Option.elim_some]
   by_cases ht : tsOf g m.Type_ = true
   ·obtain ⟨j, hj, hje⟩ := ts_at ht
    have hg2 : mget (wOf g how fs).types m.Type_ = some (j : Int) := by rw [← hje]; exact tget_at R how fs hj
    rw [hg2]
    simp only [Option.isSome_some, Bool.not_true, Bool.false_eq_true, if_false]
    have hb : idx sp.funcs (i : Int) = some (rl.contains m.Func) := by
     have hlt : i < sp.funcs.length := by omega
     rw [idx_nat hlt]
     congr 1
     have := hsp i hi
     rw [he] at this
     unfold tru at this
     rw [List.getElem?_eq_getElem hlt] at this
     rw [Bool.eq_iff_iff, List.contains_iff_mem, ← this]; simp
    have hF : idx (wOf g how fs).g.Funcs (i : Int) = some g.Funcs[i] := idx_nat hi
    have tail : ∀ K : Option Bool, ((idx sp.funcs (i : Int)).bind fun x40 => if (!x40) = true then some false else (idx (wOf g how fs).g.Funcs (i : Int)).bind fun x43 => (M16 F x43.Makes m.Type_).bind fun y45 => if (!y45) = true then some false else K) =
      if (rl.contains m.Func && (g.Funcs[i]).Makes.contains m.Type_) = true then K else some false := by
     intro K
     rw [hb, Option.bind_some]
     cases rl.contains m.Func
     ·simp
     ·simp only [Bool.not_true, Bool.false_eq_true, if_false, Bool.true_and]
      rw [hF, Option.bind_some, M16_eq, Option.bind_some]
      cases (g.Funcs[i]).Makes.contains m.Type_ <;> simp
    by_cases h0 : n = 0
    ·subst h0
     rw [if_neg (by simp), tail, ih]
     have : prvM a 0 = none := rfl
     rw [this]
     simp only [Option.elim_none, Bool.true_and]
     cases rl.contains m.Func <;> cases (g.Funcs[i]).Makes.contains m.Type_ <;> simp
    ·have hw : w64 ((n : Int) - 1) = ((n - 1 : Nat) : Int) := by
      rw [w64_id (by omega) (by unfold maxLen at ha; omega)]; omega
     rw [if_pos (by simp; omega), hw, idx_nat (show n - 1 < a.length by omega), Option.bind_some]
     have hp : prvM a n = some (a[n - 1]).Type_ := by unfold prvM; rw [if_neg h0, List.getElem?_eq_getElem (by omega)]; rfl
     rw [hp]
     simp only [Option.elim_some]
     generalize hq : (a[n - 1]).Type_ = q
     have hb2 : Op.bytesLess q m.Type_ = !(Op.bytesLess m.Type_ q || m.Type_ == q) := (bl_gt _ _).symm
     simp only [hb2]
     cases hc : (Op.bytesLess m.Type_ q || m.Type_ == q)
     ·simp only [Bool.false_eq_true, if_false, Bool.not_false, Bool.true_and]
      rw [tail, ih]
      cases rl.contains m.Func <;> cases (g.Funcs[i]).Makes.contains m.Type_ <;> simp
     ·simp
   ·have ht' : tsOf g m.Type_ = false := by simpa using ht
    rw [tget_none how fs ht']
    have : (g.Funcs[i]).Makes.contains m.Type_ = false := by
     cases hcc : (g.Funcs[i]).Makes.contains m.Type_ with
     | false => rfl
     | true =>
      have := (R.f _ (List.getElem_mem hi)).makes m.Type_ (by simpa using hcc)
      rw [ht'] at this; simp at this
    simp only [this]; simp
  ·have hf' : fsOf g m.Func = false := by simpa using hf
   rw [fget_none how fs hf']
   have : rl.contains m.Func = false := by
    cases hcc : rl.contains m.Func with
    | false => rfl
    | true => exact absurd (hrl _ (by simpa using hcc)) hf
   simp only [this]; simp
theorem M86_eq (R : RightG g) (h : THop) {i : Nat} (hi : i < g.Funcs.length) :
  ∃ c0, M86 F (wOf g how fs) h (g.Funcs[i]).Name = some (match callF fs g.Funcs[i] h with | some c => (c, true) | none => (c0, false)) := by
 unfold M86 callF
 rw [fget_at R how fs hi]
 simp only [Option.isSome_some, Bool.not_true, Bool.false_eq_true, if_false, Option.getD_some]
 by_cases h1 : h.Site.Func = (g.Funcs[i]).Name
 ·rw [if_neg (by simp [h1])]
  by_cases h2 : h.Site.Call < 0
  ·rw [if_pos (by simpa using h2), if_neg (by omega)]; exact ⟨_, rfl⟩
  ·rw [if_neg (by simpa using h2), if_pos ⟨h1, by omega⟩, show idx (wOf g how fs).g.Funcs (i : Int) = some g.Funcs[i] from idx_nat hi, Option.bind_some]
   by_cases h3 : h.Site.Call.toNat < (g.Funcs[i]).Calls.length
   ·rw [if_neg (by simp; omega), Option.bind_some]
    have hcall : idx (g.Funcs[i]).Calls h.Site.Call = some (g.Funcs[i]).Calls[h.Site.Call.toNat] := by
     simp [idx, show 0 ≤ h.Site.Call by omega, h3]
    rw [hcall, Option.bind_some, List.getElem?_eq_getElem h3, Option.bind_some]
    have ho : (mget (wOf g how fs).on ((g.Funcs[i]).Calls[h.Site.Call.toNat]).Feature).getD false = onF fs ((g.Funcs[i]).Calls[h.Site.Call.toNat]).Feature := onB_eq g how fs _
    rw [ho]
    cases onF fs ((g.Funcs[i]).Calls[h.Site.Call.toNat]).Feature
    ·exact ⟨_, rfl⟩
    ·exact ⟨(g.Funcs[i]).Calls[h.Site.Call.toNat], rfl⟩
   ·rw [if_pos (by simp; omega), List.getElem?_eq_none (by omega), Option.bind_none]; exact ⟨_, rfl⟩
 ·rw [if_pos (by simpa using h1), if_neg (fun hh => h1 hh.1)]; exact ⟨_, rfl⟩
theorem callF_mem {x : TFunc} {h : THop} {c : TCall} (hc : callF fs x h = some c) : c ∈ x.Calls ∧ onF fs c.Feature = true ∧ h.Site.Func = x.Name := by
 unfold callF at hc
 split at hc
 ·rename_i h1
  rw [Option.bind_eq_some_iff] at hc
  obtain ⟨c', h2, h3⟩ := hc
  split at h3
  ·rename_i h4
   simp only [Option.some.injEq] at h3
   subst h3
   exact ⟨List.mem_of_getElem? h2, h4, h1.1⟩
  ·simp at h3
 ·simp at hc
def servI (p : TMadeBy → Bool) : Nat → List TMadeBy → List Int
 | _, [] => []
 | n, m :: l => if p m = true then (n : Int) :: servI p (n + 1) l else servI p (n + 1) l
theorem servI_mem (p : TMadeBy → Bool) : ∀ (l : List TMadeBy) (n : Nat) (v : Int), v ∈ servI p n l ↔ ∃ i : Nat, v = ((n + i : Nat) : Int) ∧ ∃ h : i < l.length, p l[i] = true
 | [], n, v => by simp [servI]
 | m :: l, n, v => by
  have ih := servI_mem p l (n + 1) v
  have key : (∃ i : Nat, v = ((n + i : Nat) : Int) ∧ ∃ h : i < (m :: l).length, p (m :: l)[i] = true) ↔ (v = (n : Int) ∧ p m = true) ∨ ∃ i : Nat, v = ((n + 1 + i : Nat) : Int) ∧ ∃ h : i < l.length, p l[i] = true := by
   constructor
   ·rintro ⟨i, h1, h2, h3⟩
    cases i with
    | zero => exact .inl ⟨by simpa using h1, h3⟩
    | succ i => exact .inr ⟨i, by rw [h1]; congr 1; omega, by simpa using h2, h3⟩
   ·rintro (⟨h1, h2⟩ | ⟨i, h1, h2, h3⟩)
    ·exact ⟨0, by simpa using h1, by simp, h2⟩
    ·exact ⟨i + 1, by rw [h1]; congr 1; omega, by simpa using h2, h3⟩
  rw [key, servI]
  split
  ·rename_i hp; rw [List.mem_cons, ih]; simp [hp]
  ·rename_i hp; rw [ih]; simp [hp]
theorem M88_L1_eq (w : Treach_world) (c : TCall) (to : Int) (p : TMadeBy → Bool) (k : List Int → Option (List Int)) : ∀ (l : List TMadeBy) (n : Nat) (o : List Int), o.length + l.length ≤ 100000 →
  (∀ m, m ∈ l → (((mget w.fitting c.Target).getD []).contains ((mget w.types m.Type_).getD 0) = true → ∃ v, M82 F w c ((mget w.types m.Type_).getD 0) = some v ∧ p m = (v == to)) ∧ (((mget w.fitting c.Target).getD []).contains ((mget w.types m.Type_).getD 0) = false → p m = false)) →
  M88_L1 F w c to k l (n : Int) o = k (o ++ servI p n l)
 | [], n, o, _, _ => by simp [M88_L1, servI]
 | m :: l, n, o, hl, h => by
  simp only [List.length_cons] at hl
  have hm := h m (by simp)
  have ih := fun o' ho => M88_L1_eq w c to p k l (n + 1) o' ho (fun m hm => h m (List.mem_cons_of_mem _ hm))
  have ih : ∀ o' : List Int, o'.length + l.length ≤ 100000 → M88_L1 F w c to k l ((n : Int) + 1) o' = k (o' ++ servI p (n + 1) l) := ih
  rw [M88_L1, servI]
  simp only [jn_def]
  rw [M87_eq, Option.bind_some]
  cases hc : ((mget w.fitting c.Target).getD []).contains ((mget w.types m.Type_).getD 0)
  ·rw [if_neg (by simp), ih _ (by omega), hm.2 hc]; simp
  ·rw [if_pos rfl]
   obtain ⟨v, hv, hp⟩ := hm.1 hc
   rw [hv, Option.bind_some, hp]
   cases (v == to)
   ·rw [if_neg (by simp), if_neg (by simp), ih _ (by omega)]
   ·rw [if_pos rfl, if_pos rfl, if_pos (by simp; omega), ih _ (by simp; omega)]; simp
theorem M59_L4_eq (k : List Bool → Option Bool) : ∀ (is : List Int) (l : List Bool), (∀ v, v ∈ is → ∃ i : Nat, i < l.length ∧ v = i) → ∃ l', M59_L4 F k is l = k l' ∧ Marks (fun i => is.contains (i : Int)) l l'
 | [], l, _ => ⟨l, rfl, .refl (by simp)⟩
 | v :: is, l, h => by
  obtain ⟨j, hj, rfl⟩ := h v (by simp)
  rw [M59_L4, idx_nat hj, Option.bind_some, Int.toNat_natCast]
  obtain ⟨l', e, m⟩ := M59_L4_eq k is (l.set j true) (fun v hv => by obtain ⟨i, hi, e⟩ := h v (List.mem_cons_of_mem _ hv); exact ⟨i, by simpa using hi, e⟩)
  refine ⟨l', e, ((Marks.set hj).trans m).congr fun i _ => ?_⟩
  rw [List.contains_cons]
  congr 1
  by_cases hij : i = j
  ·subst hij; simp
  ·have : ((i : Int) == (j : Int)) = false := by simp; omega
   rw [this]; simp [hij]
end
def markL (p : Nat → Bool) (l : List Bool) : List Bool := l.mapIdx fun i b => b || p i
theorem markL_ok (p : Nat → Bool) (l : List Bool) : Marks p l (markL p l) := ⟨by simp [markL], fun i hi => by simp [markL, List.getElem?_eq_getElem hi]⟩
theorem markL_eq {p : Nat → Bool} {l l' : List Bool} (h : Marks p l l') : l' = markL p l := h.uniq (markL_ok p l)
theorem markL_id {p : Nat → Bool} {l : List Bool} (h : ∀ i, i < l.length → p i = false) : markL p l = l := (markL_eq (Marks.refl h)).symm
def stepW (g : TGraph) (how : Int) (fs : List Tx) (M : List TMadeBy) (at' : Tx) (l : List Bool) (h : THop) : Option (Tx × List Bool) :=
 (g.Funcs.find? fun x => x.Name == at').bind fun x => (callF fs x h).bind fun c =>
  if aimsTo g c h.To = [] then none else if how = 1 then some (h.To, l)
  else if (aimsTo g c h.To).any (fun a => a.typ == ([] : Tx)) || M.any (mkP g c h.To) then some (h.To, markL (mkI g c h.To M) l) else none
def hopsW (g : TGraph) (how : Int) (fs : List Tx) (M : List TMadeBy) : List THop → Tx → List Bool → Option (Tx × List Bool)
 | [], a, l => some (a, l)
 | h :: hs, a, l => (stepW g how fs M a l h).bind fun p => hopsW g how fs M hs p.1 p.2
section
variable {g : TGraph} {fs : List Tx} {F : Nat}
theorem aimsTo_mem {c : TCall} {to : Tx} {a : Tprovenderref6_aim} : a ∈ aimsTo g c to ↔ a ∈ aimsG g c ∧ a.to = to := by
 unfold aimsTo; rw [List.mem_filter]; simp
theorem aimsTo_ne {c : TCall} {to : Tx} : aimsTo g c to ≠ [] ↔ ∃ a, a ∈ aimsG g c ∧ a.to = to := by
 constructor
 ·intro h
  obtain ⟨a, ha⟩ := List.exists_mem_of_ne_nil _ h
  exact ⟨a, aimsTo_mem.1 ha⟩
 ·rintro ⟨a, ha⟩ e
  have := aimsTo_mem.2 ha
  rw [e] at this; simp at this
theorem type_inj (R : RightG g) {t : TType} (ht : t ∈ g.Types) {j : Nat} (hj : j < g.Types.length) (h : t.Name = (g.Types[j]).Name) : t = g.Types[j] := by
 have h1 := find_uniq (f := TType.Name) R.tsrt ht
 have h2 := find_uniq (f := TType.Name) R.tsrt (List.getElem_mem hj)
 rw [h, h2] at h1
 exact (Option.some.inj h1).symm
theorem name_ne (R : RightG g) {t : TType} (ht : t ∈ g.Types) : t.Name ≠ [] := by
 intro e
 have := (R.t t ht).nam
 rw [e] at this; simp [nm] at this
theorem mkP_iff (R : RightG g) {c : TCall} (k : c.Kind ≠ 1) {I : TIface} (I3 : ifG g c.Target = I) (I4 : ∀ t, fitB t I = true → (mOf t c.Method).2 = true) (to : Tx) (m : TMadeBy) {j : Nat} (hj : j < g.Types.length) (hje : (g.Types[j]).Name = m.Type_) :
  mkP g c to m = true ↔ fitB g.Types[j] I = true ∧ (mOf g.Types[j] c.Method).1 = to := by
 unfold mkP
 rw [List.any_eq_true]
 constructor
 ·rintro ⟨a, ha, h⟩
  obtain ⟨h1, h2⟩ := aimsTo_mem.1 ha
  simp only [Bool.and_eq_true, beq_iff_eq] at h
  unfold aimsG at h1
  rw [if_neg k] at h1
  obtain ⟨t, ht, h3⟩ := List.mem_filterMap.1 h1
  unfold aimO at h3
  split at h3
  ·rename_i h4
   simp only [Option.some.injEq] at h3
   subst h3
   have e : t = g.Types[j] := type_inj R ht hj (h.2.symm.trans hje.symm)
   subst e
   rw [I3] at h4
   exact ⟨h4.2, h2⟩
  ·simp at h3
 ·rintro ⟨h1, h2⟩
  refine ⟨Tprovenderref6_aim.mk (g.Types[j]).Name (mOf g.Types[j] c.Method).1, aimsTo_mem.2 ⟨?_, h2⟩, ?_⟩
  ·unfold aimsG
   rw [if_neg k]
   exact List.mem_filterMap.2 ⟨g.Types[j], List.getElem_mem _, by unfold aimO; rw [if_pos ⟨I4 _ h1, by rw [I3]; exact h1⟩]⟩
  ·simp only [Bool.and_eq_true, beq_iff_eq]
   exact ⟨by simp [name_ne R (List.getElem_mem hj)], hje.symm⟩
theorem dis_typ (R : RightG g) {c : TCall} (k : c.Kind ≠ 1) (to : Tx) : (aimsTo g c to).any (fun a => a.typ == ([] : Tx)) = false := by
 rw [List.any_eq_false]
 intro a ha
 obtain ⟨h1, _⟩ := aimsTo_mem.1 ha
 unfold aimsG at h1
 rw [if_neg k] at h1
 obtain ⟨t, ht, h3⟩ := List.mem_filterMap.1 h1
 unfold aimO at h3
 split at h3
 ·simp only [Option.some.injEq] at h3
  subst h3
  simpa using name_ne R ht
 ·simp at h3
theorem dir_aims {c : TCall} (k : c.Kind = 1) (to : Tx) : aimsTo g c to = if c.Target = to then [Tprovenderref6_aim.mk [] c.Target] else [] := by
 unfold aimsTo aimsG
 rw [if_pos k, List.filter_cons, List.filter_nil]
 by_cases h : c.Target = to <;> simp [h]
theorem dir_mk {c : TCall} (k : c.Kind = 1) (to : Tx) (m : TMadeBy) : mkP g c to m = false := by
 unfold mkP
 rw [dir_aims k]
 split <;> simp
structure MOk (g : TGraph) (M : List TMadeBy) (l : List Bool) : Prop where
 ty : ∀ m, m ∈ M → tsOf g m.Type_ = true
 len : l.length = M.length
 sm : M.length ≤ 500
theorem M56_tgt (hF : 1000 ≤ F) (R : RightG g) (how : Int) {x : TFunc} (hx : x ∈ g.Funcs) {c : TCall} (hc : c ∈ x.Calls) {to : Nat} (hto : to < g.Funcs.length) :
  ∃ l, M56 F (wOf g how fs) c = some l ∧ (l.contains (to : Int) = true ↔ aimsTo g c (g.Funcs[to]).Name ≠ []) := by
 obtain ⟨l, e, T⟩ := M56_eq F hF R how fs hx hc
 refine ⟨l, e, ?_⟩
 rw [List.contains_iff_mem, T.mem to hto, aimsTo_ne]
theorem no_aim (R : RightG g) {x : TFunc} (hx : x ∈ g.Funcs) {c : TCall} (hc : c ∈ x.Calls) {to : Tx} (hto : fsOf g to = false) : aimsTo g c to = [] := by
 by_cases h : aimsTo g c to = []
 ·exact h
 ·obtain ⟨a, ha, he⟩ := aimsTo_ne.1 h
  have := aim_fs R hx hc ha
  rw [he, hto] at this; simp at this
theorem M59_L3_eq (hF : 1000 ≤ F) (R : RightG g) (a3 : TWitness) (k : Tx → List Bool → Option Bool) : ∀ (hs : List THop) (s : Tx) (l : List Bool), fsOf g s = true → MOk g a3.Made l →
  M59_L3 F (wOf g 2 fs) a3 k hs s l = match hopsW g 2 fs a3.Made hs s l with | none => some false | some p => k p.1 p.2
 | [], s, l, _, _ => rfl
 | h :: hs, s, l, hs1, hm => by
  rw [M59_L3, hopsW]
  simp only [jn_def]
  obtain ⟨i, hi, he⟩ := fs_at hs1
  obtain ⟨c0, e86⟩ := M86_eq (F := F) (how := 2) (fs := fs) R h hi
  rw [he] at e86
  have hfind : (g.Funcs.find? fun x => x.Name == s) = some g.Funcs[i] := by rw [← he]; exact find_at R hi
  unfold stepW
  rw [e86, hfind, Option.bind_some, Option.bind_some]
  cases hcf : callF fs g.Funcs[i] h with
  | none => simp
  | some c =>
   obtain ⟨hc, ho, _⟩ := callF_mem hcf
   simp only [Bool.not_true, Bool.false_eq_true, if_false, Option.bind_some]
   by_cases hto : fsOf g h.To = true
   ·obtain ⟨t, ht, hte⟩ := fs_at hto
    have hgt : mget (wOf g 2 fs).funcs h.To = some (t : Int) := by rw [← hte]; exact fget_at R 2 fs ht
    rw [hgt]
    simp only [Option.isSome_some, Bool.not_true, Bool.false_eq_true, if_false, Option.getD_some]
    obtain ⟨l56, e56, i56⟩ := M56_tgt (fs := fs) hF R 2 (List.getElem_mem hi) hc ht
    rw [hte] at i56
    rw [e56, Option.bind_some, M87_eq, Option.bind_some]
    by_cases ha : aimsTo g c h.To = []
    ·have : l56.contains (t : Int) = false := by
      cases hcc : l56.contains (t : Int) with
      | false => rfl
      | true => exact absurd ha (i56.1 hcc)
     rw [this, if_pos ha]; simp
    ·have : l56.contains (t : Int) = true := i56.2 ha
     have h21 : ¬ ((2 : Int) = 1) := by decide
     rw [this, if_neg ha, if_neg h21]
     have hmd : (wOf g 2 fs).made = true := by simp [wOf]
     rw [if_neg (show ¬ ((!true) = true) from by decide), if_pos hmd]
     by_cases kk : c.Kind = 1
     ·have hk : (c.Kind == 2) = false := by rw [kk]; rfl
      rw [hk, if_neg (by simp)]
      have h1 : (aimsTo g c h.To).any (fun a => a.typ == ([] : Tx)) = true := by
       rw [dir_aims kk] at ha ⊢
       split at ha
       ·rename_i e; rw [if_pos e]; simp
       ·exact absurd rfl ha
      rw [h1, Bool.true_or, if_pos rfl, Option.bind_some]
      have h2 : markL (mkI g c h.To a3.Made) l = l := markL_id fun i hi => by
       unfold mkI
       cases a3.Made[i]? with
       | none => rfl
       | some m => exact dir_mk kk _ _
      simp only [h2]
      exact M59_L3_eq hF R a3 k hs h.To l hto hm
     ·obtain ⟨I, I1, I2, I3, I4⟩ := dis_aim R (List.getElem_mem hi) hc kk
      have hk : (c.Kind == 2) = true := by
       rcases ((R.f _ (List.getElem_mem hi)).calls c hc).kind with ⟨q, _⟩ | ⟨q, _⟩
       ·exact absurd q kk
       ·rw [q]; rfl
      rw [hk, if_pos rfl, dis_typ R kk, Bool.false_or]
      have e88 : M88 F (wOf g 2 fs) a3.Made c (t : Int) = some (servI (mkP g c h.To) 0 a3.Made) := by
       unfold M88
       rw [jn_def]
       have := M88_L1_eq (F := F) (wOf g 2 fs) c (t : Int) (mkP g c h.To) (fun l6 => some l6) a3.Made 0 [] (by have := hm.sm; simp; omega) (fun m hmm => by
        obtain ⟨j, hj, hje⟩ := ts_at (hm.ty m hmm)
        have hti : (mget (wOf g 2 fs).types m.Type_).getD 0 = (j : Int) := by rw [← hje, tget_at R 2 fs hj]; rfl
        rw [hti]
        have hfl : ∀ v, v ∈ ((mget (wOf g 2 fs).fitting c.Target).getD []) ↔ v ∈ fitL (wOf g 2 fs) c.Target := fun v => Iff.rfl
        refine ⟨fun hcn => ?_, fun hcn => ?_⟩
        ·refine ⟨_, M82_at hF R 2 fs c hj, ?_⟩
         obtain ⟨j', hj', e1, e2⟩ := (fit_iff R 2 fs I2 (j : Int)).1 ((hfl _).1 (by simpa using hcn))
         have : j' = j := by omega
         subst this
         have ha : Tprovenderref6_aim.mk (g.Types[j']).Name (mOf g.Types[j'] c.Method).1 ∈ aimsG g c := by
          unfold aimsG
          rw [if_neg kk]
          exact List.mem_filterMap.2 ⟨g.Types[j'], List.getElem_mem _, by unfold aimO; rw [if_pos ⟨I4 _ e2, by rw [I3]; exact e2⟩]⟩
         obtain ⟨q, hq, hqe⟩ := fs_at (aim_fs R (List.getElem_mem hi) hc ha)
         have hqe : (g.Funcs[q]).Name = (mOf g.Types[j'] c.Method).1 := hqe
         rw [← hqe, fI_at R 2 fs hq, Bool.eq_iff_iff, mkP_iff R kk I3 I4 h.To m hj hje, ← hqe, ← hte]
         constructor
         ·rintro ⟨_, h2⟩
          have h1 := fI_at R 2 fs hq
          rw [h2, fI_at R 2 fs ht] at h1
          simp; omega
         ·intro h2
          have : q = t := by simp at h2; omega
          subst this
          exact ⟨e2, rfl⟩
        ·cases hmk : mkP g c h.To m with
         | false => rfl
         | true =>
          have := ((mkP_iff R kk I3 I4 h.To m hj hje).1 hmk).1
          have := (fit_iff R 2 fs I2 (j : Int)).2 ⟨j, hj, rfl, this⟩
          have : ((mget (wOf g 2 fs).fitting c.Target).getD []).contains (j : Int) = true := by rw [List.contains_iff_mem]; exact (hfl _).2 this
          rw [hcn] at this; simp at this)
       simpa using this
      rw [e88, Option.bind_some]
      by_cases hz : servI (mkP g c h.To) 0 a3.Made = []
      ·rw [hz, if_pos (show (((([] : List Int).length : Nat) : Int) == 0) = true from rfl)]
       have : a3.Made.any (mkP g c h.To) = false := by
        rw [List.any_eq_false]
        intro m hmm hmk
        obtain ⟨i', hi', rfl⟩ := List.getElem_of_mem hmm
        have := (servI_mem (mkP g c h.To) a3.Made 0 ((0 + i' : Nat) : Int)).2 ⟨i', rfl, hi', hmk⟩
        rw [hz] at this; simp at this
       rw [this]; rfl
      ·rw [if_neg (by simpa using hz)]
       have : a3.Made.any (mkP g c h.To) = true := by
        obtain ⟨v, hv⟩ := List.exists_mem_of_ne_nil _ hz
        obtain ⟨i', _, hi', hmk⟩ := (servI_mem _ _ _ _).1 hv
        exact List.any_eq_true.2 ⟨_, List.getElem_mem hi', hmk⟩
       rw [this, if_pos rfl, Option.bind_some]
       obtain ⟨l', e4, m4⟩ := M59_L4_eq (F := F) (fun l117 => M59_L3 F (wOf g 2 fs) a3 k hs h.To l117) (servI (mkP g c h.To) 0 a3.Made) l (fun v hv => by
        obtain ⟨i', e, hi', _⟩ := (servI_mem _ _ _ _).1 hv
        exact ⟨i', by rw [hm.len]; exact hi', by simpa using e⟩)
       refine e4.trans ?_
       have hl' : l' = markL (mkI g c h.To a3.Made) l := markL_eq (m4.congr fun i' hi' => by
        unfold mkI
        have hlt : i' < a3.Made.length := by rw [← hm.len]; exact hi'
        rw [List.getElem?_eq_getElem hlt]
        show _ = mkP g c h.To a3.Made[i']
        rw [Bool.eq_iff_iff, List.contains_iff_mem, servI_mem]
        constructor
        ·rintro ⟨q, e, hq, hmk⟩
         have : q = i' := by omega
         subst this; exact hmk
        ·intro hmk; exact ⟨i', by simp, hlt, hmk⟩)
       rw [hl']
       exact M59_L3_eq hF R a3 k hs h.To _ hto ⟨hm.ty, by rw [(markL_ok _ _).1]; exact hm.len, hm.sm⟩
   ·have hto' : fsOf g h.To = false := by simpa using hto
    rw [fget_none 2 fs hto', if_pos (no_aim R (List.getElem_mem hi) hc hto')]; simp
theorem M59_L1_eq (hF : 1000 ≤ F) (R : RightG g) (a3 : TWitness) (k : Tx → List Bool → Option Bool) : ∀ (hs : List THop) (s : Tx) (l : List Bool), fsOf g s = true →
  M59_L1 F (wOf g 1 fs) a3 k hs s l = match hopsW g 1 fs a3.Made hs s l with | none => some false | some p => k p.1 p.2
 | [], s, l, _ => rfl
 | h :: hs, s, l, hs1 => by
  rw [M59_L1, hopsW]
  simp only [jn_def]
  obtain ⟨i, hi, he⟩ := fs_at hs1
  obtain ⟨c0, e86⟩ := M86_eq (F := F) (how := 1) (fs := fs) R h hi
  rw [he] at e86
  have hfind : (g.Funcs.find? fun x => x.Name == s) = some g.Funcs[i] := by rw [← he]; exact find_at R hi
  unfold stepW
  rw [e86, hfind, Option.bind_some, Option.bind_some]
  cases hcf : callF fs g.Funcs[i] h with
  | none => simp
  | some c =>
   obtain ⟨hc, ho, _⟩ := callF_mem hcf
   simp only [Bool.not_true, Bool.false_eq_true, if_false, Option.bind_some]
   by_cases hto : fsOf g h.To = true
   ·obtain ⟨t, ht, hte⟩ := fs_at hto
    have hgt : mget (wOf g 1 fs).funcs h.To = some (t : Int) := by rw [← hte]; exact fget_at R 1 fs ht
    rw [hgt]
    simp only [Option.isSome_some, Bool.not_true, Bool.false_eq_true, if_false, Option.getD_some]
    obtain ⟨l56, e56, i56⟩ := M56_tgt (fs := fs) hF R 1 (List.getElem_mem hi) hc ht
    rw [hte] at i56
    rw [e56, Option.bind_some, M87_eq, Option.bind_some]
    by_cases ha : aimsTo g c h.To = []
    ·have : l56.contains (t : Int) = false := by
      cases hcc : l56.contains (t : Int) with
      | false => rfl
      | true => exact absurd ha (i56.1 hcc)
     rw [this, if_pos ha]; simp
    ·have : l56.contains (t : Int) = true := i56.2 ha
     rw [this, if_neg ha]
     have hmd : (wOf g 1 fs).made = false := by simp [wOf]
     rw [if_neg (show ¬ ((!true) = true) from by decide), if_neg (by rw [hmd]; simp)]
     simp only [if_true, Option.bind_some]
     exact M59_L1_eq hF R a3 k hs h.To l hto
   ·have hto' : fsOf g h.To = false := by simpa using hto
    rw [fget_none 1 fs hto', if_pos (no_aim R (List.getElem_mem hi) hc hto')]; simp
end
end Go.Proofs.Ytpbkggamiipdmaa
