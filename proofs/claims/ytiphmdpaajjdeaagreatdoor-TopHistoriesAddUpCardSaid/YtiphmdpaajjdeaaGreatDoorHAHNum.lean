/- Part of the proof: AHNum. -/
import Derived.Test.YtiphmdpaajjdeaaGreatDoorHAHWin
namespace Go.Proofs.YtiphmdpaajjdeaaGreatDoor
open Go Go.Pv
set_option linter.unusedVariables false
theorem M32_eq (F : Nat) (s : TStory) (a b c : Int) (h : okSt s) : M32 F s a b c = some (if chk s ≠ 0 then chk s else if a < 0 ∨ a > b ∨ b > 1000000 ∨ c < 0 ∨ c > 100 then 9 else 0) := by
  unfold M32
  rw [M25_eq F s h, Option.bind_some]
  refine ite2 ne0 (fun _ => rfl) (fun _ => ?_)
  by_cases h1 : a < 0
  · rw [if_t h1, if_pos (.inl h1)]
  by_cases h2 : a > b
  · rw [if_f h1, if_t h2, if_pos (.inr (.inl h2))]
  by_cases h3 : b > 1000000
  · rw [if_f h1, if_f h2, if_t h3, if_pos (.inr (.inr (.inl h3)))]
  by_cases h4 : c < 0
  · rw [if_f h1, if_f h2, if_f h3, if_t h4, if_pos (.inr (.inr (.inr (.inl h4))))]
  by_cases h5 : c > 100
  · rw [if_f h1, if_f h2, if_f h3, if_f h4, if_t h5, if_pos (.inr (.inr (.inr (.inr h5))))]
  rw [if_f h1, if_f h2, if_f h3, if_f h4, if_f h5, if_neg (by omega)]
def row (m : Nat) (g : Nat → Int) : List Int := (List.range m).map g
theorem pcs_to {K : KMap} {u : Int} {p : Thistory_piece} : ∀ {l : List TRelease}, (∀ r, r ∈ l → r.Day ≤ u) → p ∈ pcs K u l → p.to ≤ u
  | [], _, h => by simp [pcs] at h
  | r :: l, hd, h => by
    rw [pcs] at h
    rcases List.mem_append.1 h with h | h
    · obtain ⟨x, hx, hp⟩ := List.mem_filterMap.1 h
      obtain ⟨_, _, _, h4⟩ := pc_some hp
      refine Int.le_trans h4 ?_
      cases l with
      | nil => exact Int.le_refl _
      | cons r' l => exact hd r' (by simp)
    · exact pcs_to (fun r hr => hd r (List.mem_cons_of_mem _ hr)) h
theorem pcs_from {s : TStory} (R : RightS s) : ∀ p, p ∈ pcs (kmap [] s.Known) s.Until s.Releases → 0 ≤ p.from_ ∧ p.from_ < p.to ∧ p.to ≤ s.Until := by
  intro p hp
  obtain ⟨r, h1, h2, h3, h4⟩ := pcs_mem hp
  have h5 := R.rel r h1
  have h6 := pcs_to (fun r hr => (R.rel r hr).2.2.1) hp
  exact ⟨by omega, h3, h6⟩
def plt (a b : Thistory_piece) : Bool := decide (a.from_ < b.from_)
theorem M35_eq (F : Nat) (a b : Thistory_piece) : M35 F a b = some (cmpI a.from_ b.from_) := by unfold M35; rw [M36_eq]; rfl
theorem porder : Ord (fun x y : Thistory_piece => some (cmpI x.from_ y.from_)) plt where
  cmp := fun x y => ⟨_, rfl, by unfold plt; rw [Bool.eq_iff_iff, decide_eq_true_eq, decide_eq_true_eq]; exact cmpI_lt⟩
  irr := fun x => by simp [plt]
  tr := fun x y z h g => by simp [plt] at *; omega
  wk := fun x y z h g => by simp [plt] at *; omega
theorem E98_L2 (F : Nat) (a : Int) (k : List Thistory_piece → Option (List Thistory_piece)) : ∀ (n : Nat) (j : Int) (l : List Thistory_piece), M98_L2 F a k n j l = insG_L2 (fun x y => some (cmpI x.from_ y.from_)) F a k n j l := by
  intro n
  induction n with
  | zero => intros; rfl
  | succ n ih => intro j l; simp only [M98_L2, insG_L2, ih, M35_eq]
theorem E98_L1 (F : Nat) (a b : Int) : ∀ (n : Nat) (j : Int) (l : List Thistory_piece), M98_L1 F a b n j l = insG_L1 (fun x y => some (cmpI x.from_ y.from_)) F a b n j l := by
  intro n
  induction n with
  | zero => intros; rfl
  | succ n ih => intro j l; simp only [M98_L1, insG_L1, ih, E98_L2]
theorem E98 (F : Nat) (a b : Int) (l : List Thistory_piece) : M98 F a b l = insG (fun x y => some (cmpI x.from_ y.from_)) F a b l := by unfold M98 insG; rw [E98_L1]
theorem E129_L1 (F : Nat) (a b : Int) : ∀ (n : Nat) (j : Int) (l : List Thistory_piece), M129_L1 F a b n j l = swpG_L1 F a b n j l := by
  intro n
  induction n with
  | zero => intros; rfl
  | succ n ih => intro j l; simp only [M129_L1, swpG_L1, ih]
theorem E129 (F : Nat) (a b n : Int) (l : List Thistory_piece) : M129 F a b n l = swpG F a b n l := by unfold M129 swpG; rw [E129_L1]
theorem E112_L1 (F : Nat) (m : Int) (k : Int → List Thistory_piece → Option (List Thistory_piece)) : ∀ (n : Nat) (i j : Int) (l : List Thistory_piece), M112_L1 F m k n i j l = rotG_L1 F m k n i j l := by
  intro n
  induction n with
  | zero => intros; rfl
  | succ n ih => intro i j l; simp only [M112_L1, rotG_L1, ih, E129]
theorem E112 (F : Nat) (a m b : Int) (l : List Thistory_piece) : M112 F a m b l = rotG F a m b l := by unfold M112 rotG; simp only [E112_L1, E129]
theorem E99_L2 (F : Nat) (e : Int) (k : List Thistory_piece → Option (List Thistory_piece)) : ∀ (n : Nat) (j : Int) (l : List Thistory_piece), M99_L2 F e k n j l = symG_L2 F e k n j l := by
  intro n
  induction n with
  | zero => intros; rfl
  | succ n ih => intro j l; simp only [M99_L2, symG_L2, ih]
theorem E99_L4 (F : Nat) (e : Int) (k : List Thistory_piece → Option (List Thistory_piece)) : ∀ (n : Nat) (j : Int) (l : List Thistory_piece), M99_L4 F e k n j l = symG_L4 F e k n j l := by
  intro n
  induction n with
  | zero => intros; rfl
  | succ n ih => intro j l; simp only [M99_L4, symG_L4, ih]
theorem E99_L1 (F : Nat) (a : Int) (l : List Thistory_piece) (k : Int → Option (List Thistory_piece)) : ∀ (n : Nat) (i j : Int), M99_L1 F a l k n i j = symG_L1 (fun x y => some (cmpI x.from_ y.from_)) F a l k n i j := by
  intro n
  induction n with
  | zero => intros; rfl
  | succ n ih => intro i j; simp only [M99_L1, symG_L1, ih, M35_eq]
theorem E99_L3 (F : Nat) (a : Int) (l : List Thistory_piece) (k : Int → Option (List Thistory_piece)) : ∀ (n : Nat) (i j : Int), M99_L3 F a l k n i j = symG_L3 (fun x y => some (cmpI x.from_ y.from_)) F a l k n i j := by
  intro n
  induction n with
  | zero => intros; rfl
  | succ n ih => intro i j; simp only [M99_L3, symG_L3, ih, M35_eq]
theorem E99_L5 (F : Nat) (a m b : Int) (l : List Thistory_piece) (k : Int → Option (List Thistory_piece)) : ∀ (n : Nat) (i j : Int), M99_L5 F a m b l k n i j = symG_L5 (fun x y => some (cmpI x.from_ y.from_)) F a m b l k n i j := by
  intro n
  induction n with
  | zero => intros; rfl
  | succ n ih => intro i j; simp only [M99_L5, symG_L5, ih, M35_eq]
theorem E99 : ∀ (F : Nat) (a m b : Int) (l : List Thistory_piece), M99 F a m b l = symG (fun x y => some (cmpI x.from_ y.from_)) F a m b l := by
  intro F
  induction F with
  | zero => intros; rfl
  | succ F ih => intro a m b l; simp only [M99, symG, M99_B, symG_B, ih, E99_L1, E99_L2, E99_L3, E99_L4, E99_L5, E112]
theorem E87_L3 (F : Nat) (a n : Int) (k : Int → List Thistory_piece → Option (List Thistory_piece)) : ∀ (f : Nat) (i j : Int) (l : List Thistory_piece), M87_L3 F a n k f i j l = stbG_L3 (fun x y => some (cmpI x.from_ y.from_)) F a n k f i j l := by
  intro f
  induction f with
  | zero => intros; rfl
  | succ f ih => intro i j l; simp only [M87_L3, stbG_L3, ih, E99]
theorem E87_L2 (F : Nat) (a : Int) : ∀ (f : Nat) (i : Int) (l : List Thistory_piece), M87_L2 F a f i l = stbG_L2 (fun x y => some (cmpI x.from_ y.from_)) F a f i l := by
  intro f
  induction f with
  | zero => intros; rfl
  | succ f ih => intro i l; simp only [M87_L2, stbG_L2, ih, E99, E87_L3]
theorem E87_L1 (F : Nat) (a : Int) (k : Int → List Thistory_piece → Option (List Thistory_piece)) : ∀ (f : Nat) (i j : Int) (l : List Thistory_piece), M87_L1 F a k f i j l = stbG_L1 (fun x y => some (cmpI x.from_ y.from_)) F a k f i j l := by
  intro f
  induction f with
  | zero => intros; rfl
  | succ f ih => intro i j l; simp only [M87_L1, stbG_L1, ih, E98]
theorem stb87 (F : Nat) (n : Int) (l : List Thistory_piece) : M87 F n l = stbG (fun x y => some (cmpI x.from_ y.from_)) F n l := by
  unfold M87 stbG; simp only [E87_L1, E87_L2, E98]
theorem M66_eq (F : Nat) (l : List Thistory_piece) (hl : l.length < 400000) (hF : 1000000 ≤ F) : ∃ R, M66 F l = some R ∧ Srt plt R ∧ R.Perm l := by
  unfold M66
  rw [stb87]
  obtain ⟨R, r1, r2, r3⟩ := stbG_eq porder F l (by omega) (by omega)
  rw [r1, Option.bind_some, if_pos r3.length_eq]
  exact ⟨R, rfl, r2, r3⟩
theorem M33_eq (F : Nat) (l : List Thistory_piece) (hl : l.length < 400000) (hF : 1000000 ≤ F) : ∃ R, M33 F l = some R ∧ Srt plt R ∧ R.Perm l := by
  unfold M33
  rw [clone_eq (R := Unit) (g := M65 F) 140737488355328 56 (fun l => rfl) l (by omega), Option.bind_some]
  obtain ⟨R, r1, r2, r3⟩ := M66_eq F l hl hF
  rw [r1, Option.bind_some, if_pos r3.length_eq]
  exact ⟨R, rfl, r2, r3⟩
def sees (sv : Int) (d : Int) (p : Thistory_piece) : Bool := decide (sv ≤ p.x.Severity) && onDay d p
theorem sees_iff {sv d : Int} {p : Thistory_piece} : sees sv d p = true ↔ sv ≤ p.x.Severity ∧ p.from_ ≤ d ∧ d < p.to := by unfold sees onDay; simp
def hit (f sv : Int) (l : List Thistory_piece) (d : Nat) : Bool := decide (f ≤ (d : Int)) && l.any (sees sv d)
def days (f t sv : Int) (l : List Thistory_piece) : Nat := (List.range t.toNat).countP (hit f sv l)
theorem days_perm {f t sv : Int} {a b : List Thistory_piece} (h : a.Perm b) : days f t sv a = days f t sv b := by
  unfold days
  apply List.countP_congr
  intro d _
  unfold hit
  rw [Bool.and_eq_true, Bool.and_eq_true, List.any_eq_true, List.any_eq_true]
  simp only [h.mem_iff]
theorem countP_or {α : Type} (A B : α → Bool) : ∀ (l : List α), (∀ d, d ∈ l → ¬ (A d = true ∧ B d = true)) → l.countP (fun d => A d || B d) = l.countP A + l.countP B
  | [], _ => rfl
  | x :: l, h => by
    have ih := countP_or A B l (fun d hd => h d (List.mem_cons_of_mem _ hd))
    have hx := h x (by simp)
    rw [List.countP_cons, List.countP_cons, List.countP_cons, ih]
    cases hA : A x <;> cases hB : B x <;> simp_all <;> omega
theorem countP_iv (b e : Nat) : ∀ t : Nat, (List.range t).countP (fun d => decide (b ≤ d) && decide (d < e)) = min e t - b
  | 0 => by simp
  | t + 1 => by
    rw [List.range_succ, List.countP_append, countP_iv b e t, List.countP_cons, List.countP_nil]
    by_cases h : b ≤ t ∧ t < e
    · simp only [h.1, h.2, decide_true, Bool.and_self, if_true]; omega
    · rw [if_neg (by simpa using h)]; omega
structure Swept (f t sv : Int) (Q : List Thistory_piece) (n at' : Int) : Prop where
  cnt : n = (days f t sv Q : Nat)
  low : f ≤ at'
  top : at' ≤ 1000000
  all : ∀ d : Int, f ≤ d → d < t → Q.any (sees sv d) = true → d < at'
  by' : at' = f ∨ ∃ q, q ∈ Q ∧ sv ≤ q.x.Severity ∧ at' ≤ q.to
theorem days_le (f t sv : Int) (Q : List Thistory_piece) : days f t sv Q ≤ t.toNat := by
  unfold days
  have := List.countP_le_length (p := hit f sv Q) (l := List.range t.toNat)
  simpa using this
theorem any_snoc {sv d : Int} {Q : List Thistory_piece} {p : Thistory_piece} : (Q ++ [p]).any (sees sv d) = (Q.any (sees sv d) || sees sv d p) := by simp
theorem Swept.skip {f t sv : Int} {Q : List Thistory_piece} {n a : Int} (h : Swept f t sv Q n a) {p : Thistory_piece} (hp : p.x.Severity < sv) : Swept f t sv (Q ++ [p]) n a := by
  have e : ∀ d, sees sv d p = false := fun d => by unfold sees; rw [show decide (sv ≤ p.x.Severity) = false by simp; omega]; rfl
  refine ⟨?_, h.low, h.top, fun d h1 h2 h3 => h.all d h1 h2 (by rw [any_snoc, e, Bool.or_false] at h3; exact h3), ?_⟩
  · rw [h.cnt]
    unfold days hit
    simp only [any_snoc, e, Bool.or_false]
  · rcases h.by' with h | ⟨q, h1, h2⟩
    · exact .inl h
    · exact .inr ⟨q, List.mem_append_left _ h1, h2⟩
theorem Swept.next {f t sv : Int} {Q : List Thistory_piece} {n a : Int} (h : Swept f t sv Q n a) (hf : 0 ≤ f) {p : Thistory_piece} (hp : sv ≤ p.x.Severity) (hs : ∀ q, q ∈ Q → q.from_ ≤ p.from_)
    (ht : 0 ≤ t) {b e : Int} (hb : b = if p.from_ > a then p.from_ else a) (he : e = if p.to < t then p.to else t) (n' : Int) (hn : n' = if b < e then n + (e - b) else n) :
    n' = (days f t sv (Q ++ [p]) : Nat) := by
  have new : ∀ d : Nat, d ∈ List.range t.toNat → (hit f sv (Q ++ [p]) d = (hit f sv Q d || (decide (b.toNat ≤ d) && decide (d < e.toNat)))) ∧ ¬ (hit f sv Q d = true ∧ (decide (b.toNat ≤ d) && decide (d < e.toNat)) = true) := by
    intro d hd
    have hd := List.mem_range.1 hd
    have hlow := h.low
    have key : f ≤ (d : Int) → Q.any (sees sv d) = false → (sees sv d p = true ↔ b.toNat ≤ d ∧ d < e.toNat) := by
      intro h1 h2
      rw [sees_iff]
      constructor
      · rintro ⟨_, h3, h4⟩
        have : a ≤ d := by
          rcases h.by' with hh | ⟨q, q1, q2, q3⟩
          · omega
          · by_cases hlt : (d : Int) < a
            · exfalso
              have := hs q q1
              have hq : sees sv d q = true := sees_iff.2 ⟨q2, by omega, by omega⟩
              rw [List.any_eq_false] at h2
              exact h2 q q1 hq
            · omega
        constructor
        · rw [hb]; split <;> omega
        · rw [he]; split <;> omega
      · rintro ⟨h3, h4⟩
        refine ⟨hp, ?_, ?_⟩
        · rw [hb] at h3; split at h3 <;> omega
        · rw [he] at h4; split at h4 <;> omega
    have key2 : b.toNat ≤ d ∧ d < e.toNat → f ≤ (d : Int) ∧ Q.any (sees sv d) = false := by
      rintro ⟨h3, h4⟩
      have hab : a ≤ d := by rw [hb] at h3; split at h3 <;> omega
      refine ⟨by omega, ?_⟩
      cases hq : Q.any (sees sv d) with
      | false => rfl
      | true => have := h.all d (by omega) (by omega) hq; omega
    have hI : (decide (b.toNat ≤ d) && decide (d < e.toNat)) = true ↔ b.toNat ≤ d ∧ d < e.toNat := by simp
    constructor
    · unfold hit
      rw [any_snoc]
      by_cases h1 : f ≤ (d : Int)
      · rw [show decide (f ≤ (d : Int)) = true by simpa using h1, Bool.true_and, Bool.true_and]
        cases hq : Q.any (sees sv d) with
        | true => simp
        | false =>
          rw [Bool.false_or, Bool.false_or, Bool.eq_iff_iff, hI]
          exact key h1 hq
      · rw [show decide (f ≤ (d : Int)) = false by simpa using h1, Bool.false_and, Bool.false_and, Bool.false_or]
        symm
        rw [Bool.eq_false_iff]
        intro hh
        exact h1 (key2 (hI.1 hh)).1
    · rintro ⟨h1, h2⟩
      have := (key2 (hI.1 h2)).2
      unfold hit at h1
      rw [this, Bool.and_false] at h1
      simp at h1
  have e1 : days f t sv (Q ++ [p]) = days f t sv Q + (min e.toNat t.toNat - b.toNat) := by
    unfold days
    rw [← countP_iv, ← countP_or _ _ _ (fun d hd => (new d hd).2)]
    apply List.countP_congr
    intro d hd
    rw [(new d hd).1]
  have hlow := h.low
  have het : e ≤ t := by rw [he]; split <;> omega
  have hb0 : 0 ≤ b := by rw [hb]; split <;> omega
  rw [e1, hn, h.cnt]
  split <;> omega
theorem M10_L1_eq (F : Nat) (f t sv : Int) (hf : 0 ≤ f) (ht : 0 ≤ t ∧ t ≤ 1000000) (k : Int → Option (Int × Int)) : ∀ (l Q : List Thistory_piece) (n a : Int), Swept f t sv Q n a → Srt plt (Q ++ l) → (∀ p, p ∈ l → p.from_ ≤ 1000000 ∧ 0 ≤ p.from_) →
    M10_L1 F t sv k l n a = k (days f t sv (Q ++ l) : Nat)
  | [], Q, n, a, h, _, _ => by rw [M10_L1, h.cnt, List.append_nil]
  | p :: l, Q, n, a, h, hs, hb => by
    have hp := hb p (by simp)
    have hq : ∀ q, q ∈ Q → q.from_ ≤ p.from_ := fun q hq => by
      have := (Srt.app.1 hs).2.2 q hq p (by simp)
      unfold plt at this
      simpa using this
    have es : Q ++ p :: l = (Q ++ [p]) ++ l := by simp
    rw [M10_L1]
    simp only [jn_def]
    by_cases h1 : p.x.Severity < sv
    · rw [if_t h1, M10_L1_eq F f t sv hf ht k l (Q ++ [p]) n a (h.skip h1) (by rw [← es]; exact hs) (fun q hq => hb q (List.mem_cons_of_mem _ hq)), ← es]
    · rw [if_f h1]
      have h1 : sv ≤ p.x.Severity := by omega
      generalize hbb : (if p.from_ > a then p.from_ else a) = b
      generalize hee : (if p.to < t then p.to else t) = e
      have hnx := h.next hf h1 hq ht.1 hbb.symm hee.symm _ rfl
      have hlow := h.low
      have htop := h.top
      have hdl := days_le f t sv Q
      have hcnt := h.cnt
      have hbr : a ≤ b ∧ p.from_ ≤ b ∧ b ≤ 1000000 := by rw [← hbb]; split <;> omega
      have her : e ≤ t ∧ e ≤ p.to := by rw [← hee]; split <;> omega
      by_cases h2 : b < e
      · rw [if_pos h2] at hnx
        rw [if_t h2, w64_id (n := e - b) (by omega) (by omega), w64_id (n := n + (e - b)) (by omega) (by omega)]
        have hsw : Swept f t sv (Q ++ [p]) (n + (e - b)) e := by
          refine ⟨hnx, by omega, by omega, fun d g1 g2 g3 => ?_, .inr ⟨p, by simp, h1, her.2⟩⟩
          rw [any_snoc, Bool.or_eq_true] at g3
          rcases g3 with g3 | g3
          · have := h.all d g1 g2 g3; omega
          · have := (sees_iff.1 g3).2.2
            rw [← hee]; split <;> omega
        rw [M10_L1_eq F f t sv hf ht k l (Q ++ [p]) (n + (e - b)) e hsw (by rw [← es]; exact hs) (fun q hq => hb q (List.mem_cons_of_mem _ hq)), ← es]
      · rw [if_neg h2] at hnx
        have hsw : Swept f t sv (Q ++ [p]) n a := by
          refine ⟨hnx, hlow, htop, fun d g1 g2 g3 => ?_, ?_⟩
          · rw [any_snoc, Bool.or_eq_true] at g3
            rcases g3 with g3 | g3
            · exact h.all d g1 g2 g3
            · have g4 := (sees_iff.1 g3).2
              by_cases hda : d < a
              · exact hda
              · exfalso
                apply h2
                rw [← hbb, ← hee]
                split <;> split <;> omega
          · rcases h.by' with g | ⟨q, g1, g2⟩
            · exact .inl g
            · exact .inr ⟨q, List.mem_append_left _ g1, g2⟩
        rw [if_f h2, M10_L1_eq F f t sv hf ht k l (Q ++ [p]) n a hsw (by rw [← es]; exact hs) (fun q hq => hb q (List.mem_cons_of_mem _ hq)), ← es]
end Go.Proofs.YtiphmdpaajjdeaaGreatDoor
