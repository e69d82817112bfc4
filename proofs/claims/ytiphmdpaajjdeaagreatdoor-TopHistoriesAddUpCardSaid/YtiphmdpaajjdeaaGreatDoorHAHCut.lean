/- Part of the proof: AHCut. -/
import Derived.Test.YtiphmdpaajjdeaaGreatDoorHAHSrt
namespace Go.Proofs.YtiphmdpaajjdeaaGreatDoor
open Go Go.Pv
set_option linter.unusedVariables false
def klt (a b : TPublished) : Bool := Op.bytesLess a.Advisory b.Advisory
def Kn (l : List TPublished) : Prop := l.Pairwise (fun a b => Op.bytesLess a.Advisory b.Advisory = true)
def conf (a b : List TPublished) : Prop := ∃ x, x ∈ a ∧ ∃ y, y ∈ b ∧ x.Advisory = y.Advisory ∧ x ≠ y
def fresh (a b : List TPublished) : List TPublished := b.filter (fun y => !a.any (fun x => x.Advisory == y.Advisory))
theorem Kn.inj {l : List TPublished} (h : Kn l) : ∀ {x y : TPublished}, x ∈ l → y ∈ l → x.Advisory = y.Advisory → x = y := by
  induction l with
  | nil => intro x y hx; simp at hx
  | cons z l ih =>
    intro x y hx hy e
    have h1 := List.pairwise_cons.1 h
    rcases List.mem_cons.1 hx with hx | hx <;> rcases List.mem_cons.1 hy with hy | hy
    · rw [hx, hy]
    · rw [hx] at e; exact absurd e (bl_ne (h1.1 y hy))
    · rw [hy] at e; exact absurd e.symm (bl_ne (h1.1 x hx))
    · exact ih h1.2 hx hy e
/-- Two lists of what is known, in one: none if they know it otherwise. -/
structure Jn (a b : List TPublished) (r : List TPublished × Bool) : Prop where
  no : conf a b → r = ([], false)
  yes : ¬ conf a b → r.2 = true ∧ Srt klt r.1 ∧ r.1.Perm (a ++ fresh a b)
theorem filterM {α R : Type} {g : List α → List α → Option R} {k : List α → Option R} (P : α → Prop) (p : α → Bool) (B : Nat) (h0 : ∀ o, g [] o = k o)
    (h1 : ∀ x l o, P x → o.length < B → g (x :: l) o = if p x = true then g l (o ++ [x]) else g l o) :
    ∀ (l o : List α), (∀ x, x ∈ l → P x) → o.length + l.length ≤ B → g l o = k (o ++ l.filter p)
  | [], o, _, _ => by simp [h0]
  | x :: l, o, hP, h => by
    simp only [List.length_cons] at h
    rw [h1 x l o (hP x (by simp)) (by omega)]
    have hP' : ∀ y, y ∈ l → P y := fun y hy => hP y (List.mem_cons_of_mem _ hy)
    cases hp : p x
    · simp only [Bool.false_eq_true, if_false]
      rw [filterM P p B h0 h1 l o hP' (by omega)]; simp [hp]
    · rw [if_pos rfl, filterM P p B h0 h1 l (o ++ [x]) hP' (by simp; omega)]; simp [hp]
def noSt : TStory := TStory.mk [] [] [] 0
def cutS (s : TStory) (day : Int) : TStory := TStory.mk s.Product (s.Releases.filter (fun x => decide (x.Day < day))) s.Known (if day < s.Until then day else s.Until)
def cutX (s : TStory) (day : Int) : TStory × Int := if chk s ≠ 0 then (noSt, chk s) else if !decide (0 ≤ day ∧ day ≤ 1000000) then (noSt, 9) else (cutS s day, 0)
theorem M6_eq (F : Nat) (s : TStory) (day : Int) (h : okSt s) : M6 F s day = some (cutX s day) := by
  unfold M6 cutX
  rw [M25_eq F s h, isDay_b, Option.bind_some, Option.bind_some]
  refine ite2 ne0 (fun _ => rfl) (fun h1 => ite2 Iff.rfl (fun _ => rfl) (fun h2 => ?_))
  have R := right_of_chk (by simpa using h1)
  rw [clone_eq (R := Unit) (g := M28 F) 140737488355328 32 (fun l => rfl) s.Known (by have := R.klen; omega), Option.bind_some]
  simp only [jn_def]
  refine (filterM (g := M6_L1 F day _) (fun r => r.Exposures.length ≤ 500) (fun x => decide (x.Day < day)) 1000 (fun _ => rfl) (fun x l o hx ho => ?_) s.Releases [] (fun r hr => (exps_zero (R.rel r hr).2.2.2).1) (by have := R.rlen; simp; omega)).trans rfl
  rw [M6_L1]
  simp only [jn_def]
  rw [M29_eq F x hx, Option.bind_some, if_pos (show (o ++ [x]).length * 48 ≤ 140737488355328 by simp; omega)]
structure Near (s : TStory) : Prop where
  pr : name s.Product = true
  unt : 0 ≤ s.Until ∧ s.Until ≤ 1000000
  days : s.Releases.Pairwise (fun a b => a.Day < b.Day)
  vers : s.Releases.Pairwise (fun a b => a.Version ≠ b.Version)
  rel : ∀ r, r ∈ s.Releases → name r.Version = true ∧ 0 ≤ r.Day ∧ exps r.Exposures = 0
  known : Kn s.Known
  kn : ∀ k, k ∈ s.Known → name k.Advisory = true ∧ 0 ≤ k.Day ∧ k.Day ≤ 1000000 ∧ (k.Ended = -1 ∨ k.Day ≤ k.Ended ∧ k.Ended ≤ 1000000)
  all : ∀ r, r ∈ s.Releases → ∀ x, x ∈ r.Exposures → ∃ k, k ∈ s.Known ∧ k.Advisory = x.Advisory
theorem RightS.near {s : TStory} (h : RightS s) : Near s :=
  ⟨h.pr, h.unt, h.days, h.vers, fun r hr => ⟨(h.rel r hr).1, (h.rel r hr).2.1, (h.rel r hr).2.2.2⟩, h.known, h.kn, h.all⟩
theorem relE_val {u : Int} : ∀ {l : List TRelease} {p : Option TRelease} {m : Seen}, (∀ q, p = some q → ∀ x, x ∈ l → q.Day < x.Day) → l.Pairwise (fun a b => a.Day < b.Day) → l.Pairwise (fun a b => a.Version ≠ b.Version) →
    (∀ x, x ∈ l → name x.Version = true ∧ 0 ≤ x.Day ∧ exps x.Exposures = 0 ∧ (mget m x.Version).getD false = false) → relE u p m l = if l.any (fun x => decide (u < x.Day)) = true then 9 else 0
  | [], p, m, _, _, _, _ => rfl
  | x :: l, p, m, h1, h2, h3, h4 => by
    obtain ⟨e1, e2, e3, e4⟩ := h4 x (by simp)
    rw [List.pairwise_cons] at h2 h3
    rw [relE, e1, e3, e4, List.any_cons]
    simp only [Bool.not_true, Bool.false_eq_true, if_false, ne_eq, not_true_eq_false]
    by_cases hu : u < x.Day
    · rw [if_pos (.inr hu)]; simp [hu]
    rw [if_neg (show ¬ (x.Day < 0 ∨ u < x.Day) by omega)]
    have hp : ¬ (p.any (fun q => decide (x.Day ≤ q.Day))) = true := by
      cases p with
      | none => simp
      | some q => have := h1 q rfl x (by simp); simp; omega
    rw [if_neg hp, show decide (u < x.Day) = false by simpa using hu, Bool.false_or]
    refine relE_val (fun q e y hy => ?_) h2.2 h3.2 (fun y hy => ?_)
    · obtain rfl := Option.some.inj e
      exact h2.1 y hy
    · obtain ⟨k1, k2, k3, k4⟩ := h4 y (List.mem_cons_of_mem _ hy)
      refine ⟨k1, k2, k3, ?_⟩
      rw [mget_mput, if_neg (h3.1 y hy)]; exact k4
theorem knE_val : ∀ {l : List TPublished} {p : Option TPublished}, (∀ q, p = some q → ∀ x, x ∈ l → Op.bytesLess q.Advisory x.Advisory = true) → Kn l →
    (∀ x, x ∈ l → name x.Advisory = true ∧ 0 ≤ x.Day ∧ x.Day ≤ 1000000 ∧ (x.Ended = -1 ∨ x.Day ≤ x.Ended ∧ x.Ended ≤ 1000000)) → knE p l = 0
  | [], p, _, _, _ => rfl
  | x :: l, p, h1, h2, h3 => by
    obtain ⟨e1, e2, e3, e4⟩ := h3 x (by simp)
    unfold Kn at h2
    rw [List.pairwise_cons] at h2
    rw [knE, e1]
    simp only [Bool.not_true, Bool.false_eq_true, if_false]
    have hp : ¬ (p.any (fun q => !Op.bytesLess q.Advisory x.Advisory)) = true := by
      cases p with
      | none => simp
      | some q => have := h1 q rfl x (by simp); simp [this]
    rw [if_neg hp, if_neg (by simp; omega), if_neg (by omega)]
    refine knE_val (fun q e y hy => ?_) h2.2 (fun y hy => h3 y (List.mem_cons_of_mem _ hy))
    obtain rfl := Option.some.inj e
    exact h2.1 y hy
theorem chk_val {s : TStory} (h : Near s) : chk s = if 500 < s.Releases.length then 3 else if 2000 < s.Known.length then 3 else if s.Releases.any (fun x => decide (s.Until < x.Day)) = true then 9 else 0 := by
  unfold chk
  rw [h.pr]
  simp only [Bool.not_true, Bool.false_eq_true, if_false]
  rw [if_neg (by simp; exact h.unt)]
  by_cases g1 : 500 < s.Releases.length
  · rw [if_pos g1, if_pos g1]
  rw [if_neg g1, if_neg g1]
  by_cases g2 : 2000 < s.Known.length
  · rw [if_pos g2, if_pos g2]
  rw [if_neg g2, if_neg g2]
  rw [relE_val (p := none) (m := []) (fun q e => by simp at e) h.days h.vers (fun r hr => ⟨(h.rel r hr).1, (h.rel r hr).2.1, (h.rel r hr).2.2, rfl⟩)]
  by_cases ha : s.Releases.any (fun x => decide (s.Until < x.Day)) = true
  · rw [if_pos ha, if_pos (by simp)]
  · rw [if_neg ha, if_neg (by simp), knE_val (p := none) (fun q e => by simp at e) h.known h.kn, if_neg (by simp)]
    rw [if_pos]
    unfold allKn
    rw [List.all_eq_true]
    intro r hr
    rw [List.all_eq_true]
    intro x hx
    rw [marks_mget]
    obtain ⟨k, k1, k2⟩ := h.all r hr x hx
    rw [show s.Known.any (fun k => k.Advisory == x.Advisory) = true from List.any_eq_true.2 ⟨k, k1, by simp [k2]⟩, Bool.or_true]
theorem chk_right {s : TStory} (h : RightS s) : chk s = 0 := by
  rw [chk_val h.near, if_neg (by have := h.rlen; omega), if_neg (by have := h.klen; omega), if_neg]
  simp only [List.any_eq_true, decide_eq_true_eq, not_exists, not_and, Int.not_lt]
  exact fun r hr => (h.rel r hr).2.2.1
def keep (a b : TStory) : List TRelease := a.Releases.filter (fun x => match b.Releases with | [] => true | y :: _ => decide (x.Day < y.Day))
theorem cutOk {s : TStory} {day : Int} (h : okSt s) : okSt (cutS s day) := ⟨h.pr, fun r hr => h.rl r (List.mem_filter.1 hr).1, h.kn⟩
theorem cutRight {s : TStory} {day : Int} (R : RightS s) (hd : 0 ≤ day ∧ day ≤ 1000000) : RightS (cutS s day) := by
  have hm : ∀ r, r ∈ (cutS s day).Releases → r ∈ s.Releases ∧ r.Day < day := fun r hr => by
    have := List.mem_filter.1 hr; simpa using this
  refine ⟨R.pr, ?_, Nat.le_trans (List.length_filter_le _ _) R.rlen, R.klen, R.days.sublist List.filter_sublist, R.vers.sublist List.filter_sublist, fun r hr => ?_, R.known, R.kn, fun r hr => R.all r (hm r hr).1⟩
  · show 0 ≤ (if day < s.Until then day else s.Until) ∧ (if day < s.Until then day else s.Until) ≤ 1000000
    have := R.unt
    split <;> omega
  · obtain ⟨h1, h2⟩ := hm r hr
    obtain ⟨k1, k2, k3, k4⟩ := R.rel r h1
    refine ⟨k1, k2, ?_, k4⟩
    show r.Day ≤ (if day < s.Until then day else s.Until)
    split <;> omega
end Go.Proofs.YtiphmdpaajjdeaaGreatDoor
