/- Part of the proof: HCut. -/
import Derived.Test.YtkciogeafbbggaaJHSrt
namespace Go.Proofs.Ytkciogeafbbggaa
open Go Go.Pv
set_option linter.unusedVariables false
def klt (a b : TPublished) : Bool := Op.bytesLess a.Advisory b.Advisory
theorem M137_eq (F : Nat) (a b : TPublished) : M137 F a b = some (cmpS a.Advisory b.Advisory) := by unfold M137; rw [M138_eq]; rfl
theorem korder : Ord (fun x y : TPublished => some (cmpS x.Advisory y.Advisory)) klt where
  cmp := fun x y => ⟨_, rfl, by rw [Bool.eq_iff_iff, decide_eq_true_eq]; exact cmpS_lt⟩
  irr := fun x => bl_irrefl _
  tr := fun x y z h g => bl_trans h g
  wk := fun x y z h g => bl_wk h g
theorem E173_L2 (F : Nat) (a : Int) (k : List TPublished → Option (List TPublished)) : ∀ (n : Nat) (j : Int) (l : List TPublished), M173_L2 F a k n j l = insG_L2 (fun x y => some (cmpS x.Advisory y.Advisory)) F a k n j l := by
  intro n
  induction n with
  | zero => intros; rfl
  | succ n ih => intro j l; simp only [M173_L2, insG_L2, ih, M137_eq]
theorem E173_L1 (F : Nat) (a b : Int) : ∀ (n : Nat) (j : Int) (l : List TPublished), M173_L1 F a b n j l = insG_L1 (fun x y => some (cmpS x.Advisory y.Advisory)) F a b n j l := by
  intro n
  induction n with
  | zero => intros; rfl
  | succ n ih => intro j l; simp only [M173_L1, insG_L1, ih, E173_L2]
theorem E173 (F : Nat) (a b : Int) (l : List TPublished) : M173 F a b l = insG (fun x y => some (cmpS x.Advisory y.Advisory)) F a b l := by unfold M173 insG; rw [E173_L1]
theorem E186_L1 (F : Nat) (a b : Int) : ∀ (n : Nat) (j : Int) (l : List TPublished), M186_L1 F a b n j l = swpG_L1 F a b n j l := by
  intro n
  induction n with
  | zero => intros; rfl
  | succ n ih => intro j l; simp only [M186_L1, swpG_L1, ih]
theorem E186 (F : Nat) (a b n : Int) (l : List TPublished) : M186 F a b n l = swpG F a b n l := by unfold M186 swpG; rw [E186_L1]
theorem E182_L1 (F : Nat) (m : Int) (k : Int → List TPublished → Option (List TPublished)) : ∀ (n : Nat) (i j : Int) (l : List TPublished), M182_L1 F m k n i j l = rotG_L1 F m k n i j l := by
  intro n
  induction n with
  | zero => intros; rfl
  | succ n ih => intro i j l; simp only [M182_L1, rotG_L1, ih, E186]
theorem E182 (F : Nat) (a m b : Int) (l : List TPublished) : M182 F a m b l = rotG F a m b l := by unfold M182 rotG; simp only [E182_L1, E186]
theorem E174_L2 (F : Nat) (e : Int) (k : List TPublished → Option (List TPublished)) : ∀ (n : Nat) (j : Int) (l : List TPublished), M174_L2 F e k n j l = symG_L2 F e k n j l := by
  intro n
  induction n with
  | zero => intros; rfl
  | succ n ih => intro j l; simp only [M174_L2, symG_L2, ih]
theorem E174_L4 (F : Nat) (e : Int) (k : List TPublished → Option (List TPublished)) : ∀ (n : Nat) (j : Int) (l : List TPublished), M174_L4 F e k n j l = symG_L4 F e k n j l := by
  intro n
  induction n with
  | zero => intros; rfl
  | succ n ih => intro j l; simp only [M174_L4, symG_L4, ih]
theorem E174_L1 (F : Nat) (a : Int) (l : List TPublished) (k : Int → Option (List TPublished)) : ∀ (n : Nat) (i j : Int), M174_L1 F a l k n i j = symG_L1 (fun x y => some (cmpS x.Advisory y.Advisory)) F a l k n i j := by
  intro n
  induction n with
  | zero => intros; rfl
  | succ n ih => intro i j; simp only [M174_L1, symG_L1, ih, M137_eq]
theorem E174_L3 (F : Nat) (a : Int) (l : List TPublished) (k : Int → Option (List TPublished)) : ∀ (n : Nat) (i j : Int), M174_L3 F a l k n i j = symG_L3 (fun x y => some (cmpS x.Advisory y.Advisory)) F a l k n i j := by
  intro n
  induction n with
  | zero => intros; rfl
  | succ n ih => intro i j; simp only [M174_L3, symG_L3, ih, M137_eq]
theorem E174_L5 (F : Nat) (a m b : Int) (l : List TPublished) (k : Int → Option (List TPublished)) : ∀ (n : Nat) (i j : Int), M174_L5 F a m b l k n i j = symG_L5 (fun x y => some (cmpS x.Advisory y.Advisory)) F a m b l k n i j := by
  intro n
  induction n with
  | zero => intros; rfl
  | succ n ih => intro i j; simp only [M174_L5, symG_L5, ih, M137_eq]
theorem E174 : ∀ (F : Nat) (a m b : Int) (l : List TPublished), M174 F a m b l = symG (fun x y => some (cmpS x.Advisory y.Advisory)) F a m b l := by
  intro F
  induction F with
  | zero => intros; rfl
  | succ F ih => intro a m b l; simp only [M174, symG, M174_B, symG_B, ih, E174_L1, E174_L2, E174_L3, E174_L4, E174_L5, E182]
theorem E158_L3 (F : Nat) (a n : Int) (k : Int → List TPublished → Option (List TPublished)) : ∀ (f : Nat) (i j : Int) (l : List TPublished), M158_L3 F a n k f i j l = stbG_L3 (fun x y => some (cmpS x.Advisory y.Advisory)) F a n k f i j l := by
  intro f
  induction f with
  | zero => intros; rfl
  | succ f ih => intro i j l; simp only [M158_L3, stbG_L3, ih, E174]
theorem E158_L2 (F : Nat) (a : Int) : ∀ (f : Nat) (i : Int) (l : List TPublished), M158_L2 F a f i l = stbG_L2 (fun x y => some (cmpS x.Advisory y.Advisory)) F a f i l := by
  intro f
  induction f with
  | zero => intros; rfl
  | succ f ih => intro i l; simp only [M158_L2, stbG_L2, ih, E174, E158_L3]
theorem E158_L1 (F : Nat) (a : Int) (k : Int → List TPublished → Option (List TPublished)) : ∀ (f : Nat) (i j : Int) (l : List TPublished), M158_L1 F a k f i j l = stbG_L1 (fun x y => some (cmpS x.Advisory y.Advisory)) F a k f i j l := by
  intro f
  induction f with
  | zero => intros; rfl
  | succ f ih => intro i j l; simp only [M158_L1, stbG_L1, ih, E173]
theorem stb158 (F : Nat) (n : Int) (l : List TPublished) : M158 F n l = stbG (fun x y => some (cmpS x.Advisory y.Advisory)) F n l := by
  unfold M158 stbG; simp only [E158_L1, E158_L2, E173]
theorem M151_eq (F : Nat) (l : List TPublished) (hl : l.length < 400000) (hF : 1000000 ≤ F) : ∃ R, M151 F l = some R ∧ Srt klt R ∧ R.Perm l := by
  unfold M151
  rw [stb158]
  obtain ⟨R, r1, r2, r3⟩ := stbG_eq korder F l (by omega) (by omega)
  rw [r1, Option.bind_some, if_pos r3.length_eq]
  exact ⟨R, rfl, r2, r3⟩
theorem M136_eq (F : Nat) (l : List TPublished) (hl : l.length < 400000) (hF : 1000000 ≤ F) : ∃ R, M136 F l = some R ∧ Srt klt R ∧ R.Perm l := by
  unfold M136
  rw [clone_eq (R := Unit) (g := M101_1 F) 140737488355328 32 (fun l => rfl) l (by omega), Option.bind_some]
  obtain ⟨R, r1, r2, r3⟩ := M151_eq F l hl hF
  rw [r1, Option.bind_some, if_pos r3.length_eq]
  exact ⟨R, rfl, r2, r3⟩
def Kn (l : List TPublished) : Prop := l.Pairwise (fun a b => Op.bytesLess a.Advisory b.Advisory = true)
def conf (a b : List TPublished) : Prop := ∃ x, x ∈ a ∧ ∃ y, y ∈ b ∧ x.Advisory = y.Advisory ∧ x ≠ y
def fresh (a b : List TPublished) : List TPublished := b.filter (fun y => !a.any (fun x => x.Advisory == y.Advisory))
theorem Kn.inj {l : List TPublished} (h : Kn l) : ∀ {x y : TPublished}, x ∈ l → y ∈ l → x.Advisory = y.Advisory → x = y := by
  induction l with
  | nil => intro x y hx; simp at hx
  | cons z l ih =>
    intro x y hx hy e
    have h1 := List.pairwise_cons.1 h
    rcases List.mem_cons.1 hx with hx | hx <;> rcases List.mem_cons.1 hy with hy | hy
    · rw [hx, hy]
    · rw [hx] at e; exact absurd e (bl_ne (h1.1 y hy))
    · rw [hy] at e; exact absurd e.symm (bl_ne (h1.1 x hx))
    · exact ih h1.2 hx hy e
theorem Kn.srt {l : List TPublished} (h : Kn l) : Srt klt l := h.imp (fun h => bl_asymm h)
theorem mem_fresh {a b : List TPublished} {y : TPublished} : y ∈ fresh a b ↔ y ∈ b ∧ ∀ x, x ∈ a → x.Advisory ≠ y.Advisory := by
  unfold fresh
  rw [List.mem_filter]
  simp
theorem joined_inj {a b : List TPublished} (ha : Kn a) (hb : Kn b) : ∀ x, x ∈ a ++ fresh a b → ∀ y, y ∈ a ++ fresh a b → klt x y = false → klt y x = false → x = y := by
  intro x hx y hy h1 h2
  have e : x.Advisory = y.Advisory := by
    rcases bl_tri x.Advisory y.Advisory with g | g | g
    · unfold klt at h1; rw [h1] at g; simp at g
    · exact g
    · unfold klt at h2; rw [h2] at g; simp at g
  rcases List.mem_append.1 hx with hx | hx <;> rcases List.mem_append.1 hy with hy | hy
  · exact ha.inj hx hy e
  · exact absurd e ((mem_fresh.1 hy).2 x hx)
  · exact absurd e.symm ((mem_fresh.1 hx).2 y hy)
  · exact hb.inj (mem_fresh.1 hx).1 (mem_fresh.1 hy).1 e
/-- Two lists of what is known, in one: none if they know it otherwise. -/
structure Jn (a b : List TPublished) (r : List TPublished × Bool) : Prop where
  no : conf a b → r = ([], false)
  yes : ¬ conf a b → r.2 = true ∧ Srt klt r.1 ∧ r.1.Perm (a ++ fresh a b)
theorem Jn.uniq {a b : List TPublished} (ha : Kn a) (hb : Kn b) {r s : List TPublished × Bool} (h : Jn a b r) (g : Jn a b s) : r = s := by
  by_cases hc : conf a b
  · rw [h.no hc, g.no hc]
  · obtain ⟨h1, h2, h3⟩ := h.yes hc
    obtain ⟨g1, g2, g3⟩ := g.yes hc
    have : r.1 = s.1 := srt_unique (fun x hx y hy => joined_inj ha hb x (h3.mem_iff.1 hx) y (h3.mem_iff.1 hy)) h2 g2 (h3.trans g3.symm)
    obtain ⟨r1, r2⟩ := r
    obtain ⟨s1, s2⟩ := s
    simp at h1 g1 this
    rw [h1, g1, this]
abbrev PMap := List ((List UInt8) × TPublished)
def kput (m : PMap) : List TPublished → PMap
  | [] => m
  | x :: l => kput (mput m x.Advisory x) l
theorem kput_mget (a : List UInt8) : ∀ (l : List TPublished) (m : PMap), Kn l → mget (kput m l) a = (match l.find? (fun k => k.Advisory == a) with | some x => some x | none => mget m a)
  | [], m, _ => rfl
  | x :: l, m, h => by
    have h1 := List.pairwise_cons.1 h
    rw [kput, kput_mget a l _ h1.2, mget_mput, List.find?_cons]
    by_cases e : x.Advisory = a
    · have : l.find? (fun k => k.Advisory == a) = none := by
        rw [List.find?_eq_none]
        intro k hk
        have := bl_ne (h1.1 k hk)
        rw [e] at this
        simpa using fun e => this e.symm
      rw [this]; simp [e]
    · have : (x.Advisory == a) = false := by simpa using e
      rw [this, if_neg e]
theorem M102_L1_eq (F : Nat) (k : PMap → Option (List TPublished × Bool)) : ∀ (l : List TPublished) (m : PMap), M102_L1 F k l m = k (kput m l)
  | [], m => rfl
  | x :: l, m => by rw [M102_L1, M102_L1_eq F k l]; rfl
theorem M102_L2_eq (F : Nat) (a : List TPublished) (ha : Kn a) (k : List TPublished → Option (List TPublished × Bool)) : ∀ (l o : List TPublished), o.length + l.length ≤ 10000 →
    (conf a l → M102_L2 F (kput [] a) k l o = some ([], false)) ∧ (¬ conf a l → M102_L2 F (kput [] a) k l o = k (o ++ fresh a l))
  | [], o, _ => by
    refine ⟨fun ⟨x, _, y, hy, _⟩ => by simp at hy, fun _ => ?_⟩
    rw [M102_L2]; simp [fresh]
  | x :: l, o, hl => by
    simp only [List.length_cons] at hl
    have e := kput_mget x.Advisory a [] ha
    rw [M102_L2]
    simp only [jn_def]
    cases hf : a.find? (fun k => k.Advisory == x.Advisory) with
    | some y =>
      rw [hf] at e
      have hy := List.mem_of_find?_eq_some hf
      have hya : y.Advisory = x.Advisory := by simpa using List.find?_some hf
      rw [e]
      simp only [Option.isSome_some, if_true, Option.getD_some, Bool.not_true, Bool.false_eq_true, if_false]
      by_cases hxy : y = x
      · subst hxy
        have hne : ¬ (!decide (y = y)) = true := by simp
        rw [if_neg hne]
        obtain ⟨i1, i2⟩ := M102_L2_eq F a ha k l o (by omega)
        have hc : conf a (y :: l) ↔ conf a l := by
          constructor
          · rintro ⟨p, hp, q, hq, e1, e2⟩
            rcases List.mem_cons.1 hq with rfl | hq
            · exact absurd (ha.inj hp hy e1) e2
            · exact ⟨p, hp, q, hq, e1, e2⟩
          · rintro ⟨p, hp, q, hq, e1, e2⟩; exact ⟨p, hp, q, List.mem_cons_of_mem _ hq, e1, e2⟩
        have hfr : fresh a (y :: l) = fresh a l := by
          unfold fresh
          rw [List.filter_cons_of_neg]
          simp only [Bool.not_eq_true, Bool.not_eq_false', List.any_eq_true]
          exact ⟨y, hy, by simp⟩
        rw [hc, hfr]; exact ⟨i1, i2⟩
      · have hne : (!decide (y = x)) = true := by simp [hxy]
        rw [if_pos hne]
        exact ⟨fun _ => rfl, fun h => absurd ⟨y, hy, x, by simp, hya, hxy⟩ h⟩
    | none =>
      rw [hf] at e
      have hn : ∀ y, y ∈ a → y.Advisory ≠ x.Advisory := fun y hy => by simpa using List.find?_eq_none.1 hf y hy
      rw [e]
      simp only [mget, Option.isSome_none, Bool.false_eq_true, if_false, Bool.not_false, if_true]
      rw [if_pos (by simp; omega)]
      obtain ⟨i1, i2⟩ := M102_L2_eq F a ha k l (o ++ [x]) (by simp; omega)
      have hc : conf a (x :: l) ↔ conf a l := by
        constructor
        · rintro ⟨p, hp, q, hq, e1, e2⟩
          rcases List.mem_cons.1 hq with rfl | hq
          · exact absurd e1 (hn p hp)
          · exact ⟨p, hp, q, hq, e1, e2⟩
        · rintro ⟨p, hp, q, hq, e1, e2⟩; exact ⟨p, hp, q, List.mem_cons_of_mem _ hq, e1, e2⟩
      have hfr : fresh a (x :: l) = x :: fresh a l := by
        unfold fresh
        rw [List.filter_cons_of_pos]
        simp only [Bool.not_eq_true', List.any_eq_false]
        intro y hy; simpa using hn y hy
      rw [hc, hfr]
      refine ⟨i1, fun h => ?_⟩
      rw [i2 h]; simp
theorem M102_eq (F : Nat) (a b : List TPublished) (ha : Kn a) (hb : Kn b) (la : a.length ≤ 2000) (lb : b.length ≤ 2000) (hF : 1000000 ≤ F) : ∃ r, M102 F a b = some r ∧ Jn a b r := by
  unfold M102
  rw [clone_eq (R := Unit) (g := M101_1 F) 140737488355328 32 (fun l => rfl) a (by omega), Option.bind_some]
  simp only [jn_def, M102_L1_eq]
  obtain ⟨i1, i2⟩ := M102_L2_eq F a ha (fun l16 => (M136 F l16).bind fun y37 => some (y37, true)) b a (by omega)
  by_cases hc : conf a b
  · rw [i1 hc]; exact ⟨_, rfl, fun _ => rfl, fun h => absurd hc h⟩
  · rw [i2 hc]
    have : (fresh a b).length ≤ b.length := List.length_filter_le _ _
    obtain ⟨R, r1, r2, r3⟩ := M136_eq F (a ++ fresh a b) (by simp; omega) hF
    rw [r1, Option.bind_some]
    exact ⟨_, rfl, fun h => absurd h hc, fun _ => ⟨rfl, r2, r3⟩⟩
theorem conf_nil_r (a : List TPublished) : ¬ conf a [] := fun ⟨_, _, y, hy, _⟩ => by simp at hy
theorem conf_nil_l (b : List TPublished) : ¬ conf [] b := fun ⟨x, hx, _⟩ => by simp at hx
theorem fresh_nil (b : List TPublished) : fresh [] b = b := by unfold fresh; simp
theorem M105_L1_eq (F : Nat) (k : List TPublished → Option (List TPublished × Bool)) : ∀ (f : Nat) (a b o : List TPublished), Kn a → Kn b → a.length + b.length < f → o.length + a.length + b.length ≤ 10000 →
    (conf a b → M105_L1 F k f a b o = some ([], false)) ∧ (¬ conf a b → ∃ C, M105_L1 F k f a b o = k (o ++ C) ∧ Srt klt C ∧ C.Perm (a ++ fresh a b))
  | 0, _, _, _, _, _, h, _ => by omega
  | f + 1, [], [], o, _, _, _, _ => by
    refine ⟨fun h => absurd h (conf_nil_r _), fun _ => ⟨[], ?_, List.Pairwise.nil, by simp [fresh]⟩⟩
    rw [M105_L1, if_f (by simp), if_f (by simp), List.append_nil]
  | f + 1, x :: a, [], o, ha, hb, hf, ho => by
    simp only [List.length_cons, List.length_nil] at hf ho
    refine ⟨fun h => absurd h (conf_nil_r _), fun _ => ?_⟩
    have h1 := List.pairwise_cons.1 ha
    rw [M105_L1]; simp only [jn_def]; rw [if_t (by simp), if_pos (by simp), show idx (x :: a) 0 = some x from rfl, Option.bind_some, if_pos (by simp; omega), if_pos (by simp)]
    obtain ⟨C, c1, c2, c3⟩ := (M105_L1_eq F k f a [] (o ++ [x]) h1.2 hb (by simp; omega) (by simp; omega)).2 (conf_nil_r _)
    refine ⟨x :: C, ?_, List.pairwise_cons.2 ⟨fun y hy => ?_, c2⟩, ?_⟩
    · simp only [List.drop_one, List.tail_cons]; rw [c1]; simp
    · have := c3.mem_iff.1 hy
      simp [fresh] at this
      exact bl_asymm (h1.1 y this)
    · simpa [fresh] using c3.cons x
  | f + 1, [], y :: b, o, ha, hb, hf, ho => by
    simp only [List.length_cons, List.length_nil] at hf ho
    refine ⟨fun h => absurd h (conf_nil_l _), fun _ => ?_⟩
    have h1 := List.pairwise_cons.1 hb
    rw [M105_L1]; simp only [jn_def]; rw [if_f (by simp), if_t (by simp), if_neg (by simp; omega), if_pos (by simp), show idx (y :: b) 0 = some y from rfl, Option.bind_some, if_pos (by simp; omega), if_pos (by simp)]
    obtain ⟨C, c1, c2, c3⟩ := (M105_L1_eq F k f [] b (o ++ [y]) ha h1.2 (by simp; omega) (by simp; omega)).2 (conf_nil_l _)
    rw [fresh_nil, List.nil_append] at c3
    refine ⟨y :: C, ?_, List.pairwise_cons.2 ⟨fun z hz => bl_asymm (h1.1 z (c3.mem_iff.1 hz)), c2⟩, ?_⟩
    · simp only [List.drop_one, List.tail_cons]; rw [c1]; simp
    · rw [fresh_nil, List.nil_append]; exact c3.cons y
  | f + 1, x :: a, y :: b, o, ha, hb, hf, ho => by
    simp only [List.length_cons] at hf ho
    have h1 := List.pairwise_cons.1 ha
    have h2 := List.pairwise_cons.1 hb
    rw [M105_L1]; simp only [jn_def]; rw [if_t (by simp), if_neg (by simp; omega), show idx (x :: a) 0 = some x from rfl, Option.bind_some, show idx (y :: b) 0 = some y from rfl, Option.bind_some]
    simp only [Option.bind_some]
    by_cases hlt : Op.bytesLess x.Advisory y.Advisory = true
    · rw [if_pos hlt, if_pos (by simp; omega), if_pos (by simp)]
      have hxb : ∀ z, z ∈ y :: b → Op.bytesLess x.Advisory z.Advisory = true := fun z hz => by
        rcases List.mem_cons.1 hz with rfl | hz
        · exact hlt
        · exact bl_trans hlt (h2.1 z hz)
      obtain ⟨i1, i2⟩ := M105_L1_eq F k f a (y :: b) (o ++ [x]) h1.2 hb (by simp; omega) (by simp; omega)
      have hc : conf (x :: a) (y :: b) ↔ conf a (y :: b) := by
        constructor
        · rintro ⟨p, hp, q, hq, e1, e2⟩
          rcases List.mem_cons.1 hp with rfl | hp
          · exact absurd e1 (bl_ne (hxb q hq))
          · exact ⟨p, hp, q, hq, e1, e2⟩
        · rintro ⟨p, hp, q, hq, e1, e2⟩; exact ⟨p, List.mem_cons_of_mem _ hp, q, hq, e1, e2⟩
      have hfr : fresh (x :: a) (y :: b) = fresh a (y :: b) := by
        unfold fresh
        apply List.filter_congr
        intro z hz
        rw [List.any_cons, show (x.Advisory == z.Advisory) = false by simpa using bl_ne (hxb z hz), Bool.false_or]
      rw [hc, hfr]
      refine ⟨fun h => by simpa using i1 h, fun h => ?_⟩
      obtain ⟨C, c1, c2, c3⟩ := i2 h
      refine ⟨x :: C, ?_, List.pairwise_cons.2 ⟨fun z hz => ?_, c2⟩, by simpa using c3.cons x⟩
      · simp only [List.drop_one, List.tail_cons]; rw [c1]; simp
      · rcases List.mem_append.1 (c3.mem_iff.1 hz) with hz | hz
        · exact bl_asymm (h1.1 z hz)
        · exact bl_asymm (hxb z (mem_fresh.1 hz).1)
    · rw [if_neg hlt, if_neg (by simp; omega)]
      by_cases hgt : Op.bytesLess y.Advisory x.Advisory = true
      · rw [bl_gt, if_pos hgt, if_pos (by simp; omega), if_pos (by simp)]
        have hya : ∀ z, z ∈ x :: a → Op.bytesLess y.Advisory z.Advisory = true := fun z hz => by
          rcases List.mem_cons.1 hz with rfl | hz
          · exact hgt
          · exact bl_trans hgt (h1.1 z hz)
        obtain ⟨i1, i2⟩ := M105_L1_eq F k f (x :: a) b (o ++ [y]) ha h2.2 (by simp; omega) (by simp; omega)
        have hc : conf (x :: a) (y :: b) ↔ conf (x :: a) b := by
          constructor
          · rintro ⟨p, hp, q, hq, e1, e2⟩
            rcases List.mem_cons.1 hq with rfl | hq
            · exact absurd e1.symm (bl_ne (hya p hp))
            · exact ⟨p, hp, q, hq, e1, e2⟩
          · rintro ⟨p, hp, q, hq, e1, e2⟩; exact ⟨p, hp, q, List.mem_cons_of_mem _ hq, e1, e2⟩
        have hfr : fresh (x :: a) (y :: b) = y :: fresh (x :: a) b := by
          unfold fresh
          rw [List.filter_cons_of_pos]
          simp only [Bool.not_eq_true', List.any_eq_false]
          intro z hz; simpa using fun e : z.Advisory = y.Advisory => bl_ne (hya z hz) e.symm
        rw [hc, hfr]
        refine ⟨fun h => by simpa using i1 h, fun h => ?_⟩
        obtain ⟨C, c1, c2, c3⟩ := i2 h
        refine ⟨y :: C, ?_, List.pairwise_cons.2 ⟨fun z hz => ?_, c2⟩, (c3.cons y).trans List.perm_middle.symm⟩
        · simp only [List.drop_one, List.tail_cons]; rw [c1]; simp
        · rcases List.mem_append.1 (c3.mem_iff.1 hz) with hz | hz
          · exact bl_asymm (hya z hz)
          · exact bl_asymm (h2.1 z (mem_fresh.1 hz).1)
      · rw [bl_gt, if_neg hgt]
        have e : x.Advisory = y.Advisory := by
          rcases bl_tri x.Advisory y.Advisory with g | g | g
          · exact absurd g hlt
          · exact g
          · exact absurd g hgt
        by_cases hxy : x = y
        · subst hxy
          have hne : ¬ (!decide (x = x)) = true := by simp
          rw [if_neg hne, if_pos (by simp; omega), if_pos (show 1 ≤ (x :: a).length by simp), if_pos (show 1 ≤ (x :: b).length by simp)]
          obtain ⟨i1, i2⟩ := M105_L1_eq F k f a b (o ++ [x]) h1.2 h2.2 (by omega) (by simp; omega)
          have hc : conf (x :: a) (x :: b) ↔ conf a b := by
            constructor
            · rintro ⟨p, hp, q, hq, e1, e2⟩
              rcases List.mem_cons.1 hp with hp | hp <;> rcases List.mem_cons.1 hq with hq | hq
              · exact absurd (hp.trans hq.symm) e2
              · rw [hp] at e1; exact absurd e1 (bl_ne (h2.1 q hq))
              · rw [hq] at e1; exact absurd e1.symm (bl_ne (h1.1 p hp))
              · exact ⟨p, hp, q, hq, e1, e2⟩
            · rintro ⟨p, hp, q, hq, e1, e2⟩; exact ⟨p, List.mem_cons_of_mem _ hp, q, List.mem_cons_of_mem _ hq, e1, e2⟩
          have hfr : fresh (x :: a) (x :: b) = fresh a b := by
            unfold fresh
            rw [List.filter_cons_of_neg (by simp)]
            apply List.filter_congr
            intro z hz
            rw [List.any_cons, show (x.Advisory == z.Advisory) = false by simpa using bl_ne (h2.1 z hz), Bool.false_or]
          rw [hc, hfr]
          refine ⟨fun h => by simpa using i1 h, fun h => ?_⟩
          obtain ⟨C, c1, c2, c3⟩ := i2 h
          refine ⟨x :: C, ?_, List.pairwise_cons.2 ⟨fun z hz => ?_, c2⟩, by simpa using c3.cons x⟩
          · simp only [List.drop_one, List.tail_cons]; rw [c1]; simp
          · rcases List.mem_append.1 (c3.mem_iff.1 hz) with hz | hz
            · exact bl_asymm (h1.1 z hz)
            · exact bl_asymm (h2.1 z (mem_fresh.1 hz).1)
        · have hne : (!decide (x = y)) = true := by simp [hxy]
          rw [if_pos hne]
          exact ⟨fun _ => rfl, fun h => absurd ⟨x, by simp, y, by simp, e, hxy⟩ h⟩
theorem M105_eq (F : Nat) (a b : List TPublished) (ha : Kn a) (hb : Kn b) (la : a.length ≤ 2000) (lb : b.length ≤ 2000) (hF : 1000000 ≤ F) : ∃ r, M105 F a b = some r ∧ Jn a b r := by
  unfold M105
  rw [jn_def]
  obtain ⟨i1, i2⟩ := M105_L1_eq F (fun l4 => some (l4, true)) F a b [] ha hb (by omega) (by simp; omega)
  by_cases hc : conf a b
  · rw [i1 hc]; exact ⟨_, rfl, fun _ => rfl, fun h => absurd hc h⟩
  · obtain ⟨C, c1, c2, c3⟩ := i2 hc
    rw [c1, List.nil_append]; exact ⟨_, rfl, fun h => absurd h hc, fun _ => ⟨rfl, c2, c3⟩⟩
theorem filterM {α R : Type} {g : List α → List α → Option R} {k : List α → Option R} (P : α → Prop) (p : α → Bool) (B : Nat) (h0 : ∀ o, g [] o = k o)
    (h1 : ∀ x l o, P x → o.length < B → g (x :: l) o = if p x = true then g l (o ++ [x]) else g l o) :
    ∀ (l o : List α), (∀ x, x ∈ l → P x) → o.length + l.length ≤ B → g l o = k (o ++ l.filter p)
  | [], o, _, _ => by simp [h0]
  | x :: l, o, hP, h => by
    simp only [List.length_cons] at h
    rw [h1 x l o (hP x (by simp)) (by omega)]
    have hP' : ∀ y, y ∈ l → P y := fun y hy => hP y (List.mem_cons_of_mem _ hy)
    cases hp : p x
    · simp only [Bool.false_eq_true, if_false]
      rw [filterM P p B h0 h1 l o hP' (by omega)]; simp [hp]
    · rw [if_pos rfl, filterM P p B h0 h1 l (o ++ [x]) hP' (by simp; omega)]; simp [hp]
def noSt : TStory := TStory.mk [] [] [] 0
def cutS (s : TStory) (day : Int) : TStory := TStory.mk s.Product (s.Releases.filter (fun x => decide (x.Day < day))) s.Known (if day < s.Until then day else s.Until)
def cutX (s : TStory) (day : Int) : TStory × Int := if chk s ≠ 0 then (noSt, chk s) else if !decide (0 ≤ day ∧ day ≤ 1000000) then (noSt, 9) else (cutS s day, 0)
theorem M45_eq (F : Nat) (s : TStory) (day : Int) (h : okSt s) : M45 F s day = some (cutX s day) := by
  unfold M45 cutX
  rw [M35_eq F s h, isDay_b, Option.bind_some, Option.bind_some]
  refine ite2 ne0 (fun _ => rfl) (fun h1 => ite2 Iff.rfl (fun _ => rfl) (fun h2 => ?_))
  have R := right_of_chk (by simpa using h1)
  rw [clone_eq (R := Unit) (g := M101 F) 140737488355328 32 (fun l => rfl) s.Known (by have := R.klen; omega), Option.bind_some]
  simp only [jn_def]
  refine (filterM (g := M45_L1 F day _) (fun r => r.Exposures.length ≤ 500) (fun x => decide (x.Day < day)) 1000 (fun _ => rfl) (fun x l o hx ho => ?_) s.Releases [] (fun r hr => (exps_zero (R.rel r hr).2.2.2).1) (by have := R.rlen; simp; omega)).trans rfl
  rw [M45_L1]
  simp only [jn_def]
  rw [M88_eq F x hx, Option.bind_some, if_pos (show (o ++ [x]).length * 48 ≤ 140737488355328 by simp; omega)]
theorem M46_eq (F : Nat) (s : TStory) (day : Int) (h : okSt s) : M46 F s day = some (cutX s day) := by
  unfold M46 cutX
  rw [M36_eq F s h, isDay_b', Option.bind_some, Option.bind_some]
  refine ite2 ne0 (fun _ => rfl) (fun h1 => ite2 Iff.rfl (fun _ => rfl) (fun h2 => ?_))
  have R := right_of_chk (by simpa using h1)
  simp only [jn_def]
  refine (filterM (g := M46_L1 F day _) (fun r => True) (fun x => decide (x.Day < day)) 1000 (fun _ => rfl) (fun x l o hx ho => ?_) s.Releases [] (fun r hr => trivial) (by have := R.rlen; simp; omega)).trans rfl
  rw [M46_L1]
  simp only [jn_def]
  rw [if_pos (show (o ++ [x]).length * 48 ≤ 140737488355328 by simp; omega)]
structure Near (s : TStory) : Prop where
  pr : name s.Product = true
  unt : 0 ≤ s.Until ∧ s.Until ≤ 1000000
  days : s.Releases.Pairwise (fun a b => a.Day < b.Day)
  vers : s.Releases.Pairwise (fun a b => a.Version ≠ b.Version)
  rel : ∀ r, r ∈ s.Releases → name r.Version = true ∧ 0 ≤ r.Day ∧ exps r.Exposures = 0
  known : Kn s.Known
  kn : ∀ k, k ∈ s.Known → name k.Advisory = true ∧ 0 ≤ k.Day ∧ k.Day ≤ 1000000 ∧ (k.Ended = -1 ∨ k.Day ≤ k.Ended ∧ k.Ended ≤ 1000000)
  all : ∀ r, r ∈ s.Releases → ∀ x, x ∈ r.Exposures → ∃ k, k ∈ s.Known ∧ k.Advisory = x.Advisory
theorem RightS.near {s : TStory} (h : RightS s) : Near s :=
  ⟨h.pr, h.unt, h.days, h.vers, fun r hr => ⟨(h.rel r hr).1, (h.rel r hr).2.1, (h.rel r hr).2.2.2⟩, h.known, h.kn, h.all⟩
theorem relE_val {u : Int} : ∀ {l : List TRelease} {p : Option TRelease} {m : Seen}, (∀ q, p = some q → ∀ x, x ∈ l → q.Day < x.Day) → l.Pairwise (fun a b => a.Day < b.Day) → l.Pairwise (fun a b => a.Version ≠ b.Version) →
    (∀ x, x ∈ l → name x.Version = true ∧ 0 ≤ x.Day ∧ exps x.Exposures = 0 ∧ (mget m x.Version).getD false = false) → relE u p m l = if l.any (fun x => decide (u < x.Day)) = true then 9 else 0
  | [], p, m, _, _, _, _ => rfl
  | x :: l, p, m, h1, h2, h3, h4 => by
    obtain ⟨e1, e2, e3, e4⟩ := h4 x (by simp)
    rw [List.pairwise_cons] at h2 h3
    rw [relE, e1, e3, e4, List.any_cons]
    simp only [Bool.not_true, Bool.false_eq_true, if_false, ne_eq, not_true_eq_false]
    by_cases hu : u < x.Day
    · rw [if_pos (.inr hu)]; simp [hu]
    rw [if_neg (show ¬ (x.Day < 0 ∨ u < x.Day) by omega)]
    have hp : ¬ (p.any (fun q => decide (x.Day ≤ q.Day))) = true := by
      cases p with
      | none => simp
      | some q => have := h1 q rfl x (by simp); simp; omega
    rw [if_neg hp, show decide (u < x.Day) = false by simpa using hu, Bool.false_or]
    refine relE_val (fun q e y hy => ?_) h2.2 h3.2 (fun y hy => ?_)
    · obtain rfl := Option.some.inj e
      exact h2.1 y hy
    · obtain ⟨k1, k2, k3, k4⟩ := h4 y (List.mem_cons_of_mem _ hy)
      refine ⟨k1, k2, k3, ?_⟩
      rw [mget_mput, if_neg (h3.1 y hy)]; exact k4
theorem knE_val : ∀ {l : List TPublished} {p : Option TPublished}, (∀ q, p = some q → ∀ x, x ∈ l → Op.bytesLess q.Advisory x.Advisory = true) → Kn l →
    (∀ x, x ∈ l → name x.Advisory = true ∧ 0 ≤ x.Day ∧ x.Day ≤ 1000000 ∧ (x.Ended = -1 ∨ x.Day ≤ x.Ended ∧ x.Ended ≤ 1000000)) → knE p l = 0
  | [], p, _, _, _ => rfl
  | x :: l, p, h1, h2, h3 => by
    obtain ⟨e1, e2, e3, e4⟩ := h3 x (by simp)
    unfold Kn at h2
    rw [List.pairwise_cons] at h2
    rw [knE, e1]
    simp only [Bool.not_true, Bool.false_eq_true, if_false]
    have hp : ¬ (p.any (fun q => !Op.bytesLess q.Advisory x.Advisory)) = true := by
      cases p with
      | none => simp
      | some q => have := h1 q rfl x (by simp); simp [this]
    rw [if_neg hp, if_neg (by simp; omega), if_neg (by omega)]
    refine knE_val (fun q e y hy => ?_) h2.2 (fun y hy => h3 y (List.mem_cons_of_mem _ hy))
    obtain rfl := Option.some.inj e
    exact h2.1 y hy
theorem chk_val {s : TStory} (h : Near s) : chk s = if 500 < s.Releases.length then 3 else if 2000 < s.Known.length then 3 else if s.Releases.any (fun x => decide (s.Until < x.Day)) = true then 9 else 0 := by
  unfold chk
  rw [h.pr]
  simp only [Bool.not_true, Bool.false_eq_true, if_false]
  rw [if_neg (by simp; exact h.unt)]
  by_cases g1 : 500 < s.Releases.length
  · rw [if_pos g1, if_pos g1]
  rw [if_neg g1, if_neg g1]
  by_cases g2 : 2000 < s.Known.length
  · rw [if_pos g2, if_pos g2]
  rw [if_neg g2, if_neg g2]
  rw [relE_val (p := none) (m := []) (fun q e => by simp at e) h.days h.vers (fun r hr => ⟨(h.rel r hr).1, (h.rel r hr).2.1, (h.rel r hr).2.2, rfl⟩)]
  by_cases ha : s.Releases.any (fun x => decide (s.Until < x.Day)) = true
  · rw [if_pos ha, if_pos (by simp)]
  · rw [if_neg ha, if_neg (by simp), knE_val (p := none) (fun q e => by simp at e) h.known h.kn, if_neg (by simp)]
    rw [if_pos]
    unfold allKn
    rw [List.all_eq_true]
    intro r hr
    rw [List.all_eq_true]
    intro x hx
    rw [marks_mget]
    obtain ⟨k, k1, k2⟩ := h.all r hr x hx
    rw [show s.Known.any (fun k => k.Advisory == x.Advisory) = true from List.any_eq_true.2 ⟨k, k1, by simp [k2]⟩, Bool.or_true]
theorem chk_right {s : TStory} (h : RightS s) : chk s = 0 := by
  rw [chk_val h.near, if_neg (by have := h.rlen; omega), if_neg (by have := h.klen; omega), if_neg]
  simp only [List.any_eq_true, decide_eq_true_eq, not_exists, not_and, Int.not_lt]
  exact fun r hr => (h.rel r hr).2.2.1
def keep (a b : TStory) : List TRelease := a.Releases.filter (fun x => match b.Releases with | [] => true | y :: _ => decide (x.Day < y.Day))
def dup (o b : List TRelease) : Bool := b.any (fun y => o.any (fun x => x.Version == y.Version))
theorem M103_eq (F : Nat) (l : List TRelease) (v : List UInt8) (d : Int) (e : List TExposure) : M103 F l v d e = some (l.any (fun x => x.Version == v)) := by
  unfold M103 M139
  rw [jn_def]
  have := idxL (g := M139_L1 F v d e (some (-1))) (fun x => x.Version == v) (fun _ => rfl) (fun x l n => by rw [M139_L1]; rfl) l 0
  rw [show ((0 : Nat) : Int) = 0 from rfl] at this
  rw [this]
  cases h : l.any (fun x => x.Version == v)
  · rfl
  · rw [if_pos rfl, Option.bind_some]; congr 1
theorem M47_L1_eq (F : Nat) (a b : TStory) (R : RightS a) (k : List TRelease → Option (TStory × Int)) : M47_L1 F b k a.Releases [] = k (keep a b) := by
  refine (filterM (g := M47_L1 F b k) (fun r => r.Exposures.length ≤ 500) (fun x => match b.Releases with | [] => true | y :: _ => decide (x.Day < y.Day)) 1000 (fun _ => rfl) (fun x l o hx ho => ?_) a.Releases [] (fun r hr => (exps_zero (R.rel r hr).2.2.2).1) (by have := R.rlen; simp; omega)).trans (by rw [List.nil_append]; rfl)
  rw [M47_L1]
  simp only [jn_def]
  rw [M88_eq F x hx, Option.bind_some, if_pos (show (o ++ [x]).length * 48 ≤ 140737488355328 by simp; omega)]
  cases hb : b.Releases with
  | nil => simp
  | cons y t => rw [if_neg (show ¬ ((((y :: t).length : Nat) : Int) == 0) = true by simp; omega), show idx (y :: t) 0 = some y from rfl, Option.bind_some]
theorem M47_L2_eq (F : Nat) (k : List TRelease → Option (TStory × Int)) : ∀ (b o : List TRelease), (∀ r, r ∈ b → r.Exposures.length ≤ 500) → b.Pairwise (fun a b => a.Version ≠ b.Version) → o.length + b.length ≤ 2000 →
    M47_L2 F k b o = if dup o b = true then some (noSt, 5) else k (o ++ b)
  | [], o, _, _, _ => by rw [M47_L2, List.append_nil]; rfl
  | y :: b, o, h1, h2, h3 => by
    simp only [List.length_cons] at h3
    rw [List.pairwise_cons] at h2
    rw [M47_L2, M103_eq, Option.bind_some, M88_eq F y (h1 y (by simp)), Option.bind_some, if_pos (show (o ++ [y]).length * 48 ≤ 140737488355328 by simp; omega),
      M47_L2_eq F k b (o ++ [y]) (fun r hr => h1 r (List.mem_cons_of_mem _ hr)) h2.2 (by simp; omega)]
    have e : dup (o ++ [y]) b = dup o b := by
      unfold dup
      rw [Bool.eq_iff_iff, List.any_eq_true, List.any_eq_true]
      refine exists_congr fun z => and_congr_right fun hz => ?_
      rw [List.any_append, List.any_cons, List.any_nil, show (y.Version == z.Version) = false by simpa using h2.1 z hz]
      simp
    rw [e]
    show _ = if (o.any (fun x => x.Version == y.Version) || dup o b) = true then some (noSt, 5) else k (o ++ y :: b)
    cases o.any (fun x => x.Version == y.Version)
    · rw [Bool.false_or, if_neg (by simp)]; simp
    · simp [noSt]
theorem e52 (F : Nat) (b : TStory) (k : List TRelease → Option (TStory × Int)) : ∀ (l o : List TRelease), M48_L5 F b k l o = M48_L2 F b k l o
  | [], o => rfl
  | x :: l, o => by simp only [M48_L5, M48_L2, e52 F b k l]
theorem e63 (F : Nat) (k : Bool → Option (TStory × Int)) : ∀ (l : List TRelease) (c : Bool) (m : Seen), M48_L6 F k l c m = M48_L3 F k l c m
  | [], c, m => rfl
  | x :: l, c, m => by simp only [M48_L6, M48_L3, e63 F k l]
theorem e74 (F : Nat) (b : TStory) (k : Option (TStory × Int)) : ∀ (l : List TRelease), M48_L7 F b k l = M48_L4 F b k l
  | [] => rfl
  | x :: l => by simp only [M48_L7, M48_L4, e74 F b k l]
theorem M48_L2_eq (F : Nat) (a b : TStory) (R : RightS a) (k : List TRelease → Option (TStory × Int)) : M48_L2 F b k a.Releases [] = k (keep a b) := by
  refine (filterM (g := M48_L2 F b k) (fun r => True) (fun x => match b.Releases with | [] => true | y :: _ => decide (x.Day < y.Day)) 1000 (fun _ => rfl) (fun x l o hx ho => ?_) a.Releases [] (fun r hr => trivial) (by have := R.rlen; simp; omega)).trans (by rw [List.nil_append]; rfl)
  rw [M48_L2]
  simp only [jn_def]
  rw [if_pos (show (o ++ [x]).length * 48 ≤ 140737488355328 by simp; omega)]
  cases hb : b.Releases with
  | nil => simp
  | cons y t => rw [if_neg (show ¬ ((((y :: t).length : Nat) : Int) == 0) = true by simp; omega), show idx (y :: t) 0 = some y from rfl, Option.bind_some]
def dis (m : Seen) : List TRelease → Bool
  | [] => true
  | x :: l => !(mget m x.Version).getD false && dis (mput m x.Version true) l
theorem M48_L3_eq (F : Nat) (k : Bool → Option (TStory × Int)) : ∀ (l : List TRelease) (c : Bool) (m : Seen), M48_L3 F k l c m = k (c && dis m l)
  | [], c, m => by rw [M48_L3, dis, Bool.and_true]
  | x :: l, c, m => by
    rw [M48_L3]
    simp only [jn_def, M48_L3_eq F k l]
    cases c
    · simp
    · rw [if_pos rfl, dis, Bool.true_and]
theorem dis_iff : ∀ (l : List TRelease) (m : Seen), dis m l = true ↔ l.Pairwise (fun a b => a.Version ≠ b.Version) ∧ ∀ x, x ∈ l → (mget m x.Version).getD false = false
  | [], m => by simp [dis]
  | x :: l, m => by
    rw [dis, Bool.and_eq_true, dis_iff l, List.pairwise_cons]
    constructor
    · rintro ⟨h1, h2, h3⟩
      have hx : ∀ y, y ∈ l → x.Version ≠ y.Version := fun y hy e => by
        have := h3 y hy
        rw [mget_mput, if_pos e] at this
        simp at this
      refine ⟨⟨hx, h2⟩, fun y hy => ?_⟩
      rcases List.mem_cons.1 hy with rfl | hy
      · simpa using h1
      · have := h3 y hy
        rwa [mget_mput, if_neg (hx y hy)] at this
    · rintro ⟨⟨h1, h2⟩, h3⟩
      refine ⟨by simpa using h3 x (by simp), h2, fun y hy => ?_⟩
      rw [mget_mput, if_neg (h1 y hy)]
      exact h3 y (List.mem_cons_of_mem _ hy)
theorem dup_iff {o b : List TRelease} : dup o b = false ↔ ∀ x, x ∈ o → ∀ y, y ∈ b → x.Version ≠ y.Version := by
  unfold dup
  simp only [List.any_eq_false, List.any_eq_true, beq_iff_eq, not_exists, not_and]
  exact ⟨fun h x hx y hy => h y hy x hx, fun h y hy x hx => h x hx y hy⟩
theorem dis_dup {o b : List TRelease} (ho : o.Pairwise (fun a b => a.Version ≠ b.Version)) (hb : b.Pairwise (fun a b => a.Version ≠ b.Version)) : dis [] (o ++ b) = !dup o b := by
  rw [Bool.eq_iff_iff, dis_iff, Bool.not_eq_true', dup_iff, List.pairwise_append]
  exact ⟨fun h => h.1.2.2, fun h => ⟨⟨ho, hb, h⟩, fun _ _ => rfl⟩⟩
theorem M48_L4_eq (F : Nat) (b : TStory) (k : Option (TStory × Int)) : ∀ (l : List TRelease), M48_L4 F b k l = if l.any (fun x => decide (b.Until < x.Day)) = true then some (noSt, 9) else k
  | [] => rfl
  | x :: l => by
    rw [M48_L4, M48_L4_eq F b k l, List.any_cons]
    by_cases h : b.Until < x.Day
    · rw [if_t h]; simp [h, noSt]
    · rw [if_f h, show decide (b.Until < x.Day) = false by simpa using h, Bool.false_or]
def outS (a b : TStory) (K : List TPublished) : TStory := TStory.mk a.Product (keep a b ++ b.Releases) K b.Until
def joinX (a b : TStory) (K : List TPublished × Bool) : TStory × Int :=
  if chk a ≠ 0 then (noSt, chk a) else if chk b ≠ 0 then (noSt, chk b) else if a.Product ≠ b.Product then (noSt, 8) else if b.Releases ≠ [] ∧ b.Until < a.Until then (noSt, 10)
  else if !K.2 then (noSt, 5) else if dup (keep a b) b.Releases = true then (noSt, 5) else if chk (outS a b K.1) ≠ 0 then (noSt, chk (outS a b K.1)) else (outS a b K.1, 0)
theorem name_len {s : List UInt8} (h : name s = true) : s.length ≤ maxLen := by
  unfold name at h
  simp at h
  unfold maxLen
  omega
theorem outNear {a b : TStory} (A : RightS a) (B : RightS b) (hp : a.Product = b.Product) {K : List TPublished × Bool} (hK : Jn a.Known b.Known K) (h2 : K.2 = true) (hd : dup (keep a b) b.Releases = false) : Near (outS a b K.1) := by
  have hc : ¬ conf a.Known b.Known := fun h => by rw [hK.no h] at h2; simp at h2
  obtain ⟨_, k2, k3⟩ := hK.yes hc
  have hkm : ∀ x, x ∈ keep a b → x ∈ a.Releases := fun x hx => (List.mem_filter.1 hx).1
  have km : ∀ x, x ∈ K.1 → x ∈ a.Known ∨ x ∈ b.Known := fun x hx => by
    rcases List.mem_append.1 (k3.mem_iff.1 hx) with h | h
    · exact .inl h
    · exact .inr (mem_fresh.1 h).1
  refine ⟨A.pr, B.unt, ?_, ?_, fun r hr => ?_, ?_, fun x hx => ?_, fun r hr x hx => ?_⟩
  · show (keep a b ++ b.Releases).Pairwise _
    rw [List.pairwise_append]
    refine ⟨A.days.sublist List.filter_sublist, B.days, fun x hx y hy => ?_⟩
    have hx := (List.mem_filter.1 hx).2
    have hb := B.days
    cases e : b.Releases with
    | nil => rw [e] at hy; simp at hy
    | cons z t =>
      rw [e] at hx hy hb
      have hx : x.Day < z.Day := by simpa using hx
      rw [List.pairwise_cons] at hb
      rcases List.mem_cons.1 hy with rfl | hy
      · exact hx
      · exact Int.lt_trans hx (hb.1 y hy)
  · show (keep a b ++ b.Releases).Pairwise _
    rw [List.pairwise_append]
    exact ⟨A.vers.sublist List.filter_sublist, B.vers, dup_iff.1 hd⟩
  · rcases List.mem_append.1 (show r ∈ keep a b ++ b.Releases from hr) with hr | hr
    · have := A.rel r (hkm r hr); exact ⟨this.1, this.2.1, this.2.2.2⟩
    · have := B.rel r hr; exact ⟨this.1, this.2.1, this.2.2.2⟩
  · show Kn K.1
    have hd : K.1.Pairwise (fun x y => x.Advisory ≠ y.Advisory) := by
      refine (k3.pairwise_iff (fun h e => h e.symm)).2 ?_
      rw [List.pairwise_append]
      exact ⟨A.known.imp (fun h => bl_ne h), (B.known.imp (fun h => bl_ne h)).sublist List.filter_sublist, fun x hx y hy => (mem_fresh.1 hy).2 x hx⟩
    exact (k2.and hd).imp (fun {x y} h => by
      rcases bl_tri x.Advisory y.Advisory with g | g | g
      · exact g
      · exact absurd g h.2
      · have := h.1; unfold klt at this; rw [g] at this; simp at this)
  · rcases km x hx with h | h
    · exact A.kn x h
    · exact B.kn x h
  · have ka : ∀ k, k ∈ a.Known → ∃ k', k' ∈ K.1 ∧ k'.Advisory = k.Advisory := fun k hk => ⟨k, k3.mem_iff.2 (List.mem_append_left _ hk), rfl⟩
    have kb : ∀ k, k ∈ b.Known → ∃ k', k' ∈ K.1 ∧ k'.Advisory = k.Advisory := fun k hk => by
      by_cases he : ∃ y, y ∈ a.Known ∧ y.Advisory = k.Advisory
      · obtain ⟨y, hy, e⟩ := he
        exact ⟨y, k3.mem_iff.2 (List.mem_append_left _ hy), e⟩
      · exact ⟨k, k3.mem_iff.2 (List.mem_append_right _ (mem_fresh.2 ⟨hk, fun y hy e => he ⟨y, hy, e⟩⟩)), rfl⟩
    rcases List.mem_append.1 (show r ∈ keep a b ++ b.Releases from hr) with hr | hr
    · obtain ⟨k, h1, h2⟩ := A.all r (hkm r hr) x hx
      obtain ⟨k', h3, h4⟩ := ka k h1
      exact ⟨k', h3, h4.trans h2⟩
    · obtain ⟨k, h1, h2⟩ := B.all r hr x hx
      obtain ⟨k', h3, h4⟩ := kb k h1
      exact ⟨k', h3, h4.trans h2⟩
theorem outOk {a b : TStory} (ha : okSt a) (hb : okSt b) {K : List TPublished} (hN : Near (outS a b K)) : okSt (outS a b K) := by
  refine ⟨ha.pr, fun r hr => ?_, fun k hk => name_len (hN.kn k hk).1⟩
  rcases List.mem_append.1 (show r ∈ keep a b ++ b.Releases from hr) with hr | hr
  · exact ha.rl r (List.mem_filter.1 hr).1
  · exact hb.rl r hr
theorem lenPos {l : List TRelease} : (decide (((l.length : Nat) : Int) > 0)) = true ↔ l ≠ [] := by
  cases l <;> simp <;> omega
theorem M47_eq (F : Nat) (a b : TStory) (ha : okSt a) (hb : okSt b) (K : List TPublished × Bool) (hK : chk a = 0 → chk b = 0 → Jn a.Known b.Known K ∧ M102 F a.Known b.Known = some K) : M47 F a b = some (joinX a b K) := by
  unfold M47 joinX
  rw [M35_eq F a ha, M35_eq F b hb, Option.bind_some, Option.bind_some]
  refine ite2 ne0 (fun _ => rfl) (fun h1 => ite2 ne0 (fun _ => rfl) (fun h2 => ?_))
  have h1 : chk a = 0 := by simpa using h1
  have h2 : chk b = 0 := by simpa using h2
  have A := right_of_chk h1
  have B := right_of_chk h2
  obtain ⟨hJ, hM⟩ := hK h1 h2
  simp only [jn_def]
  refine ite2 (by simp) (fun _ => rfl) (fun h3 => ?_)
  have h3 : a.Product = b.Product := by simpa using h3
  have fin : ((M102 F a.Known b.Known).bind fun y13 => if (!(y13.2)) = true then some ((TStory.mk ([] : List UInt8) ([] : List TRelease) ([] : List TPublished) 0), 5)
      else M47_L1 F b (fun l17 => M47_L2 F (fun l41 => (M35 F (TStory.mk a.Product l41 (y13.1) b.Until)).bind fun y56 => if (y56 != 0) = true then some ((TStory.mk ([] : List UInt8) ([] : List TRelease) ([] : List TPublished) 0), y56)
      else some ((TStory.mk a.Product l41 (y13.1) b.Until), 0)) b.Releases l17) a.Releases ([] : List TRelease)) =
      some (if !K.2 then (noSt, 5) else if dup (keep a b) b.Releases = true then (noSt, 5) else if chk (outS a b K.1) ≠ 0 then (noSt, chk (outS a b K.1)) else (outS a b K.1, 0)) := by
    rw [hM, Option.bind_some]
    refine ite2 Iff.rfl (fun _ => rfl) (fun h5 => ?_)
    have h5 : K.2 = true := by simpa using h5
    have hkl : (keep a b).length ≤ a.Releases.length := List.length_filter_le _ _
    rw [M47_L1_eq F a b A, M47_L2_eq F _ b.Releases (keep a b) (fun r hr => (exps_zero (B.rel r hr).2.2.2).1) B.vers (by have := A.rlen; have := B.rlen; omega)]
    refine ite2 Iff.rfl (fun _ => rfl) (fun h6 => ?_)
    have hN := outNear A B h3 hJ h5 (by simpa using h6)
    rw [show (TStory.mk a.Product (keep a b ++ b.Releases) K.1 b.Until) = outS a b K.1 from rfl, M35_eq F _ (outOk ha hb hN), Option.bind_some]
    exact ite2 ne0 (fun _ => rfl) (fun _ => rfl)
  by_cases h4 : b.Releases ≠ []
  · rw [if_pos (lenPos.2 h4)]
    refine ite2 (by simp [h4]) (fun _ => rfl) (fun _ => fin)
  · rw [if_neg (fun h => h4 (lenPos.1 h)), if_neg (fun h => h4 h.1)]
    exact fin
theorem M48_eq (F : Nat) (a b : TStory) (ha : okSt a) (hb : okSt b) (K : List TPublished × Bool) (hK : chk a = 0 → chk b = 0 → Jn a.Known b.Known K ∧ M105 F a.Known b.Known = some K) : M48 F a b = some (joinX a b K) := by
  unfold M48 joinX
  simp only [jn_def]
  rw [if_pos (by simp), show (((2 : Nat) : Int)).toNat = 2 from rfl, M48_L1, M48_L1, M48_L1]
  rw [show idx [a, b] 0 = some a from rfl, Option.bind_some, show idx [a, b] (0 + 1) = some b from rfl, Option.bind_some]
  rw [M36_eq F a ha, M36_eq F b hb, Option.bind_some, Option.bind_some]
  refine ite2 ne0 (fun _ => rfl) (fun h1 => ite2 ne0 (fun _ => rfl) (fun h2 => ?_))
  have h1 : chk a = 0 := by simpa using h1
  have h2 : chk b = 0 := by simpa using h2
  have A := right_of_chk h1
  have B := right_of_chk h2
  obtain ⟨hJ, hM⟩ := hK h1 h2
  simp only [e52, e63, e74]
  refine ite2 (by simp) (fun _ => rfl) (fun h3 => ?_)
  have h3 : a.Product = b.Product := by simpa using h3
  have hkl : (keep a b).length ≤ a.Releases.length := List.length_filter_le _ _
  have fin : (M48_L2 F b (fun l17 => if (l17 ++ b.Releases).length * 48 ≤ 140737488355328 then (M105 F a.Known b.Known).bind fun y37 => M48_L3 F (fun b40 => if (!b40) = true then some ((TStory.mk ([] : List UInt8) ([] : List TRelease) ([] : List TPublished) 0), 5)
      else if (decide ((((l17 ++ b.Releases).length : Nat) : Int) > 500)) = true then some ((TStory.mk ([] : List UInt8) ([] : List TRelease) ([] : List TPublished) 0), 3)
      else if (decide ((((y37.1).length : Nat) : Int) > 2000)) = true then some ((TStory.mk ([] : List UInt8) ([] : List TRelease) ([] : List TPublished) 0), 3)
      else M48_L4 F b (some ((TStory.mk a.Product (l17 ++ b.Releases) (y37.1) b.Until), 0)) (l17 ++ b.Releases)) (l17 ++ b.Releases) (y37.2) ([] : List ((List UInt8) × Bool)) else none) a.Releases ([] : List TRelease)) =
      some (if !K.2 then (noSt, 5) else if dup (keep a b) b.Releases = true then (noSt, 5) else if chk (outS a b K.1) ≠ 0 then (noSt, chk (outS a b K.1)) else (outS a b K.1, 0)) := by
    rw [M48_L2_eq F a b A, if_pos (by have := A.rlen; have := B.rlen; simp; omega), hM, Option.bind_some, M48_L3_eq, dis_dup (o := keep a b) (A.vers.sublist List.filter_sublist) B.vers]
    by_cases h5 : K.2 = true
    · rw [h5, Bool.true_and, Bool.not_not, if_neg (show ¬ ((!true) = true) by simp)]
      refine ite2 Iff.rfl (fun _ => rfl) (fun h6 => ?_)
      have hN := outNear A B h3 hJ h5 (by simpa using h6)
      rw [M48_L4_eq, chk_val hN]
      by_cases g1 : 500 < (keep a b ++ b.Releases).length
      · rw [if_t (by omega), if_pos (show 500 < (outS a b K.1).Releases.length from g1)]; rfl
      rw [if_f (by omega), if_neg (show ¬ 500 < (outS a b K.1).Releases.length from g1)]
      by_cases g2 : 2000 < K.1.length
      · rw [if_t (by omega), if_pos (show 2000 < (outS a b K.1).Known.length from g2)]; rfl
      rw [if_f (by omega), if_neg (show ¬ 2000 < (outS a b K.1).Known.length from g2)]
      show (if (keep a b ++ b.Releases).any (fun x => decide (b.Until < x.Day)) = true then _ else _) = some (if (if (keep a b ++ b.Releases).any (fun x => decide (b.Until < x.Day)) = true then (9 : Int) else 0) ≠ 0 then (noSt, if (keep a b ++ b.Releases).any (fun x => decide (b.Until < x.Day)) = true then 9 else 0) else _)
      split <;> rfl
    · rw [show K.2 = false by simpa using h5, Bool.false_and]; rfl
  by_cases h4 : b.Releases ≠ []
  · rw [if_pos (lenPos.2 h4)]
    refine ite2 (by simp [h4]) (fun _ => rfl) (fun _ => fin)
  · rw [if_neg (fun h => h4 (lenPos.1 h)), if_neg (fun h => h4 h.1)]
    exact fin
theorem join_eq (F : Nat) (a b : TStory) (ha : okSt a) (hb : okSt b) (hF : 1000000 ≤ F) : ∃ K, (chk a = 0 → chk b = 0 → Jn a.Known b.Known K) ∧ M47 F a b = some (joinX a b K) ∧ M48 F a b = some (joinX a b K) := by
  by_cases h : chk a = 0 ∧ chk b = 0
  · have A := right_of_chk h.1
    have B := right_of_chk h.2
    obtain ⟨r, r1, r2⟩ := M102_eq F a.Known b.Known A.known B.known A.klen B.klen hF
    obtain ⟨s, s1, s2⟩ := M105_eq F a.Known b.Known A.known B.known A.klen B.klen hF
    have e : r = s := r2.uniq A.known B.known s2
    subst e
    exact ⟨r, fun _ _ => r2, M47_eq F a b ha hb r (fun _ _ => ⟨r2, r1⟩), M48_eq F a b ha hb r (fun _ _ => ⟨r2, s1⟩)⟩
  · exact ⟨([], false), fun h1 h2 => absurd ⟨h1, h2⟩ h, M47_eq F a b ha hb _ (fun h1 h2 => absurd ⟨h1, h2⟩ h), M48_eq F a b ha hb _ (fun h1 h2 => absurd ⟨h1, h2⟩ h)⟩
theorem M49_self (F : Nat) (s : TStory) : M49 F s s = some true := by
  unfold M49 M106 M107
  simp only [jn_def]
  have h1 := eqL_all s.Releases (g := M106_L1 F s.Releases (some true)) (fun _ => rfl) (fun x l n => by rw [M106_L1]; simp only [M37_eq, Option.bind_some]) s.Releases
  have h2 := eqL_all s.Known (g := M107_L1 F s.Known (some true)) (fun _ => rfl) (fun x l n => by rw [M107_L1]) s.Known
  rw [if_pos (by simp), if_pos (by simp), h1, Option.bind_some, if_pos (by simp), h2]
  simp
theorem cutOk {s : TStory} {day : Int} (h : okSt s) : okSt (cutS s day) := ⟨h.pr, fun r hr => h.rl r (List.mem_filter.1 hr).1, h.kn⟩
theorem cutRight {s : TStory} {day : Int} (R : RightS s) (hd : 0 ≤ day ∧ day ≤ 1000000) : RightS (cutS s day) := by
  have hm : ∀ r, r ∈ (cutS s day).Releases → r ∈ s.Releases ∧ r.Day < day := fun r hr => by
    have := List.mem_filter.1 hr; simpa using this
  refine ⟨R.pr, ?_, Nat.le_trans (List.length_filter_le _ _) R.rlen, R.klen, R.days.sublist List.filter_sublist, R.vers.sublist List.filter_sublist, fun r hr => ?_, R.known, R.kn, fun r hr => R.all r (hm r hr).1⟩
  · show 0 ≤ (if day < s.Until then day else s.Until) ∧ (if day < s.Until then day else s.Until) ≤ 1000000
    have := R.unt
    split <;> omega
  · obtain ⟨h1, h2⟩ := hm r hr
    obtain ⟨k1, k2, k3, k4⟩ := R.rel r h1
    refine ⟨k1, k2, ?_, k4⟩
    show r.Day ≤ (if day < s.Until then day else s.Until)
    split <;> omega
def restS (s : TStory) (day : Int) : TStory := TStory.mk s.Product (s.Releases.filter (fun x => decide (x.Day ≥ day))) s.Known s.Until
theorem restOk {s : TStory} {day : Int} (h : okSt s) : okSt (restS s day) := ⟨h.pr, fun r hr => h.rl r (List.mem_filter.1 hr).1, h.kn⟩
theorem restRight {s : TStory} {day : Int} (R : RightS s) : RightS (restS s day) := by
  have hm : ∀ r, r ∈ (restS s day).Releases → r ∈ s.Releases := fun r hr => (List.mem_filter.1 hr).1
  exact ⟨R.pr, R.unt, Nat.le_trans (List.length_filter_le _ _) R.rlen, R.klen, R.days.sublist List.filter_sublist, R.vers.sublist List.filter_sublist, fun r hr => R.rel r (hm r hr), R.known, R.kn, fun r hr => R.all r (hm r hr)⟩
theorem split_days (day : Int) : ∀ (l : List TRelease), l.Pairwise (fun a b => a.Day < b.Day) → l.filter (fun x => decide (x.Day < day)) ++ l.filter (fun x => decide (x.Day ≥ day)) = l
  | [], _ => rfl
  | x :: l, h => by
    rw [List.pairwise_cons] at h
    have ih := split_days day l h.2
    by_cases hx : x.Day < day
    · rw [List.filter_cons_of_pos (by simpa using hx), List.filter_cons_of_neg (by simp; omega), List.cons_append, ih]
    · have h0 : l.filter (fun x => decide (x.Day < day)) = [] := by
        rw [List.filter_eq_nil_iff]
        intro y hy
        have := h.1 y hy
        simp; omega
      rw [h0, List.nil_append] at ih
      rw [List.filter_cons_of_neg (by simpa using hx), List.filter_cons_of_pos (by simp; omega), h0, List.nil_append, ih]
theorem keep_cut {s : TStory} {day : Int} : keep (cutS s day) (restS s day) = (cutS s day).Releases := by
  unfold keep
  rw [List.filter_eq_self]
  intro x hx
  have hx := (List.mem_filter.1 hx).2
  cases e : (restS s day).Releases with
  | nil => rfl
  | cons y t =>
    have hy : y ∈ (restS s day).Releases := by rw [e]; simp
    have := (List.mem_filter.1 hy).2
    simp at this hx ⊢
    omega
theorem M12_L1_eq (F : Nat) (day : Int) (k : List TRelease → Option Bool) (l : List TRelease) (hl : l.length ≤ 500) : M12_L1 F day k l [] = k (l.filter (fun x => decide (x.Day ≥ day))) := by
  refine (filterM (g := M12_L1 F day k) (fun r => True) (fun x => decide (x.Day ≥ day)) 1000 (fun _ => rfl) (fun x l o hx ho => ?_) l [] (fun r hr => trivial) (by simp; omega)).trans (by rw [List.nil_append]; rfl)
  rw [M12_L1]
  simp only [jn_def]
  rw [if_pos (show (o ++ [x]).length * 48 ≤ 140737488355328 by simp; omega)]
theorem plain_12 (s : TStory) (day : Int) (hs : okTStory s) (hdd : (IntKind.i64).min ≤ day ∧ day ≤ (IntKind.i64).max) : ∃ F, M12 F s day = some true := by
  refine ⟨1000003, ?_⟩
  generalize hF : 1000003 = F
  have ok := okSt_of hs
  unfold M12
  simp only [M45_eq F s day ok, M46_eq F s day ok, Option.bind_some, M23_eq F (show 5000 ≤ F by omega), jn_def]
  by_cases h0 : chk s ≠ 0
  · unfold cutX; rw [if_pos h0, if_pos (by simpa using h0), if_pos (by simp)]
  by_cases hd : ¬ (0 ≤ day ∧ day ≤ 1000000)
  · have : cutX s day = (noSt, 9) := by unfold cutX; rw [if_neg h0, if_pos (by simp; omega)]
    rw [this, if_pos (by simp), if_pos (by simp)]
  have hd := Decidable.not_not.1 hd
  have R := right_of_chk (show chk s = 0 by simpa using h0)
  have hc : cutX s day = (cutS s day, 0) := by unfold cutX; rw [if_neg h0, if_neg (by simpa using hd)]
  rw [hc, if_neg (by simp), M12_L1_eq F day _ s.Releases R.rlen]
  obtain ⟨K, hK, h1, _⟩ := join_eq F (cutS s day) (restS s day) (cutOk ok) (restOk ok) (by omega)
  have C := cutRight R hd
  have B := restRight (day := day) R
  have hJ := hK (chk_right C) (chk_right B)
  have hnc : ¬ conf s.Known s.Known := fun ⟨x, hx, y, hy, e1, e2⟩ => e2 (Kn.inj R.known hx hy e1)
  obtain ⟨k1, k2, k3⟩ := hJ.yes hnc
  have hfr : fresh s.Known s.Known = [] := by
    unfold fresh
    rw [List.filter_eq_nil_iff]
    intro x hx
    simp only [Bool.not_eq_true, Bool.not_eq_false', List.any_eq_true]
    exact ⟨x, hx, by simp⟩
  have k3 : K.1.Perm s.Known := by
    have : K.1.Perm (s.Known ++ fresh s.Known s.Known) := k3
    rwa [hfr, List.append_nil] at this
  have kk : K.1 = s.Known := srt_unique (fun x hx y hy => joined_inj (b := []) R.known List.Pairwise.nil x (by simp [fresh]; exact k3.mem_iff.1 hx) y (by simp [fresh]; exact k3.mem_iff.1 hy)) k2 (Kn.srt R.known) k3
  have hrel : keep (cutS s day) (restS s day) ++ (restS s day).Releases = s.Releases := by
    rw [keep_cut]
    exact split_days day s.Releases R.days
  have hdup : dup (keep (cutS s day) (restS s day)) (restS s day).Releases = false := by
    rw [dup_iff]
    have := R.vers
    rw [← hrel, List.pairwise_append] at this
    exact this.2.2
  have hout : outS (cutS s day) (restS s day) K.1 = s := by
    unfold outS
    rw [hrel, kk]
    rfl
  have hj : joinX (cutS s day) (restS s day) K = (s, 0) := by
    unfold joinX
    rw [if_neg (by simp [chk_right C]), if_neg (by simp [chk_right B]), if_neg (by simp [cutS, restS]), if_neg, if_neg (by simp [k1]), if_neg (by simp [hdup]), hout, if_neg h0]
    rintro ⟨_, h⟩
    have h : s.Until < (if day < s.Until then day else s.Until) := h
    split at h <;> omega
  rw [show (TStory.mk s.Product (s.Releases.filter (fun x => decide (x.Day ≥ day))) s.Known s.Until) = restS s day from rfl, h1, hj]
  simp only [Option.bind_some, M49_self]
  simp
end Go.Proofs.Ytkciogeafbbggaa
