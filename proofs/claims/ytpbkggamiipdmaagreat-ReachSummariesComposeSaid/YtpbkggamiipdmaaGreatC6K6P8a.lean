/- Part of the proof: K6V, K6X, K6N1, K6N2, K6N3, KW, K6P5, K6P6, K6P7b, K6P8a. -/
import Derived.Test.YtpbkggamiipdmaaGreatC6K6U
import Derived.Test.YtpbkggamiipdmaaGreatC6K6B
namespace Go.Proofs.YtpbkggamiipdmaaGreat
open Go Go.Pv
set_option linter.unusedVariables false
set_option linter.unusedSimpArgs false
set_option maxRecDepth 100000
abbrev K5 := List Bool → List Bool → List (q0a × Bool) → List q0a → List Int → Option (Option q7d)
theorem idx_mem {α : Type} {a : List α} {n : Int} {x : α} (h : idx a n = some x) : x ∈ a := by
 unfold idx at h
 split at h
 ·exact List.mem_of_getElem? h
 ·simp at h
theorem calls_loop {F : Nat} {w : q7a} (W : WOk F w) (k20 : K5) (k69 : List Bool → List (q0a × Bool) → List q0a → List Int → Option (Option q7d)) (md : List Bool) {E : Nat → Prop} {f : Int} {x : TFunc} (hf : RR F w false f) (hx : idx w.g.Funcs f = some x) (hN : 0 < w.g.Funcs.length) :
  ∀ (cs : List TCall) (l : List Bool) (m : List (q0a × Bool)) (o : List q0a) (q : List Int) (b z : Nat), (∀ c, c ∈ cs → c ∈ x.Calls) → Inv F w l md m o q (b + cs.length) z E →
  ∃ l' m' o' q', M89_L4 F w (-1) md k20 k69 cs l m o q = k69 l' m' o' q' ∧ Inv F w l' md m' o' q' b z E ∧ More l md o l' md o' ∧ ∀ c, c ∈ cs → onB w c.Feature = true → (c.Kind = 1 → ∀ i : Nat, fI w c.Target = i → tru l' i) ∧ (c.Kind ≠ 1 → q7l c ∈ o')
 | [], l, m, o, q, b, z, _, I => ⟨l, m, o, q, rfl, I, More.refl, by simp⟩
 | c :: cs, l, m, o, q, b, z, hc, I => by
  rw [M89_L4]
  simp only [q6d]
  by_cases hon : onB w c.Feature = true
  ·have hon' : ¬ (!((mget w.on c.Feature).getD false)) = true := by
    have : (mget w.on c.Feature).getD false = true := hon
    simp [this]
   obtain ⟨l1, m1, o1, q1, e1, I1, Ma, d1, d2⟩ := inv_call W (show Inv F w l md m o q (b + cs.length + 1) z E from I) hf hx (idx_mem hx) (hc c (by simp)) hon hN []
   rw [if_neg hon', e1, Option.bind_some, if_neg (by simp)]
   obtain ⟨l2, m2, o2, q2, e2, I2, Mb, d3⟩ := calls_loop W k20 k69 md hf hx hN cs l1 m1 o1 q1 b z (fun c h => hc c (List.mem_cons_of_mem _ h)) I1
   refine ⟨l2, m2, o2, q2, e2, I2, Ma.trans Mb, fun c' hc' ho' => ?_⟩
   rcases List.mem_cons.1 hc' with rfl | h
   ·exact ⟨fun k i hi => Mb.l i (d1 k i hi), fun k => Mb.o _ (d2 k)⟩
   ·exact d3 c' h ho'
  ·have hon' : (!((mget w.on c.Feature).getD false)) = true := by
    have : ¬ (mget w.on c.Feature).getD false = true := hon
    simpa using this
   rw [if_pos hon']
   obtain ⟨l2, m2, o2, q2, e2, I2, Mb, d3⟩ := calls_loop W k20 k69 md hf hx hN cs l m o q b z (fun c h => hc c (List.mem_cons_of_mem _ h)) ⟨I.ll, I.ml, by have := I.mu; simp at this; omega, I.qm, I.qr, I.sf, I.st, I.ms, I.so, I.cls, I.dn⟩
   refine ⟨l2, m2, o2, q2, e2, I2, Mb, fun c' hc' ho' => ?_⟩
   rcases List.mem_cons.1 hc' with rfl | h
   ·exact absurd ho' hon
   ·exact d3 c' h ho'
theorem makes_loop {F : Nat} {w : q7a} (W : WOk F w) (m : List (q0a × Bool)) (o : List q0a) (k49 : List Bool → List Bool → List Int → Option (Option q7d)) {b z : Nat} {E : Nat → Prop} {f : Int} {x : TFunc} (hf : RR F w false f) (hx : idx w.g.Funcs f = some x) (hN : 0 < w.g.Funcs.length) :
  ∀ (ts : List Tx) (l md : List Bool) (q : List Int), (∀ t, t ∈ ts → t ∈ x.Makes) → Inv F w l md m o q b z E →
  ∃ l' md' q', M89_L3 F w m o k49 ts l md q = k49 l' md' q' ∧ Inv F w l' md' m o q' b z E ∧ More l md o l' md' o ∧ ∀ t, t ∈ ts → ∀ i : Nat, tI w t = i → tru md' i
 | [], l, md, q, _, I => ⟨l, md, q, rfl, I, More.refl, by simp⟩
 | t :: ts, l, md, q, ht, I => by
  obtain ⟨i, hi, he⟩ := W.mks x (idx_mem hx) t (ht t (by simp))
  have he' : (mget w.types t).getD 0 = (i : Int) := he
  have hr : RR F w true i := by
   have := RR.mk hf hx (ht t (by simp))
   rwa [he] at this
  obtain ⟨l1, md1, q1, e1, I1, Ma, d1⟩ := inv_make W I i hi hN hr []
  rw [M89_L3, he', e1, Option.bind_some]
  obtain ⟨l2, md2, q2, e2, I2, Mb, d2⟩ := makes_loop W m o k49 hf hx hN ts l1 md1 q1 (fun t h => ht t (List.mem_cons_of_mem _ h)) I1
  refine ⟨l2, md2, q2, e2, I2, Ma.trans Mb, fun u hu j hj => ?_⟩
  rcases List.mem_cons.1 hu with rfl | hu
  ·rw [he] at hj
   obtain rfl : i = j := by omega
   exact Mb.m _ d1
  ·exact d2 u hu j hj
theorem queue_loop {F : Nat} {w : q7a} (W : WOk F w) (k20 : K5) : ∀ (n : Nat) (l md : List Bool) (m : List (q0a × Bool)) (o : List q0a) (q : List Int) (z : Nat), Inv F w l md m o q 0 z (fun _ => False) → z < n →
  ∃ l' md' m' o', M89_L2 F w (-1) k20 n l md m o q = k20 l' md' m' o' [] ∧ (∃ z, Inv F w l' md' m' o' [] 0 z (fun _ => False)) ∧ More l md o l' md' o'
 | 0, l, md, m, o, q, z, _, h => by omega
 | n + 1, l, md, m, o, [], z, I, h => ⟨l, md, m, o, by rw [M89_L2, if_f (by simp)], ⟨z, I⟩, More.refl⟩
 | n + 1, l, md, m, o, f :: q, z, I, h => by
  obtain ⟨i, hfi, hti⟩ := I.qr f (by simp)
  subst hfi
  have hil : i < l.length := tru_lt hti
  have hiF : i < w.g.Funcs.length := by rw [← I.ll]; exact hil
  have hN : 0 < w.g.Funcs.length := by omega
  have hf := I.sf i hti
  have hx : idx w.g.Funcs (i : Int) = some w.g.Funcs[i] := q7g hiF
  generalize hxx : w.g.Funcs[i] = x at hx
  rw [M89_L2]
  simp only [q6d]
  rw [if_t (by simp), show idx ((i : Int) :: q) 0 = some (i : Int) from rfl, Option.bind_some, if_pos (by simp), if_neg (by simp), hx, Option.bind_some, List.drop_one, List.tail_cons]
  simp only [Option.bind_some]
  have mu0 := I.mu
  have qm0 := I.qm
  simp only [List.length_cons] at mu0 qm0
  have I0 : Inv F w l md m o q 200 (z - 1) (fun k => k = i) := ⟨I.ll, I.ml, by omega, ⟨by omega, by omega⟩, fun y hy => I.qr y (List.mem_cons_of_mem _ hy), I.sf, I.st, I.ms, I.so, I.cls, fun k hk => by
   rcases I.dn k hk with h | h | h
   ·rcases List.mem_cons.1 h with h | h
    ·exact .inr (.inr (by omega))
    ·exact .inl h
   ·exact .inr (.inl h)
   ·exact h.elim⟩
  obtain ⟨l1, md1, q1, e1, I1, Ma, d1⟩ := makes_loop W m o (fun l50 l51 l52 => M89_L4 F w (-1) l51 k20 (fun l70 m71 l72 l73 => M89_L2 F w (-1) k20 n l70 l51 m71 l72 l73) x.Calls l50 m o l52) hf hx hN x.Makes l md q (fun _ h => h) I0
  rw [e1]
  have hcl := W.cl x (idx_mem hx)
  obtain ⟨l2, m2, o2, q2, e2, I2, Mb, d2⟩ := calls_loop W k20 (fun l70 m71 l72 l73 => M89_L2 F w (-1) k20 n l70 md1 m71 l72 l73) md1 hf hx hN x.Calls l1 m o q1 (200 - x.Calls.length) (z - 1) (fun _ h => h) (by rw [show 200 - x.Calls.length + x.Calls.length = 200 by omega]; exact I1)
  rw [e2]
  have hdone : Done F w l2 md1 o2 i := fun y hy => by
   rw [hx] at hy; simp only [Option.some.injEq] at hy; subst hy
   exact ⟨fun t ht j hj => d1 t ht j hj, fun c hc ho => d2 c hc ho⟩
  have I3 : Inv F w l2 md1 m2 o2 q2 0 (z - 1) (fun _ => False) := ⟨I2.ll, I2.ml, by have := I2.mu; omega, I2.qm, I2.qr, I2.sf, I2.st, I2.ms, I2.so, I2.cls, fun k hk => by
   rcases I2.dn k hk with h | h | h
   ·exact .inl h
   ·exact .inr (.inl h)
   ·have h : k = i := h
    subst h; exact .inr (.inl hdone)⟩
  obtain ⟨l3, md3, m3, o3, e3, I4, Mc⟩ := queue_loop W k20 n l2 md1 m2 o2 q2 (z - 1) I3 (by omega)
  exact ⟨l3, md3, m3, o3, e3, I4, (Ma.trans Mb).trans Mc⟩
theorem entries_loop {F : Nat} {w : q7a} (W : WOk F w) (k5 : List Bool → List Int → Option (Option q7d)) (md : List Bool) (hmd : md = List.replicate (((w.g.Types.length : Nat) : Int)).toNat false) :
  ∀ (es : List Tx) (l : List Bool) (q : List Int) (b z : Nat), (∀ e, e ∈ es → e ∈ w.g.Entries) → Inv F w l md [] [] q b z (fun _ => False) →
  ∃ l' q', M89_L1 F w k5 es l q = k5 l' q' ∧ Inv F w l' md [] [] q' b z (fun _ => False) ∧ (∀ n, tru l n → tru l' n) ∧ ∀ e, e ∈ es → ∀ i : Nat, fI w e = i → tru l' i
 | [], l, q, b, z, _, I => ⟨l, q, rfl, I, fun _ h => h, by simp⟩
 | e :: es, l, q, b, z, he, I => by
  obtain ⟨i, hi, hfe⟩ := W.ent e (he e (by simp))
  have hfe' : (mget w.funcs e).getD 0 = (i : Int) := hfe
  obtain ⟨l1, q1, e1, g1, t1⟩ := add_eq F w l md [] [] [] q i (by rw [I.ll]; exact hi) (by have := I.qm; omega)
  rw [M89_L1, hfe', ← hmd, e1, Option.bind_some]
  have I1 := I.grow g1 (fun n hn => by
   subst hn
   have := RR.entry (F := F) (he e (by simp))
   rwa [hfe] at this)
  obtain ⟨l2, q2, e2, I2, m2, d2⟩ := entries_loop W k5 md hmd es l1 q1 b z (fun e h => he e (List.mem_cons_of_mem _ h)) I1
  refine ⟨l2, q2, e2, I2, fun n h => m2 n (g1.old n h), fun u hu j hj => ?_⟩
  rcases List.mem_cons.1 hu with rfl | hu
  ·rw [hfe] at hj
   obtain rfl : i = j := by omega
   exact m2 _ t1
  ·exact d2 u hu j hj
theorem tru_rep {n k : Nat} : ¬ tru (List.replicate n false) k := by
 unfold tru
 rw [List.getElem?_replicate]
 split <;> simp
theorem fls_rep (n : Nat) : fls (List.replicate n false) = n := by
 unfold fls
 rw [List.countP_replicate]; simp
theorem spread_eq {F : Nat} {w : q7a} (W : WOk F w) (hF : 10000 ≤ F) : ∃ sp, M89 F w (-1) = some (some sp) ∧ sp.funcs.length = w.g.Funcs.length ∧ sp.made.length = w.g.Types.length ∧
  (∀ n : Nat, tru sp.funcs n ↔ n < w.g.Funcs.length ∧ RR F w false n) ∧ ∀ n : Nat, tru sp.made n ↔ n < w.g.Types.length ∧ RR F w true n := by
 have hfl := W.fl
 have htl := W.tl
 unfold M89
 rw [if_pos (by omega), if_pos (by omega)]
 simp only [q6d]
 have I0 : Inv F w (List.replicate (((w.g.Funcs.length : Nat) : Int)).toNat false) (List.replicate (((w.g.Types.length : Nat) : Int)).toNat false) [] [] [] 0 w.g.Funcs.length (fun _ => False) :=
  ⟨by simp, by simp, by rw [fls_rep]; simp; omega, ⟨by rw [fls_rep]; simp, by omega⟩, by simp, fun n h => (tru_rep h).elim, fun n h => (tru_rep h).elim, fun s => by simp [mget], by simp, by simp, fun n h => (tru_rep h).elim⟩
 obtain ⟨l1, q1, e1, I1, _, d1⟩ := entries_loop W (fun l6 l7 => M89_L2 F w (-1) (fun l21 l22 m23 l24 l25 => some (some (q7d.mk (some w) l21 l22 m23 l24 ([] : List Int) l25))) F l6 (List.replicate (((w.g.Types.length : Nat) : Int)).toNat false) [] [] l7) _ rfl w.g.Entries _ [] 0 w.g.Funcs.length (fun _ h => h) I0
 obtain ⟨l2, md2, m2, o2, e2, ⟨z, I2⟩, Mb⟩ := queue_loop W (fun l21 l22 m23 l24 l25 => some (some (q7d.mk (some w) l21 l22 m23 l24 ([] : List Int) l25))) F l1 (List.replicate (((w.g.Types.length : Nat) : Int)).toNat false) [] [] q1 w.g.Funcs.length I1 (by omega)
 refine ⟨q7d.mk (some w) l2 md2 m2 o2 [] [], by rw [e1, e2], I2.ll, I2.ml, ?_, ?_⟩
 all_goals
  have key : ∀ b v, RR F w b v → (∃ n : Nat, v = n ∧ n < (if b then w.g.Types.length else w.g.Funcs.length)) ∧ ∀ n : Nat, v = n → if b then tru md2 n else tru l2 n := by
   intro b v h
   induction h with
   | @entry e h =>
    obtain ⟨i, hi, he⟩ := W.ent e h
    refine ⟨⟨i, he, by simpa using hi⟩, fun n hn => ?_⟩
    simpa using Mb.l n (d1 e h n hn)
   | @dir f x c hf hx hc ho k ih =>
    obtain ⟨⟨j, hj, hjl⟩, ih⟩ := ih
    have ht : tru l2 j := by simpa using ih j hj
    subst hj
    obtain ⟨i, hi, he⟩ := W.dir x (idx_mem hx) c hc
    refine ⟨⟨i, he, by simpa using hi⟩, fun n hn => ?_⟩
    rcases I2.dn j ht with h | h | h
    ·simp at h
    ·simpa using ((h x hx).2 c hc ho).1 k n hn
    ·exact h.elim
   | @dis f t v x c hf hx hc ho k ht hm hv ih ihm =>
    obtain ⟨⟨j, hj, hjl⟩, ih⟩ := ih
    have htr : tru l2 j := by simpa using ih j hj
    subst hj
    have hN : 0 < w.g.Funcs.length := by simp at hjl; omega
    obtain ⟨i, hi, he⟩ := W.tgt c t (W.fit _ t ht) hN
    rw [hv] at he; simp only [Option.some.injEq] at he
    refine ⟨⟨i, he, by simpa using hi⟩, fun n hn => ?_⟩
    rcases I2.dn j htr with h | h | h
    ·simp at h
    ·have hs := ((h x hx).2 c hc ho).2 k
     have := I2.cls (q7l c) hs t ht (fun hmm => by
      obtain ⟨a, ha, hta⟩ := W.fit _ t ht
      have := (ihm hmm).2 a hta
      rw [hta, Int.toNat_natCast]
      simpa using this) n (by rw [M151_m F w (show (SC (q7l c)).Method = c.Method from rfl), hv, hn])
     simpa using this
    ·exact h.elim
   | @mk f x t hf hx ht ih =>
    obtain ⟨⟨j, hj, hjl⟩, ih⟩ := ih
    have htr : tru l2 j := by simpa using ih j hj
    subst hj
    obtain ⟨i, hi, he⟩ := W.mks x (idx_mem hx) t ht
    refine ⟨⟨i, he, by simpa using hi⟩, fun n hn => ?_⟩
    rcases I2.dn j htr with h | h | h
    ·simp at h
    ·simpa using (h x hx).1 t ht n hn
    ·exact h.elim
 ·intro n
  constructor
  ·exact fun h => ⟨by rw [← I2.ll]; exact tru_lt h, I2.sf n h⟩
  ·exact fun ⟨_, h⟩ => by simpa using (key _ _ h).2 n rfl
 ·intro n
  constructor
  ·exact fun h => ⟨by rw [← I2.ml]; exact tru_lt h, I2.st n h⟩
  ·exact fun ⟨_, h⟩ => by simpa using (key _ _ h).2 n rfl
theorem nums_val (x : Tx) (v : Int) : ∀ (l : List Tx) (m : NumM) (n : Int), mget (nums m n l) x = some v → mget m x = some v ∨ n ≤ v ∧ v < n + l.length
 | [], m, n, h => .inl h
 | y :: l, m, n, h => by
  rcases nums_val x v l _ _ h with h | h
  ·rw [q2h] at h
   split at h
   ·simp at h; subst h; exact .inr ⟨by omega, by simp; omega⟩
   ·exact .inl h
  ·exact .inr ⟨by omega, by simp; omega⟩
theorem nums_range (l : List Tx) (x : Tx) (hl : 0 < l.length) : ∃ i : Nat, i < l.length ∧ (mget (nums [] 0 l) x).getD 0 = i := by
 cases h : mget (nums [] 0 l) x with
 | none => exact ⟨0, hl, rfl⟩
 | some v =>
  rcases nums_val x v l [] 0 h with h1 | h1
  ·simp [mget] at h1
  ·exact ⟨v.toNat, by omega, by simp; omega⟩
theorem srt_names {α : Type} {f : α → Tx} {l : List α} (h : l.Pairwise (fun a b => Op.bytesLess (f a) (f b) = true)) : (l.map f).Pairwise (fun a b => Op.bytesLess a b = true) := by
 rw [List.pairwise_map]; exact h
theorem wok {F : Nat} (hF : 1000 ≤ F) {g : q1c} (R : q8e g) (how : Int) (fs : List Tx) : WOk F (wOf g how fs) where
 fl := R.fl
 tl := R.tl
 ent := fun e he => by
  have h := R.e e he
  unfold fsOf at h
  have h : e ∈ g.Funcs.map (·.Name) := by simpa using h
  obtain ⟨i, hi, rfl⟩ := List.getElem_of_mem h
  refine ⟨i, show i < g.Funcs.length by simpa using hi, ?_⟩
  unfold fI wOf
  simp only
  rw [nums_get _ _ _ _ hi (srt_names R.fsrt)]; simp
 cl := fun x hx => (R.f x hx).len
 mks := fun x hx t ht => by
  have h := (R.f x hx).makes t ht
  unfold tsOf at h
  have h : t ∈ g.Types.map (·.Name) := by simpa using h
  obtain ⟨i, hi, rfl⟩ := List.getElem_of_mem h
  refine ⟨i, show i < g.Types.length by simpa using hi, ?_⟩
  unfold tI wOf
  simp only
  rw [nums_get _ _ _ _ hi (srt_names R.tsrt)]; simp
 dir := fun x hx c hc => by
  have hN : 0 < (g.Funcs.map (·.Name)).length := by
   have : 0 < g.Funcs.length := List.length_pos_iff.2 (by intro e; have hx : x ∈ g.Funcs := hx; rw [e] at hx; simp at hx)
   simpa using this
  obtain ⟨i, hi, he⟩ := nums_range (g.Funcs.map (·.Name)) c.Target hN
  exact ⟨i, show i < g.Funcs.length by simpa using hi, he⟩
 fit := fun s t ht => by
  unfold fitL wOf at ht
  simp only at ht
  rw [fitM_get g.Types s g.Ifaces [] R.isrt] at ht
  simp only [mget, Option.getD_none, List.nil_append] at ht
  cases hf : g.Ifaces.find? (fun x => x.Name == s) with
  | none => rw [hf] at ht; simp at ht
  | some x =>
   rw [hf] at ht
   obtain ⟨i, hi, he, _⟩ := (fitIdx_mem x g.Types 0 t).1 ht
   exact ⟨i, hi, by omega⟩
 tgt := fun c t ⟨i, hi, he⟩ hN => by
  subst he
  have hi : i < g.Types.length := hi
  have hT := R.t g.Types[i] (List.getElem_mem _)
  obtain ⟨j, hj, hf⟩ := nums_range (g.Funcs.map (·.Name)) (mOf g.Types[i] c.Method).1 (by have hN : 0 < g.Funcs.length := hN; simpa using hN)
  refine ⟨j, show j < g.Funcs.length by simpa using hj, ?_⟩
  unfold M151
  rw [show idx (wOf g how fs).g.Types (i : Int) = some g.Types[i] from q7g hi, Option.bind_some, M169_eq F _ _ hT.len hT.srt hF, Option.bind_some]
  exact congrArg some hf
theorem onB_eq (g : q1c) (how : Int) (fs : List Tx) (x : Tx) : onB (wOf g how fs) x = (decide (x = []) || fs.contains x) := by
 unfold onB wOf
 simp only
 have := has_sset x fs (mput [] [] true)
 unfold has at this
 rw [this]
 congr 1
 rw [q2h]
 by_cases h : x = []
 ·subst h; simp
 ·rw [if_neg (fun e => h e.symm)]; simp [mget, h]
theorem M191_eq (F : Nat) (t : TType) (m : Tx) : M191 F t m = some (mOf t m) := by
 have key : ∀ l : List q8h, M191_L1 F m (some ([], false)) l = some (match l.find? (fun y => y.Name == m) with | some y => (y.Func, true) | none => ([], false)) := by
  intro l
  induction l with
  | nil => rfl
  | cons x l ih =>
   rw [M191_L1, List.find?_cons]
   by_cases h : (x.Name == m) = true
   ·rw [if_pos h, h]
   ·rw [if_neg h, ih]
    have : (x.Name == m) = false := by simpa using h
    rw [this]
 unfold M191
 rw [q6d, key]; rfl
theorem M192_eq (F : Nat) (t : TType) (i : q2d) : M192 F t i = some (fitB t i) := by
 have key : ∀ l : List Tx, M192_L1 F t (some true) l = some (l.all fun m => (mOf t m).2) := by
  intro l
  induction l with
  | nil => rfl
  | cons x l ih =>
   rw [M192_L1, M191_eq, Option.bind_some, List.all_cons]
   cases h : (mOf t x).2
   ·simp
   ·rw [if_neg (by simp), ih]; simp
 unfold M192
 rw [q6d, key]; rfl
def ifG (g : q1c) (n : Tx) : q2d := (g.Ifaces.find? fun x => x.Name == n).getD (q2d.mk [] [])
theorem M190_eq (F : Nat) (g : q1c) (n : Tx) : ∃ b, M190 F g n = some (ifG g n, b) := by
 have key : ∀ l : List q2d, ∃ b, M190_L1 F n (some (q2d.mk [] [], false)) l = some ((l.find? fun x => x.Name == n).getD (q2d.mk [] []), b) := by
  intro l
  induction l with
  | nil => exact ⟨false, rfl⟩
  | cons x l ih =>
   rw [M190_L1, List.find?_cons]
   by_cases h : (x.Name == n) = true
   ·rw [if_pos h, h]; exact ⟨true, rfl⟩
   ·rw [if_neg h]
    have : (x.Name == n) = false := by simpa using h
    rw [this]; exact ih
 unfold M190
 rw [q6d]; exact key _
def aimO (g : q1c) (c : TCall) (t : TType) : Option q3a := if (mOf t c.Method).2 = true ∧ fitB t (ifG g c.Target) = true then some (q3a.mk t.Name (mOf t c.Method).1) else none
def aimsG (g : q1c) (c : TCall) : List q3a := if c.Kind = 1 then [q3a.mk [] c.Target] else g.Types.filterMap (aimO g c)
theorem M146_L1_eq (F : Nat) (g : q1c) (c : TCall) (b : Bool) (k : List q3a → Option (List q3a)) : ∀ (l : List TType) (o : List q3a), o.length + l.length ≤ 1000 →
  M146_L1 F c (ifG g c.Target, b) k l o = k (o ++ l.filterMap (aimO g c))
 | [], o, _ => by simp [M146_L1]
 | t :: l, o, h => by
  simp only [List.length_cons] at h
  rw [M146_L1, q6d]
  simp only [q6d]
  rw [M191_eq, Option.bind_some]
  by_cases h1 : (mOf t c.Method).2 = true
  ·rw [if_pos h1, M192_eq, Option.bind_some]
   by_cases h2 : fitB t (ifG g c.Target) = true
   ·rw [if_pos h2, if_pos (by simp; omega), M146_L1_eq F g c b k l _ (by simp; omega), List.filterMap_cons]
    simp [aimO, h1, h2]
   ·rw [if_neg h2, M146_L1_eq F g c b k l _ (by omega), List.filterMap_cons]
    simp [aimO, h2]
  ·rw [if_neg h1, M146_L1_eq F g c b k l _ (by omega), List.filterMap_cons]
   simp [aimO, h1]
theorem M146_eq (F : Nat) (g : q1c) (c : TCall) (h : g.Types.length ≤ 500) : M146 F g c = some (aimsG g c) := by
 unfold M146 aimsG
 by_cases hk : c.Kind = 1
 ·rw [if_pos (by simp [hk]), if_pos hk]
 ·rw [if_neg (by simpa using hk), if_neg hk]
  obtain ⟨b, hb⟩ := M190_eq F g c.Target
  rw [hb, Option.bind_some, q6d, M146_L1_eq F g c b _ _ _ (by simp; omega)]
  rfl
theorem aimsG_key (g : q1c) (c : TCall) : aimsG g c = aimsG g (TCall.mk c.Kind c.Target c.Method []) := rfl
def lks (g : q1c) (on : Tx → Bool) (name : Tx) : Int → List TCall → List q1a
 | _, [] => []
 | n, c :: l => if on c.Feature = true then q1a.mk (TSite.mk name n) (aimsG g c) :: lks g on name (n + 1) l else lks g on name (n + 1) l
def KOk (g : q1c) (m : List (TCall × (List q3a))) : Prop := ∀ k l, mget m k = some l → l = aimsG g k
def lkD (m : List (Tx × (List q1a))) (x : Tx) : List q1a := (mget m x).getD []
theorem lkD_put (m : List (Tx × (List q1a))) (x y : Tx) (v : List q1a) : lkD (mput m x v) y = if x = y then v else lkD m y := by
 unfold lkD
 rw [q2h]
 split <;> rfl
theorem M83_L3_eq (F : Nat) (g : q1c) (hg : g.Types.length ≤ 500) (m4 : SetM) (x : TFunc) (k : List (TCall × (List q3a)) → List (Tx × (List q1a)) → Option q6b) :
  ∀ (l : List TCall) (n : Int) (kn : List (TCall × (List q3a))) (lk : List (Tx × (List q1a))), KOk g kn → (lkD lk x.Name).length + l.length ≤ 1000 →
  ∃ kn' lk', M83_L3 F g m4 x k l n kn lk = k kn' lk' ∧ KOk g kn' ∧ ∀ y, lkD lk' y = if x.Name = y then lkD lk x.Name ++ lks g (has m4) x.Name n l else lkD lk y
 | [], n, kn, lk, hk, _ => ⟨kn, lk, rfl, hk, fun y => by simp only [lks, List.append_nil]; split; rename_i h; rw [h]; rfl⟩
 | c :: l, n, kn, lk, hk, hs => by
  simp only [List.length_cons] at hs
  rw [M83_L3, q6d]
  simp only [q6d]
  by_cases ho : has m4 c.Feature = true
  ·have ho' : (mget m4 c.Feature).getD false = true := ho
   rw [if_neg (by rw [ho']; simp)]
   have step : ∀ kn2, KOk g kn2 → ∃ kn' lk', (if ((mget lk x.Name).getD [] ++ [q1a.mk (TSite.mk x.Name n) (aimsG g c)]).length * 48 ≤ 140737488355328 then
     M83_L3 F g m4 x k l (n + 1) kn2 (mput lk x.Name ((mget lk x.Name).getD [] ++ [q1a.mk (TSite.mk x.Name n) (aimsG g c)])) else none) = k kn' lk' ∧ KOk g kn' ∧
     ∀ y, lkD lk' y = if x.Name = y then lkD lk x.Name ++ lks g (has m4) x.Name n (c :: l) else lkD lk y := by
    intro kn2 hk2
    have hlen : ((mget lk x.Name).getD []).length + l.length + 1 ≤ 1000 := by
     have : (lkD lk x.Name).length + (l.length + 1) ≤ 1000 := hs
     unfold lkD at this; omega
    rw [if_pos (by simp; omega)]
    obtain ⟨kn', lk', e1, e2, e3⟩ := M83_L3_eq F g hg m4 x k l (n + 1) kn2 (mput lk x.Name ((mget lk x.Name).getD [] ++ [q1a.mk (TSite.mk x.Name n) (aimsG g c)])) hk2 (by rw [lkD_put, if_pos rfl]; simp; omega)
    refine ⟨kn', lk', e1, e2, fun y => ?_⟩
    rw [e3, lkD_put, if_pos rfl, lkD_put]
    by_cases hy : x.Name = y
    ·rw [if_pos hy, if_pos hy, lks, if_pos ho, List.append_assoc]; rfl
    ·rw [if_neg hy, if_neg hy, if_neg hy]
   by_cases hm : (mget kn (TCall.mk c.Kind c.Target c.Method [])).isSome = true
   ·rw [if_neg (by rw [hm]; simp)]
    obtain ⟨v, hv⟩ := Option.isSome_iff_exists.1 hm
    rw [hv, Option.getD_some, hk _ _ hv, ← aimsG_key]
    exact step kn hk
   ·have hm' : (mget kn (TCall.mk c.Kind c.Target c.Method [])).isSome = false := by simpa using hm
    rw [if_pos (by rw [hm']; rfl), M146_eq F g c hg, Option.bind_some]
    refine step _ (fun k' l' h => ?_)
    rw [q2h] at h
    split at h
    ·rename_i e; subst e; simp at h; rw [← h]; exact aimsG_key g c
    ·exact hk k' l' h
  ·have ho' : (mget m4 c.Feature).getD false = false := by simpa [has] using ho
   rw [if_pos (by rw [ho']; rfl)]
   obtain ⟨kn', lk', e1, e2, e3⟩ := M83_L3_eq F g hg m4 x k l (n + 1) kn lk hk (by omega)
   exact ⟨kn', lk', e1, e2, fun y => by rw [e3, lks, if_neg ho]⟩
theorem M83_L2_eq (F : Nat) (g : q1c) (hg : g.Types.length ≤ 500) (m4 : SetM) (k : List (Tx × (List q1a)) → List (Tx × TFunc) → Option q6b) :
  ∀ (l : List TFunc) (kn : List (TCall × (List q3a))) (lk : List (Tx × (List q1a))) (fm : List (Tx × TFunc)), KOk g kn → (∀ x, x ∈ l → x.Calls.length ≤ 200) → (∀ x, x ∈ l → lkD lk x.Name = []) →
  l.Pairwise (fun a b => Op.bytesLess a.Name b.Name = true) →
  ∃ lk' fm', M83_L2 F g m4 k l kn lk fm = k lk' fm' ∧ (∀ x, x ∈ l → lkD lk' x.Name = lks g (has m4) x.Name 0 x.Calls ∧ mget fm' x.Name = some x) ∧ ∀ y, (∀ x, x ∈ l → x.Name ≠ y) → lkD lk' y = lkD lk y ∧ mget fm' y = mget fm y
 | [], kn, lk, fm, _, _, _, _ => ⟨lk, fm, rfl, by simp, fun _ _ => ⟨rfl, rfl⟩⟩
 | x :: l, kn, lk, fm, hk, hc, hz, hp => by
  rw [M83_L2, q6d]
  simp only [q6d]
  obtain ⟨kn1, lk1, e1, e2, e3⟩ := M83_L3_eq F g hg m4 x (fun m32 m33 => M83_L2 F g m4 k l m32 m33 (mput fm x.Name x)) x.Calls 0 kn lk hk (by rw [hz x (by simp)]; have := hc x (by simp); simp; omega)
  rw [e1]
  rw [List.pairwise_cons] at hp
  have hne : ∀ z, z ∈ l → x.Name ≠ z.Name := fun z hz => bl_ne (hp.1 z hz)
  obtain ⟨lk', fm', f1, f2, f3⟩ := M83_L2_eq F g hg m4 k l kn1 lk1 (mput fm x.Name x) e2 (fun z hz => hc z (List.mem_cons_of_mem _ hz)) (fun z hz' => by rw [e3, if_neg (hne z hz')]; exact hz z (List.mem_cons_of_mem _ hz')) hp.2
  refine ⟨lk', fm', f1, fun z hz' => ?_, fun y hy => ?_⟩
  ·rcases List.mem_cons.1 hz' with e | e
   ·subst e
    obtain ⟨g1, g2⟩ := f3 z.Name (fun q hq => Ne.symm (hne q hq))
    rw [g1, g2, e3, if_pos rfl, hz z (by simp), q2h, if_pos rfl]
    exact ⟨rfl, rfl⟩
   ·exact f2 z e
  ·obtain ⟨g1, g2⟩ := f3 y (fun q hq => hy q (List.mem_cons_of_mem _ hq))
   rw [g1, g2, e3, if_neg (hy x (by simp)), q2h, if_neg (hy x (by simp))]
   exact ⟨rfl, rfl⟩
theorem M83_L1_eq (F : Nat) (k : SetM → Option q6b) : ∀ (l : List Tx) (m : SetM), M83_L1 F k l m = k (sset m l)
 | [], m => rfl
 | x :: l, m => by rw [M83_L1, M83_L1_eq F k l]; rfl
def onF (fs : List Tx) (x : Tx) : Bool := decide (x = []) || fs.contains x
theorem has_onF (fs : List Tx) (x : Tx) : has (sset (mput [] [] true) fs) x = onF fs x := by
 rw [has_sset]
 unfold onF
 congr 1
 unfold has
 rw [q2h]
 by_cases h : x = []
 ·subst h; simp
 ·rw [if_neg (fun e => h e.symm)]; simp [mget, h]
structure NetOk (g : q1c) (fs : List Tx) (n : q6b) : Prop where
 gr : n.g = g
 l : ∀ x, x ∈ g.Funcs → linksN n x.Name = lks g (onF fs) x.Name 0 x.Calls
 f : ∀ x, x ∈ g.Funcs → funcN n x.Name = x
theorem lks_congr (g : q1c) {on on' : Tx → Bool} (h : ∀ x, on x = on' x) (name : Tx) : ∀ (l : List TCall) (n : Int), lks g on name n l = lks g on' name n l
 | [], _ => rfl
 | c :: l, n => by rw [lks, lks, h, lks_congr g h name l]
theorem M83_eq (F : Nat) (g : q1c) (fs : List Tx) (R : q8e g) : ∃ n, M83 F g fs = some n ∧ NetOk g fs n := by
 unfold M83
 rw [q6d, M83_L1_eq]
 simp only [q6d]
 obtain ⟨lk, fm, e1, e2, _⟩ := M83_L2_eq F g R.tl (sset (mput [] [] true) fs) (fun m14 m15 => some (q6b.mk g m14 m15)) g.Funcs [] [] [] (by intro k l h; simp [mget] at h) (fun x hx => (R.f x hx).len) (fun _ _ => rfl) R.fsrt
 rw [e1]
 refine ⟨_, rfl, rfl, fun x hx => ?_, fun x hx => ?_⟩
 ·exact (e2 x hx).1.trans (lks_congr g (has_onF fs) _ _ _)
 ·show (mget fm x.Name).getD _ = x
  rw [(e2 x hx).2]; rfl
inductive RN (g : q1c) (how : Int) (on : Tx → Bool) : Bool → Tx → Prop
 | entry {e : Tx} (h : e ∈ g.Entries) : RN g how on false e
 | aim {x : TFunc} {c : TCall} {a : q3a} (hf : RN g how on false x.Name) (hx : x ∈ g.Funcs) (hc : c ∈ x.Calls) (ho : on c.Feature = true) (ha : a ∈ aimsG g c) (hm : how ≠ 1 → a.typ ≠ [] → RN g how on true a.typ) : RN g how on false a.to
 | mk {x : TFunc} {t : Tx} (hf : RN g how on false x.Name) (hx : x ∈ g.Funcs) (ht : t ∈ x.Makes) : RN g how on true t
theorem in_names {g : q1c} {x : Tx} : fsOf g x = true ↔ ∃ f, f ∈ g.Funcs ∧ f.Name = x := by
 unfold fsOf; simp
theorem in_types {g : q1c} {x : Tx} : tsOf g x = true ↔ ∃ f, f ∈ g.Types ∧ f.Name = x := by
 unfold tsOf; simp
theorem mOf_some {t : TType} {m : Tx} (h : (mOf t m).2 = true) : ∃ y, y ∈ t.Methods ∧ y.Name = m ∧ (mOf t m).1 = y.Func := by
 unfold mOf at h ⊢
 cases hf : t.Methods.find? (fun y => y.Name == m) with
 | none => rw [hf] at h; simp at h
 | some y => exact ⟨y, List.mem_of_find?_eq_some hf, by have := List.find?_some hf; simpa using this, rfl⟩
theorem aim_fs {g : q1c} (R : q8e g) {x : TFunc} (hx : x ∈ g.Funcs) {c : TCall} (hc : c ∈ x.Calls) {a : q3a} (ha : a ∈ aimsG g c) : fsOf g a.to = true := by
 have C := (R.f x hx).calls c hc
 unfold aimsG at ha
 split at ha
 ·rename_i hk
  simp at ha; subst ha
  rcases C.kind with ⟨_, h, _⟩ | ⟨h, _⟩
  ·exact h
  ·rw [hk] at h; simp at h
 ·obtain ⟨t, ht, h⟩ := List.mem_filterMap.1 ha
  unfold aimO at h
  split at h
  ·rename_i h1
   simp at h; subst h
   obtain ⟨y, h2, _, h3⟩ := mOf_some h1.1
   show fsOf g (mOf t c.Method).1 = true
   rw [h3]; exact ((R.t t ht).mn y h2).2
  ·simp at h
theorem RN.names {g : q1c} (R : q8e g) {how : Int} {on : Tx → Bool} {b : Bool} {y : Tx} (h : RN g how on b y) : if b then tsOf g y = true else fsOf g y = true := by
 cases h with
 | entry h => exact R.e _ h
 | aim hf hx hc ho ha hm => exact aim_fs R hx hc ha
 | mk hf hx ht => exact (R.f _ hx).makes _ ht
section
variable {g : q1c} {fs : List Tx} {n : q6b} {how : Int}
end
theorem q2l {α : Type} {f : α → Tx} : ∀ {l : List α}, l.Pairwise (fun a b => Op.bytesLess (f a) (f b) = true) → ∀ {x : α}, x ∈ l → l.find? (fun y => f y == f x) = some x
 | y :: l, hp, x, hx => by
  rw [List.pairwise_cons] at hp
  rw [List.find?_cons]
  rcases List.mem_cons.1 hx with e | e
  ·subst e; simp
  ·have : (f y == f x) = false := by simpa using bl_ne (hp.1 x e)
   rw [this]; exact q2l hp.2 e
theorem ifm_get (t : Tx) (i : q2d) : ∀ (l : List q2d) (m : List (Tx × q2d)), mget (ifm m l) t = some i → (i ∈ l ∧ i.Name = t) ∨ mget m t = some i
 | [], m, h => .inr h
 | x :: l, m, h => by
  rcases ifm_get t i l _ h with h | h
  ·exact .inl ⟨List.mem_cons_of_mem _ h.1, h.2⟩
  ·rw [q2h] at h
   split at h
   ·rename_i e; simp at h; subst h; exact .inl ⟨List.mem_cons_self, e⟩
   ·exact .inr h
theorem is_iface {g : q1c} (R : q8e g) {t : Tx} {l : List Tx} (h : isOf g t = some l) : ∃ i, i ∈ g.Ifaces ∧ i.Name = t ∧ i.Methods = l ∧ g.Ifaces.find? (fun y => y.Name == t) = some i := by
 unfold isOf at h
 rw [Option.map_eq_some_iff] at h
 obtain ⟨i, h1, h2⟩ := h
 rcases ifm_get t i _ _ h1 with h | h
 ·exact ⟨i, h.1, h.2, h2, by rw [← h.2]; exact q2l (f := q2d.Name) R.isrt h.1⟩
 ·simp [mget] at h
theorem fit_iff {g : q1c} (R : q8e g) (how : Int) (fs : List Tx) {n : Tx} {i : q2d} (hf : g.Ifaces.find? (fun y => y.Name == n) = some i) (t : Int) : t ∈ fitL (wOf g how fs) n ↔ ∃ j : Nat, ∃ h : j < g.Types.length, t = j ∧ fitB g.Types[j] i = true := by
 unfold fitL wOf
 simp only
 rw [fitM_get g.Types n g.Ifaces [] R.isrt]
 simp only [mget, Option.getD_none, List.nil_append]
 rw [hf]
 show t ∈ q9j i 0 g.Types ↔ _
 rw [fitIdx_mem]
 simp
theorem fI_at {g : q1c} (R : q8e g) (how : Int) (fs : List Tx) {i : Nat} (h : i < g.Funcs.length) : fI (wOf g how fs) (g.Funcs[i]).Name = i := by
 unfold fI wOf
 simp only
 have := nums_get (g.Funcs.map (·.Name)) [] 0 i (by simpa using h) (srt_names R.fsrt)
 simp only [List.getElem_map] at this
 rw [this]; simp
theorem tI_at {g : q1c} (R : q8e g) (how : Int) (fs : List Tx) {i : Nat} (h : i < g.Types.length) : tI (wOf g how fs) (g.Types[i]).Name = i := by
 unfold tI wOf
 simp only
 have := nums_get (g.Types.map (·.Name)) [] 0 i (by simpa using h) (srt_names R.tsrt)
 simp only [List.getElem_map] at this
 rw [this]; simp
theorem fs_at {g : q1c} {x : Tx} (h : fsOf g x = true) : ∃ i : Nat, ∃ h : i < g.Funcs.length, (g.Funcs[i]).Name = x := by
 obtain ⟨f, hf, rfl⟩ := in_names.1 h
 obtain ⟨i, hi, rfl⟩ := List.getElem_of_mem hf
 exact ⟨i, hi, rfl⟩
theorem ts_at {g : q1c} {x : Tx} (h : tsOf g x = true) : ∃ i : Nat, ∃ h : i < g.Types.length, (g.Types[i]).Name = x := by
 obtain ⟨f, hf, rfl⟩ := in_types.1 h
 obtain ⟨i, hi, rfl⟩ := List.getElem_of_mem hf
 exact ⟨i, hi, rfl⟩
theorem M151_at {F : Nat} (hF : 1000 ≤ F) {g : q1c} (R : q8e g) (how : Int) (fs : List Tx) (c : TCall) {i : Nat} (hi : i < g.Types.length) : M151 F (wOf g how fs) c (i : Int) = some (fI (wOf g how fs) (mOf g.Types[i] c.Method).1) := by
 have hT := R.t g.Types[i] (List.getElem_mem _)
 unfold M151
 rw [show idx (wOf g how fs).g.Types (i : Int) = some g.Types[i] from q7g hi, Option.bind_some, M169_eq F _ _ hT.len hT.srt hF, Option.bind_some]
 rfl
theorem idx_at {α : Type} {l : List α} {f : Int} {x : α} (h : idx l f = some x) : ∃ i : Nat, ∃ hi : i < l.length, f = i ∧ l[i] = x := by
 have h1 := idx_lt h
 have h2 := idx_some h
 exact ⟨f.toNat, h1, by have := h2.1; omega, (List.getElem?_eq_some_iff.1 h2.2).2⟩
theorem dis_aim {g : q1c} (R : q8e g) {x : TFunc} (hx : x ∈ g.Funcs) {c : TCall} (hc : c ∈ x.Calls) (k : c.Kind ≠ 1) : ∃ i, i ∈ g.Ifaces ∧ g.Ifaces.find? (fun y => y.Name == c.Target) = some i ∧ ifG g c.Target = i ∧ ∀ t, fitB t i = true → (mOf t c.Method).2 = true := by
 rcases ((R.f x hx).calls c hc).kind with ⟨h, _⟩ | ⟨_, l, h1, h2⟩
 ·exact absurd h k
 ·obtain ⟨i, i1, i2, i3, i4⟩ := is_iface R h1
  refine ⟨i, i1, i4, by unfold ifG; rw [i4]; rfl, fun t ht => ?_⟩
  unfold fitB at ht
  rw [List.all_eq_true] at ht
  exact ht _ (by rw [i3]; exact h2)
theorem RR_RN {F : Nat} (hF : 1000 ≤ F) {g : q1c} (R : q8e g) {how : Int} (hh : how = 1 ∨ how = 2) {fs : List Tx} {b : Bool} {v : Int} (h : RR F (wOf g how fs) b v) :
  if b then ∃ i : Nat, ∃ h : i < g.Types.length, v = i ∧ RN g how (onF fs) true (g.Types[i]).Name else ∃ i : Nat, ∃ h : i < g.Funcs.length, v = i ∧ RN g how (onF fs) false (g.Funcs[i]).Name := by
 induction h with
 | @entry e h =>
  have h : e ∈ g.Entries := h
  obtain ⟨i, hi, he⟩ := fs_at (R.e e h)
  subst he
  show ∃ j, _
  exact ⟨i, hi, fI_at R how fs hi, .entry h⟩
 | @dir f x c hf hx hc ho k ih =>
  obtain ⟨i, hi, rfl, ih2⟩ := (show ∃ i : Nat, ∃ h : i < g.Funcs.length, f = i ∧ RN g how (onF fs) false (g.Funcs[i]).Name from ih)
  obtain ⟨i', hi', e1, e2⟩ := idx_at hx
  have : i' = i := by omega
  subst this
  have hx : g.Funcs[i'] = x := e2
  have hxm : x ∈ g.Funcs := by rw [← hx]; exact List.getElem_mem _
  rw [hx] at ih2
  have ha : q3a.mk [] c.Target ∈ aimsG g c := by unfold aimsG; rw [if_pos k]; simp
  obtain ⟨j, hj, he⟩ := fs_at (aim_fs R hxm hc ha)
  have he : (g.Funcs[j]).Name = c.Target := he
  show ∃ j, _
  refine ⟨j, hj, by rw [← he]; exact fI_at R how fs hj, ?_⟩
  rw [he]
  rw [onB_eq] at ho
  exact .aim ih2 hxm hc ho ha (fun _ h => absurd rfl h)
 | @dis f t v x c hf hx hc ho k ht hm hv ih ihm =>
  obtain ⟨i, hi, rfl, ih2⟩ := (show ∃ i : Nat, ∃ h : i < g.Funcs.length, f = i ∧ RN g how (onF fs) false (g.Funcs[i]).Name from ih)
  obtain ⟨i', hi', e1, e2⟩ := idx_at hx
  have : i' = i := by omega
  subst this
  have hx : g.Funcs[i'] = x := e2
  have hxm : x ∈ g.Funcs := by rw [← hx]; exact List.getElem_mem _
  rw [hx] at ih2
  obtain ⟨I, I1, I2, I3, I4⟩ := dis_aim R hxm hc k
  obtain ⟨j, hj, rfl, hfit⟩ := (fit_iff R how fs I2 t).1 ht
  rw [M151_at hF R how fs c hj] at hv
  simp only [Option.some.injEq] at hv
  have ha : q3a.mk (g.Types[j]).Name (mOf g.Types[j] c.Method).1 ∈ aimsG g c := by
   unfold aimsG
   rw [if_neg k]
   exact List.mem_filterMap.2 ⟨g.Types[j], List.getElem_mem _, by unfold aimO; rw [if_pos ⟨I4 _ hfit, by rw [I3]; exact hfit⟩]⟩
  obtain ⟨q, hq, he⟩ := fs_at (aim_fs R hxm hc ha)
  have he : (g.Funcs[q]).Name = (mOf g.Types[j] c.Method).1 := he
  show ∃ j, _
  refine ⟨q, hq, by rw [← hv, ← he]; exact fI_at R how fs hq, ?_⟩
  rw [he]
  rw [onB_eq] at ho
  refine .aim ih2 hxm hc ho ha (fun h1 _ => ?_)
  have hmd : (wOf g how fs).made = true := by
   have : how = 2 := hh.resolve_left h1
   simp [wOf, this]
  obtain ⟨j', hj', e1, e2⟩ := (show ∃ i : Nat, ∃ h : i < g.Types.length, (j : Int) = i ∧ RN g how (onF fs) true (g.Types[i]).Name from ihm hmd)
  have : j' = j := by omega
  subst this
  exact e2
 | @mk f x t hf hx ht ih =>
  obtain ⟨i, hi, rfl, ih2⟩ := (show ∃ i : Nat, ∃ h : i < g.Funcs.length, f = i ∧ RN g how (onF fs) false (g.Funcs[i]).Name from ih)
  obtain ⟨i', hi', e1, e2⟩ := idx_at hx
  have : i' = i := by omega
  subst this
  have hx : g.Funcs[i'] = x := e2
  have hxm : x ∈ g.Funcs := by rw [← hx]; exact List.getElem_mem _
  rw [hx] at ih2
  obtain ⟨j, hj, he⟩ := ts_at ((R.f x hxm).makes t ht)
  subst he
  show ∃ j, _
  exact ⟨j, hj, tI_at R how fs hj, .mk ih2 hxm ht⟩
theorem RN_RR {F : Nat} (hF : 1000 ≤ F) {g : q1c} (R : q8e g) {how : Int} {fs : List Tx} {b : Bool} {y : Tx} (h : RN g how (onF fs) b y) :
  if b then RR F (wOf g how fs) true (tI (wOf g how fs) y) else RR F (wOf g how fs) false (fI (wOf g how fs) y) := by
 induction h with
 | @entry e h => exact RR.entry (w := wOf g how fs) h
 | @aim x c a hf hx hc ho ha hm ih ihm =>
  have ih : RR F (wOf g how fs) false (fI (wOf g how fs) x.Name) := ih
  obtain ⟨i, hi, rfl⟩ := List.getElem_of_mem hx
  rw [fI_at R how fs hi] at ih
  have hix : idx (wOf g how fs).g.Funcs (i : Int) = some g.Funcs[i] := q7g hi
  have hon : onB (wOf g how fs) c.Feature = true := by rw [onB_eq]; exact ho
  show RR F (wOf g how fs) false _
  unfold aimsG at ha
  split at ha
  ·rename_i k
   simp at ha; subst ha
   exact .dir ih hix hc hon k
  ·rename_i k
   obtain ⟨t, ht, h⟩ := List.mem_filterMap.1 ha
   unfold aimO at h
   split at h
   ·rename_i h1
    simp only [Option.some.injEq] at h
    subst h
    obtain ⟨j, hj, rfl⟩ := List.getElem_of_mem ht
    obtain ⟨I, I1, I2, I3, I4⟩ := dis_aim R hx hc k
    refine .dis ih hix hc hon k ((fit_iff R how fs I2 (j : Int)).2 ⟨j, hj, rfl, by rw [← I3]; exact h1.2⟩) (fun hmd => ?_) (M151_at hF R how fs c hj)
    have h2 : how ≠ 1 := by intro e; simp [wOf, e] at hmd
    have h3 : (g.Types[j]).Name ≠ [] := by
     have := (R.t _ ht).nam
     intro e; rw [e] at this; simp [nm] at this
    have := ihm h2 h3
    rw [← tI_at R how fs hj]
    exact this
   ·simp at h
 | @mk x t hf hx ht ih =>
  have ih : RR F (wOf g how fs) false (fI (wOf g how fs) x.Name) := ih
  obtain ⟨i, hi, rfl⟩ := List.getElem_of_mem hx
  rw [fI_at R how fs hi] at ih
  exact RR.mk (w := wOf g how fs) ih (q7g hi) ht
theorem reach_iff {F : Nat} (hF : 1000 ≤ F) {g : q1c} (R : q8e g) {how : Int} (hh : how = 1 ∨ how = 2) (fs : List Tx) {i : Nat} (hi : i < g.Funcs.length) : RR F (wOf g how fs) false (i : Int) ↔ RN g how (onF fs) false (g.Funcs[i]).Name := by
 constructor
 ·intro h
  obtain ⟨j, hj, e, h2⟩ := (show ∃ j : Nat, ∃ h : j < g.Funcs.length, (i : Int) = j ∧ RN g how (onF fs) false (g.Funcs[j]).Name from RR_RN hF R hh h)
  have : j = i := by omega
  subst this; exact h2
 ·intro h
  have : RR F (wOf g how fs) false (fI (wOf g how fs) (g.Funcs[i]).Name) := RN_RR hF R h
  rw [fI_at R how fs hi] at this; exact this
theorem made_iff {F : Nat} (hF : 1000 ≤ F) {g : q1c} (R : q8e g) {how : Int} (hh : how = 1 ∨ how = 2) (fs : List Tx) {i : Nat} (hi : i < g.Types.length) : RR F (wOf g how fs) true (i : Int) ↔ RN g how (onF fs) true (g.Types[i]).Name := by
 constructor
 ·intro h
  obtain ⟨j, hj, e, h2⟩ := (show ∃ j : Nat, ∃ h : j < g.Types.length, (i : Int) = j ∧ RN g how (onF fs) true (g.Types[j]).Name from RR_RN hF R hh h)
  have : j = i := by omega
  subst this; exact h2
 ·intro h
  have : RR F (wOf g how fs) true (tI (wOf g how fs) (g.Types[i]).Name) := RN_RR hF R h
  rw [tI_at R how fs hi] at this; exact this
end Go.Proofs.YtpbkggamiipdmaaGreat
namespace Go.Pv
open Go Go.ChangeShapes Go.WideShapes Go.ChangeAt Go.RowKit
set_option linter.unusedVariables false
variable {P : Program} {α : Type}
theorem opens_sliceW {t e k : Nat} {ee : α → List V} {sz : List α → Nat} {ok : List α → Prop} (ht : P.underlying t = some (.slice e)) (he : Opens P t (fun l : List α => [V.lst k (l.map ee)]) sz ok) :
    Opens P t (fun l : List α => [V.lst k (l.map ee)]) sz (fun l => ok l ∧ l.length * P.bytesOf e ≤ reachBytes) := by
  intro H enc w fuel cs x h hw
  obtain ⟨l, r1, r2, r3⟩ := he enc w fuel cs x h hw
  refine ⟨l, r1, r2, r3, ?_⟩
  rcases Deep.open_slice ht h with ⟨rfl, rfl⟩ | ⟨a, len, cap, m, n, D, Pl, rfl, _, hlc, hcm, hm, rfl, hel⟩
  · have := r1.2 0 _ _ rfl rfl
    have hl : l = [] := by
      generalize hr : l.map ee = rows at this
      cases this with
      | nil => simpa using hr
    subst hl; simp
  · simp only [if_true] at hm
    subst hm
    have hl : l.length = len := by
      have := r1.2 0 _ _ rfl rfl
      generalize hr : l.map ee = rows at this
      cases this with
      | nil => have : l = [] := by simpa using hr
               subst this; rfl
      | lst f h1 h2 h3 => rw [← h3, ← hr]; simp
    unfold wOk at hw
    rw [DataW.weights] at hw
    simp only [ht, List.all_cons, List.all_append, Bool.and_eq_true, decide_eq_true_eq, List.length_map, List.length_range] at hw
    have := hw.1
    rw [hl]
    exact Nat.le_trans (Nat.mul_le_mul_right _ (by omega)) this
end Go.Pv
namespace Go.Proofs.YtpbkggamiipdmaaGreat
open Go Go.Pv
set_option linter.unusedVariables false
def pick {α : Type} (f : α → Tx) : List α → List Bool → List Tx
 | x :: xs, b :: l => if b = true then f x :: pick f xs l else pick f xs l
 | _, _ => []
theorem pick_sub {α : Type} (f : α → Tx) : ∀ (xs : List α) (l : List Bool), (pick f xs l).Sublist (xs.map f)
 | [], l => by cases l <;> simp [pick]
 | x :: xs, [] => by simp [pick]
 | x :: xs, b :: l => by
  rw [pick, List.map_cons]
  split
  ·exact (pick_sub f xs l).cons_cons _
  ·exact (pick_sub f xs l).cons _
theorem pick_mem {α : Type} (f : α → Tx) (s : Tx) : ∀ (xs : List α) (l : List Bool), s ∈ pick f xs l ↔ ∃ i : Nat, ∃ h : i < xs.length, tru l i ∧ f xs[i] = s
 | [], l => by cases l <;> simp [pick]
 | x :: xs, [] => by simp [pick, tru]
 | x :: xs, b :: l => by
  have ih := pick_mem f s xs l
  have tl : ∀ i, tru (b :: l) (i + 1) ↔ tru l i := fun i => by unfold tru; rw [List.getElem?_cons_succ]
  have key : (∃ i : Nat, ∃ h : i < (x :: xs).length, tru (b :: l) i ∧ f (x :: xs)[i] = s) ↔ (b = true ∧ f x = s) ∨ ∃ i : Nat, ∃ h : i < xs.length, tru l i ∧ f xs[i] = s := by
   constructor
   ·rintro ⟨i, h, h1, h2⟩
    cases i with
    | zero => exact .inl ⟨by simpa [tru] using h1, h2⟩
    | succ i => exact .inr ⟨i, by simpa using h, (tl i).1 h1, h2⟩
   ·rintro (⟨h1, h2⟩ | ⟨i, h, h1, h2⟩)
    ·exact ⟨0, by simp, by simp [tru, h1], h2⟩
    ·exact ⟨i + 1, by simpa using h, (tl i).2 h1, h2⟩
  rw [key, pick]
  split
  ·rename_i hb; rw [List.mem_cons, ih]; simp [hb, eq_comm]
  ·rename_i hb; rw [ih]; simp [hb]
theorem drop_cons {α : Type} {xs : List α} {n : Nat} (h : n < xs.length) : xs.drop n = xs[n] :: xs.drop (n + 1) := by simp
theorem pick_loop {α : Type} (xs : List α) (f : α → Tx) (hx : xs.length ≤ 3000) {R : Type} (k : List Tx → Option R) (L : List Bool → Int → List Tx → Option R)
  (h0 : ∀ n o, L [] n o = k o) (h1 : ∀ b l (n : Nat) o, L (b :: l) n o = if b = true then (idx xs (n : Int)).bind fun x => if (o ++ [f x]).length * 16 ≤ 140737488355328 then L l ((n + 1 : Nat) : Int) (o ++ [f x]) else none else L l ((n + 1 : Nat) : Int) o) :
  ∀ (l : List Bool) (n : Nat) (o : List Tx), n + l.length ≤ xs.length → o.length ≤ n → L l n o = k (o ++ pick f (xs.drop n) l)
 | [], n, o, _, _ => by
  rw [h0]
  cases hd : xs.drop n <;> simp [pick]
 | b :: l, n, o, hn, ho => by
  simp only [List.length_cons] at hn
  have hlt : n < xs.length := by omega
  rw [h1, drop_cons hlt, pick]
  by_cases hb : b = true
  ·rw [if_pos hb, if_pos hb, q7g hlt, Option.bind_some, if_pos (by simp; omega), pick_loop xs f hx k L h0 h1 l (n + 1) _ (by omega) (by simp; omega)]
   simp
  ·rw [if_neg hb, if_neg hb, pick_loop xs f hx k L h0 h1 l (n + 1) _ (by omega) (by omega)]
theorem M25_full (F : Nat) (g : q1c) (how : Int) (fs : List Tx) (hg : q8k g) (hfs : ∀ x, x ∈ fs → x.length ≤ maxLen) (hF : 10000 ≤ F) (h0 : opnE g how fs = 0) (R : q8e g) (hh : how = 1 ∨ how = 2) :
  ∃ sp : q7d, (∀ (r : Type) (k : q7a → q7d → Option r), ((M78 F g how fs).bind fun y4 => (y4.1).bind fun x7 => (M89 F x7 (-1)).bind fun y9 => y9.bind fun x11 => k x7 x11) = k (wOf g how fs) sp) ∧ sp.funcs.length = g.Funcs.length ∧ sp.made.length = g.Types.length ∧
   (∀ i : Nat, ∀ h : i < g.Funcs.length, tru sp.funcs i ↔ RN g how (onF fs) false (g.Funcs[i]).Name) ∧ ∀ i : Nat, ∀ h : i < g.Types.length, tru sp.made i ↔ RN g how (onF fs) true (g.Types[i]).Name := by
 obtain ⟨sp, s1, s2, s3, s4, s5⟩ := spread_eq (wok (F := F) (by omega) R how fs) hF
 refine ⟨sp, fun r k => ?_, s2, s3, fun i h => ?_, fun i h => ?_⟩
 ·rw [M78_eq F g how fs hg hfs (by omega), h0, Option.bind_some, if_neg (by simp), Option.bind_some, s1, Option.bind_some, Option.bind_some]
 ·rw [s4, ← reach_iff (F := F) (by omega) R hh fs h]
  exact ⟨fun q => q.2, fun q => ⟨h, q⟩⟩
 ·rw [s5, ← made_iff (F := F) (by omega) R hh fs h]
  exact ⟨fun q => q.2, fun q => ⟨h, q⟩⟩
theorem opn_parts {g : q1c} {how : Int} {fs : List Tx} (h : opnE g how fs = 0) : q8e g ∧ (how = 1 ∨ how = 2) := by
 unfold opnE at h
 split at h
 ·rename_i h1; exact absurd h h1
 ·rename_i h1
  split at h
  ·rename_i h2; exact absurd h h2
  ·split at h
   ·rename_i h3; exact ⟨right_of (by simpa using h1), h3⟩
   ·simp at h
theorem cpt_memI (l : List Int) (x : Int) : x ∈ cpt l ↔ x ∈ l := by
 unfold cpt Lib.compact Lib.compactUpTo
 rw [List.mem_map]
 constructor
 ·rintro ⟨j, hj, rfl⟩
  have hlt := List.mem_range.1 (List.mem_filter.1 hj).1
  rw [getElem!_pos l.toArray j (by simpa using hlt)]
  simp
 ·intro hx
  have key : ∀ j, j < l.length → ∃ i, i ≤ j ∧ Lib.keeps l.toArray i = true ∧ l.toArray[i]! = l.toArray[j]! := by
   intro j
   induction j with
   | zero => exact fun _ => ⟨0, Nat.le_refl _, by simp [Lib.keeps], rfl⟩
   | succ j ih =>
    intro hj
    by_cases he : l.toArray[j + 1]! = l.toArray[j]!
    ·obtain ⟨i, h1, h2, h3⟩ := ih (by omega)
     exact ⟨i, by omega, h2, h3.trans he.symm⟩
    ·exact ⟨j + 1, Nat.le_refl _, by simp only [Lib.keeps, Nat.add_sub_cancel]; exact decide_eq_true (.inr he), rfl⟩
  obtain ⟨j, hj, rfl⟩ := List.getElem_of_mem hx
  obtain ⟨i, h1, h2, h3⟩ := key j hj
  refine ⟨i, List.mem_filter.2 ⟨List.mem_range.2 (by omega), h2⟩, ?_⟩
  rw [h3, getElem!_pos l.toArray j (by simpa using hj)]
  simp
theorem cpt_srtI {l : List Int} (h : l.Pairwise (· ≤ ·)) : (cpt l).Pairwise (· < ·) := by
 unfold cpt Lib.compact Lib.compactUpTo
 rw [List.pairwise_map]
 have hr : ((List.range l.length).filter (Lib.keeps l.toArray)).Pairwise (· < ·) := List.pairwise_lt_range.filter _
 refine List.Pairwise.imp_of_mem ?_ hr
 intro i j hi hj hlt
 have hj1 := List.mem_range.1 (List.mem_filter.1 hj).1
 have hj2 := (List.mem_filter.1 hj).2
 simp only [Lib.keeps, decide_eq_true_eq] at hj2
 have hne : l.toArray[j]! ≠ l.toArray[j - 1]! := hj2.resolve_left (by omega)
 rw [getElem!_pos l.toArray j (by simpa using hj1), getElem!_pos l.toArray (j - 1) (by simp; omega)] at hne
 rw [getElem!_pos l.toArray i (by simp; omega), getElem!_pos l.toArray j (by simpa using hj1)]
 simp only [List.getElem_toArray] at hne ⊢
 rw [List.pairwise_iff_getElem] at h
 have a1 : l[j - 1] ≤ l[j] := h (j - 1) j (by omega) hj1 (by omega)
 have a2 : l[i] ≤ l[j - 1] := by
  by_cases e : i = j - 1
  ·subst e; exact Int.le_refl _
  ·exact h i (j - 1) (by omega) (by omega) (by omega)
 omega
theorem q5k (l : List Int) : (isort l).Perm l := List.mergeSort_perm _ _
theorem isort_srt (l : List Int) : (isort l).Pairwise (· ≤ ·) := by
 have := List.pairwise_mergeSort (le := fun x y : Int => decide (x ≤ y)) (fun a b c h h' => by simp only [decide_eq_true_eq] at *; omega) (fun a b => by simp only [Bool.or_eq_true, decide_eq_true_eq]; omega) l
 exact this.imp (fun h => by simpa using h)
theorem M92_L1_eq (F : Nat) (w : q7a) (c : TCall) (k : List Int → Option (List Int)) (f : Int → Int) : ∀ (l : List Int) (o : List Int), (∀ t, t ∈ l → M151 F w c t = some (f t)) → o.length + l.length ≤ 100000 → M92_L1 F w c k l o = k (o ++ l.map f)
 | [], o, _, _ => by simp [M92_L1]
 | t :: l, o, h, hl => by
  simp only [List.length_cons] at hl
  rw [M92_L1, h t (by simp), Option.bind_some, if_pos (by simp; omega), M92_L1_eq F w c k f l _ (fun t ht => h t (List.mem_cons_of_mem _ ht)) (by simp; omega)]
  simp
structure TgtOk (g : q1c) (c : TCall) (l : List Int) : Prop where
 srt : l.Pairwise (· < ·)
 len : l.length ≤ 500
 nat : ∀ v, v ∈ l → ∃ i : Nat, i < g.Funcs.length ∧ v = i
 mem : ∀ i : Nat, ∀ h : i < g.Funcs.length, (i : Int) ∈ l ↔ ∃ a, a ∈ aimsG g c ∧ a.to = (g.Funcs[i]).Name
theorem cpt_lenI (l : List Int) : (cpt l).length ≤ l.length := cpt_len l
theorem M92_eq (F : Nat) (hF : 1000 ≤ F) {g : q1c} (R : q8e g) (how : Int) (fs : List Tx) {x : TFunc} (hx : x ∈ g.Funcs) {c : TCall} (hc : c ∈ x.Calls) : ∃ l, M92 F (wOf g how fs) c = some l ∧ TgtOk g c l := by
 unfold M92
 by_cases k : c.Kind = 1
 ·rw [if_pos (by simp [k])]
  have ha : q3a.mk [] c.Target ∈ aimsG g c := by unfold aimsG; rw [if_pos k]; simp
  obtain ⟨i, hi, he⟩ := fs_at (aim_fs R hx hc ha)
  have he : (g.Funcs[i]).Name = c.Target := he
  have hf : (mget (wOf g how fs).funcs c.Target).getD 0 = (i : Int) := by rw [← he]; exact fI_at R how fs hi
  refine ⟨_, rfl, by simp, by simp, fun v hv => ?_, fun j hj => ?_⟩
  ·simp only [List.mem_singleton] at hv; rw [hf] at hv; exact ⟨i, hi, hv⟩
  ·simp only [List.mem_singleton]
   rw [hf]
   unfold aimsG
   rw [if_pos k]
   simp only [List.mem_singleton]
   constructor
   ·intro h
    have : j = i := by omega
    subst this
    exact ⟨_, rfl, he.symm⟩
   ·rintro ⟨a, rfl, h⟩
    have h : c.Target = (g.Funcs[j]).Name := h
    have h1 := fI_at R how fs hj
    rw [← h, ← he, fI_at R how fs hi] at h1
    omega
 ·rw [if_neg (by simpa using k), q6d]
  obtain ⟨I, I1, I2, I3, I4⟩ := dis_aim R hx hc k
  have hfit : ∀ t, t ∈ fitL (wOf g how fs) c.Target ↔ ∃ j : Nat, ∃ h : j < g.Types.length, t = j ∧ fitB g.Types[j] I = true := fit_iff R how fs I2
  have hlen : (fitL (wOf g how fs) c.Target).length ≤ 500 := by
   have e : fitL (wOf g how fs) c.Target = q9j I 0 g.Types := by
    unfold fitL wOf
    simp only
    rw [fitM_get g.Types c.Target g.Ifaces [] R.isrt]
    simp only [mget, Option.getD_none, List.nil_append]
    rw [I2]; rfl
   rw [e]
   have := fitIdx_len I g.Types 0
   have := R.tl
   omega
  let f : Int → Int := fun t => fI (wOf g how fs) (mOf (g.Types.getD t.toNat (TType.mk [] [])) c.Method).1
  have hm : ∀ t, t ∈ fitL (wOf g how fs) c.Target → M151 F (wOf g how fs) c t = some (f t) := by
   intro t ht
   obtain ⟨j, hj, rfl, _⟩ := (hfit t).1 ht
   rw [M151_at hF R how fs c hj]
   simp only [f, Int.toNat_natCast, List.getD_eq_getElem?_getD, List.getElem?_eq_getElem hj, Option.getD_some]
  have e := M92_L1_eq F (wOf g how fs) c (fun l5 => (M152 F l5).bind fun y17 => if y17.length = l5.length then (M153 F y17).bind fun y20 => some y20 else none) f (fitL (wOf g how fs) c.Target) [] hm (by simp; omega)
  refine ⟨cpt (isort ((fitL (wOf g how fs) c.Target).map f)), ?_, cpt_srtI (isort_srt _), ?_, ?_, ?_⟩
  ·refine e.trans ?_
   simp only [List.nil_append]
   unfold M152
   rw [if_pos (by simp; omega), Option.bind_some, if_pos (q5k _).length_eq]
   unfold M153
   rw [if_pos (by rw [(q5k _).length_eq]; simp; omega), Option.bind_some]
  ·have := cpt_lenI (isort ((fitL (wOf g how fs) c.Target).map f))
   rw [(q5k _).length_eq, List.length_map] at this
   omega
  ·intro v hv
   rw [cpt_memI, (q5k _).mem_iff] at hv
   obtain ⟨t, ht, rfl⟩ := List.mem_map.1 hv
   obtain ⟨j, hj, rfl, hft⟩ := (hfit t).1 ht
   have ha : q3a.mk (g.Types[j]).Name (mOf g.Types[j] c.Method).1 ∈ aimsG g c := by
    unfold aimsG
    rw [if_neg k]
    exact List.mem_filterMap.2 ⟨g.Types[j], List.getElem_mem _, by unfold aimO; rw [if_pos ⟨I4 _ hft, by rw [I3]; exact hft⟩]⟩
   obtain ⟨q, hq, he⟩ := fs_at (aim_fs R hx hc ha)
   have he : (g.Funcs[q]).Name = (mOf g.Types[j] c.Method).1 := he
   refine ⟨q, hq, ?_⟩
   simp only [f, Int.toNat_natCast, List.getD_eq_getElem?_getD, List.getElem?_eq_getElem hj, Option.getD_some]
   rw [← he]; exact fI_at R how fs hq
  ·intro i hi
   rw [cpt_memI, (q5k _).mem_iff, List.mem_map]
   constructor
   ·rintro ⟨t, ht, he⟩
    obtain ⟨j, hj, rfl, hft⟩ := (hfit t).1 ht
    have ha : q3a.mk (g.Types[j]).Name (mOf g.Types[j] c.Method).1 ∈ aimsG g c := by
     unfold aimsG
     rw [if_neg k]
     exact List.mem_filterMap.2 ⟨g.Types[j], List.getElem_mem _, by unfold aimO; rw [if_pos ⟨I4 _ hft, by rw [I3]; exact hft⟩]⟩
    obtain ⟨q, hq, hqe⟩ := fs_at (aim_fs R hx hc ha)
    have hqe : (g.Funcs[q]).Name = (mOf g.Types[j] c.Method).1 := hqe
    simp only [f, Int.toNat_natCast, List.getD_eq_getElem?_getD, List.getElem?_eq_getElem hj, Option.getD_some] at he
    rw [← hqe, fI_at R how fs hq] at he
    have : q = i := by omega
    subst this
    exact ⟨_, ha, hqe.symm⟩
   ·rintro ⟨a, ha, he⟩
    unfold aimsG at ha
    rw [if_neg k] at ha
    obtain ⟨t, ht, h⟩ := List.mem_filterMap.1 ha
    unfold aimO at h
    split at h
    ·rename_i h1
     simp only [Option.some.injEq] at h
     subst h
     obtain ⟨j, hj, rfl⟩ := List.getElem_of_mem ht
     refine ⟨j, (hfit _).2 ⟨j, hj, rfl, by rw [← I3]; exact h1.2⟩, ?_⟩
     simp only [f, Int.toNat_natCast, List.getD_eq_getElem?_getD, List.getElem?_eq_getElem hj, Option.getD_some]
     have he : (mOf g.Types[j] c.Method).1 = (g.Funcs[i]).Name := he
     rw [he]; exact fI_at R how fs hi
    ·simp at h
theorem M105_gen (F : Nat) (hF : 10000 ≤ F) (m : SetM) (hn : (m.map (·.1)).Nodup) (hl : m.length ≤ 5000) : ∃ r, M105 F m = some r ∧ r.Pairwise (fun a b => Op.bytesLess a b = true) ∧ ∀ x, x ∈ r ↔ x ∈ m.map (·.1) := by
 unfold M105
 rw [M105_L1_eq, if_pos (by simp; omega), M161_eq, List.nil_append, if_pos (okN_of 13 F _ (by simp; omega) (by simp; omega) (by simp; omega))]
 exact ⟨_, rfl, lt_of_sorted (srtT_srt _) ((q3k _).nodup_iff.2 hn), fun x => (q3k _).mem_iff⟩
theorem nums_none {l : List Tx} {x : Tx} (h : x ∉ l) : mget (nums [] 0 l) x = none := by rw [nums_other x l [] 0 h]; rfl
theorem fget_at {g : q1c} (R : q8e g) (how : Int) (fs : List Tx) {i : Nat} (hi : i < g.Funcs.length) : mget (wOf g how fs).funcs (g.Funcs[i]).Name = some (i : Int) := by
 show mget (nums [] 0 (g.Funcs.map (·.Name))) _ = _
 have := nums_get (g.Funcs.map (·.Name)) [] 0 i (by simpa using hi) (srt_names R.fsrt)
 simp only [List.getElem_map] at this
 rw [this]; simp
theorem fget_none {g : q1c} (how : Int) (fs : List Tx) {x : Tx} (h : fsOf g x = false) : mget (wOf g how fs).funcs x = none := nums_none (by simpa [fsOf] using h)
def CallOk (g : q1c) (c : TCall) : Prop := (∀ a, a ∈ aimsG g c → fsOf g a.to = true) ∧ (c.Kind ≠ 1 → ∃ i, i ∈ g.Ifaces ∧ g.Ifaces.find? (fun y => y.Name == c.Target) = some i ∧ ifG g c.Target = i ∧ ∀ t, fitB t i = true → (mOf t c.Method).2 = true)
theorem CallOk.of {g : q1c} (R : q8e g) {x : TFunc} (hx : x ∈ g.Funcs) {c : TCall} (hc : c ∈ x.Calls) : CallOk g c := ⟨fun _ ha => aim_fs R hx hc ha, fun k => dis_aim R hx hc k⟩
def ocall (o : q6a) : TCall := TCall.mk (if o.Method = [] then 1 else 2) o.Target o.Method []
def outOk (g : q1c) (o : q6a) : Bool := if o.Method = [] then fsOf g o.Target else g.Ifaces.any fun i => i.Name == o.Target && i.Methods.contains o.Method
def sumOk (g : q1c) (s : q5a) : Bool := (s.Func :: s.Within).all (fsOf g) && s.Outer.all (outOk g)
theorem CallOk.outer {g : q1c} (R : q8e g) {o : q6a} (h : outOk g o = true) : CallOk g (ocall o) := by
 unfold outOk at h
 split at h
 ·rename_i he
  have hk : (ocall o).Kind = 1 := by unfold ocall; rw [if_pos he]
  refine ⟨fun a ha => ?_, fun k => absurd hk k⟩
  unfold aimsG at ha
  rw [if_pos hk] at ha
  simp only [List.mem_singleton] at ha
  subst ha; exact h
 ·rename_i he
  have hk : (ocall o).Kind ≠ 1 := by unfold ocall; rw [if_neg he]; exact (by decide : (2 : Int) ≠ 1)
  obtain ⟨i, hi, hh⟩ := List.any_eq_true.1 h
  rw [Bool.and_eq_true, beq_iff_eq] at hh
  refine ⟨fun a ha => ?_, fun _ => ⟨i, hi, ?_, ?_, fun t ht => ?_⟩⟩
  ·unfold aimsG at ha
   rw [if_neg hk] at ha
   obtain ⟨t, ht, h⟩ := List.mem_filterMap.1 ha
   unfold aimO at h
   split at h
   ·rename_i h1
    simp at h; subst h
    obtain ⟨y, h2, _, h3⟩ := mOf_some h1.1
    show fsOf g (mOf t (ocall o).Method).1 = true
    rw [h3]; exact ((R.t t ht).mn y h2).2
   ·simp at h
  ·show g.Ifaces.find? (fun y => y.Name == o.Target) = some i
   rw [← hh.1]; exact q2l (f := q2d.Name) R.isrt hi
  ·show ifG g o.Target = i
   unfold ifG
   rw [← hh.1, q2l (f := q2d.Name) R.isrt hi]; rfl
  ·unfold fitB at ht
   rw [List.all_eq_true] at ht
   exact ht o.Method (by simpa using hh.2)
theorem M92_gen (F : Nat) (hF : 1000 ≤ F) {g : q1c} (R : q8e g) (how : Int) (fs : List Tx) {c : TCall} (H : CallOk g c) : ∃ l, M92 F (wOf g how fs) c = some l ∧ TgtOk g c l := by
 unfold M92
 by_cases k : c.Kind = 1
 ·rw [if_pos (by simp [k])]
  have ha : q3a.mk [] c.Target ∈ aimsG g c := by unfold aimsG; rw [if_pos k]; simp
  obtain ⟨i, hi, he⟩ := fs_at (H.1 _ ha)
  have he : (g.Funcs[i]).Name = c.Target := he
  have hf : (mget (wOf g how fs).funcs c.Target).getD 0 = (i : Int) := by rw [← he]; exact fI_at R how fs hi
  refine ⟨_, rfl, by simp, by simp, fun v hv => ?_, fun j hj => ?_⟩
  ·simp only [List.mem_singleton] at hv; rw [hf] at hv; exact ⟨i, hi, hv⟩
  ·simp only [List.mem_singleton]
   rw [hf]
   unfold aimsG
   rw [if_pos k]
   simp only [List.mem_singleton]
   constructor
   ·intro h
    have : j = i := by omega
    subst this
    exact ⟨_, rfl, he.symm⟩
   ·rintro ⟨a, rfl, h⟩
    have h : c.Target = (g.Funcs[j]).Name := h
    have h1 := fI_at R how fs hj
    rw [← h, ← he, fI_at R how fs hi] at h1
    omega
 ·rw [if_neg (by simpa using k), q6d]
  obtain ⟨I, I1, I2, I3, I4⟩ := H.2 k
  have hfit : ∀ t, t ∈ fitL (wOf g how fs) c.Target ↔ ∃ j : Nat, ∃ h : j < g.Types.length, t = j ∧ fitB g.Types[j] I = true := fit_iff R how fs I2
  have hlen : (fitL (wOf g how fs) c.Target).length ≤ 500 := by
   have e : fitL (wOf g how fs) c.Target = q9j I 0 g.Types := by
    unfold fitL wOf
    simp only
    rw [fitM_get g.Types c.Target g.Ifaces [] R.isrt]
    simp only [mget, Option.getD_none, List.nil_append]
    rw [I2]; rfl
   rw [e]
   have := fitIdx_len I g.Types 0
   have := R.tl
   omega
  let f : Int → Int := fun t => fI (wOf g how fs) (mOf (g.Types.getD t.toNat (TType.mk [] [])) c.Method).1
  have hm : ∀ t, t ∈ fitL (wOf g how fs) c.Target → M151 F (wOf g how fs) c t = some (f t) := by
   intro t ht
   obtain ⟨j, hj, rfl, _⟩ := (hfit t).1 ht
   rw [M151_at hF R how fs c hj]
   simp only [f, Int.toNat_natCast, List.getD_eq_getElem?_getD, List.getElem?_eq_getElem hj, Option.getD_some]
  have e := M92_L1_eq F (wOf g how fs) c (fun l5 => (M152 F l5).bind fun y17 => if y17.length = l5.length then (M153 F y17).bind fun y20 => some y20 else none) f (fitL (wOf g how fs) c.Target) [] hm (by simp; omega)
  refine ⟨cpt (isort ((fitL (wOf g how fs) c.Target).map f)), ?_, cpt_srtI (isort_srt _), ?_, ?_, ?_⟩
  ·refine e.trans ?_
   simp only [List.nil_append]
   unfold M152
   rw [if_pos (by simp; omega), Option.bind_some, if_pos (q5k _).length_eq]
   unfold M153
   rw [if_pos (by rw [(q5k _).length_eq]; simp; omega), Option.bind_some]
  ·have := cpt_lenI (isort ((fitL (wOf g how fs) c.Target).map f))
   rw [(q5k _).length_eq, List.length_map] at this
   omega
  ·intro v hv
   rw [cpt_memI, (q5k _).mem_iff] at hv
   obtain ⟨t, ht, rfl⟩ := List.mem_map.1 hv
   obtain ⟨j, hj, rfl, hft⟩ := (hfit t).1 ht
   have ha : q3a.mk (g.Types[j]).Name (mOf g.Types[j] c.Method).1 ∈ aimsG g c := by
    unfold aimsG
    rw [if_neg k]
    exact List.mem_filterMap.2 ⟨g.Types[j], List.getElem_mem _, by unfold aimO; rw [if_pos ⟨I4 _ hft, by rw [I3]; exact hft⟩]⟩
   obtain ⟨q, hq, he⟩ := fs_at (H.1 _ ha)
   have he : (g.Funcs[q]).Name = (mOf g.Types[j] c.Method).1 := he
   refine ⟨q, hq, ?_⟩
   simp only [f, Int.toNat_natCast, List.getD_eq_getElem?_getD, List.getElem?_eq_getElem hj, Option.getD_some]
   rw [← he]; exact fI_at R how fs hq
  ·intro i hi
   rw [cpt_memI, (q5k _).mem_iff, List.mem_map]
   constructor
   ·rintro ⟨t, ht, he⟩
    obtain ⟨j, hj, rfl, hft⟩ := (hfit t).1 ht
    have ha : q3a.mk (g.Types[j]).Name (mOf g.Types[j] c.Method).1 ∈ aimsG g c := by
     unfold aimsG
     rw [if_neg k]
     exact List.mem_filterMap.2 ⟨g.Types[j], List.getElem_mem _, by unfold aimO; rw [if_pos ⟨I4 _ hft, by rw [I3]; exact hft⟩]⟩
    obtain ⟨q, hq, hqe⟩ := fs_at (H.1 _ ha)
    have hqe : (g.Funcs[q]).Name = (mOf g.Types[j] c.Method).1 := hqe
    simp only [f, Int.toNat_natCast, List.getD_eq_getElem?_getD, List.getElem?_eq_getElem hj, Option.getD_some] at he
    rw [← hqe, fI_at R how fs hq] at he
    have : q = i := by omega
    subst this
    exact ⟨_, ha, hqe.symm⟩
   ·rintro ⟨a, ha, he⟩
    unfold aimsG at ha
    rw [if_neg k] at ha
    obtain ⟨t, ht, h⟩ := List.mem_filterMap.1 ha
    unfold aimO at h
    split at h
    ·rename_i h1
     simp only [Option.some.injEq] at h
     subst h
     obtain ⟨j, hj, rfl⟩ := List.getElem_of_mem ht
     refine ⟨j, (hfit _).2 ⟨j, hj, rfl, by rw [← I3]; exact h1.2⟩, ?_⟩
     simp only [f, Int.toNat_natCast, List.getD_eq_getElem?_getD, List.getElem?_eq_getElem hj, Option.getD_some]
     have he : (mOf g.Types[j] c.Method).1 = (g.Funcs[i]).Name := he
     rw [he]; exact fI_at R how fs hi
    ·simp at h
theorem M194_eq (F : Nat) (x : q2d) (a b : Tx) : M194 F x a b = some (x.Name == a && x.Methods.contains b) := by
 unfold M194
 by_cases h : x.Name = a
 ·rw [if_pos (by simpa using h), M23_eq, Option.bind_some]; simp [h]
 ·rw [if_neg (by simpa using h)]; simp [h]
theorem M246_eq (F : Nat) (a b : Tx) : ∀ (l : List q2d) (n : Nat), ∃ r, M246_L1 F a b (some (-1)) l (n : Int) = some r ∧ decide (r ≥ 0) = l.any fun i => i.Name == a && i.Methods.contains b
 | [], n => ⟨-1, rfl, rfl⟩
 | x :: l, n => by
  rw [M246_L1, M194_eq, Option.bind_some, List.any_cons]
  cases h : (x.Name == a && x.Methods.contains b)
  ·obtain ⟨r, e1, e2⟩ := M246_eq F a b l (n + 1)
   exact ⟨r, by simpa using e1, by simpa using e2⟩
  ·exact ⟨n, by simp, by simp⟩
theorem M147_eq (F : Nat) (w : q7a) (a b : Tx) : M147 F w a b = some (w.g.Ifaces.any fun i => i.Name == a && i.Methods.contains b) := by
 unfold M147 M193 M246
 rw [q6d]
 obtain ⟨r, e1, e2⟩ := M246_eq F a b w.g.Ifaces 0
 rw [show ((0 : Nat) : Int) = 0 from rfl] at e1
 rw [e1, Option.bind_some, e2]; rfl
section
variable {g : q1c} {fs : List Tx} {F : Nat}
theorem fget_isSome (R : q8e g) (how : Int) (fs : List Tx) (x : Tx) : (mget (wOf g how fs).funcs x).isSome = fsOf g x := by
 cases h : fsOf g x
 ·rw [fget_none how fs h]; rfl
 ·obtain ⟨i, hi, rfl⟩ := fs_at h
  rw [fget_at R how fs hi]; rfl
theorem M87_L2_eq (R : q8e g) (how : Int) (fs : List Tx) (k : Option Int) : ∀ l : List q6a, M87_L2 F (wOf g how fs) k l = if l.all (outOk g) = true then k else some 4
 | [] => rfl
 | o :: l => by
  rw [M87_L2, q6d, List.all_cons, fget_isSome R, M147_eq, M87_L2_eq R how fs k l]
  simp only [Option.bind_some]
  by_cases h : o.Method = []
  ·have h1 : (o.Method == ([] : Tx)) = true := by simpa using h
   have e : outOk g o = fsOf g o.Target := by unfold outOk; rw [if_pos h]
   simp only [e, h1, if_true]
   cases fsOf g o.Target <;> simp
  ·have h1 : (o.Method == ([] : Tx)) = false := by simpa using h
   have hw : (wOf g how fs).g.Ifaces = g.Ifaces := rfl
   have e : outOk g o = g.Ifaces.any fun i => i.Name == o.Target && i.Methods.contains o.Method := by unfold outOk; rw [if_neg h]
   simp only [e, h1, if_false, Bool.not_false, Bool.false_eq_true, if_true, hw]
   cases (g.Ifaces.any fun i => i.Name == o.Target && i.Methods.contains o.Method) <;> simp
theorem M87_L1_eq (R : q8e g) (how : Int) (fs : List Tx) (k : Option Int) : ∀ l : List Tx, M87_L1 F (wOf g how fs) k l = if l.all (fsOf g) = true then k else some 4
 | [] => rfl
 | x :: l => by
  rw [M87_L1, List.all_cons, fget_isSome R, M87_L1_eq R how fs k l]
  cases fsOf g x <;> simp
theorem M87_eq (R : q8e g) (how : Int) (fs : List Tx) (s : q5a) (m : List (Tx × q5a)) (h : s.Within.length ≤ 1048576) : M87 F (wOf g how fs) s m = some (if sumOk g s = true then if (mget m s.Func).isSome = true then 5 else 0 else 4) := by
 unfold M87
 rw [if_pos (by simp; omega), q6d, q6d, M87_L1_eq R, M87_L2_eq R]
 unfold sumOk
 rw [show [s.Func] ++ s.Within = s.Func :: s.Within from rfl]
 cases (s.Func :: s.Within).all (fsOf g) <;> cases s.Outer.all (outOk g) <;> cases (mget m s.Func).isSome <;> rfl
def knE (g : q1c) : List q5a → List (Tx × q5a) → Int
 | [], _ => 0
 | s :: l, m => if sumOk g s = true then if (mget m s.Func).isSome = true then 5 else knE g l (mput m s.Func s) else 4
def knM : List q5a → List (Tx × q5a) → List (Tx × q5a)
 | [], m => m
 | s :: l, m => knM l (mput m s.Func s)
theorem knE_append : ∀ (l l' : List q5a) (m : List (Tx × q5a)), knE g (l ++ l') m = if knE g l m ≠ 0 then knE g l m else knE g l' (knM l m)
 | [], l', m => rfl
 | s :: l, l', m => by
  rw [List.cons_append, knE, knE, knE_append l l', knM]
  cases sumOk g s
  ·rfl
  ·cases (mget m s.Func).isSome <;> rfl
theorem knM_append : ∀ (l l' : List q5a) (m : List (Tx × q5a)), knM (l ++ l') m = knM l' (knM l m)
 | [], l', m => rfl
 | s :: l, l', m => by rw [List.cons_append, knM, knM_append l l', knM]
theorem kn_get (x : Tx) (s : q5a) : ∀ (l : List q5a) (m : List (Tx × q5a)), knE g l m = 0 → mget (knM l m) x = some s → (s ∈ l ∧ sumOk g s = true ∧ s.Func = x) ∨ mget m x = some s
 | [], m, _, h => .inr h
 | t :: l, m, h0, h => by
  rw [knE] at h0
  split at h0
  ·rename_i h1
   split at h0
   ·simp at h0
   ·rcases kn_get x s l _ h0 h with h2 | h2
    ·exact .inl ⟨List.mem_cons_of_mem _ h2.1, h2.2⟩
    ·rw [q2h] at h2
     split at h2
     ·rename_i e
      simp only [Option.some.injEq] at h2; subst h2
      exact .inl ⟨by simp, h1, e⟩
     ·exact .inr h2
  ·simp at h0
theorem M24_L2_eq (R : q8e g) (how : Int) (fs : List Tx) (k : List (Tx × q5a) → Option (List Tx × Int)) : ∀ (l : List q5a) (m : List (Tx × q5a)), (∀ s, s ∈ l → s.Within.length ≤ 1048576) →
  M24_L2 F (wOf g how fs) k l m = if knE g l m ≠ 0 then some ([], knE g l m) else k (knM l m)
 | [], m, _ => rfl
 | s :: l, m, h => by
  rw [M24_L2, M87_eq R how fs s m (h s (by simp)), Option.bind_some, M24_L2_eq R how fs k l _ (fun t ht => h t (List.mem_cons_of_mem _ ht)), knE, knM]
  cases sumOk g s
  ·rfl
  ·cases (mget m s.Func).isSome <;> rfl
end
end Go.Proofs.YtpbkggamiipdmaaGreat
