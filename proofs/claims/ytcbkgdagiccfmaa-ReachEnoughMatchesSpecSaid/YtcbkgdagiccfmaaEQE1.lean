/- Part of the proof: QV, QX, QN1, QN2, QN3, QP5, QE1. -/
import Derived.Test.YtcbkgdagiccfmaaEQU
import Derived.Test.YtcbkgdagiccfmaaEQB
namespace Go.Proofs.Ytcbkgdagiccfmaa
open Go Go.Pv
set_option linter.unusedVariables false
set_option linter.unusedSimpArgs false
set_option maxRecDepth 100000
abbrev K5 := List Bool → List Bool → List (Treach_slot × Bool) → List Treach_slot → List Int → Option (Option Treach_spread)
theorem idx_mem {α : Type} {a : List α} {n : Int} {x : α} (h : idx a n = some x) : x ∈ a := by
 unfold idx at h
 split at h
 ·exact List.mem_of_getElem? h
 ·simp at h
theorem calls_loop {F : Nat} {w : Treach_world} (W : WOk F w) (k20 : K5) (k69 : List Bool → List (Treach_slot × Bool) → List Treach_slot → List Int → Option (Option Treach_spread)) (md : List Bool) {E : Nat → Prop} {f : Int} {x : TFunc} (hf : RR F w false f) (hx : idx w.g.Funcs f = some x) (hN : 0 < w.g.Funcs.length) :
  ∀ (cs : List TCall) (l : List Bool) (m : List (Treach_slot × Bool)) (o : List Treach_slot) (q : List Int) (b z : Nat), (∀ c, c ∈ cs → c ∈ x.Calls) → Inv F w l md m o q (b + cs.length) z E →
  ∃ l' m' o' q', M13_1_L4 F w (-1) md k20 k69 cs l m o q = k69 l' m' o' q' ∧ Inv F w l' md m' o' q' b z E ∧ More l md o l' md o' ∧ ∀ c, c ∈ cs → onB w c.Feature = true → (c.Kind = 1 → ∀ i : Nat, fI w c.Target = i → tru l' i) ∧ (c.Kind ≠ 1 → slotOf c ∈ o')
 | [], l, m, o, q, b, z, _, I => ⟨l, m, o, q, rfl, I, More.refl, by simp⟩
 | c :: cs, l, m, o, q, b, z, hc, I => by
  rw [M13_1_L4]
  simp only [jn_def]
  by_cases hon : onB w c.Feature = true
  ·have hon' : ¬ (!((mget w.on c.Feature).getD false)) = true := by
    have : (mget w.on c.Feature).getD false = true := hon
    simp [this]
   obtain ⟨l1, m1, o1, q1, e1, I1, M1, d1, d2⟩ := inv_call W (show Inv F w l md m o q (b + cs.length + 1) z E from I) hf hx (idx_mem hx) (hc c (by simp)) hon hN []
   rw [if_neg hon', e1, Option.bind_some, if_neg (by simp)]
   obtain ⟨l2, m2, o2, q2, e2, I2, M2, d3⟩ := calls_loop W k20 k69 md hf hx hN cs l1 m1 o1 q1 b z (fun c h => hc c (List.mem_cons_of_mem _ h)) I1
   refine ⟨l2, m2, o2, q2, e2, I2, M1.trans M2, fun c' hc' ho' => ?_⟩
   rcases List.mem_cons.1 hc' with rfl | h
   ·exact ⟨fun k i hi => M2.l i (d1 k i hi), fun k => M2.o _ (d2 k)⟩
   ·exact d3 c' h ho'
  ·have hon' : (!((mget w.on c.Feature).getD false)) = true := by
    have : ¬ (mget w.on c.Feature).getD false = true := hon
    simpa using this
   rw [if_pos hon']
   obtain ⟨l2, m2, o2, q2, e2, I2, M2, d3⟩ := calls_loop W k20 k69 md hf hx hN cs l m o q b z (fun c h => hc c (List.mem_cons_of_mem _ h)) ⟨I.ll, I.ml, by have := I.mu; simp at this; omega, I.qm, I.qr, I.sf, I.st, I.ms, I.so, I.cls, I.dn⟩
   refine ⟨l2, m2, o2, q2, e2, I2, M2, fun c' hc' ho' => ?_⟩
   rcases List.mem_cons.1 hc' with rfl | h
   ·exact absurd ho' hon
   ·exact d3 c' h ho'
theorem makes_loop {F : Nat} {w : Treach_world} (W : WOk F w) (m : List (Treach_slot × Bool)) (o : List Treach_slot) (k49 : List Bool → List Bool → List Int → Option (Option Treach_spread)) {b z : Nat} {E : Nat → Prop} {f : Int} {x : TFunc} (hf : RR F w false f) (hx : idx w.g.Funcs f = some x) (hN : 0 < w.g.Funcs.length) :
  ∀ (ts : List Tx) (l md : List Bool) (q : List Int), (∀ t, t ∈ ts → t ∈ x.Makes) → Inv F w l md m o q b z E →
  ∃ l' md' q', M13_1_L3 F w m o k49 ts l md q = k49 l' md' q' ∧ Inv F w l' md' m o q' b z E ∧ More l md o l' md' o ∧ ∀ t, t ∈ ts → ∀ i : Nat, tI w t = i → tru md' i
 | [], l, md, q, _, I => ⟨l, md, q, rfl, I, More.refl, by simp⟩
 | t :: ts, l, md, q, ht, I => by
  obtain ⟨i, hi, he⟩ := W.mks x (idx_mem hx) t (ht t (by simp))
  have he' : (mget w.types t).getD 0 = (i : Int) := he
  have hr : RR F w true i := by
   have := RR.mk hf hx (ht t (by simp))
   rwa [he] at this
  obtain ⟨l1, md1, q1, e1, I1, M1, d1⟩ := inv_make W I i hi hN hr []
  rw [M13_1_L3, he', e1, Option.bind_some]
  obtain ⟨l2, md2, q2, e2, I2, M2, d2⟩ := makes_loop W m o k49 hf hx hN ts l1 md1 q1 (fun t h => ht t (List.mem_cons_of_mem _ h)) I1
  refine ⟨l2, md2, q2, e2, I2, M1.trans M2, fun u hu j hj => ?_⟩
  rcases List.mem_cons.1 hu with rfl | hu
  ·rw [he] at hj
   obtain rfl : i = j := by omega
   exact M2.m _ d1
  ·exact d2 u hu j hj
theorem queue_loop {F : Nat} {w : Treach_world} (W : WOk F w) (k20 : K5) : ∀ (n : Nat) (l md : List Bool) (m : List (Treach_slot × Bool)) (o : List Treach_slot) (q : List Int) (z : Nat), Inv F w l md m o q 0 z (fun _ => False) → z < n →
  ∃ l' md' m' o', M13_1_L2 F w (-1) k20 n l md m o q = k20 l' md' m' o' [] ∧ (∃ z, Inv F w l' md' m' o' [] 0 z (fun _ => False)) ∧ More l md o l' md' o'
 | 0, l, md, m, o, q, z, _, h => by omega
 | n + 1, l, md, m, o, [], z, I, h => ⟨l, md, m, o, by rw [M13_1_L2, if_f (by simp)], ⟨z, I⟩, More.refl⟩
 | n + 1, l, md, m, o, f :: q, z, I, h => by
  obtain ⟨i, hfi, hti⟩ := I.qr f (by simp)
  subst hfi
  have hil : i < l.length := tru_lt hti
  have hiF : i < w.g.Funcs.length := by rw [← I.ll]; exact hil
  have hN : 0 < w.g.Funcs.length := by omega
  have hf := I.sf i hti
  have hx : idx w.g.Funcs (i : Int) = some w.g.Funcs[i] := idx_nat hiF
  generalize hxx : w.g.Funcs[i] = x at hx
  rw [M13_1_L2]
  simp only [jn_def]
  rw [if_t (by simp), show idx ((i : Int) :: q) 0 = some (i : Int) from rfl, Option.bind_some, if_pos (by simp), if_neg (by simp), hx, Option.bind_some, List.drop_one, List.tail_cons]
  simp only [Option.bind_some]
  have mu0 := I.mu
  have qm0 := I.qm
  simp only [List.length_cons] at mu0 qm0
  have I0 : Inv F w l md m o q 200 (z - 1) (fun k => k = i) := ⟨I.ll, I.ml, by omega, ⟨by omega, by omega⟩, fun y hy => I.qr y (List.mem_cons_of_mem _ hy), I.sf, I.st, I.ms, I.so, I.cls, fun k hk => by
   rcases I.dn k hk with h | h | h
   ·rcases List.mem_cons.1 h with h | h
    ·exact .inr (.inr (by omega))
    ·exact .inl h
   ·exact .inr (.inl h)
   ·exact h.elim⟩
  obtain ⟨l1, md1, q1, e1, I1, M1, d1⟩ := makes_loop W m o (fun l50 l51 l52 => M13_1_L4 F w (-1) l51 k20 (fun l70 m71 l72 l73 => M13_1_L2 F w (-1) k20 n l70 l51 m71 l72 l73) x.Calls l50 m o l52) hf hx hN x.Makes l md q (fun _ h => h) I0
  rw [e1]
  have hcl := W.cl x (idx_mem hx)
  obtain ⟨l2, m2, o2, q2, e2, I2, M2, d2⟩ := calls_loop W k20 (fun l70 m71 l72 l73 => M13_1_L2 F w (-1) k20 n l70 md1 m71 l72 l73) md1 hf hx hN x.Calls l1 m o q1 (200 - x.Calls.length) (z - 1) (fun _ h => h) (by rw [show 200 - x.Calls.length + x.Calls.length = 200 by omega]; exact I1)
  rw [e2]
  have hdone : Done F w l2 md1 o2 i := fun y hy => by
   rw [hx] at hy; simp only [Option.some.injEq] at hy; subst hy
   exact ⟨fun t ht j hj => d1 t ht j hj, fun c hc ho => d2 c hc ho⟩
  have I3 : Inv F w l2 md1 m2 o2 q2 0 (z - 1) (fun _ => False) := ⟨I2.ll, I2.ml, by have := I2.mu; omega, I2.qm, I2.qr, I2.sf, I2.st, I2.ms, I2.so, I2.cls, fun k hk => by
   rcases I2.dn k hk with h | h | h
   ·exact .inl h
   ·exact .inr (.inl h)
   ·have h : k = i := h
    subst h; exact .inr (.inl hdone)⟩
  obtain ⟨l3, md3, m3, o3, e3, I4, M3⟩ := queue_loop W k20 n l2 md1 m2 o2 q2 (z - 1) I3 (by omega)
  exact ⟨l3, md3, m3, o3, e3, I4, (M1.trans M2).trans M3⟩
theorem entries_loop {F : Nat} {w : Treach_world} (W : WOk F w) (k5 : List Bool → List Int → Option (Option Treach_spread)) (md : List Bool) (hmd : md = List.replicate (((w.g.Types.length : Nat) : Int)).toNat false) :
  ∀ (es : List Tx) (l : List Bool) (q : List Int) (b z : Nat), (∀ e, e ∈ es → e ∈ w.g.Entries) → Inv F w l md [] [] q b z (fun _ => False) →
  ∃ l' q', M13_1_L1 F w k5 es l q = k5 l' q' ∧ Inv F w l' md [] [] q' b z (fun _ => False) ∧ (∀ n, tru l n → tru l' n) ∧ ∀ e, e ∈ es → ∀ i : Nat, fI w e = i → tru l' i
 | [], l, q, b, z, _, I => ⟨l, q, rfl, I, fun _ h => h, by simp⟩
 | e :: es, l, q, b, z, he, I => by
  obtain ⟨i, hi, hfe⟩ := W.ent e (he e (by simp))
  have hfe' : (mget w.funcs e).getD 0 = (i : Int) := hfe
  obtain ⟨l1, q1, e1, g1, t1⟩ := add_eq F w l md [] [] [] q i (by rw [I.ll]; exact hi) (by have := I.qm; omega)
  rw [M13_1_L1, hfe', ← hmd, e1, Option.bind_some]
  have I1 := I.grow g1 (fun n hn => by
   subst hn
   have := RR.entry (F := F) (he e (by simp))
   rwa [hfe] at this)
  obtain ⟨l2, q2, e2, I2, m2, d2⟩ := entries_loop W k5 md hmd es l1 q1 b z (fun e h => he e (List.mem_cons_of_mem _ h)) I1
  refine ⟨l2, q2, e2, I2, fun n h => m2 n (g1.old n h), fun u hu j hj => ?_⟩
  rcases List.mem_cons.1 hu with rfl | hu
  ·rw [hfe] at hj
   obtain rfl : i = j := by omega
   exact m2 _ t1
  ·exact d2 u hu j hj
theorem tru_rep {n k : Nat} : ¬ tru (List.replicate n false) k := by
 unfold tru
 rw [List.getElem?_replicate]
 split <;> simp
theorem fls_rep (n : Nat) : fls (List.replicate n false) = n := by
 unfold fls
 rw [List.countP_replicate]; simp
theorem spread_eq {F : Nat} {w : Treach_world} (W : WOk F w) (hF : 10000 ≤ F) : ∃ sp, M13_1 F w (-1) = some (some sp) ∧ sp.funcs.length = w.g.Funcs.length ∧ sp.made.length = w.g.Types.length ∧
  (∀ n : Nat, tru sp.funcs n ↔ n < w.g.Funcs.length ∧ RR F w false n) ∧ ∀ n : Nat, tru sp.made n ↔ n < w.g.Types.length ∧ RR F w true n := by
 have hfl := W.fl
 have htl := W.tl
 unfold M13_1
 rw [if_pos (by omega), if_pos (by omega)]
 simp only [jn_def]
 have I0 : Inv F w (List.replicate (((w.g.Funcs.length : Nat) : Int)).toNat false) (List.replicate (((w.g.Types.length : Nat) : Int)).toNat false) [] [] [] 0 w.g.Funcs.length (fun _ => False) :=
  ⟨by simp, by simp, by rw [fls_rep]; simp; omega, ⟨by rw [fls_rep]; simp, by omega⟩, by simp, fun n h => (tru_rep h).elim, fun n h => (tru_rep h).elim, fun s => by simp [mget], by simp, by simp, fun n h => (tru_rep h).elim⟩
 obtain ⟨l1, q1, e1, I1, _, d1⟩ := entries_loop W (fun l6 l7 => M13_1_L2 F w (-1) (fun l21 l22 m23 l24 l25 => some (some (Treach_spread.mk (some w) l21 l22 m23 l24 ([] : List Int) l25))) F l6 (List.replicate (((w.g.Types.length : Nat) : Int)).toNat false) [] [] l7) _ rfl w.g.Entries _ [] 0 w.g.Funcs.length (fun _ h => h) I0
 obtain ⟨l2, md2, m2, o2, e2, ⟨z, I2⟩, M2⟩ := queue_loop W (fun l21 l22 m23 l24 l25 => some (some (Treach_spread.mk (some w) l21 l22 m23 l24 ([] : List Int) l25))) F l1 (List.replicate (((w.g.Types.length : Nat) : Int)).toNat false) [] [] q1 w.g.Funcs.length I1 (by omega)
 refine ⟨Treach_spread.mk (some w) l2 md2 m2 o2 [] [], by rw [e1, e2], I2.ll, I2.ml, ?_, ?_⟩
 all_goals
  have key : ∀ b v, RR F w b v → (∃ n : Nat, v = n ∧ n < (if b then w.g.Types.length else w.g.Funcs.length)) ∧ ∀ n : Nat, v = n → if b then tru md2 n else tru l2 n := by
   intro b v h
   induction h with
   | @entry e h =>
    obtain ⟨i, hi, he⟩ := W.ent e h
    refine ⟨⟨i, he, by simpa using hi⟩, fun n hn => ?_⟩
    simpa using M2.l n (d1 e h n hn)
   | @dir f x c hf hx hc ho k ih =>
    obtain ⟨⟨j, hj, hjl⟩, ih⟩ := ih
    have ht : tru l2 j := by simpa using ih j hj
    subst hj
    obtain ⟨i, hi, he⟩ := W.dir x (idx_mem hx) c hc
    refine ⟨⟨i, he, by simpa using hi⟩, fun n hn => ?_⟩
    rcases I2.dn j ht with h | h | h
    ·simp at h
    ·simpa using ((h x hx).2 c hc ho).1 k n hn
    ·exact h.elim
   | @dis f t v x c hf hx hc ho k ht hm hv ih ihm =>
    obtain ⟨⟨j, hj, hjl⟩, ih⟩ := ih
    have htr : tru l2 j := by simpa using ih j hj
    subst hj
    have hN : 0 < w.g.Funcs.length := by simp at hjl; omega
    obtain ⟨i, hi, he⟩ := W.tgt c t (W.fit _ t ht) hN
    rw [hv] at he; simp only [Option.some.injEq] at he
    refine ⟨⟨i, he, by simpa using hi⟩, fun n hn => ?_⟩
    rcases I2.dn j htr with h | h | h
    ·simp at h
    ·have hs := ((h x hx).2 c hc ho).2 k
     have := I2.cls (slotOf c) hs t ht (fun hmm => by
      obtain ⟨a, ha, hta⟩ := W.fit _ t ht
      have := (ihm hmm).2 a hta
      rw [hta, Int.toNat_natCast]
      simpa using this) n (by rw [M33_m F w (show (SC (slotOf c)).Method = c.Method from rfl), hv, hn])
     simpa using this
    ·exact h.elim
   | @mk f x t hf hx ht ih =>
    obtain ⟨⟨j, hj, hjl⟩, ih⟩ := ih
    have htr : tru l2 j := by simpa using ih j hj
    subst hj
    obtain ⟨i, hi, he⟩ := W.mks x (idx_mem hx) t ht
    refine ⟨⟨i, he, by simpa using hi⟩, fun n hn => ?_⟩
    rcases I2.dn j htr with h | h | h
    ·simp at h
    ·simpa using (h x hx).1 t ht n hn
    ·exact h.elim
 ·intro n
  constructor
  ·exact fun h => ⟨by rw [← I2.ll]; exact tru_lt h, I2.sf n h⟩
  ·exact fun ⟨_, h⟩ => by simpa using (key _ _ h).2 n rfl
 ·intro n
  constructor
  ·exact fun h => ⟨by rw [← I2.ml]; exact tru_lt h, I2.st n h⟩
  ·exact fun ⟨_, h⟩ => by simpa using (key _ _ h).2 n rfl
theorem nums_val (x : Tx) (v : Int) : ∀ (l : List Tx) (m : NumM) (n : Int), mget (nums m n l) x = some v → mget m x = some v ∨ n ≤ v ∧ v < n + l.length
 | [], m, n, h => .inl h
 | y :: l, m, n, h => by
  rcases nums_val x v l _ _ h with h | h
  ·rw [mget_mput] at h
   split at h
   ·simp at h; subst h; exact .inr ⟨by omega, by simp; omega⟩
   ·exact .inl h
  ·exact .inr ⟨by omega, by simp; omega⟩
theorem nums_range (l : List Tx) (x : Tx) (hl : 0 < l.length) : ∃ i : Nat, i < l.length ∧ (mget (nums [] 0 l) x).getD 0 = i := by
 cases h : mget (nums [] 0 l) x with
 | none => exact ⟨0, hl, rfl⟩
 | some v =>
  rcases nums_val x v l [] 0 h with h1 | h1
  ·simp [mget] at h1
  ·exact ⟨v.toNat, by omega, by simp; omega⟩
theorem srt_names {α : Type} {f : α → Tx} {l : List α} (h : l.Pairwise (fun a b => Op.bytesLess (f a) (f b) = true)) : (l.map f).Pairwise (fun a b => Op.bytesLess a b = true) := by
 rw [List.pairwise_map]; exact h
theorem wok {F : Nat} (hF : 1000 ≤ F) {g : TGraph} (R : RightG g) (how : Int) (fs : List Tx) : WOk F (wOf g how fs) where
 fl := R.fl
 tl := R.tl
 ent := fun e he => by
  have h := R.e e he
  unfold fsOf at h
  have h : e ∈ g.Funcs.map (·.Name) := by simpa using h
  obtain ⟨i, hi, rfl⟩ := List.getElem_of_mem h
  refine ⟨i, show i < g.Funcs.length by simpa using hi, ?_⟩
  unfold fI wOf
  simp only
  rw [nums_get _ _ _ _ hi (srt_names R.fsrt)]; simp
 cl := fun x hx => (R.f x hx).len
 mks := fun x hx t ht => by
  have h := (R.f x hx).makes t ht
  unfold tsOf at h
  have h : t ∈ g.Types.map (·.Name) := by simpa using h
  obtain ⟨i, hi, rfl⟩ := List.getElem_of_mem h
  refine ⟨i, show i < g.Types.length by simpa using hi, ?_⟩
  unfold tI wOf
  simp only
  rw [nums_get _ _ _ _ hi (srt_names R.tsrt)]; simp
 dir := fun x hx c hc => by
  have hN : 0 < (g.Funcs.map (·.Name)).length := by
   have : 0 < g.Funcs.length := List.length_pos_iff.2 (by intro e; have hx : x ∈ g.Funcs := hx; rw [e] at hx; simp at hx)
   simpa using this
  obtain ⟨i, hi, he⟩ := nums_range (g.Funcs.map (·.Name)) c.Target hN
  exact ⟨i, show i < g.Funcs.length by simpa using hi, he⟩
 fit := fun s t ht => by
  unfold fitL wOf at ht
  simp only at ht
  rw [fitM_get g.Types s g.Ifaces [] R.isrt] at ht
  simp only [mget, Option.getD_none, List.nil_append] at ht
  cases hf : g.Ifaces.find? (fun x => x.Name == s) with
  | none => rw [hf] at ht; simp at ht
  | some x =>
   rw [hf] at ht
   obtain ⟨i, hi, he, _⟩ := (fitIdx_mem x g.Types 0 t).1 ht
   exact ⟨i, hi, by omega⟩
 tgt := fun c t ⟨i, hi, he⟩ hN => by
  subst he
  have hi : i < g.Types.length := hi
  have hT := R.t g.Types[i] (List.getElem_mem _)
  obtain ⟨j, hj, hf⟩ := nums_range (g.Funcs.map (·.Name)) (mOf g.Types[i] c.Method).1 (by have hN : 0 < g.Funcs.length := hN; simpa using hN)
  refine ⟨j, show j < g.Funcs.length by simpa using hj, ?_⟩
  unfold M33
  rw [show idx (wOf g how fs).g.Types (i : Int) = some g.Types[i] from idx_nat hi, Option.bind_some, M45_eq F _ _ hT.len hT.srt hF, Option.bind_some]
  exact congrArg some hf
theorem RR.mono {F : Nat} {g : TGraph} {h1 h2 : Int} {f1 f2 : List Tx} (ho : ∀ x, onB (wOf g h1 f1) x = true → onB (wOf g h2 f2) x = true) (hm : (wOf g h2 f2).made = true → (wOf g h1 f1).made = true) :
  ∀ {b : Bool} {v : Int}, RR F (wOf g h1 f1) b v → RR F (wOf g h2 f2) b v := by
 intro b v h
 induction h with
 | entry h => exact RR.entry (w := wOf g h2 f2) h
 | dir hf hx hc hon k ih => exact RR.dir (w := wOf g h2 f2) ih hx hc (ho _ hon) k
 | dis hf hx hc hon k ht hmm hv ih ihm => exact RR.dis (w := wOf g h2 f2) ih hx hc (ho _ hon) k ht (fun h => ihm (hm h)) hv
 | mk hf hx ht ih => exact RR.mk (w := wOf g h2 f2) ih hx ht
theorem onB_eq (g : TGraph) (how : Int) (fs : List Tx) (x : Tx) : onB (wOf g how fs) x = (decide (x = []) || fs.contains x) := by
 unfold onB wOf
 simp only
 have := has_sset x fs (mput [] [] true)
 unfold has at this
 rw [this]
 congr 1
 rw [mget_mput]
 by_cases h : x = []
 ·subst h; simp
 ·rw [if_neg (fun e => h e.symm)]; simp [mget, h]
theorem M8_L1_eq (F : Nat) (g : TGraph) (hg : g.Funcs.length ≤ 3000) (k : List Tx → Option (List Tx × Int)) : ∀ (l : List Bool) (n : Nat) (o : List Tx), n + l.length ≤ g.Funcs.length → o.length ≤ n →
  ∃ r, M8_L1 F g k l n o = k (o ++ r) ∧ ∀ s, s ∈ r ↔ ∃ i : Nat, ∃ h : n + i < g.Funcs.length, tru l i ∧ (g.Funcs[n + i]).Name = s
 | [], n, o, _, _ => ⟨[], by simp [M8_L1], by simp [tru]⟩
 | x :: l, n, o, hn, ho => by
  simp only [List.length_cons] at hn
  have e : ((n : Int) + 1) = ((n + 1 : Nat) : Int) := rfl
  rw [M8_L1]
  simp only [jn_def, e]
  have tl : ∀ i, tru (x :: l) (i + 1) ↔ tru l i := fun i => by unfold tru; rw [List.getElem?_cons_succ]
  cases x
  ·obtain ⟨r, r1, r2⟩ := M8_L1_eq F g hg k l (n + 1) o (by omega) (by omega)
   rw [if_neg (by simp), r1]
   refine ⟨r, rfl, fun s => ?_⟩
   rw [r2]
   constructor
   ·rintro ⟨i, h, h1, h2⟩
    refine ⟨i + 1, by omega, (tl i).2 h1, ?_⟩
    rw [← h2]; congr 2; omega
   ·rintro ⟨i, h, h1, h2⟩
    cases i with
    | zero => simp [tru] at h1
    | succ i =>
     refine ⟨i, by omega, (tl i).1 h1, ?_⟩
     rw [← h2]; congr 2; omega
  ·have hlt : n < g.Funcs.length := by omega
   rw [if_pos rfl, idx_nat hlt, Option.bind_some, if_pos (by simp; omega)]
   obtain ⟨r, r1, r2⟩ := M8_L1_eq F g hg k l (n + 1) (o ++ [(g.Funcs[n]).Name]) (by omega) (by simp; omega)
   rw [r1]
   refine ⟨(g.Funcs[n]).Name :: r, by simp, fun s => ?_⟩
   rw [List.mem_cons, r2]
   constructor
   ·rintro (h | ⟨i, h, h1, h2⟩)
    ·exact ⟨0, by omega, by simp [tru], h.symm⟩
    ·refine ⟨i + 1, by omega, (tl i).2 h1, ?_⟩
     rw [← h2]; congr 2; omega
   ·rintro ⟨i, h, h1, h2⟩
    cases i with
    | zero => exact .inl h2.symm
    | succ i =>
     refine .inr ⟨i, by omega, (tl i).1 h1, ?_⟩
     rw [← h2]; congr 2; omega
theorem M8_eq (F : Nat) (g : TGraph) (how : Int) (fs : List Tx) (hg : okTGraph g) (hfs : ∀ x, x ∈ fs → x.length ≤ maxLen) (hF : 10000 ≤ F) :
  ∃ r, M8 F g how fs = some (r, opnE g how fs) ∧ (opnE g how fs = 0 → ∀ s, s ∈ r ↔ ∃ i : Nat, ∃ h : i < g.Funcs.length, RR F (wOf g how fs) false i ∧ (g.Funcs[i]).Name = s) := by
 unfold M8
 rw [M18_1_eq F g how fs hg hfs (by omega), Option.bind_some]
 by_cases h0 : opnE g how fs = 0
 ·rw [h0]
  rw [if_neg (by simp), if_neg (by simp), Option.bind_some]
  have R : RightG g := right_of (by
   unfold opnE at h0
   split at h0
   ·rename_i h; exact absurd h0 h
   ·rename_i h; simpa using h)
  obtain ⟨sp, s1, s2, s3, s4, s5⟩ := spread_eq (wok (by omega) R how fs) hF
  rw [s1, Option.bind_some, Option.bind_some]
  simp only [jn_def]
  have s2 : sp.funcs.length = g.Funcs.length := s2
  obtain ⟨r, r1, r2⟩ := M8_L1_eq F g R.fl (fun l14 => some (l14, 0)) sp.funcs 0 [] (by omega) (by simp)
  rw [show ((0 : Nat) : Int) = 0 from rfl] at r1
  rw [r1]
  refine ⟨r, rfl, fun _ s => ?_⟩
  rw [r2]
  constructor
  ·rintro ⟨i, h, h1, h2⟩
   refine ⟨i, by omega, ((s4 i).1 h1).2, ?_⟩
   rw [← h2]; congr 2; omega
  ·rintro ⟨i, h, h1, h2⟩
   refine ⟨i, by omega, (s4 i).2 ⟨h, h1⟩, ?_⟩
   rw [← h2]; congr 2; omega
 ·rw [if_pos (by simpa using h0)]
  exact ⟨[], rfl, fun h => absurd h h0⟩
theorem M50_eq (F : Nat) (t : TType) (m : Tx) : M50 F t m = some (mOf t m) := by
 have key : ∀ l : List TMethod, M50_L1 F m (some ([], false)) l = some (match l.find? (fun y => y.Name == m) with | some y => (y.Func, true) | none => ([], false)) := by
  intro l
  induction l with
  | nil => rfl
  | cons x l ih =>
   rw [M50_L1, List.find?_cons]
   by_cases h : (x.Name == m) = true
   ·rw [if_pos h, h]
   ·rw [if_neg h, ih]
    have : (x.Name == m) = false := by simpa using h
    rw [this]
 unfold M50
 rw [jn_def, key]; rfl
theorem M51_eq (F : Nat) (t : TType) (i : TIface) : M51 F t i = some (fitB t i) := by
 have key : ∀ l : List Tx, M51_L1 F t (some true) l = some (l.all fun m => (mOf t m).2) := by
  intro l
  induction l with
  | nil => rfl
  | cons x l ih =>
   rw [M51_L1, M50_eq, Option.bind_some, List.all_cons]
   cases h : (mOf t x).2
   ·simp
   ·rw [if_neg (by simp), ih]; simp
 unfold M51
 rw [jn_def, key]; rfl
def ifG (g : TGraph) (n : Tx) : TIface := (g.Ifaces.find? fun x => x.Name == n).getD (TIface.mk [] [])
theorem M49_eq (F : Nat) (g : TGraph) (n : Tx) : ∃ b, M49 F g n = some (ifG g n, b) := by
 have key : ∀ l : List TIface, ∃ b, M49_L1 F n (some (TIface.mk [] [], false)) l = some ((l.find? fun x => x.Name == n).getD (TIface.mk [] []), b) := by
  intro l
  induction l with
  | nil => exact ⟨false, rfl⟩
  | cons x l ih =>
   rw [M49_L1, List.find?_cons]
   by_cases h : (x.Name == n) = true
   ·rw [if_pos h, h]; exact ⟨true, rfl⟩
   ·rw [if_neg h]
    have : (x.Name == n) = false := by simpa using h
    rw [this]; exact ih
 unfold M49
 rw [jn_def]; exact key _
def aimO (g : TGraph) (c : TCall) (t : TType) : Option Tprovenderref6_aim := if (mOf t c.Method).2 = true ∧ fitB t (ifG g c.Target) = true then some (Tprovenderref6_aim.mk t.Name (mOf t c.Method).1) else none
def aimsG (g : TGraph) (c : TCall) : List Tprovenderref6_aim := if c.Kind = 1 then [Tprovenderref6_aim.mk [] c.Target] else g.Types.filterMap (aimO g c)
theorem M38_L1_eq (F : Nat) (g : TGraph) (c : TCall) (b : Bool) (k : List Tprovenderref6_aim → Option (List Tprovenderref6_aim)) : ∀ (l : List TType) (o : List Tprovenderref6_aim), o.length + l.length ≤ 1000 →
  M38_L1 F c (ifG g c.Target, b) k l o = k (o ++ l.filterMap (aimO g c))
 | [], o, _ => by simp [M38_L1]
 | t :: l, o, h => by
  simp only [List.length_cons] at h
  rw [M38_L1, jn_def]
  simp only [jn_def]
  rw [M50_eq, Option.bind_some]
  by_cases h1 : (mOf t c.Method).2 = true
  ·rw [if_pos h1, M51_eq, Option.bind_some]
   by_cases h2 : fitB t (ifG g c.Target) = true
   ·rw [if_pos h2, if_pos (by simp; omega), M38_L1_eq F g c b k l _ (by simp; omega), List.filterMap_cons]
    simp [aimO, h1, h2]
   ·rw [if_neg h2, M38_L1_eq F g c b k l _ (by omega), List.filterMap_cons]
    simp [aimO, h2]
  ·rw [if_neg h1, M38_L1_eq F g c b k l _ (by omega), List.filterMap_cons]
   simp [aimO, h1]
theorem M38_eq (F : Nat) (g : TGraph) (c : TCall) (h : g.Types.length ≤ 500) : M38 F g c = some (aimsG g c) := by
 unfold M38 aimsG
 by_cases hk : c.Kind = 1
 ·rw [if_pos (by simp [hk]), if_pos hk]
 ·rw [if_neg (by simpa using hk), if_neg hk]
  obtain ⟨b, hb⟩ := M49_eq F g c.Target
  rw [hb, Option.bind_some, jn_def, M38_L1_eq F g c b _ _ _ (by simp; omega)]
  rfl
theorem aimsG_key (g : TGraph) (c : TCall) : aimsG g c = aimsG g (TCall.mk c.Kind c.Target c.Method []) := rfl
def lks (g : TGraph) (on : Tx → Bool) (name : Tx) : Int → List TCall → List Tprovenderref6_link
 | _, [] => []
 | n, c :: l => if on c.Feature = true then Tprovenderref6_link.mk (TSite.mk name n) (aimsG g c) :: lks g on name (n + 1) l else lks g on name (n + 1) l
def KOk (g : TGraph) (m : List (TCall × (List Tprovenderref6_aim))) : Prop := ∀ k l, mget m k = some l → l = aimsG g k
def lkD (m : List (Tx × (List Tprovenderref6_link))) (x : Tx) : List Tprovenderref6_link := (mget m x).getD []
theorem lkD_put (m : List (Tx × (List Tprovenderref6_link))) (x y : Tx) (v : List Tprovenderref6_link) : lkD (mput m x v) y = if x = y then v else lkD m y := by
 unfold lkD
 rw [mget_mput]
 split <;> rfl
theorem M27_L3_eq (F : Nat) (g : TGraph) (hg : g.Types.length ≤ 500) (m4 : SetM) (x : TFunc) (k : List (TCall × (List Tprovenderref6_aim)) → List (Tx × (List Tprovenderref6_link)) → Option Tprovenderref6_net) :
  ∀ (l : List TCall) (n : Int) (kn : List (TCall × (List Tprovenderref6_aim))) (lk : List (Tx × (List Tprovenderref6_link))), KOk g kn → (lkD lk x.Name).length + l.length ≤ 1000 →
  ∃ kn' lk', M27_L3 F g m4 x k l n kn lk = k kn' lk' ∧ KOk g kn' ∧ ∀ y, lkD lk' y = if x.Name = y then lkD lk x.Name ++ lks g (has m4) x.Name n l else lkD lk y
 | [], n, kn, lk, hk, _ => ⟨kn, lk, rfl, hk, fun y => by simp only [lks, List.append_nil]; split; rename_i h; rw [h]; rfl⟩
 | c :: l, n, kn, lk, hk, hs => by
  simp only [List.length_cons] at hs
  rw [M27_L3, jn_def]
  simp only [jn_def]
  by_cases ho : has m4 c.Feature = true
  ·have ho' : (mget m4 c.Feature).getD false = true := ho
   rw [if_neg (by rw [ho']; simp)]
   have step : ∀ kn2, KOk g kn2 → ∃ kn' lk', (if ((mget lk x.Name).getD [] ++ [Tprovenderref6_link.mk (TSite.mk x.Name n) (aimsG g c)]).length * 48 ≤ 140737488355328 then
     M27_L3 F g m4 x k l (n + 1) kn2 (mput lk x.Name ((mget lk x.Name).getD [] ++ [Tprovenderref6_link.mk (TSite.mk x.Name n) (aimsG g c)])) else none) = k kn' lk' ∧ KOk g kn' ∧
     ∀ y, lkD lk' y = if x.Name = y then lkD lk x.Name ++ lks g (has m4) x.Name n (c :: l) else lkD lk y := by
    intro kn2 hk2
    have hlen : ((mget lk x.Name).getD []).length + l.length + 1 ≤ 1000 := by
     have : (lkD lk x.Name).length + (l.length + 1) ≤ 1000 := hs
     unfold lkD at this; omega
    rw [if_pos (by simp; omega)]
    obtain ⟨kn', lk', e1, e2, e3⟩ := M27_L3_eq F g hg m4 x k l (n + 1) kn2 (mput lk x.Name ((mget lk x.Name).getD [] ++ [Tprovenderref6_link.mk (TSite.mk x.Name n) (aimsG g c)])) hk2 (by rw [lkD_put, if_pos rfl]; simp; omega)
    refine ⟨kn', lk', e1, e2, fun y => ?_⟩
    rw [e3, lkD_put, if_pos rfl, lkD_put]
    by_cases hy : x.Name = y
    ·rw [if_pos hy, if_pos hy, lks, if_pos ho, List.append_assoc]; rfl
    ·rw [if_neg hy, if_neg hy, if_neg hy]
   by_cases hm : (mget kn (TCall.mk c.Kind c.Target c.Method [])).isSome = true
   ·rw [if_neg (by rw [hm]; simp)]
    obtain ⟨v, hv⟩ := Option.isSome_iff_exists.1 hm
    rw [hv, Option.getD_some, hk _ _ hv, ← aimsG_key]
    exact step kn hk
   ·have hm' : (mget kn (TCall.mk c.Kind c.Target c.Method [])).isSome = false := by simpa using hm
    rw [if_pos (by rw [hm']; rfl), M38_eq F g c hg, Option.bind_some]
    refine step _ (fun k' l' h => ?_)
    rw [mget_mput] at h
    split at h
    ·rename_i e; subst e; simp at h; rw [← h]; exact aimsG_key g c
    ·exact hk k' l' h
  ·have ho' : (mget m4 c.Feature).getD false = false := by simpa [has] using ho
   rw [if_pos (by rw [ho']; rfl)]
   obtain ⟨kn', lk', e1, e2, e3⟩ := M27_L3_eq F g hg m4 x k l (n + 1) kn lk hk (by omega)
   exact ⟨kn', lk', e1, e2, fun y => by rw [e3, lks, if_neg ho]⟩
theorem M27_L2_eq (F : Nat) (g : TGraph) (hg : g.Types.length ≤ 500) (m4 : SetM) (k : List (Tx × (List Tprovenderref6_link)) → List (Tx × TFunc) → Option Tprovenderref6_net) :
  ∀ (l : List TFunc) (kn : List (TCall × (List Tprovenderref6_aim))) (lk : List (Tx × (List Tprovenderref6_link))) (fm : List (Tx × TFunc)), KOk g kn → (∀ x, x ∈ l → x.Calls.length ≤ 200) → (∀ x, x ∈ l → lkD lk x.Name = []) →
  l.Pairwise (fun a b => Op.bytesLess a.Name b.Name = true) →
  ∃ lk' fm', M27_L2 F g m4 k l kn lk fm = k lk' fm' ∧ (∀ x, x ∈ l → lkD lk' x.Name = lks g (has m4) x.Name 0 x.Calls ∧ mget fm' x.Name = some x) ∧ ∀ y, (∀ x, x ∈ l → x.Name ≠ y) → lkD lk' y = lkD lk y ∧ mget fm' y = mget fm y
 | [], kn, lk, fm, _, _, _, _ => ⟨lk, fm, rfl, by simp, fun _ _ => ⟨rfl, rfl⟩⟩
 | x :: l, kn, lk, fm, hk, hc, hz, hp => by
  rw [M27_L2, jn_def]
  simp only [jn_def]
  obtain ⟨kn1, lk1, e1, e2, e3⟩ := M27_L3_eq F g hg m4 x (fun m32 m33 => M27_L2 F g m4 k l m32 m33 (mput fm x.Name x)) x.Calls 0 kn lk hk (by rw [hz x (by simp)]; have := hc x (by simp); simp; omega)
  rw [e1]
  rw [List.pairwise_cons] at hp
  have hne : ∀ z, z ∈ l → x.Name ≠ z.Name := fun z hz => bl_ne (hp.1 z hz)
  obtain ⟨lk', fm', f1, f2, f3⟩ := M27_L2_eq F g hg m4 k l kn1 lk1 (mput fm x.Name x) e2 (fun z hz => hc z (List.mem_cons_of_mem _ hz)) (fun z hz' => by rw [e3, if_neg (hne z hz')]; exact hz z (List.mem_cons_of_mem _ hz')) hp.2
  refine ⟨lk', fm', f1, fun z hz' => ?_, fun y hy => ?_⟩
  ·rcases List.mem_cons.1 hz' with e | e
   ·subst e
    obtain ⟨g1, g2⟩ := f3 z.Name (fun q hq => Ne.symm (hne q hq))
    rw [g1, g2, e3, if_pos rfl, hz z (by simp), mget_mput, if_pos rfl]
    exact ⟨rfl, rfl⟩
   ·exact f2 z e
  ·obtain ⟨g1, g2⟩ := f3 y (fun q hq => hy q (List.mem_cons_of_mem _ hq))
   rw [g1, g2, e3, if_neg (hy x (by simp)), mget_mput, if_neg (hy x (by simp))]
   exact ⟨rfl, rfl⟩
theorem M27_L1_eq (F : Nat) (k : SetM → Option Tprovenderref6_net) : ∀ (l : List Tx) (m : SetM), M27_L1 F k l m = k (sset m l)
 | [], m => rfl
 | x :: l, m => by rw [M27_L1, M27_L1_eq F k l]; rfl
def onF (fs : List Tx) (x : Tx) : Bool := decide (x = []) || fs.contains x
theorem has_onF (fs : List Tx) (x : Tx) : has (sset (mput [] [] true) fs) x = onF fs x := by
 rw [has_sset]
 unfold onF
 congr 1
 unfold has
 rw [mget_mput]
 by_cases h : x = []
 ·subst h; simp
 ·rw [if_neg (fun e => h e.symm)]; simp [mget, h]
structure NetOk (g : TGraph) (fs : List Tx) (n : Tprovenderref6_net) : Prop where
 gr : n.g = g
 l : ∀ x, x ∈ g.Funcs → linksN n x.Name = lks g (onF fs) x.Name 0 x.Calls
 f : ∀ x, x ∈ g.Funcs → funcN n x.Name = x
theorem lks_congr (g : TGraph) {on on' : Tx → Bool} (h : ∀ x, on x = on' x) (name : Tx) : ∀ (l : List TCall) (n : Int), lks g on name n l = lks g on' name n l
 | [], _ => rfl
 | c :: l, n => by rw [lks, lks, h, lks_congr g h name l]
theorem M27_eq (F : Nat) (g : TGraph) (fs : List Tx) (R : RightG g) : ∃ n, M27 F g fs = some n ∧ NetOk g fs n := by
 unfold M27
 rw [jn_def, M27_L1_eq]
 simp only [jn_def]
 obtain ⟨lk, fm, e1, e2, _⟩ := M27_L2_eq F g R.tl (sset (mput [] [] true) fs) (fun m14 m15 => some (Tprovenderref6_net.mk g m14 m15)) g.Funcs [] [] [] (by intro k l h; simp [mget] at h) (fun x hx => (R.f x hx).len) (fun _ _ => rfl) R.fsrt
 rw [e1]
 refine ⟨_, rfl, rfl, fun x hx => ?_, fun x hx => ?_⟩
 ·exact (e2 x hx).1.trans (lks_congr g (has_onF fs) _ _ _)
 ·show (mget fm x.Name).getD _ = x
  rw [(e2 x hx).2]; rfl
inductive RN (g : TGraph) (how : Int) (on : Tx → Bool) : Bool → Tx → Prop
 | entry {e : Tx} (h : e ∈ g.Entries) : RN g how on false e
 | aim {x : TFunc} {c : TCall} {a : Tprovenderref6_aim} (hf : RN g how on false x.Name) (hx : x ∈ g.Funcs) (hc : c ∈ x.Calls) (ho : on c.Feature = true) (ha : a ∈ aimsG g c) (hm : how ≠ 1 → a.typ ≠ [] → RN g how on true a.typ) : RN g how on false a.to
 | mk {x : TFunc} {t : Tx} (hf : RN g how on false x.Name) (hx : x ∈ g.Funcs) (ht : t ∈ x.Makes) : RN g how on true t
theorem tos_lks (g : TGraph) (on : Tx → Bool) (how : Int) (s : Tprovenderref6_sets) (nm : Tx) (y : Tx) : ∀ (cs : List TCall) (n : Int), y ∈ tosL how s (lks g on nm n cs) ↔ ∃ c, c ∈ cs ∧ on c.Feature = true ∧ ∃ a, a ∈ aimsG g c ∧ cntA how s a = true ∧ a.to = y
 | [], n => by simp [tosL, lks]
 | c :: cs, n => by
  have ih := tos_lks g on how s nm y cs (n + 1)
  rw [lks]
  by_cases ho : on c.Feature = true
  ·rw [if_pos ho]
   have e : tosL how s (Tprovenderref6_link.mk (TSite.mk nm n) (aimsG g c) :: lks g on nm (n + 1) cs) = ((aimsG g c).filter (cntA how s)).map (·.to) ++ tosL how s (lks g on nm (n + 1) cs) := by unfold tosL; rw [List.flatMap_cons]
   rw [e, List.mem_append, ih]
   constructor
   ·rintro (h | ⟨c', h1, h2⟩)
    ·obtain ⟨a, ha, rfl⟩ := List.mem_map.1 h
     obtain ⟨h1, h2⟩ := List.mem_filter.1 ha
     exact ⟨c, by simp, ho, a, h1, h2, rfl⟩
    ·exact ⟨c', List.mem_cons_of_mem _ h1, h2⟩
   ·rintro ⟨c', h1, h2, a, h3, h4, h5⟩
    rcases List.mem_cons.1 h1 with e | e
    ·subst e; exact .inl (List.mem_map.2 ⟨a, List.mem_filter.2 ⟨h3, h4⟩, h5⟩)
    ·exact .inr ⟨c', e, h2, a, h3, h4, h5⟩
  ·rw [if_neg ho, ih]
   constructor
   ·rintro ⟨c', h1, h2⟩; exact ⟨c', List.mem_cons_of_mem _ h1, h2⟩
   ·rintro ⟨c', h1, h2, h3⟩
    rcases List.mem_cons.1 h1 with e | e
    ·subst e; exact absurd h2 ho
    ·exact ⟨c', e, h2, h3⟩
theorem cntA_iff (how : Int) (s : Tprovenderref6_sets) (a : Tprovenderref6_aim) (hs : SetOk s.made) : cntA how s a = true ↔ (how ≠ 1 → a.typ ≠ [] → a.typ ∈ s.made.map (·.1)) := by
 unfold cntA
 simp only [Bool.or_eq_true, beq_iff_eq, hs.get]
 constructor
 ·rintro ((h | h) | h) h1 h2
  ·exact absurd h h1
  ·exact absurd h h2
  ·exact h
 ·intro h
  by_cases h1 : how = 1
  ·exact .inl (.inl h1)
  ·by_cases h2 : a.typ = []
   ·exact .inl (.inr h2)
   ·exact .inr (h h1 h2)
def onceS (n : Tprovenderref6_net) (how : Int) (s : Tprovenderref6_sets) : Tprovenderref6_sets :=
 Tprovenderref6_sets.mk (insAll (insAll [] n.g.Entries) (s.reached.flatMap fun e => e.1 :: tosL how s (linksN n e.1))) (insAll [] (s.reached.flatMap fun e => (funcN n e.1).Makes))
theorem M39_L1_eq (F : Nat) (k : List (Tx × Bool) → Option Tprovenderref6_sets) : ∀ (l : List Tx) (m : List (Tx × Bool)), M39_L1 F k l m = k (insAll m l)
 | [], m => rfl
 | x :: l, m => by rw [M39_L1, M39_L1_eq F k l]; rfl
theorem M39_eq (F : Nat) (n : Tprovenderref6_net) (how : Int) (s : Tprovenderref6_sets) : M39 F n how s = some (onceS n how s) := by
 unfold M39
 rw [jn_def, M39_L1_eq, M39_L2_eq]; rfl
theorem in_names {g : TGraph} {x : Tx} : fsOf g x = true ↔ ∃ f, f ∈ g.Funcs ∧ f.Name = x := by
 unfold fsOf; simp
theorem in_types {g : TGraph} {x : Tx} : tsOf g x = true ↔ ∃ f, f ∈ g.Types ∧ f.Name = x := by
 unfold tsOf; simp
theorem mOf_some {t : TType} {m : Tx} (h : (mOf t m).2 = true) : ∃ y, y ∈ t.Methods ∧ y.Name = m ∧ (mOf t m).1 = y.Func := by
 unfold mOf at h ⊢
 cases hf : t.Methods.find? (fun y => y.Name == m) with
 | none => rw [hf] at h; simp at h
 | some y => exact ⟨y, List.mem_of_find?_eq_some hf, by have := List.find?_some hf; simpa using this, rfl⟩
theorem aim_fs {g : TGraph} (R : RightG g) {x : TFunc} (hx : x ∈ g.Funcs) {c : TCall} (hc : c ∈ x.Calls) {a : Tprovenderref6_aim} (ha : a ∈ aimsG g c) : fsOf g a.to = true := by
 have C := (R.f x hx).calls c hc
 unfold aimsG at ha
 split at ha
 ·rename_i hk
  simp at ha; subst ha
  rcases C.kind with ⟨_, h, _⟩ | ⟨h, _⟩
  ·exact h
  ·rw [hk] at h; simp at h
 ·obtain ⟨t, ht, h⟩ := List.mem_filterMap.1 ha
  unfold aimO at h
  split at h
  ·rename_i h1
   simp at h; subst h
   obtain ⟨y, h2, _, h3⟩ := mOf_some h1.1
   show fsOf g (mOf t c.Method).1 = true
   rw [h3]; exact ((R.t t ht).mn y h2).2
  ·simp at h
theorem RN.names {g : TGraph} (R : RightG g) {how : Int} {on : Tx → Bool} {b : Bool} {y : Tx} (h : RN g how on b y) : if b then tsOf g y = true else fsOf g y = true := by
 cases h with
 | entry h => exact R.e _ h
 | aim hf hx hc ho ha hm => exact aim_fs R hx hc ha
 | mk hf hx ht => exact (R.f _ hx).makes _ ht
section
variable {g : TGraph} {fs : List Tx} {n : Tprovenderref6_net} {how : Int}
structure FInv (g : TGraph) (how : Int) (fs : List Tx) (s : Tprovenderref6_sets) : Prop where
 r : SetOk s.reached
 m : SetOk s.made
 sr : ∀ x, x ∈ s.reached.map (·.1) → RN g how (onF fs) false x
 sm : ∀ x, x ∈ s.made.map (·.1) → RN g how (onF fs) true x
 mks : ∀ t, t ∈ s.made.map (·.1) → ∃ x, x ∈ g.Funcs ∧ x.Name ∈ s.reached.map (·.1) ∧ t ∈ x.Makes
theorem once_r (N : NetOk g fs n) (s : Tprovenderref6_sets) (y : Tx) : y ∈ (onceS n how s).reached.map (·.1) ↔ y ∈ g.Entries ∨ ∃ z, z ∈ s.reached.map (·.1) ∧ (y = z ∨ y ∈ tosL how s (linksN n z)) := by
 unfold onceS
 simp only
 rw [insAll_keys, insAll_keys, N.gr]
 simp only [List.map_nil, List.not_mem_nil, or_false, List.mem_flatMap, List.mem_cons, List.mem_map]
 constructor
 ·rintro (⟨e, h1, h2⟩ | h)
  ·exact .inr ⟨e.1, ⟨e, h1, rfl⟩, h2⟩
  ·exact .inl h
 ·rintro (h | ⟨z, ⟨e, h1, rfl⟩, h2⟩)
  ·exact .inr h
  ·exact .inl ⟨e, h1, h2⟩
theorem once_m (s : Tprovenderref6_sets) (t : Tx) : t ∈ (onceS n how s).made.map (·.1) ↔ ∃ z, z ∈ s.reached.map (·.1) ∧ t ∈ (funcN n z).Makes := by
 unfold onceS
 simp only
 rw [insAll_keys]
 simp only [List.map_nil, List.not_mem_nil, or_false, List.mem_flatMap, List.mem_map]
 constructor
 ·rintro ⟨e, h1, h2⟩; exact ⟨e.1, ⟨e, h1, rfl⟩, h2⟩
 ·rintro ⟨z, ⟨e, h1, rfl⟩, h2⟩; exact ⟨e, h1, h2⟩
theorem FInv.step (R : RightG g) (N : NetOk g fs n) {s : Tprovenderref6_sets} (I : FInv g how fs s) :
  FInv g how fs (onceS n how s) ∧ (∀ x, x ∈ s.reached.map (·.1) → x ∈ (onceS n how s).reached.map (·.1)) ∧ ∀ x, x ∈ s.made.map (·.1) → x ∈ (onceS n how s).made.map (·.1) := by
 have key : ∀ z, z ∈ s.reached.map (·.1) → ∃ x, x ∈ g.Funcs ∧ x.Name = z := fun z hz => in_names.1 (by simpa using (I.sr z hz).names R)
 have up : ∀ x, x ∈ s.reached.map (·.1) → x ∈ (onceS n how s).reached.map (·.1) := fun x hx => (once_r N s x).2 (.inr ⟨x, hx, .inl rfl⟩)
 refine ⟨⟨(SetOk.nil.insAll _).insAll _, SetOk.nil.insAll _, fun y hy => ?_, fun t ht => ?_, fun t ht => ?_⟩, up, fun t ht => ?_⟩
 ·rcases (once_r N s y).1 hy with h | ⟨z, hz, h | h⟩
  ·exact .entry h
  ·subst h; exact I.sr _ hz
  ·obtain ⟨x, hx, rfl⟩ := key z hz
   rw [N.l x hx, tos_lks] at h
   obtain ⟨c, hc, ho, a, ha, hcn, rfl⟩ := h
   exact .aim (I.sr _ hz) hx hc ho ha (fun h1 h2 => I.sm _ ((cntA_iff how s a I.m).1 hcn h1 h2))
 ·obtain ⟨z, hz, h⟩ := (once_m s t).1 ht
  obtain ⟨x, hx, rfl⟩ := key z hz
  rw [N.f x hx] at h
  exact .mk (I.sr _ hz) hx h
 ·obtain ⟨z, hz, h⟩ := (once_m s t).1 ht
  obtain ⟨x, hx, rfl⟩ := key z hz
  rw [N.f x hx] at h
  exact ⟨x, hx, up _ hz, h⟩
 ·obtain ⟨x, hx, h1, h2⟩ := I.mks t ht
  exact (once_m s t).2 ⟨x.Name, h1, by rw [N.f x hx]; exact h2⟩
theorem key_len {m : List (Tx × Bool)} (h : SetOk m) {l : List Tx} (hs : ∀ x, x ∈ m.map (·.1) → x ∈ l) : m.length ≤ l.length := by
 have := List.Nodup.length_le_of_subset (nodup_lt h.srt) hs
 simpa using this
theorem same_set {m m' : List (Tx × Bool)} (h : SetOk m) (h' : SetOk m') (hs : ∀ x, x ∈ m.map (·.1) → x ∈ m'.map (·.1)) (hl : m'.length = m.length) : ∀ x, x ∈ m'.map (·.1) → x ∈ m.map (·.1) := by
 intro x hx
 by_cases hn : x ∈ m.map (·.1)
 ·exact hn
 ·have h1 : (x :: m.map (·.1)).Nodup := List.nodup_cons.2 ⟨hn, nodup_lt h.srt⟩
  have := List.Nodup.length_le_of_subset (l₂ := m'.map (·.1)) h1 (fun y hy => by
   rcases List.mem_cons.1 hy with e | e
   ·rw [e]; exact hx
   ·exact hs y e)
  simp at this; omega
structure FixOk (g : TGraph) (how : Int) (fs : List Tx) (t : Tprovenderref6_sets) : Prop where
 r : SetOk t.reached
 m : SetOk t.made
 hr : ∀ x, x ∈ t.reached.map (·.1) ↔ RN g how (onF fs) false x
 hm : ∀ x, x ∈ t.made.map (·.1) ↔ RN g how (onF fs) true x
theorem fix_loop (R : RightG g) (N : NetOk g fs n) (F : Nat) : ∀ (k : Nat) (s : Tprovenderref6_sets), FInv g how fs s → 3501 - (s.reached.length + s.made.length) < k →
  ∃ t, M28_L1 F n how k s.reached s.made = some t ∧ FixOk g how fs t
 | 0, s, _, h => by omega
 | k + 1, s, I, h => by
  obtain ⟨I', u1, u2⟩ := I.step R N
  have l1 : s.reached.length ≤ (onceS n how s).reached.length := by
   have := key_len I.r u1; simpa using this
  have l2 : s.made.length ≤ (onceS n how s).made.length := by
   have := key_len I.m u2; simpa using this
  have b1 : (onceS n how s).reached.length ≤ 3000 := by
   have := key_len I'.r (l := g.Funcs.map (·.Name)) (fun x hx => by have h := (I'.sr x hx).names R; simpa [fsOf] using h)
   have := R.fl; simp at *; omega
  have b2 : (onceS n how s).made.length ≤ 500 := by
   have := key_len I'.m (l := g.Types.map (·.Name)) (fun x hx => by have h := (I'.sm x hx).names R; simpa [tsOf] using h)
   have := R.tl; simp at *; omega
  have e : Tprovenderref6_sets.mk s.reached s.made = s := rfl
  rw [M28_L1, e, M39_eq, Option.bind_some]
  by_cases h1 : (onceS n how s).reached.length = s.reached.length
  ·rw [if_pos (by simp [h1])]
   by_cases h2 : (onceS n how s).made.length = s.made.length
   ·rw [if_pos (by simp [h2])]
    have d1 := same_set I.r I'.r u1 h1
    have d2 := same_set I.m I'.m u2 h2
    refine ⟨_, rfl, I'.r, I'.m, fun x => ⟨I'.sr x, fun hx => ?_⟩, fun x => ⟨I'.sm x, fun hx => ?_⟩⟩
    all_goals
     have key : ∀ b y, RN g how (onF fs) b y → if b then y ∈ (onceS n how s).made.map (·.1) else y ∈ (onceS n how s).reached.map (·.1) := by
      intro b y hy
      induction hy with
      | entry h => exact (once_r N s _).2 (.inl h)
      | @aim x c a hf hx hc ho ha hm ih ihm =>
       have ih := d1 _ (by simpa using ih)
       refine (once_r N s _).2 (.inr ⟨x.Name, ih, .inr ?_⟩)
       rw [N.l x hx, tos_lks]
       exact ⟨c, hc, ho, a, ha, (cntA_iff how s a I.m).2 (fun q1 q2 => d2 _ (by simpa using ihm q1 q2)), rfl⟩
      | @mk x t hf hx ht ih =>
       have ih := d1 _ (by simpa using ih)
       exact (once_m s t).2 ⟨x.Name, ih, by rw [N.f x hx]; exact ht⟩
    ·simpa using key _ _ hx
    ·simpa using key _ _ hx
   ·rw [if_neg (by simp; omega)]
    exact fix_loop R N F k _ I' (by omega)
  ·rw [if_neg (by simp; omega)]
   exact fix_loop R N F k _ I' (by omega)
theorem M28_eq (R : RightG g) (N : NetOk g fs n) (F : Nat) (hF : 10000 ≤ F) : ∃ t, M28 F n how = some t ∧ FixOk g how fs t :=
 fix_loop R N F F (Tprovenderref6_sets.mk [] []) ⟨SetOk.nil, SetOk.nil, by simp, by simp, by simp⟩ (by simp; omega)
end
theorem find_uniq {α : Type} {f : α → Tx} : ∀ {l : List α}, l.Pairwise (fun a b => Op.bytesLess (f a) (f b) = true) → ∀ {x : α}, x ∈ l → l.find? (fun y => f y == f x) = some x
 | y :: l, hp, x, hx => by
  rw [List.pairwise_cons] at hp
  rw [List.find?_cons]
  rcases List.mem_cons.1 hx with e | e
  ·subst e; simp
  ·have : (f y == f x) = false := by simpa using bl_ne (hp.1 x e)
   rw [this]; exact find_uniq hp.2 e
theorem ifm_get (t : Tx) (i : TIface) : ∀ (l : List TIface) (m : List (Tx × TIface)), mget (ifm m l) t = some i → (i ∈ l ∧ i.Name = t) ∨ mget m t = some i
 | [], m, h => .inr h
 | x :: l, m, h => by
  rcases ifm_get t i l _ h with h | h
  ·exact .inl ⟨List.mem_cons_of_mem _ h.1, h.2⟩
  ·rw [mget_mput] at h
   split at h
   ·rename_i e; simp at h; subst h; exact .inl ⟨List.mem_cons_self, e⟩
   ·exact .inr h
theorem is_iface {g : TGraph} (R : RightG g) {t : Tx} {l : List Tx} (h : isOf g t = some l) : ∃ i, i ∈ g.Ifaces ∧ i.Name = t ∧ i.Methods = l ∧ g.Ifaces.find? (fun y => y.Name == t) = some i := by
 unfold isOf at h
 rw [Option.map_eq_some_iff] at h
 obtain ⟨i, h1, h2⟩ := h
 rcases ifm_get t i _ _ h1 with h | h
 ·exact ⟨i, h.1, h.2, h2, by rw [← h.2]; exact find_uniq (f := TIface.Name) R.isrt h.1⟩
 ·simp [mget] at h
theorem fit_iff {g : TGraph} (R : RightG g) (how : Int) (fs : List Tx) {n : Tx} {i : TIface} (hf : g.Ifaces.find? (fun y => y.Name == n) = some i) (t : Int) : t ∈ fitL (wOf g how fs) n ↔ ∃ j : Nat, ∃ h : j < g.Types.length, t = j ∧ fitB g.Types[j] i = true := by
 unfold fitL wOf
 simp only
 rw [fitM_get g.Types n g.Ifaces [] R.isrt]
 simp only [mget, Option.getD_none, List.nil_append]
 rw [hf]
 show t ∈ fitIdx i 0 g.Types ↔ _
 rw [fitIdx_mem]
 simp
theorem fI_at {g : TGraph} (R : RightG g) (how : Int) (fs : List Tx) {i : Nat} (h : i < g.Funcs.length) : fI (wOf g how fs) (g.Funcs[i]).Name = i := by
 unfold fI wOf
 simp only
 have := nums_get (g.Funcs.map (·.Name)) [] 0 i (by simpa using h) (srt_names R.fsrt)
 simp only [List.getElem_map] at this
 rw [this]; simp
theorem tI_at {g : TGraph} (R : RightG g) (how : Int) (fs : List Tx) {i : Nat} (h : i < g.Types.length) : tI (wOf g how fs) (g.Types[i]).Name = i := by
 unfold tI wOf
 simp only
 have := nums_get (g.Types.map (·.Name)) [] 0 i (by simpa using h) (srt_names R.tsrt)
 simp only [List.getElem_map] at this
 rw [this]; simp
theorem fs_at {g : TGraph} {x : Tx} (h : fsOf g x = true) : ∃ i : Nat, ∃ h : i < g.Funcs.length, (g.Funcs[i]).Name = x := by
 obtain ⟨f, hf, rfl⟩ := in_names.1 h
 obtain ⟨i, hi, rfl⟩ := List.getElem_of_mem hf
 exact ⟨i, hi, rfl⟩
theorem ts_at {g : TGraph} {x : Tx} (h : tsOf g x = true) : ∃ i : Nat, ∃ h : i < g.Types.length, (g.Types[i]).Name = x := by
 obtain ⟨f, hf, rfl⟩ := in_types.1 h
 obtain ⟨i, hi, rfl⟩ := List.getElem_of_mem hf
 exact ⟨i, hi, rfl⟩
theorem M33_at {F : Nat} (hF : 1000 ≤ F) {g : TGraph} (R : RightG g) (how : Int) (fs : List Tx) (c : TCall) {i : Nat} (hi : i < g.Types.length) : M33 F (wOf g how fs) c (i : Int) = some (fI (wOf g how fs) (mOf g.Types[i] c.Method).1) := by
 have hT := R.t g.Types[i] (List.getElem_mem _)
 unfold M33
 rw [show idx (wOf g how fs).g.Types (i : Int) = some g.Types[i] from idx_nat hi, Option.bind_some, M45_eq F _ _ hT.len hT.srt hF, Option.bind_some]
 rfl
theorem idx_at {α : Type} {l : List α} {f : Int} {x : α} (h : idx l f = some x) : ∃ i : Nat, ∃ hi : i < l.length, f = i ∧ l[i] = x := by
 have h1 := idx_lt h
 have h2 := idx_some h
 exact ⟨f.toNat, h1, by have := h2.1; omega, (List.getElem?_eq_some_iff.1 h2.2).2⟩
theorem dis_aim {g : TGraph} (R : RightG g) {x : TFunc} (hx : x ∈ g.Funcs) {c : TCall} (hc : c ∈ x.Calls) (k : c.Kind ≠ 1) : ∃ i, i ∈ g.Ifaces ∧ g.Ifaces.find? (fun y => y.Name == c.Target) = some i ∧ ifG g c.Target = i ∧ ∀ t, fitB t i = true → (mOf t c.Method).2 = true := by
 rcases ((R.f x hx).calls c hc).kind with ⟨h, _⟩ | ⟨_, l, h1, h2⟩
 ·exact absurd h k
 ·obtain ⟨i, i1, i2, i3, i4⟩ := is_iface R h1
  refine ⟨i, i1, i4, by unfold ifG; rw [i4]; rfl, fun t ht => ?_⟩
  unfold fitB at ht
  rw [List.all_eq_true] at ht
  exact ht _ (by rw [i3]; exact h2)
theorem RR_RN {F : Nat} (hF : 1000 ≤ F) {g : TGraph} (R : RightG g) {how : Int} (hh : how = 1 ∨ how = 2) {fs : List Tx} {b : Bool} {v : Int} (h : RR F (wOf g how fs) b v) :
  if b then ∃ i : Nat, ∃ h : i < g.Types.length, v = i ∧ RN g how (onF fs) true (g.Types[i]).Name else ∃ i : Nat, ∃ h : i < g.Funcs.length, v = i ∧ RN g how (onF fs) false (g.Funcs[i]).Name := by
 induction h with
 | @entry e h =>
  have h : e ∈ g.Entries := h
  obtain ⟨i, hi, he⟩ := fs_at (R.e e h)
  subst he
  show ∃ j, _
  exact ⟨i, hi, fI_at R how fs hi, .entry h⟩
 | @dir f x c hf hx hc ho k ih =>
  obtain ⟨i, hi, rfl, ih2⟩ := (show ∃ i : Nat, ∃ h : i < g.Funcs.length, f = i ∧ RN g how (onF fs) false (g.Funcs[i]).Name from ih)
  obtain ⟨i', hi', e1, e2⟩ := idx_at hx
  have : i' = i := by omega
  subst this
  have hx : g.Funcs[i'] = x := e2
  have hxm : x ∈ g.Funcs := by rw [← hx]; exact List.getElem_mem _
  rw [hx] at ih2
  have ha : Tprovenderref6_aim.mk [] c.Target ∈ aimsG g c := by unfold aimsG; rw [if_pos k]; simp
  obtain ⟨j, hj, he⟩ := fs_at (aim_fs R hxm hc ha)
  have he : (g.Funcs[j]).Name = c.Target := he
  show ∃ j, _
  refine ⟨j, hj, by rw [← he]; exact fI_at R how fs hj, ?_⟩
  rw [he]
  rw [onB_eq] at ho
  exact .aim ih2 hxm hc ho ha (fun _ h => absurd rfl h)
 | @dis f t v x c hf hx hc ho k ht hm hv ih ihm =>
  obtain ⟨i, hi, rfl, ih2⟩ := (show ∃ i : Nat, ∃ h : i < g.Funcs.length, f = i ∧ RN g how (onF fs) false (g.Funcs[i]).Name from ih)
  obtain ⟨i', hi', e1, e2⟩ := idx_at hx
  have : i' = i := by omega
  subst this
  have hx : g.Funcs[i'] = x := e2
  have hxm : x ∈ g.Funcs := by rw [← hx]; exact List.getElem_mem _
  rw [hx] at ih2
  obtain ⟨I, I1, I2, I3, I4⟩ := dis_aim R hxm hc k
  obtain ⟨j, hj, rfl, hfit⟩ := (fit_iff R how fs I2 t).1 ht
  rw [M33_at hF R how fs c hj] at hv
  simp only [Option.some.injEq] at hv
  have ha : Tprovenderref6_aim.mk (g.Types[j]).Name (mOf g.Types[j] c.Method).1 ∈ aimsG g c := by
   unfold aimsG
   rw [if_neg k]
   exact List.mem_filterMap.2 ⟨g.Types[j], List.getElem_mem _, by unfold aimO; rw [if_pos ⟨I4 _ hfit, by rw [I3]; exact hfit⟩]⟩
  obtain ⟨q, hq, he⟩ := fs_at (aim_fs R hxm hc ha)
  have he : (g.Funcs[q]).Name = (mOf g.Types[j] c.Method).1 := he
  show ∃ j, _
  refine ⟨q, hq, by rw [← hv, ← he]; exact fI_at R how fs hq, ?_⟩
  rw [he]
  rw [onB_eq] at ho
  refine .aim ih2 hxm hc ho ha (fun h1 _ => ?_)
  have hmd : (wOf g how fs).made = true := by
   have : how = 2 := hh.resolve_left h1
   simp [wOf, this]
  obtain ⟨j', hj', e1, e2⟩ := (show ∃ i : Nat, ∃ h : i < g.Types.length, (j : Int) = i ∧ RN g how (onF fs) true (g.Types[i]).Name from ihm hmd)
  have : j' = j := by omega
  subst this
  exact e2
 | @mk f x t hf hx ht ih =>
  obtain ⟨i, hi, rfl, ih2⟩ := (show ∃ i : Nat, ∃ h : i < g.Funcs.length, f = i ∧ RN g how (onF fs) false (g.Funcs[i]).Name from ih)
  obtain ⟨i', hi', e1, e2⟩ := idx_at hx
  have : i' = i := by omega
  subst this
  have hx : g.Funcs[i'] = x := e2
  have hxm : x ∈ g.Funcs := by rw [← hx]; exact List.getElem_mem _
  rw [hx] at ih2
  obtain ⟨j, hj, he⟩ := ts_at ((R.f x hxm).makes t ht)
  subst he
  show ∃ j, _
  exact ⟨j, hj, tI_at R how fs hj, .mk ih2 hxm ht⟩
theorem RN_RR {F : Nat} (hF : 1000 ≤ F) {g : TGraph} (R : RightG g) {how : Int} {fs : List Tx} {b : Bool} {y : Tx} (h : RN g how (onF fs) b y) :
  if b then RR F (wOf g how fs) true (tI (wOf g how fs) y) else RR F (wOf g how fs) false (fI (wOf g how fs) y) := by
 induction h with
 | @entry e h => exact RR.entry (w := wOf g how fs) h
 | @aim x c a hf hx hc ho ha hm ih ihm =>
  have ih : RR F (wOf g how fs) false (fI (wOf g how fs) x.Name) := ih
  obtain ⟨i, hi, rfl⟩ := List.getElem_of_mem hx
  rw [fI_at R how fs hi] at ih
  have hix : idx (wOf g how fs).g.Funcs (i : Int) = some g.Funcs[i] := idx_nat hi
  have hon : onB (wOf g how fs) c.Feature = true := by rw [onB_eq]; exact ho
  show RR F (wOf g how fs) false _
  unfold aimsG at ha
  split at ha
  ·rename_i k
   simp at ha; subst ha
   exact .dir ih hix hc hon k
  ·rename_i k
   obtain ⟨t, ht, h⟩ := List.mem_filterMap.1 ha
   unfold aimO at h
   split at h
   ·rename_i h1
    simp only [Option.some.injEq] at h
    subst h
    obtain ⟨j, hj, rfl⟩ := List.getElem_of_mem ht
    obtain ⟨I, I1, I2, I3, I4⟩ := dis_aim R hx hc k
    refine .dis ih hix hc hon k ((fit_iff R how fs I2 (j : Int)).2 ⟨j, hj, rfl, by rw [← I3]; exact h1.2⟩) (fun hmd => ?_) (M33_at hF R how fs c hj)
    have h2 : how ≠ 1 := by intro e; simp [wOf, e] at hmd
    have h3 : (g.Types[j]).Name ≠ [] := by
     have := (R.t _ ht).nam
     intro e; rw [e] at this; simp [nm] at this
    have := ihm h2 h3
    rw [← tI_at R how fs hj]
    exact this
   ·simp at h
 | @mk x t hf hx ht ih =>
  have ih : RR F (wOf g how fs) false (fI (wOf g how fs) x.Name) := ih
  obtain ⟨i, hi, rfl⟩ := List.getElem_of_mem hx
  rw [fI_at R how fs hi] at ih
  exact RR.mk (w := wOf g how fs) ih (idx_nat hi) ht
theorem reach_iff {F : Nat} (hF : 1000 ≤ F) {g : TGraph} (R : RightG g) {how : Int} (hh : how = 1 ∨ how = 2) (fs : List Tx) {i : Nat} (hi : i < g.Funcs.length) : RR F (wOf g how fs) false (i : Int) ↔ RN g how (onF fs) false (g.Funcs[i]).Name := by
 constructor
 ·intro h
  obtain ⟨j, hj, e, h2⟩ := (show ∃ j : Nat, ∃ h : j < g.Funcs.length, (i : Int) = j ∧ RN g how (onF fs) false (g.Funcs[j]).Name from RR_RN hF R hh h)
  have : j = i := by omega
  subst this; exact h2
 ·intro h
  have : RR F (wOf g how fs) false (fI (wOf g how fs) (g.Funcs[i]).Name) := RN_RR hF R h
  rw [fI_at R how fs hi] at this; exact this
def pick {α : Type} (f : α → Tx) : List α → List Bool → List Tx
 | x :: xs, b :: l => if b = true then f x :: pick f xs l else pick f xs l
 | _, _ => []
theorem opn_parts {g : TGraph} {how : Int} {fs : List Tx} (h : opnE g how fs = 0) : RightG g ∧ (how = 1 ∨ how = 2) := by
 unfold opnE at h
 split at h
 ·rename_i h1; exact absurd h h1
 ·rename_i h1
  split at h
  ·rename_i h2; exact absurd h h2
  ·split at h
   ·rename_i h3; exact ⟨right_of (by simpa using h1), h3⟩
   ·simp at h
theorem M6_L1_same (F : Nat) (a : List Tx) (k : Option Bool) : ∀ (l : List Tx) (n : Nat), a.drop n = l → M6_L1 F a k l n = k
 | [], n, _ => rfl
 | x :: l, n, h => by
  obtain ⟨hn, h1, h2⟩ := drop_at h
  rw [M6_L1, idx_nat hn, Option.bind_some, if_neg (by simp [h1])]
  exact M6_L1_same F a k l (n + 1) h2
theorem M6_same (F : Nat) (a : List Tx) : M6 F a a = some true := by
 unfold M6
 rw [if_neg (by simp), jn_def]
 exact M6_L1_same F a _ a 0 rfl
abbrev WQ := NumM × NumM × FitM × SetM
theorem M31_L1_eq {F : Nat} (k : NumM → Option WQ) : ∀ (l : List TFunc) (n : Int) (m : NumM), M31_L1 F k l n m = k (nums m n (l.map (·.Name)))
 | [], n, m => rfl
 | x :: l, n, m => by rw [M31_L1, M31_L1_eq k l]; rfl
theorem M31_L2_eq {F : Nat} (k : NumM → Option WQ) : ∀ (l : List TType) (n : Int) (m : NumM), M31_L2 F k l n m = k (nums m n (l.map (·.Name)))
 | [], n, m => rfl
 | x :: l, n, m => by rw [M31_L2, M31_L2_eq k l]; rfl
theorem M31_L5_eq {F : Nat} (k : SetM → Option WQ) : ∀ (l : List Tx) (m : SetM), M31_L5 F k l m = k (sset m l)
 | [], m => rfl
 | x :: l, m => by rw [M31_L5, M31_L5_eq k l]; rfl
theorem M31_L4_eq (F : Nat) (x : TIface) (k : FitM → Option WQ) (hF : 1000 ≤ F) : ∀ (l : List TType) (n : Int) (m : FitM), (∀ t, t ∈ l → t.Methods.length ≤ 200 ∧ t.Methods.Pairwise (fun p q => Op.bytesLess p.Name q.Name = true)) →
  ((mget m x.Name).getD []).length + l.length ≤ 100000 → M31_L4 F x k l n m = k (if (fitIdx x n l).isEmpty = true then m else mput m x.Name ((mget m x.Name).getD [] ++ fitIdx x n l))
 | [], n, m, _, _ => by simp [M31_L4, fitIdx]
 | t :: l, n, m, ht, hb => by
  obtain ⟨t1, t2⟩ := ht t (by simp)
  simp only [List.length_cons] at hb
  rw [M31_L4, M43_eq F t x t1 t2 hF, Option.bind_some]
  simp only [jn_def]
  by_cases hf : fitB t x = true
  ·rw [show fitIdx x n (t :: l) = n :: fitIdx x (n + 1) l by rw [fitIdx, if_pos hf]]
   rw [if_pos hf, if_pos (by simp; omega), M31_L4_eq F x k hF l (n + 1) _ (fun q hq => ht q (List.mem_cons_of_mem _ hq)) (by rw [mget_mput, if_pos rfl]; simp; omega)]
   congr 1
   rw [mget_mput, if_pos rfl, Option.getD_some, if_neg (show ¬ (n :: fitIdx x (n + 1) l).isEmpty = true by simp)]
   split
   ·rename_i he; rw [List.isEmpty_iff.1 he]
   ·rw [mput_mput]; simp
  ·rw [show fitIdx x n (t :: l) = fitIdx x (n + 1) l by rw [fitIdx, if_neg hf]]
   rw [if_neg hf, M31_L4_eq F x k hF l (n + 1) m (fun q hq => ht q (List.mem_cons_of_mem _ hq)) (by omega)]
theorem M31_L3_eq (F : Nat) (g : TGraph) (k : FitM → Option WQ) (hF : 1000 ≤ F) (hT : ∀ t, t ∈ g.Types → t.Methods.length ≤ 200 ∧ t.Methods.Pairwise (fun p q => Op.bytesLess p.Name q.Name = true)) (htl : g.Types.length ≤ 500) :
  ∀ (l : List TIface) (m : FitM), l.Pairwise (fun a b => Op.bytesLess a.Name b.Name = true) → (∀ x, x ∈ l → (mget m x.Name).getD [] = []) → M31_L3 F g k l m = k (fitM g.Types m l)
 | [], m, _, _ => rfl
 | x :: l, m, hp, hm => by
  have hp := List.pairwise_cons.1 hp
  rw [M31_L3]
  simp only [jn_def]
  rw [M31_L4_eq F x _ hF g.Types 0 m hT (by rw [hm x (by simp)]; simp; omega)]
  rw [M31_L3_eq F g k hF hT htl l _ hp.2 (fun y hy => by
   have := putFit_get g.Types m x y.Name
   unfold putFit at this
   rw [this, hm y (List.mem_cons_of_mem _ hy), if_neg (bl_ne (hp.1 y hy))]; rfl)]
  rfl
theorem M31_eq (F : Nat) (g : TGraph) (how : Int) (fs : List Tx) (R : RightG g) (hF : 1000 ≤ F) : M31 F g how fs = some ((wOf g how fs).funcs, (wOf g how fs).types, (wOf g how fs).fitting, (wOf g how fs).on) := by
 unfold M31
 simp only [jn_def, M31_L1_eq, M31_L2_eq, M31_L5_eq]
 rw [M31_L3_eq F g _ hF (fun t ht => ⟨(R.t t ht).len, (R.t t ht).srt⟩) R.tl g.Ifaces [] R.isrt (fun x _ => rfl)]
 rfl
theorem M18_eq (F : Nat) (g : TGraph) (how : Int) (fs : List Tx) (hg : okTGraph g) (hfs : ∀ x, x ∈ fs → x.length ≤ maxLen) (hF : 1000 ≤ F) :
  M18 F g how fs = some (if opnE g how fs ≠ 0 then .inr (opnE g how fs) else .inl ((wOf g how fs).funcs, (wOf g how fs).types, (wOf g how fs).fitting, (wOf g how fs).on)) := by
 unfold M18 opnE
 rw [M29_eq F g hg, Option.bind_some, M30_eq F fs hfs, Option.bind_some]
 by_cases h1 : chk false g = 0
 ·rw [if_neg (by simp [h1]), if_neg (show ¬ chk false g ≠ 0 by simp [h1])]
  by_cases h2 : feE fs = 0
  ·rw [if_neg (by simp [h2]), if_neg (show ¬ feE fs ≠ 0 by simp [h2]), M31_eq F g how fs (right_of h1) hF]
   by_cases h3 : how = 1
   ·simp [h3]
   ·by_cases h4 : how = 2
    ·simp [h4]
    ·simp [h3, h4]
  ·rw [if_pos (by simpa using h2), if_pos h2]; simp [h2]
 ·rw [if_pos (by simpa using h1), if_pos h1]; simp [h1]
theorem funcs_none {g : TGraph} (how : Int) (fs : List Tx) {t : Tx} (h : fsOf g t = false) : mget (wOf g how fs).funcs t = none := by
 have h : t ∉ g.Funcs.map (·.Name) := by
  intro hm
  have : fsOf g t = true := by unfold fsOf; simpa using hm
  rw [h] at this; cases this
 show mget (nums [] 0 (g.Funcs.map (·.Name))) t = none
 rw [nums_other t _ _ _ h]; rfl
theorem funcs_some {g : TGraph} (R : RightG g) (how : Int) (fs : List Tx) {i : Nat} (h : i < g.Funcs.length) : mget (wOf g how fs).funcs (g.Funcs[i]).Name = some (i : Int) := by
 show mget (nums [] 0 (g.Funcs.map (·.Name))) _ = _
 have := nums_get (g.Funcs.map (·.Name)) [] 0 i (by simpa using h) (srt_names R.fsrt)
 rw [List.getElem_map] at this
 rw [this]; simp
theorem M12_err (F : Nat) (g : TGraph) (how : Int) (fs : List Tx) (t : Tx) (hg : okTGraph g) (hfs : ∀ x, x ∈ fs → x.length ≤ maxLen) (hF : 1000 ≤ F) (h : opnE g how fs ≠ 0) : M12 F g how fs t = some (.inr (opnE g how fs)) := by
 unfold M12
 rw [M18_eq F g how fs hg hfs hF, if_pos h, Option.bind_some]
 show (if (opnE g how fs != 0) = true then some (Sum.inr (opnE g how fs)) else none) = _
 rw [if_pos (by simpa using h)]
theorem M12_none (F : Nat) (g : TGraph) (how : Int) (fs : List Tx) (t : Tx) (hg : okTGraph g) (hfs : ∀ x, x ∈ fs → x.length ≤ maxLen) (hF : 1000 ≤ F) (h : opnE g how fs = 0) (ht : fsOf g t = false) : M12 F g how fs t = some (.inr 4) := by
 unfold M12
 rw [M18_eq F g how fs hg hfs hF, if_neg (by simp [h]), Option.bind_some]
 simp only [sm, funcs_none how fs ht]
 rfl
theorem M12_some (F : Nat) (g : TGraph) (how : Int) (fs : List Tx) (hg : okTGraph g) (hfs : ∀ x, x ∈ fs → x.length ≤ maxLen) (hF : 1000 ≤ F) (h : opnE g how fs = 0) (R : RightG g) {i : Nat} (hi : i < g.Funcs.length) :
  M12 F g how fs (g.Funcs[i]).Name = some (.inl ((i : Int), (wOf g how fs).funcs, (wOf g how fs).types, (wOf g how fs).fitting, (wOf g how fs).on)) := by
 unfold M12
 rw [M18_eq F g how fs hg hfs hF, if_neg (by simp [h]), Option.bind_some]
 simp only [sm, funcs_some R how fs hi]
 rfl
end Go.Proofs.Ytcbkgdagiccfmaa
