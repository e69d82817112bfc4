/- Part of the proof: RV. -/
import Derived.Test.YtpbkggamiipdmaaMRU
namespace Go.Proofs.Ytpbkggamiipdmaa
open Go Go.Pv
set_option linter.unusedVariables false
set_option linter.unusedSimpArgs false
set_option maxRecDepth 100000
abbrev K5 := List Bool → List Bool → List (Treach_slot × Bool) → List Treach_slot → List Int → Option (Option Treach_spread)
theorem idx_mem {α : Type} {a : List α} {n : Int} {x : α} (h : idx a n = some x) : x ∈ a := by
  unfold idx at h
  split at h
  · exact List.mem_of_getElem? h
  · simp at h
theorem calls_loop {F : Nat} {w : Treach_world} (W : WOk F w) (k20 : K5) (k69 : List Bool → List (Treach_slot × Bool) → List Treach_slot → List Int → Option (Option Treach_spread)) (md : List Bool) {E : Nat → Prop} {f : Int} {x : TFunc} (hf : RR F w false f) (hx : idx w.g.Funcs f = some x) (hN : 0 < w.g.Funcs.length) :
    ∀ (cs : List TCall) (l : List Bool) (m : List (Treach_slot × Bool)) (o : List Treach_slot) (q : List Int) (b z : Nat), (∀ c, c ∈ cs → c ∈ x.Calls) → Inv F w l md m o q (b + cs.length) z E →
    ∃ l' m' o' q', M32_L4 F w (-1) md k20 k69 cs l m o q = k69 l' m' o' q' ∧ Inv F w l' md m' o' q' b z E ∧ More l md o l' md o' ∧ ∀ c, c ∈ cs → onB w c.Feature = true → (c.Kind = 1 → ∀ i : Nat, fI w c.Target = i → tru l' i) ∧ (c.Kind ≠ 1 → slotOf c ∈ o')
  | [], l, m, o, q, b, z, _, I => ⟨l, m, o, q, rfl, I, More.refl, by simp⟩
  | c :: cs, l, m, o, q, b, z, hc, I => by
    rw [M32_L4]
    simp only [jn_def]
    by_cases hon : onB w c.Feature = true
    · have hon' : ¬ (!((mget w.on c.Feature).getD false)) = true := by
        have : (mget w.on c.Feature).getD false = true := hon
        simp [this]
      obtain ⟨l1, m1, o1, q1, e1, I1, M1, d1, d2⟩ := inv_call W (show Inv F w l md m o q (b + cs.length + 1) z E from I) hf hx (idx_mem hx) (hc c (by simp)) hon hN []
      rw [if_neg hon', e1, Option.bind_some, if_neg (by simp)]
      obtain ⟨l2, m2, o2, q2, e2, I2, M2, d3⟩ := calls_loop W k20 k69 md hf hx hN cs l1 m1 o1 q1 b z (fun c h => hc c (List.mem_cons_of_mem _ h)) I1
      refine ⟨l2, m2, o2, q2, e2, I2, M1.trans M2, fun c' hc' ho' => ?_⟩
      rcases List.mem_cons.1 hc' with rfl | h
      · exact ⟨fun k i hi => M2.l i (d1 k i hi), fun k => M2.o _ (d2 k)⟩
      · exact d3 c' h ho'
    · have hon' : (!((mget w.on c.Feature).getD false)) = true := by
        have : ¬ (mget w.on c.Feature).getD false = true := hon
        simpa using this
      rw [if_pos hon']
      obtain ⟨l2, m2, o2, q2, e2, I2, M2, d3⟩ := calls_loop W k20 k69 md hf hx hN cs l m o q b z (fun c h => hc c (List.mem_cons_of_mem _ h)) ⟨I.ll, I.ml, by have := I.mu; simp at this; omega, I.qm, I.qr, I.sf, I.st, I.ms, I.so, I.cls, I.dn⟩
      refine ⟨l2, m2, o2, q2, e2, I2, M2, fun c' hc' ho' => ?_⟩
      rcases List.mem_cons.1 hc' with rfl | h
      · exact absurd ho' hon
      · exact d3 c' h ho'
theorem makes_loop {F : Nat} {w : Treach_world} (W : WOk F w) (m : List (Treach_slot × Bool)) (o : List Treach_slot) (k49 : List Bool → List Bool → List Int → Option (Option Treach_spread)) {b z : Nat} {E : Nat → Prop} {f : Int} {x : TFunc} (hf : RR F w false f) (hx : idx w.g.Funcs f = some x) (hN : 0 < w.g.Funcs.length) :
    ∀ (ts : List Tx) (l md : List Bool) (q : List Int), (∀ t, t ∈ ts → t ∈ x.Makes) → Inv F w l md m o q b z E →
    ∃ l' md' q', M32_L3 F w m o k49 ts l md q = k49 l' md' q' ∧ Inv F w l' md' m o q' b z E ∧ More l md o l' md' o ∧ ∀ t, t ∈ ts → ∀ i : Nat, tI w t = i → tru md' i
  | [], l, md, q, _, I => ⟨l, md, q, rfl, I, More.refl, by simp⟩
  | t :: ts, l, md, q, ht, I => by
    obtain ⟨i, hi, he⟩ := W.mks x (idx_mem hx) t (ht t (by simp))
    have he' : (mget w.types t).getD 0 = (i : Int) := he
    have hr : RR F w true i := by
      have := RR.mk hf hx (ht t (by simp))
      rwa [he] at this
    obtain ⟨l1, md1, q1, e1, I1, M1, d1⟩ := inv_make W I i hi hN hr []
    rw [M32_L3, he', e1, Option.bind_some]
    obtain ⟨l2, md2, q2, e2, I2, M2, d2⟩ := makes_loop W m o k49 hf hx hN ts l1 md1 q1 (fun t h => ht t (List.mem_cons_of_mem _ h)) I1
    refine ⟨l2, md2, q2, e2, I2, M1.trans M2, fun u hu j hj => ?_⟩
    rcases List.mem_cons.1 hu with rfl | hu
    · rw [he] at hj
      obtain rfl : i = j := by omega
      exact M2.m _ d1
    · exact d2 u hu j hj
theorem queue_loop {F : Nat} {w : Treach_world} (W : WOk F w) (k20 : K5) : ∀ (n : Nat) (l md : List Bool) (m : List (Treach_slot × Bool)) (o : List Treach_slot) (q : List Int) (z : Nat), Inv F w l md m o q 0 z (fun _ => False) → z < n →
    ∃ l' md' m' o', M32_L2 F w (-1) k20 n l md m o q = k20 l' md' m' o' [] ∧ (∃ z, Inv F w l' md' m' o' [] 0 z (fun _ => False)) ∧ More l md o l' md' o'
  | 0, l, md, m, o, q, z, _, h => by omega
  | n + 1, l, md, m, o, [], z, I, h => ⟨l, md, m, o, by rw [M32_L2, if_f (by simp)], ⟨z, I⟩, More.refl⟩
  | n + 1, l, md, m, o, f :: q, z, I, h => by
    obtain ⟨i, hfi, hti⟩ := I.qr f (by simp)
    subst hfi
    have hil : i < l.length := tru_lt hti
    have hiF : i < w.g.Funcs.length := by rw [← I.ll]; exact hil
    have hN : 0 < w.g.Funcs.length := by omega
    have hf := I.sf i hti
    have hx : idx w.g.Funcs (i : Int) = some w.g.Funcs[i] := idx_nat hiF
    generalize hxx : w.g.Funcs[i] = x at hx
    rw [M32_L2]
    simp only [jn_def]
    rw [if_t (by simp), show idx ((i : Int) :: q) 0 = some (i : Int) from rfl, Option.bind_some, if_pos (by simp), if_neg (by simp), hx, Option.bind_some, List.drop_one, List.tail_cons]
    simp only [Option.bind_some]
    have mu0 := I.mu
    have qm0 := I.qm
    simp only [List.length_cons] at mu0 qm0
    have I0 : Inv F w l md m o q 200 (z - 1) (fun k => k = i) := ⟨I.ll, I.ml, by omega, ⟨by omega, by omega⟩, fun y hy => I.qr y (List.mem_cons_of_mem _ hy), I.sf, I.st, I.ms, I.so, I.cls, fun k hk => by
      rcases I.dn k hk with h | h | h
      · rcases List.mem_cons.1 h with h | h
        · exact .inr (.inr (by omega))
        · exact .inl h
      · exact .inr (.inl h)
      · exact h.elim⟩
    obtain ⟨l1, md1, q1, e1, I1, M1, d1⟩ := makes_loop W m o (fun l50 l51 l52 => M32_L4 F w (-1) l51 k20 (fun l70 m71 l72 l73 => M32_L2 F w (-1) k20 n l70 l51 m71 l72 l73) x.Calls l50 m o l52) hf hx hN x.Makes l md q (fun _ h => h) I0
    rw [e1]
    have hcl := W.cl x (idx_mem hx)
    obtain ⟨l2, m2, o2, q2, e2, I2, M2, d2⟩ := calls_loop W k20 (fun l70 m71 l72 l73 => M32_L2 F w (-1) k20 n l70 md1 m71 l72 l73) md1 hf hx hN x.Calls l1 m o q1 (200 - x.Calls.length) (z - 1) (fun _ h => h) (by rw [show 200 - x.Calls.length + x.Calls.length = 200 by omega]; exact I1)
    rw [e2]
    have hdone : Done F w l2 md1 o2 i := fun y hy => by
      rw [hx] at hy; simp only [Option.some.injEq] at hy; subst hy
      exact ⟨fun t ht j hj => d1 t ht j hj, fun c hc ho => d2 c hc ho⟩
    have I3 : Inv F w l2 md1 m2 o2 q2 0 (z - 1) (fun _ => False) := ⟨I2.ll, I2.ml, by have := I2.mu; omega, I2.qm, I2.qr, I2.sf, I2.st, I2.ms, I2.so, I2.cls, fun k hk => by
      rcases I2.dn k hk with h | h | h
      · exact .inl h
      · exact .inr (.inl h)
      · have h : k = i := h
        subst h; exact .inr (.inl hdone)⟩
    obtain ⟨l3, md3, m3, o3, e3, I4, M3⟩ := queue_loop W k20 n l2 md1 m2 o2 q2 (z - 1) I3 (by omega)
    exact ⟨l3, md3, m3, o3, e3, I4, (M1.trans M2).trans M3⟩
theorem entries_loop {F : Nat} {w : Treach_world} (W : WOk F w) (k5 : List Bool → List Int → Option (Option Treach_spread)) (md : List Bool) (hmd : md = List.replicate (((w.g.Types.length : Nat) : Int)).toNat false) :
    ∀ (es : List Tx) (l : List Bool) (q : List Int) (b z : Nat), (∀ e, e ∈ es → e ∈ w.g.Entries) → Inv F w l md [] [] q b z (fun _ => False) →
    ∃ l' q', M32_L1 F w k5 es l q = k5 l' q' ∧ Inv F w l' md [] [] q' b z (fun _ => False) ∧ (∀ n, tru l n → tru l' n) ∧ ∀ e, e ∈ es → ∀ i : Nat, fI w e = i → tru l' i
  | [], l, q, b, z, _, I => ⟨l, q, rfl, I, fun _ h => h, by simp⟩
  | e :: es, l, q, b, z, he, I => by
    obtain ⟨i, hi, hfe⟩ := W.ent e (he e (by simp))
    have hfe' : (mget w.funcs e).getD 0 = (i : Int) := hfe
    obtain ⟨l1, q1, e1, g1, t1⟩ := add_eq F w l md [] [] [] q i (by rw [I.ll]; exact hi) (by have := I.qm; omega)
    rw [M32_L1, hfe', ← hmd, e1, Option.bind_some]
    have I1 := I.grow g1 (fun n hn => by
      subst hn
      have := RR.entry (F := F) (he e (by simp))
      rwa [hfe] at this)
    obtain ⟨l2, q2, e2, I2, m2, d2⟩ := entries_loop W k5 md hmd es l1 q1 b z (fun e h => he e (List.mem_cons_of_mem _ h)) I1
    refine ⟨l2, q2, e2, I2, fun n h => m2 n (g1.old n h), fun u hu j hj => ?_⟩
    rcases List.mem_cons.1 hu with rfl | hu
    · rw [hfe] at hj
      obtain rfl : i = j := by omega
      exact m2 _ t1
    · exact d2 u hu j hj
theorem tru_rep {n k : Nat} : ¬ tru (List.replicate n false) k := by
  unfold tru
  rw [List.getElem?_replicate]
  split <;> simp
theorem fls_rep (n : Nat) : fls (List.replicate n false) = n := by
  unfold fls
  rw [List.countP_replicate]; simp
/-- What is reached, in a world that is right. -/
theorem spread_eq {F : Nat} {w : Treach_world} (W : WOk F w) (hF : 10000 ≤ F) : ∃ sp, M32 F w (-1) = some (some sp) ∧ sp.funcs.length = w.g.Funcs.length ∧ sp.made.length = w.g.Types.length ∧
    (∀ n : Nat, tru sp.funcs n ↔ n < w.g.Funcs.length ∧ RR F w false n) ∧ ∀ n : Nat, tru sp.made n ↔ n < w.g.Types.length ∧ RR F w true n := by
  have hfl := W.fl
  have htl := W.tl
  unfold M32
  rw [if_pos (by omega), if_pos (by omega)]
  simp only [jn_def]
  have I0 : Inv F w (List.replicate (((w.g.Funcs.length : Nat) : Int)).toNat false) (List.replicate (((w.g.Types.length : Nat) : Int)).toNat false) [] [] [] 0 w.g.Funcs.length (fun _ => False) :=
    ⟨by simp, by simp, by rw [fls_rep]; simp; omega, ⟨by rw [fls_rep]; simp, by omega⟩, by simp, fun n h => (tru_rep h).elim, fun n h => (tru_rep h).elim, fun s => by simp [mget], by simp, by simp, fun n h => (tru_rep h).elim⟩
  obtain ⟨l1, q1, e1, I1, _, d1⟩ := entries_loop W (fun l6 l7 => M32_L2 F w (-1) (fun l21 l22 m23 l24 l25 => some (some (Treach_spread.mk (some w) l21 l22 m23 l24 ([] : List Int) l25))) F l6 (List.replicate (((w.g.Types.length : Nat) : Int)).toNat false) [] [] l7) _ rfl w.g.Entries _ [] 0 w.g.Funcs.length (fun _ h => h) I0
  obtain ⟨l2, md2, m2, o2, e2, ⟨z, I2⟩, M2⟩ := queue_loop W (fun l21 l22 m23 l24 l25 => some (some (Treach_spread.mk (some w) l21 l22 m23 l24 ([] : List Int) l25))) F l1 (List.replicate (((w.g.Types.length : Nat) : Int)).toNat false) [] [] q1 w.g.Funcs.length I1 (by omega)
  refine ⟨Treach_spread.mk (some w) l2 md2 m2 o2 [] [], by rw [e1, e2], I2.ll, I2.ml, ?_, ?_⟩
  all_goals
    have key : ∀ b v, RR F w b v → (∃ n : Nat, v = n ∧ n < (if b then w.g.Types.length else w.g.Funcs.length)) ∧ ∀ n : Nat, v = n → if b then tru md2 n else tru l2 n := by
      intro b v h
      induction h with
      | @entry e h =>
        obtain ⟨i, hi, he⟩ := W.ent e h
        refine ⟨⟨i, he, by simpa using hi⟩, fun n hn => ?_⟩
        simpa using M2.l n (d1 e h n hn)
      | @dir f x c hf hx hc ho k ih =>
        obtain ⟨⟨j, hj, hjl⟩, ih⟩ := ih
        have ht : tru l2 j := by simpa using ih j hj
        subst hj
        obtain ⟨i, hi, he⟩ := W.dir x (idx_mem hx) c hc
        refine ⟨⟨i, he, by simpa using hi⟩, fun n hn => ?_⟩
        rcases I2.dn j ht with h | h | h
        · simp at h
        · simpa using ((h x hx).2 c hc ho).1 k n hn
        · exact h.elim
      | @dis f t v x c hf hx hc ho k ht hm hv ih ihm =>
        obtain ⟨⟨j, hj, hjl⟩, ih⟩ := ih
        have htr : tru l2 j := by simpa using ih j hj
        subst hj
        have hN : 0 < w.g.Funcs.length := by simp at hjl; omega
        obtain ⟨i, hi, he⟩ := W.tgt c t (W.fit _ t ht) hN
        rw [hv] at he; simp only [Option.some.injEq] at he
        refine ⟨⟨i, he, by simpa using hi⟩, fun n hn => ?_⟩
        rcases I2.dn j htr with h | h | h
        · simp at h
        · have hs := ((h x hx).2 c hc ho).2 k
          have := I2.cls (slotOf c) hs t ht (fun hmm => by
            obtain ⟨a, ha, hta⟩ := W.fit _ t ht
            have := (ihm hmm).2 a hta
            rw [hta, Int.toNat_natCast]
            simpa using this) n (by rw [M82_m F w (show (SC (slotOf c)).Method = c.Method from rfl), hv, hn])
          simpa using this
        · exact h.elim
      | @mk f x t hf hx ht ih =>
        obtain ⟨⟨j, hj, hjl⟩, ih⟩ := ih
        have htr : tru l2 j := by simpa using ih j hj
        subst hj
        obtain ⟨i, hi, he⟩ := W.mks x (idx_mem hx) t ht
        refine ⟨⟨i, he, by simpa using hi⟩, fun n hn => ?_⟩
        rcases I2.dn j htr with h | h | h
        · simp at h
        · simpa using (h x hx).1 t ht n hn
        · exact h.elim
  · intro n
    constructor
    · exact fun h => ⟨by rw [← I2.ll]; exact tru_lt h, I2.sf n h⟩
    · exact fun ⟨_, h⟩ => by simpa using (key _ _ h).2 n rfl
  · intro n
    constructor
    · exact fun h => ⟨by rw [← I2.ml]; exact tru_lt h, I2.st n h⟩
    · exact fun ⟨_, h⟩ => by simpa using (key _ _ h).2 n rfl
end Go.Proofs.Ytpbkggamiipdmaa
