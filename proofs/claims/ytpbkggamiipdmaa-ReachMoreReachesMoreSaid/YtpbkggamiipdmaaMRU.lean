/- Part of the proof: RU. -/
import Derived.Test.YtpbkggamiipdmaaMRS
namespace Go.Proofs.Ytpbkggamiipdmaa
open Go Go.Pv
set_option linter.unusedVariables false
set_option linter.unusedSimpArgs false
set_option maxRecDepth 100000
structure More (l md : List Bool) (o : List Treach_slot) (l' md' : List Bool) (o' : List Treach_slot) : Prop where
  l : ∀ n, tru l n → tru l' n
  m : ∀ n, tru md n → tru md' n
  o : ∀ s, s ∈ o → s ∈ o'
theorem More.refl {l md : List Bool} {o : List Treach_slot} : More l md o l md o := ⟨fun _ h => h, fun _ h => h, fun _ h => h⟩
theorem More.trans {l md l' md' l'' md'' : List Bool} {o o' o'' : List Treach_slot} (h : More l md o l' md' o') (g : More l' md' o' l'' md'' o'') : More l md o l'' md'' o'' :=
  ⟨fun n x => g.l n (h.l n x), fun n x => g.m n (h.m n x), fun n x => g.o n (h.o n x)⟩
theorem inv_call {F : Nat} {w : Treach_world} (W : WOk F w) {l md : List Bool} {m : List (Treach_slot × Bool)} {o : List Treach_slot} {q : List Int} {b z : Nat} {E : Nat → Prop} (I : Inv F w l md m o q (b + 1) z E)
    {f : Int} {x : TFunc} {c : TCall} (hf : RR F w false f) (hx : idx w.g.Funcs f = some x) (hxm : x ∈ w.g.Funcs) (hc : c ∈ x.Calls) (ho : onB w c.Feature = true) (hN : 0 < w.g.Funcs.length) (ty : List Int) :
    ∃ l' m' o' q', M70 F c w l md m o ty q = some (l', m', o', q') ∧ Inv F w l' md m' o' q' b z E ∧ More l md o l' md o' ∧ (c.Kind = 1 → ∀ i : Nat, fI w c.Target = i → tru l' i) ∧ (c.Kind ≠ 1 → slotOf c ∈ o') := by
  have weak : ∀ {l' : List Bool} {q' : List Int}, Inv F w l' md m o q' (b + 1) z E → Inv F w l' md m o q' b z E := fun J => ⟨J.ll, J.ml, by have := J.mu; omega, J.qm, J.qr, J.sf, J.st, J.ms, J.so, J.cls, J.dn⟩
  unfold M70
  by_cases k1 : c.Kind = 1
  · rw [if_pos (by simpa using k1)]
    obtain ⟨i, hi, he⟩ := W.dir x hxm c hc
    have he' : (mget w.funcs c.Target).getD 0 = (i : Int) := he
    rw [he']
    obtain ⟨l', q', e1, g1, t1⟩ := add_eq F w l md m o ty q i (by rw [I.ll]; exact hi) (by have := I.qm; omega)
    rw [e1, Option.bind_some]
    refine ⟨l', m, o, q', rfl, weak (I.grow g1 (fun n hn => ?_)), ⟨g1.old, fun _ h => h, fun _ h => h⟩, fun _ j hj => ?_, fun h => absurd k1 h⟩
    · subst hn
      have := RR.dir hf hx hc ho k1
      rwa [he] at this
    · rw [he] at hj
      obtain rfl : i = j := by omega
      exact t1
  · rw [if_neg (by simpa using k1)]
    by_cases hs : slotOf c ∈ o
    · have := (I.ms (slotOf c)).2 hs
      rw [if_pos (show (mget m (Treach_slot.mk c.Target c.Method)).getD false = true from this)]
      exact ⟨l, m, o, q, rfl, weak I, More.refl, fun h => absurd h k1, fun _ => hs⟩
    · have hs' : ¬ (mget m (slotOf c)).getD false = true := fun h => hs ((I.ms _).1 h)
      rw [if_neg (show ¬ (mget m (Treach_slot.mk c.Target c.Method)).getD false = true from hs'), if_pos (by have := I.mu; simp; omega)]
      obtain ⟨l', q', e1, g1, t1⟩ := call_loop F w c md m o ty I.ml ((mget w.fitting c.Target).getD []) l q (fun t ht => ⟨W.fit _ t ht, by
        obtain ⟨i, hi, hM⟩ := W.tgt c t (W.fit _ t ht) hN
        exact ⟨i, by rw [I.ll]; exact hi, hM⟩⟩) (by have := I.qm; omega)
      rw [e1]
      have J := I.grow g1 (fun n ⟨t, h1, h2, h3⟩ => RR.dis hf hx hc ho k1 h1 (fun hm => by
        obtain ⟨i, hi, rfl⟩ := W.fit _ t h1
        exact I.st i (by simpa using h2 hm)) h3)
      refine ⟨l', _, _, q', rfl, ⟨J.ll, J.ml, by have := J.mu; simp; omega, J.qm, J.qr, J.sf, J.st, fun s => ?_, fun s hh => ?_, fun s hh t ht hm n hn => ?_, fun n hn => ?_⟩, ⟨g1.old, fun _ h => h, fun s h => List.mem_append_left _ h⟩, fun h => absurd h k1, fun _ => by simp⟩
      · rw [mget_mput]
        by_cases h : slotOf c = s
        · subst h; simp
        · rw [if_neg h, I.ms s]
          constructor
          · exact fun h2 => List.mem_append_left _ h2
          · intro h2
            rcases List.mem_append.1 h2 with h2 | h2
            · exact h2
            · simp at h2; exact absurd h2.symm h
      · rcases List.mem_append.1 hh with h | h
        · exact I.so s h
        · simp at h; subst h; exact ⟨f, x, c, hf, hx, hc, ho, k1, rfl⟩
      · rcases List.mem_append.1 hh with h | h
        · exact J.cls s h t ht hm n hn
        · simp at h; subst h
          exact t1 t ht hm n (by rw [M82_m F w (show c.Method = (SC (slotOf c)).Method from rfl)]; exact hn)
      · rcases J.dn n hn with h | h | h
        · exact .inl h
        · exact .inr (.inl (h.mono (fun _ h => h) (fun _ h => h) (fun s h => List.mem_append_left _ h)))
        · exact .inr (.inr h)
theorem M87_eq (F : Nat) (l : List Int) (x : Int) : M87 F l x = some (l.contains x) := by
  unfold M87 M116
  rw [jn_def]
  have := idxL (g := M116_L1 F x (some (-1))) (fun y : Int => x == y) (fun _ => rfl) (fun y l n => by rw [M116_L1]) l 0
  rw [show ((0 : Nat) : Int) = 0 from rfl] at this
  rw [this]
  have e : (l.any fun y => x == y) = l.contains x := by rw [List.contains_eq_any_beq]
  rw [e]
  cases l.contains x
  · rfl
  · simp
theorem make_loop (F : Nat) (w : Treach_world) (W : WOk F w) (i : Nat) (hi : i < w.g.Types.length) (hN : 0 < w.g.Funcs.length) (md : List Bool) (m : List (Treach_slot × Bool)) (o : List Treach_slot) (ty : List Int) :
    ∀ (ss : List Treach_slot) (l : List Bool) (q : List Int), l.length = w.g.Funcs.length → q.length + fls l ≤ 100000 →
    ∃ l' q', M69_L1 F i w md m o ty ss l q = some (l', md.set i true, q') ∧ Grow (fun n => ∃ s, s ∈ ss ∧ (i : Int) ∈ fitL w s.iface ∧ M82 F w (SC s) i = some (n : Int)) l q l' q' ∧
      ∀ s, s ∈ ss → (i : Int) ∈ fitL w s.iface → ∀ n : Nat, M82 F w (SC s) i = some (n : Int) → tru l' n
  | [], l, q, _, _ => ⟨l, q, by rw [M69_L1, Int.toNat_natCast], Grow.refl, by simp⟩
  | s :: ss, l, q, hl, hb => by
    rw [M69_L1]
    simp only [jn_def]
    rw [M87_eq, Option.bind_some]
    by_cases h : (i : Int) ∈ fitL w s.iface
    · have h' : (((mget w.fitting s.iface).getD ([] : List Int)).contains (i : Int)) = true := by
        have : (fitL w s.iface).contains (i : Int) = true := by simpa using h
        exact this
      obtain ⟨v, hv, hM⟩ := W.tgt (SC s) i ⟨i, hi, rfl⟩ hN
      have hM' : M82 F w (TCall.mk 0 s.iface s.method ([] : List UInt8)) i = some (v : Int) := hM
      obtain ⟨l', q', e1, g1, t1⟩ := add_eq F w l (md.set (Int.toNat i) true) m o ty q v (by rw [hl]; exact hv) hb
      rw [if_pos h', hM', Option.bind_some, e1, Option.bind_some]
      obtain ⟨l'', q'', e2, g2, t2⟩ := make_loop F w W i hi hN md m o ty ss l' q' (by rw [g1.len]; exact hl) (by rw [g1.mu]; exact hb)
      refine ⟨l'', q'', e2, (g1.weak (fun n hn => ⟨s, by simp, h, by subst hn; exact hM⟩)).trans (g2.weak fun n ⟨u, h1, h2⟩ => ⟨u, List.mem_cons_of_mem _ h1, h2⟩), fun u hu hm n hn => ?_⟩
      rcases List.mem_cons.1 hu with rfl | hu
      · rw [hM] at hn; simp only [Option.some.injEq] at hn
        obtain rfl : v = n := by omega
        exact g2.old _ t1
      · exact t2 u hu hm n hn
    · have h' : ¬ (((mget w.fitting s.iface).getD ([] : List Int)).contains (i : Int)) = true := by
        have : ¬ (fitL w s.iface).contains (i : Int) = true := by simpa using h
        exact this
      rw [if_neg h']
      obtain ⟨l'', q'', e2, g2, t2⟩ := make_loop F w W i hi hN md m o ty ss l q hl hb
      refine ⟨l'', q'', e2, g2.weak fun n ⟨u, h1, h2⟩ => ⟨u, List.mem_cons_of_mem _ h1, h2⟩, fun u hu hm n hn => ?_⟩
      rcases List.mem_cons.1 hu with rfl | hu
      · exact absurd hm h
      · exact t2 u hu hm n hn
theorem inv_make {F : Nat} {w : Treach_world} (W : WOk F w) {l md : List Bool} {m : List (Treach_slot × Bool)} {o : List Treach_slot} {q : List Int} {b z : Nat} {E : Nat → Prop} (I : Inv F w l md m o q b z E)
    (i : Nat) (hi : i < w.g.Types.length) (hN : 0 < w.g.Funcs.length) (hr : RR F w true i) (ty : List Int) :
    ∃ l' md' q', M69 F i w l md m o ty q = some (l', md', q') ∧ Inv F w l' md' m o q' b z E ∧ More l md o l' md' o ∧ tru md' i := by
  have him : i < md.length := by rw [I.ml]; exact hi
  unfold M69
  rw [idx_nat him, Option.bind_some]
  cases hmd : md[i]
  · rw [if_neg (by simp), Option.bind_some]
    have base : Inv F w l (md.set i true) m o q b z E ∨ w.made = true := by
      by_cases hm : w.made = true
      · exact .inr hm
      · refine .inl ⟨I.ll, by simp [I.ml], I.mu, I.qm, I.qr, I.sf, fun n hn => ?_, I.ms, I.so, fun s hs t ht _ n hn => I.cls s hs t ht (fun h => absurd h hm) n hn, fun n hn => ?_⟩
        · rcases (tru_set him).1 hn with rfl | h
          · exact hr
          · exact I.st n h
        · rcases I.dn n hn with h | h | h
          · exact .inl h
          · exact .inr (.inl (h.mono (fun _ h => h) (fun n h => (tru_set him).2 (.inr h)) (fun _ h => h)))
          · exact .inr (.inr h)
    by_cases hm : w.made = true
    · rw [if_neg (by simp [hm])]
      obtain ⟨l', q', e1, g1, t1⟩ := make_loop F w W i hi hN md m o ty o l q I.ll (by have := I.qm; omega)
      rw [e1]
      have hA : ∀ n : Nat, (∃ s, s ∈ o ∧ (i : Int) ∈ fitL w s.iface ∧ M82 F w (SC s) i = some (n : Int)) → RR F w false n := by
        rintro n ⟨s, h1, h2, h3⟩
        obtain ⟨f, x, c, c1, c2, c3, c4, c5, rfl⟩ := I.so s h1
        exact RR.dis c1 c2 c3 c4 c5 h2 (fun _ => hr) (by rw [M82_m F w (show c.Method = (SC (slotOf c)).Method from rfl)]; exact h3)
      have J := I.grow g1 hA
      refine ⟨l', md.set i true, q', rfl, ⟨J.ll, by simp [I.ml], J.mu, J.qm, J.qr, J.sf, fun n hn => ?_, J.ms, J.so, fun s hs t ht htm n hn => ?_, fun n hn => ?_⟩, ⟨g1.old, fun n h => (tru_set him).2 (.inr h), fun _ h => h⟩, (tru_set him).2 (.inl rfl)⟩
      · rcases (tru_set him).1 hn with rfl | h
        · exact hr
        · exact I.st n h
      · obtain ⟨j, hj, rfl⟩ := W.fit _ t ht
        by_cases hij : j = i
        · subst hij; exact t1 s hs ht n hn
        · refine J.cls s hs _ ht (fun hm => ?_) n hn
          have := htm hm
          rw [Int.toNat_natCast] at this ⊢
          rcases (tru_set him).1 this with h | h
          · exact absurd h hij
          · exact h
      · rcases J.dn n hn with h | h | h
        · exact .inl h
        · exact .inr (.inl (h.mono (fun _ h => h) (fun n h => (tru_set him).2 (.inr h)) (fun _ h => h)))
        · exact .inr (.inr h)
    · rw [if_pos (by simpa using hm), Int.toNat_natCast]
      rcases base with J | J
      · exact ⟨l, md.set i true, q, rfl, J, ⟨fun _ h => h, fun n h => (tru_set him).2 (.inr h), fun _ h => h⟩, (tru_set him).2 (.inl rfl)⟩
      · exact absurd J hm
  · rw [if_pos rfl]
    exact ⟨l, md, q, rfl, I, More.refl, by unfold tru; rw [List.getElem?_eq_getElem him, hmd]⟩
end Go.Proofs.Ytpbkggamiipdmaa
