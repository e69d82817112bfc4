/- Part of the proof: QE2, QE3, QE4, E3Lay, E3Df, EI. -/
import Derived.Test.YtcbkgdagiccfmaaEQE1
import Derived.Shelf.SlicesE.DeleteFunc
import Derived.Shelf.SlicesE.Delete
import Derived.Test.YtcbkgdagiccfmaaProg
import Derived.Test.YtcbkgdagiccfmaaEE3T
import Derived.WalkKit
import Derived.Deep.LoopGhost
import Derived.Deep.RegionLaw
import Derived.Shelf.RegionOpenPlain
import Derived.Lib.Walk
import Derived.Sort.WalkB12
import Derived.Lib.SliceRun
import Derived.Test.YtcbkgdagiccfmaaEDN
import Derived.Test.YtcbkgdagiccfmaaEWA
namespace Go.Proofs.Ytcbkgdagiccfmaa
open Go Go.Pv
set_option linter.unusedVariables false
set_option linter.unusedSimpArgs false
set_option maxRecDepth 100000
abbrev S5 := (List Bool) × (List Bool) × (List (Treach_slot × Bool)) × (List Treach_slot) × (List Int)
abbrev K5u := List Bool → List Bool → List (Treach_slot × Bool) → List Treach_slot → List Int → Option S5
structure Hit (F : Nat) (w : Treach_world) (u : Nat) (l : List Bool) : Prop where
 ll : l.length = w.g.Funcs.length
 sf : ∀ n, tru l n → RR F w false n
 at' : tru l u
theorem calls_u {F : Nat} {w : Treach_world} (W : WOk F w) (u : Nat) (hu : u < w.g.Funcs.length) (k20 : K5u) (k69 : List Bool → List (Treach_slot × Bool) → List Treach_slot → List Int → Option S5) (md : List Bool) {E : Nat → Prop} {f : Int} {x : TFunc} (hf : RR F w false f) (hx : idx w.g.Funcs f = some x) (hN : 0 < w.g.Funcs.length) :
  ∀ (cs : List TCall) (l : List Bool) (m : List (Treach_slot × Bool)) (o : List Treach_slot) (q : List Int) (b z : Nat), (∀ c, c ∈ cs → c ∈ x.Calls) → Inv F w l md m o q (b + cs.length) z E →
  ∃ l' m' o' q', (M13_L4 F w (u : Int) md k20 k69 cs l m o q = k20 l' md m' o' q' ∧ Hit F w u l') ∨ (M13_L4 F w (u : Int) md k20 k69 cs l m o q = k69 l' m' o' q' ∧ Inv F w l' md m' o' q' b z E ∧ More l md o l' md o' ∧ ∀ c, c ∈ cs → onB w c.Feature = true → (c.Kind = 1 → ∀ i : Nat, fI w c.Target = i → tru l' i) ∧ (c.Kind ≠ 1 → slotOf c ∈ o'))
 | [], l, m, o, q, b, z, _, I => ⟨l, m, o, q, .inr ⟨rfl, I, More.refl, by simp⟩⟩
 | c :: cs, l, m, o, q, b, z, hc, I => by
  rw [M13_L4]
  simp only [jn_def]
  by_cases hon : onB w c.Feature = true
  ·have hon' : ¬ (!((mget w.on c.Feature).getD false)) = true := by
    have : (mget w.on c.Feature).getD false = true := hon
    simp [this]
   obtain ⟨l1, m1, o1, q1, e1, I1, M1, d1, d2⟩ := inv_call W (show Inv F w l md m o q (b + cs.length + 1) z E from I) hf hx (idx_mem hx) (hc c (by simp)) hon hN []
   have hul : u < l1.length := by rw [I1.ll]; exact hu
   rw [if_neg hon', e1, Option.bind_some, if_pos (by simp), idx_nat hul, Option.bind_some]
   cases hb : l1[u]
   ·rw [if_neg (by simp)]
    obtain ⟨l2, m2, o2, q2, h2⟩ := calls_u W u hu k20 k69 md hf hx hN cs l1 m1 o1 q1 b z (fun c h => hc c (List.mem_cons_of_mem _ h)) I1
    refine ⟨l2, m2, o2, q2, h2.imp id ?_⟩
    rintro ⟨e2, I2, M2, d3⟩
    refine ⟨e2, I2, M1.trans M2, fun c' hc' ho' => ?_⟩
    rcases List.mem_cons.1 hc' with rfl | h
    ·exact ⟨fun k i hi => M2.l i (d1 k i hi), fun k => M2.o _ (d2 k)⟩
    ·exact d3 c' h ho'
   ·rw [if_pos rfl]
    exact ⟨l1, m1, o1, q1, .inl ⟨rfl, I1.ll, I1.sf, by unfold tru; rw [List.getElem?_eq_getElem hul, hb]⟩⟩
  ·have hon' : (!((mget w.on c.Feature).getD false)) = true := by
    have : ¬ (mget w.on c.Feature).getD false = true := hon
    simpa using this
   rw [if_pos hon']
   obtain ⟨l2, m2, o2, q2, h2⟩ := calls_u W u hu k20 k69 md hf hx hN cs l m o q b z (fun c h => hc c (List.mem_cons_of_mem _ h)) ⟨I.ll, I.ml, by have := I.mu; simp at this; omega, I.qm, I.qr, I.sf, I.st, I.ms, I.so, I.cls, I.dn⟩
   refine ⟨l2, m2, o2, q2, h2.imp id ?_⟩
   rintro ⟨e2, I2, M2, d3⟩
   refine ⟨e2, I2, M2, fun c' hc' ho' => ?_⟩
   rcases List.mem_cons.1 hc' with rfl | h
   ·exact absurd ho' hon
   ·exact d3 c' h ho'
theorem makes_u {F : Nat} {w : Treach_world} (W : WOk F w) (m : List (Treach_slot × Bool)) (o : List Treach_slot) (k49 : List Bool → List Bool → List Int → Option S5) {b z : Nat} {E : Nat → Prop} {f : Int} {x : TFunc} (hf : RR F w false f) (hx : idx w.g.Funcs f = some x) (hN : 0 < w.g.Funcs.length) :
  ∀ (ts : List Tx) (l md : List Bool) (q : List Int), (∀ t, t ∈ ts → t ∈ x.Makes) → Inv F w l md m o q b z E →
  ∃ l' md' q', M13_L3 F w m o k49 ts l md q = k49 l' md' q' ∧ Inv F w l' md' m o q' b z E ∧ More l md o l' md' o ∧ ∀ t, t ∈ ts → ∀ i : Nat, tI w t = i → tru md' i
 | [], l, md, q, _, I => ⟨l, md, q, rfl, I, More.refl, by simp⟩
 | t :: ts, l, md, q, ht, I => by
  obtain ⟨i, hi, he⟩ := W.mks x (idx_mem hx) t (ht t (by simp))
  have he' : (mget w.types t).getD 0 = (i : Int) := he
  have hr : RR F w true i := by
   have := RR.mk hf hx (ht t (by simp))
   rwa [he] at this
  obtain ⟨l1, md1, q1, e1, I1, M1, d1⟩ := inv_make W I i hi hN hr []
  rw [M13_L3, he', e1, Option.bind_some]
  obtain ⟨l2, md2, q2, e2, I2, M2, d2⟩ := makes_u W m o k49 hf hx hN ts l1 md1 q1 (fun t h => ht t (List.mem_cons_of_mem _ h)) I1
  refine ⟨l2, md2, q2, e2, I2, M1.trans M2, fun u hu j hj => ?_⟩
  rcases List.mem_cons.1 hu with rfl | hu
  ·rw [he] at hj
   obtain rfl : i = j := by omega
   exact M2.m _ d1
  ·exact d2 u hu j hj
theorem queue_u {F : Nat} {w : Treach_world} (W : WOk F w) (u : Nat) (hu : u < w.g.Funcs.length) (k20 : K5u) : ∀ (n : Nat) (l md : List Bool) (m : List (Treach_slot × Bool)) (o : List Treach_slot) (q : List Int) (z : Nat), Inv F w l md m o q 0 z (fun _ => False) → z < n →
  ∃ l' md' m' o' q', M13_L2 F w (u : Int) k20 n l md m o q = k20 l' md' m' o' q' ∧ (Hit F w u l' ∨ (q' = [] ∧ (∃ z, Inv F w l' md' m' o' [] 0 z (fun _ => False)) ∧ More l md o l' md' o'))
 | 0, l, md, m, o, q, z, _, h => by omega
 | n + 1, l, md, m, o, [], z, I, h => ⟨l, md, m, o, [], by rw [M13_L2, if_f (by simp)], .inr ⟨rfl, ⟨z, I⟩, More.refl⟩⟩
 | n + 1, l, md, m, o, f :: q, z, I, h => by
  obtain ⟨i, hfi, hti⟩ := I.qr f (by simp)
  subst hfi
  have hil : i < l.length := tru_lt hti
  have hiF : i < w.g.Funcs.length := by rw [← I.ll]; exact hil
  have hN : 0 < w.g.Funcs.length := by omega
  have hf := I.sf i hti
  rw [M13_L2]
  simp only [jn_def]
  rw [if_t (by simp), show idx ((i : Int) :: q) 0 = some (i : Int) from rfl, Option.bind_some, if_pos (by simp), List.drop_one, List.tail_cons]
  by_cases hiu : i = u
  ·subst hiu
   rw [if_pos (by simp)]
   exact ⟨l, md, m, o, q, rfl, .inl ⟨I.ll, I.sf, hti⟩⟩
  have hx : idx w.g.Funcs (i : Int) = some w.g.Funcs[i] := idx_nat hiF
  generalize hxx : w.g.Funcs[i] = x at hx
  rw [if_neg (by simpa using fun e => hiu (by omega)), hx, Option.bind_some]
  simp only [Option.bind_some]
  have mu0 := I.mu
  have qm0 := I.qm
  simp only [List.length_cons] at mu0 qm0
  have I0 : Inv F w l md m o q 200 (z - 1) (fun k => k = i) := ⟨I.ll, I.ml, by omega, ⟨by omega, by omega⟩, fun y hy => I.qr y (List.mem_cons_of_mem _ hy), I.sf, I.st, I.ms, I.so, I.cls, fun k hk => by
   rcases I.dn k hk with h | h | h
   ·rcases List.mem_cons.1 h with h | h
    ·exact .inr (.inr (by omega))
    ·exact .inl h
   ·exact .inr (.inl h)
   ·exact h.elim⟩
  obtain ⟨l1, md1, q1, e1, I1, M1, d1⟩ := makes_u W m o (fun l50 l51 l52 => M13_L4 F w (u : Int) l51 k20 (fun l70 m71 l72 l73 => M13_L2 F w (u : Int) k20 n l70 l51 m71 l72 l73) x.Calls l50 m o l52) hf hx hN x.Makes l md q (fun _ h => h) I0
  rw [e1]
  have hcl := W.cl x (idx_mem hx)
  obtain ⟨l2, m2, o2, q2, h2⟩ := calls_u W u hu k20 (fun l70 m71 l72 l73 => M13_L2 F w (u : Int) k20 n l70 md1 m71 l72 l73) md1 hf hx hN x.Calls l1 m o q1 (200 - x.Calls.length) (z - 1) (fun _ h => h) (by rw [show 200 - x.Calls.length + x.Calls.length = 200 by omega]; exact I1)
  rcases h2 with ⟨e2, H⟩ | ⟨e2, I2, M2, d2⟩
  ·exact ⟨l2, md1, m2, o2, q2, e2, .inl H⟩
  rw [e2]
  have hdone : Done F w l2 md1 o2 i := fun y hy => by
   rw [hx] at hy; simp only [Option.some.injEq] at hy; subst hy
   exact ⟨fun t ht j hj => d1 t ht j hj, fun c hc ho => d2 c hc ho⟩
  have I3 : Inv F w l2 md1 m2 o2 q2 0 (z - 1) (fun _ => False) := ⟨I2.ll, I2.ml, by have := I2.mu; omega, I2.qm, I2.qr, I2.sf, I2.st, I2.ms, I2.so, I2.cls, fun k hk => by
   rcases I2.dn k hk with h | h | h
   ·exact .inl h
   ·exact .inr (.inl h)
   ·have h : k = i := h
    subst h; exact .inr (.inl hdone)⟩
  obtain ⟨l3, md3, m3, o3, q3, e3, h3⟩ := queue_u W u hu k20 n l2 md1 m2 o2 q2 (z - 1) I3 (by omega)
  refine ⟨l3, md3, m3, o3, q3, e3, h3.imp id ?_⟩
  rintro ⟨hq, I4, M3⟩
  exact ⟨hq, I4, (M1.trans M2).trans M3⟩
theorem entries_u {F : Nat} {w : Treach_world} (W : WOk F w) (k5 : List Bool → List Int → Option S5) (md : List Bool) (hmd : md = List.replicate (((w.g.Types.length : Nat) : Int)).toNat false) :
  ∀ (es : List Tx) (l : List Bool) (q : List Int) (b z : Nat), (∀ e, e ∈ es → e ∈ w.g.Entries) → Inv F w l md [] [] q b z (fun _ => False) →
  ∃ l' q', M13_L1 F w k5 es l q = k5 l' q' ∧ Inv F w l' md [] [] q' b z (fun _ => False) ∧ (∀ n, tru l n → tru l' n) ∧ ∀ e, e ∈ es → ∀ i : Nat, fI w e = i → tru l' i
 | [], l, q, b, z, _, I => ⟨l, q, rfl, I, fun _ h => h, by simp⟩
 | e :: es, l, q, b, z, he, I => by
  obtain ⟨i, hi, hfe⟩ := W.ent e (he e (by simp))
  have hfe' : (mget w.funcs e).getD 0 = (i : Int) := hfe
  obtain ⟨l1, q1, e1, g1, t1⟩ := add_eq F w l md [] [] [] q i (by rw [I.ll]; exact hi) (by have := I.qm; omega)
  rw [M13_L1, hfe', ← hmd, e1, Option.bind_some]
  have I1 := I.grow g1 (fun n hn => by
   subst hn
   have := RR.entry (F := F) (he e (by simp))
   rwa [hfe] at this)
  obtain ⟨l2, q2, e2, I2, m2, d2⟩ := entries_u W k5 md hmd es l1 q1 b z (fun e h => he e (List.mem_cons_of_mem _ h)) I1
  refine ⟨l2, q2, e2, I2, fun n h => m2 n (g1.old n h), fun u hu j hj => ?_⟩
  rcases List.mem_cons.1 hu with rfl | hu
  ·rw [hfe] at hj
   obtain rfl : i = j := by omega
   exact m2 _ t1
  ·exact d2 u hu j hj
theorem inv_all {F : Nat} {w : Treach_world} (W : WOk F w) {l1 l2 md2 : List Bool} {m2 : List (Treach_slot × Bool)} {o2 : List Treach_slot} {z : Nat} (I2 : Inv F w l2 md2 m2 o2 [] 0 z (fun _ => False)) (d1 : ∀ e, e ∈ w.g.Entries → ∀ i : Nat, fI w e = i → tru l1 i) (M2 : ∀ n, tru l1 n → tru l2 n) :
  ∀ b v, RR F w b v → (∃ n : Nat, v = n ∧ n < (if b then w.g.Types.length else w.g.Funcs.length)) ∧ ∀ n : Nat, v = n → if b then tru md2 n else tru l2 n := by
 intro b v h
 induction h with
 | @entry e h =>
  obtain ⟨i, hi, he⟩ := W.ent e h
  refine ⟨⟨i, he, by simpa using hi⟩, fun n hn => ?_⟩
  simpa using M2 n (d1 e h n hn)
 | @dir f x c hf hx hc ho k ih =>
  obtain ⟨⟨j, hj, hjl⟩, ih⟩ := ih
  have ht : tru l2 j := by simpa using ih j hj
  subst hj
  obtain ⟨i, hi, he⟩ := W.dir x (idx_mem hx) c hc
  refine ⟨⟨i, he, by simpa using hi⟩, fun n hn => ?_⟩
  rcases I2.dn j ht with h | h | h
  ·simp at h
  ·simpa using ((h x hx).2 c hc ho).1 k n hn
  ·exact h.elim
 | @dis f t v x c hf hx hc ho k ht hm hv ih ihm =>
  obtain ⟨⟨j, hj, hjl⟩, ih⟩ := ih
  have htr : tru l2 j := by simpa using ih j hj
  subst hj
  have hN : 0 < w.g.Funcs.length := by simp at hjl; omega
  obtain ⟨i, hi, he⟩ := W.tgt c t (W.fit _ t ht) hN
  rw [hv] at he; simp only [Option.some.injEq] at he
  refine ⟨⟨i, he, by simpa using hi⟩, fun n hn => ?_⟩
  rcases I2.dn j htr with h | h | h
  ·simp at h
  ·have hs := ((h x hx).2 c hc ho).2 k
   have := I2.cls (slotOf c) hs t ht (fun hmm => by
    obtain ⟨a, ha, hta⟩ := W.fit _ t ht
    have := (ihm hmm).2 a hta
    rw [hta, Int.toNat_natCast]
    simpa using this) n (by rw [M33_m F w (show (SC (slotOf c)).Method = c.Method from rfl), hv, hn])
   simpa using this
  ·exact h.elim
 | @mk f x t hf hx ht ih =>
  obtain ⟨⟨j, hj, hjl⟩, ih⟩ := ih
  have htr : tru l2 j := by simpa using ih j hj
  subst hj
  obtain ⟨i, hi, he⟩ := W.mks x (idx_mem hx) t ht
  refine ⟨⟨i, he, by simpa using hi⟩, fun n hn => ?_⟩
  rcases I2.dn j htr with h | h | h
  ·simp at h
  ·simpa using (h x hx).1 t ht n hn
  ·exact h.elim
theorem spread_u {F : Nat} {w : Treach_world} (W : WOk F w) (hF : 10000 ≤ F) (u : Nat) (hu : u < w.g.Funcs.length) : ∃ r, M13 F w (u : Int) = some r ∧ r.1.length = w.g.Funcs.length ∧ (tru r.1 u ↔ RR F w false u) := by
 have hfl := W.fl
 have htl := W.tl
 unfold M13
 rw [if_pos (by omega), if_pos (by omega)]
 simp only [jn_def]
 have I0 : Inv F w (List.replicate (((w.g.Funcs.length : Nat) : Int)).toNat false) (List.replicate (((w.g.Types.length : Nat) : Int)).toNat false) [] [] [] 0 w.g.Funcs.length (fun _ => False) :=
  ⟨by simp, by simp, by rw [fls_rep]; simp; omega, ⟨by rw [fls_rep]; simp, by omega⟩, by simp, fun n h => (tru_rep h).elim, fun n h => (tru_rep h).elim, fun s => by simp [mget], by simp, by simp, fun n h => (tru_rep h).elim⟩
 obtain ⟨l1, q1, e1, I1, _, d1⟩ := entries_u W (fun l6 l7 => M13_L2 F w (u : Int) (fun l21 l22 m23 l24 l25 => some (l21, l22, m23, l24, l25)) F l6 (List.replicate (((w.g.Types.length : Nat) : Int)).toNat false) [] [] l7) _ rfl w.g.Entries _ [] 0 w.g.Funcs.length (fun _ h => h) I0
 obtain ⟨l2, md2, m2, o2, q2, e2, h2⟩ := queue_u W u hu (fun l21 l22 m23 l24 l25 => some (l21, l22, m23, l24, l25)) F l1 (List.replicate (((w.g.Types.length : Nat) : Int)).toNat false) [] [] q1 w.g.Funcs.length I1 (by omega)
 refine ⟨(l2, md2, m2, o2, q2), by rw [e1, e2], ?_⟩
 rcases h2 with H | ⟨rfl, ⟨z, I2⟩, M2⟩
 ·exact ⟨H.ll, fun _ => H.sf u H.at', fun _ => H.at'⟩
 ·exact ⟨I2.ll, fun h => I2.sf u h, fun h => by simpa using (inv_all W I2 d1 M2.l _ _ h).2 u rfl⟩
theorem mget_none {β : Type} {x : Tx} : ∀ {m : List (Tx × β)}, x ∉ m.map (·.1) → mget m x = none
 | [], _ => rfl
 | p :: m, h => by
  simp only [List.map_cons, List.mem_cons, not_or] at h
  rw [mget, if_neg (fun e => h.1 e.symm)]
  exact mget_none h.2
theorem mdel_sub {β : Type} (k : Tx) : ∀ (m : List (Tx × β)), ((mdel m k).map (·.1)).Sublist (m.map (·.1))
 | [] => List.Sublist.refl _
 | p :: m => by
  rw [mdel]
  split
  ·exact List.sublist_cons_self _ _
  ·exact (mdel_sub k m).cons_cons _
theorem mget_mdel {β : Type} (k x : Tx) : ∀ (m : List (Tx × β)), (m.map (·.1)).Nodup → mget (mdel m k) x = if k = x then none else mget m x
 | [], _ => by simp [mdel, mget]
 | p :: m, h => by
  simp only [List.map_cons, List.nodup_cons] at h
  rw [mdel]
  by_cases hp : p.1 = k
  ·rw [if_pos hp]
   by_cases hk : k = x
   ·rw [if_pos hk]; exact mget_none (by rw [← hk, ← hp]; exact h.1)
   ·rw [if_neg hk, mget, if_neg (by rw [hp]; exact hk)]
  ·rw [if_neg hp, mget, mget]
   by_cases hx : p.1 = x
   ·rw [if_pos hx, if_pos hx, if_neg (by rw [← hx]; exact fun e => hp e.symm)]
   ·rw [if_neg hx, if_neg hx]; exact mget_mdel k x m h.2
theorem mput_keys {β : Type} (k : Tx) (v : β) : ∀ (m : List (Tx × β)), (mput m k v).map (·.1) = if k ∈ m.map (·.1) then m.map (·.1) else m.map (·.1) ++ [k]
 | [] => by simp [mput]
 | p :: m => by
  rw [mput]
  by_cases hp : p.1 = k
  ·rw [if_pos hp]; simp [hp]
  ·have ih := mput_keys k v m
   rw [if_neg hp, List.map_cons, ih]
   by_cases hk : k ∈ m.map (·.1)
   ·rw [if_pos hk, if_pos (by rw [List.map_cons]; exact List.mem_cons_of_mem _ hk)]; rfl
   ·rw [if_neg hk, if_neg (by rw [List.map_cons, List.mem_cons]; exact fun e => e.elim (fun e => hp e.symm) hk)]; rfl
theorem mput_nodup {β : Type} {k : Tx} {v : β} {m : List (Tx × β)} (h : (m.map (·.1)).Nodup) : ((mput m k v).map (·.1)).Nodup := by
 rw [mput_keys]
 split
 ·exact h
 ·rename_i hk
  rw [List.nodup_append]
  exact ⟨h, by simp, fun a ha b hb e => by simp at hb; subst hb; subst e; exact hk ha⟩
theorem sset_nodup : ∀ (l : List Tx) (m : SetM), (m.map (·.1)).Nodup → ((sset m l).map (·.1)).Nodup
 | [], m, h => h
 | x :: l, m, h => sset_nodup l _ (mput_nodup h)
def wOn (w : Treach_world) (m : SetM) : Treach_world := Treach_world.mk w.g w.funcs w.types w.fitting m w.made
theorem WOk.on {F : Nat} {w : Treach_world} (W : WOk F w) (m : SetM) : WOk F (wOn w m) := ⟨W.fl, W.tl, W.ent, W.cl, W.mks, W.dir, W.fit, W.tgt⟩
theorem RR.on' {F : Nat} {w : Treach_world} {m1 m2 : SetM} (ho : ∀ x, onB (wOn w m1) x = true → onB (wOn w m2) x = true) : ∀ {b : Bool} {v : Int}, RR F (wOn w m1) b v → RR F (wOn w m2) b v := by
 intro b v h
 induction h with
 | entry h => exact RR.entry (w := wOn w m2) h
 | dir hf hx hc hon k ih => exact RR.dir (w := wOn w m2) ih hx hc (ho _ hon) k
 | dis hf hx hc hon k ht hmm hv ih ihm => exact RR.dis (w := wOn w m2) ih hx hc (ho _ hon) k ht ihm hv
 | mk hf hx ht ih => exact RR.mk (w := wOn w m2) ih hx ht
theorem RR.on_eq {F : Nat} {g : TGraph} {how : Int} {fs l : List Tx} {m : SetM} (ho : ∀ x, (mget m x).getD false = onF l x) {v : Int} : RR F (wOn (wOf g how fs) m) false v ↔ RR F (wOf g how l) false v := by
 have e : wOf g how l = wOn (wOf g how fs) (sset (mput [] [] true) l) := rfl
 have h2 : ∀ x, onB (wOn (wOf g how fs) (sset (mput [] [] true) l)) x = onF l x := fun x => has_onF l x
 rw [e]
 exact ⟨RR.on' fun x h => by rw [h2]; rw [← ho x]; exact h, RR.on' fun x h => by rw [h2] at h; show (mget m x).getD false = true; rw [ho x]; exact h⟩
open Classical in
noncomputable def reB (g : TGraph) (how : Int) (l : List Tx) (t : Tx) : Bool := decide (RN g how (onF l) false t)
theorem reB_iff {g : TGraph} {how : Int} {l : List Tx} {t : Tx} : reB g how l t = true ↔ RN g how (onF l) false t := by unfold reB; simp
def wo (l : List Tx) (s : Tx) : List Tx := l.filter fun y => !(y == s)
theorem wo_mem {l : List Tx} {s x : Tx} : x ∈ wo l s ↔ x ∈ l ∧ x ≠ s := by unfold wo; simp
noncomputable def enL (g : TGraph) (how : Int) (t : Tx) : List Tx → List Tx → List Tx
 | [], k => k
 | s :: r, k => if reB g how (wo k s) t = true then enL g how t r (wo k s) else enL g how t r k
theorem enL_sub (g : TGraph) (how : Int) (t : Tx) : ∀ (r k : List Tx), (enL g how t r k).Sublist k
 | [], k => List.Sublist.refl _
 | s :: r, k => by
  rw [enL]
  split
  ·exact (enL_sub g how t r _).trans (List.filter_sublist ..)
  ·exact enL_sub g how t r k
theorem enL_re (g : TGraph) (how : Int) (t : Tx) : ∀ (r k : List Tx), reB g how k t = true → reB g how (enL g how t r k) t = true
 | [], k, h => h
 | s :: r, k, h => by
  rw [enL]
  split
  ·rename_i h'; exact enL_re g how t r _ h'
  ·exact enL_re g how t r k h
theorem RN.mono {g : TGraph} {how : Int} {on on' : Tx → Bool} (h : ∀ x, on x = true → on' x = true) : ∀ {b : Bool} {y : Tx}, RN g how on b y → RN g how on' b y := by
 intro b y h1
 induction h1 with
 | entry h => exact .entry h
 | aim hf hx hc ho ha hm ih ihm => exact .aim ih hx hc (h _ ho) ha ihm
 | mk hf hx ht ih => exact .mk ih hx ht
theorem reB_mono {g : TGraph} {how : Int} {l l' : List Tx} {t : Tx} (h : ∀ x, x ∈ l → x ∈ l') (hr : reB g how l t = true) : reB g how l' t = true := by
 rw [reB_iff] at hr ⊢
 exact hr.mono fun x hx => by
  unfold onF at hx ⊢
  simp only [Bool.or_eq_true, decide_eq_true_eq, List.contains_iff_mem] at hx ⊢
  exact hx.imp id (h x)
theorem enL_need (g : TGraph) (how : Int) (t : Tx) : ∀ (r k : List Tx) (s : Tx), s ∈ r → s ∈ enL g how t r k → reB g how (wo (enL g how t r k) s) t = false
 | s0 :: r, k, s, hs, hk => by
  rw [enL] at hk ⊢
  by_cases h : reB g how (wo k s0) t = true
  ·rw [if_pos h] at hk ⊢
   rcases List.mem_cons.1 hs with e | hs
   ·subst e
    exact absurd rfl (wo_mem.1 ((enL_sub g how t r _).mem hk)).2
   ·exact enL_need g how t r _ s hs hk
  ·rw [if_neg h] at hk ⊢
   rcases List.mem_cons.1 hs with e | hs
   ·subst e
    rw [Bool.eq_false_iff]
    intro h2
    refine h (reB_mono (fun x hx => ?_) h2)
    obtain ⟨h3, h4⟩ := wo_mem.1 hx
    exact wo_mem.2 ⟨(enL_sub g how t r k).mem h3, h4⟩
   ·exact enL_need g how t r _ s hs hk
theorem M17_eq {F : Nat} (hF : 10000 ≤ F) {g : TGraph} (R : RightG g) (how : Int) (l : List Tx) (t : Tx) : M17 F g how l t = some (reB g how l t) := by
 obtain ⟨n, e1, N⟩ := M27_eq F g l R
 obtain ⟨s, e2, X⟩ := M28_eq (how := how) R N F hF
 unfold M17
 rw [e1, Option.bind_some, e2, Option.bind_some]
 congr 1
 rw [Bool.eq_iff_iff, X.r.get, X.hr, reB_iff]
theorem M5_L2_eq (F : Nat) (s : Tx) (k : List Tx → Option ((List Tx) × Bool × Int)) : ∀ (l o : List Tx), o.length + l.length ≤ 1000000 → M5_L2 F s k l o = k (o ++ wo l s)
 | [], o, _ => by simp [M5_L2, wo]
 | x :: l, o, h => by
  simp only [List.length_cons] at h
  rw [M5_L2]
  simp only [jn_def]
  by_cases hx : (!(x == s)) = true
  ·rw [if_pos hx, if_pos (by simp; omega), M5_L2_eq F s k l _ (by simp; omega)]
   congr 1
   rw [show wo (x :: l) s = x :: wo l s by unfold wo; rw [List.filter_cons, if_pos hx]]
   simp
  ·rw [if_neg hx, M5_L2_eq F s k l o (by omega)]
   congr 2
   unfold wo; rw [List.filter_cons, if_neg hx]
theorem M5_L1_eq {F : Nat} (hF : 10000 ≤ F) {g : TGraph} (R : RightG g) (how : Int) (t : Tx) (kk : List Tx → Option ((List Tx) × Bool × Int)) : ∀ (r k : List Tx), k.length ≤ 1000000 → M5_L1 F g how t kk r k = kk (enL g how t r k)
 | [], k, _ => rfl
 | s :: r, k, h => by
  rw [M5_L1]
  simp only [jn_def]
  rw [M5_L2_eq F s _ k [] (by simpa using h), List.nil_append, M17_eq hF R, Option.bind_some, enL]
  have hw : (wo k s).length ≤ 1000000 := Nat.le_trans (List.length_filter_le ..) h
  by_cases hr : reB g how (wo k s) t = true
  ·rw [if_pos hr, if_pos hr]; exact M5_L1_eq hF R how t kk r _ hw
  ·rw [if_neg hr, if_neg hr]; exact M5_L1_eq hF R how t kk r _ h
theorem M26_eq (F : Nat) (g : TGraph) (n : Tx) : M26 F g n = some (match g.Funcs.find? fun x => x.Name == n with | some x => (x, true) | none => (TFunc.mk [] [] [] [], false)) := by
 have key : ∀ l : List TFunc, M26_L1 F n (some (TFunc.mk [] [] [] [], false)) l = some (match l.find? fun x => x.Name == n with | some x => (x, true) | none => (TFunc.mk [] [] [] [], false)) := by
  intro l
  induction l with
  | nil => rfl
  | cons x l ih =>
   rw [M26_L1, List.find?_cons]
   by_cases h : (x.Name == n) = true
   ·rw [if_pos h, h]
   ·rw [if_neg h, ih]
    have : (x.Name == n) = false := by simpa using h
    rw [this]
 unfold M26
 rw [jn_def, key]
theorem find_nil {g : TGraph} {t : Tx} (h : fsOf g t = false) : (g.Funcs.find? fun x => x.Name == t) = none := by
 rw [List.find?_eq_none]
 intro x hx e
 have : fsOf g t = true := in_names.2 ⟨x, hx, by simpa using e⟩
 rw [h] at this; cases this
theorem M16_one {F : Nat} {g : TGraph} {how : Int} {fs : List Tx} (hg : okTGraph g) (hfs : ∀ x, x ∈ fs → x.length ≤ maxLen) (hl : fs.length ≤ maxLen) (t : Tx) : M16 F g how fs [t] = some (if opnE g how fs ≠ 0 then opnE g how fs else if fsOf g t = true then 0 else 4) := by
 have a1 := M24_eq F g hg
 have a2 := M25_eq F fs hfs hl
 have a3 : (match g.Funcs.find? (fun x : TFunc => x.Name == t) with | some x => (x, true) | none => (TFunc.mk [] [] [] [], false)).2 = fsOf g t := by
  cases hf : fsOf g t
  ·rw [find_nil hf]
  ·obtain ⟨x, hx, rfl⟩ := in_names.1 hf
   cases h : (g.Funcs.find? fun y => y.Name == x.Name) with
   | none => rw [List.find?_eq_none] at h; exact absurd (by simp) (h x hx)
   | some y => rfl
 unfold M16
 rw [a1, Option.bind_some, a2, Option.bind_some]
 unfold opnE
 by_cases h1 : chk false g = 0
 ·by_cases h2 : feE fs = 0
  ·by_cases h3 : how = 1
   ·simp only [h1, h2, h3, jn_def, M16_L2, M26_eq, Option.bind_some, a3]
    cases hft : fsOf g t <;> rw [hft] at a3 <;> simp <;> exact a3
   ·by_cases h4 : how = 2
    ·simp only [h1, h2, h4, jn_def, M16_L1, M26_eq, Option.bind_some, a3]
     cases hft : fsOf g t <;> rw [hft] at a3 <;> simp <;> exact a3
    ·simp [h1, h2, h3, h4]
  ·simp [h1, h2]
 ·simp [h1]
noncomputable def enA (g : TGraph) (how : Int) (fs : List Tx) (t : Tx) : List Tx × Bool × Int :=
 if opnE g how fs ≠ 0 then ([], false, opnE g how fs) else if fsOf g t = false then ([], false, 4) else if reB g how fs t = false then ([], false, 0) else (enL g how t fs fs, true, 0)
theorem feE_zero {fs : List Tx} (h : feE fs = 0) : fs.length ≤ 30 ∧ fs.Pairwise (fun a b => Op.bytesLess a b = true) ∧ ∀ x, x ∈ fs → nm x = true := by
 unfold feE at h
 split at h
 ·simp at h
 ·exact ⟨by omega, (methE_zero h).2⟩
theorem opn_feE {g : TGraph} {how : Int} {fs : List Tx} (h : opnE g how fs = 0) : feE fs = 0 := by
 unfold opnE at h
 split at h
 ·rename_i h1; exact absurd h h1
 ·split at h
  ·rename_i h2; exact absurd h h2
  ·rename_i h2; simpa using h2
theorem M5_eq {F : Nat} (hF : 10000 ≤ F) {g : TGraph} {how : Int} {fs : List Tx} (t : Tx) (hg : okTGraph g) (hfs : ∀ x, x ∈ fs → x.length ≤ maxLen) (hl : fs.length ≤ maxLen) : M5 F g how fs t = some (enA g how fs t) := by
 unfold M5 enA
 rw [M16_one hg hfs hl, Option.bind_some]
 by_cases h0 : opnE g how fs = 0
 ·obtain ⟨R, hh⟩ := opn_parts h0
  obtain ⟨f1, f2, f3⟩ := feE_zero (opn_feE h0)
  rw [if_neg (show ¬ opnE g how fs ≠ 0 by simp [h0]), if_neg (show ¬ opnE g how fs ≠ 0 by simp [h0])]
  cases ht : fsOf g t
  ·rw [if_neg (show ¬ (false = true) by simp)]; rfl
  ·rw [if_pos (show (true = true) from rfl), if_neg (show ¬ ((0 : Int) != 0) = true by decide), if_neg (show ¬ (true = false) by simp), M17_eq hF R, Option.bind_some]
   cases hr : reB g how fs t
   ·rfl
   ·rw [if_neg (show ¬ (!true) = true by decide), if_neg (show ¬ (true = false) by simp), jn_def, M5_L1_eq hF R how t _ fs fs (by omega), if_pos]
    ·simp
    ·have := (enL_sub g how t fs fs).length_le
     simp; omega
 ·rw [if_pos h0, if_pos (by simpa using h0), if_pos h0]
theorem M11_eq (F : Nat) (l : List Tx) (h : l.length ≤ 1000000) : M11 F l = some l := by
 unfold M11
 refine nilq_same ?_ (fun h0 => ?_)
 ·rw [if_neg (by simp), if_pos (by simp; omega)]; simp
 ·rw [if_pos rfl, List.length_eq_zero_iff.1 h0]
theorem test_eq {F : Nat} (hF : 10000 ≤ F) {g : TGraph} (R : RightG g) {how : Int} (hh : how = 1 ∨ how = 2) {fs l : List Tx} {m : SetM} (ho : ∀ x, (mget m x).getD false = onF l x) {i : Nat} (hi : i < g.Funcs.length) :
  ∃ r, M13 F (wOn (wOf g how fs) m) (i : Int) = some r ∧ idx r.1 (i : Int) = some (reB g how l (g.Funcs[i]).Name) := by
 obtain ⟨r, e, hl, h⟩ := spread_u ((wok (F := F) (by omega) R how fs).on m) hF i hi
 have hl : r.1.length = g.Funcs.length := hl
 refine ⟨r, e, ?_⟩
 have hir : i < r.1.length := by omega
 rw [idx_nat hir]
 congr 1
 rw [Bool.eq_iff_iff, reB_iff, ← reach_iff (F := F) (by omega) R hh l hi, ← RR.on_eq (fs := fs) ho, ← h]
 unfold tru
 rw [List.getElem?_eq_getElem hir]
 simp
theorem onF_iff {l : List Tx} {x : Tx} : onF l x = true ↔ x = [] ∨ x ∈ l := by unfold onF; simp
theorem onF_wo {l : List Tx} {s x : Tx} (hs : s ≠ []) : onF (wo l s) x = if s = x then false else onF l x := by
 rw [Bool.eq_iff_iff]
 by_cases h : s = x
 ·subst h
  rw [if_pos rfl, onF_iff, wo_mem]
  simp [hs]
 ·rw [if_neg h, onF_iff, onF_iff, wo_mem]
  constructor
  ·rintro (h1 | h1)
   ·exact .inl h1
   ·exact .inr h1.1
  ·rintro (h1 | h1)
   ·exact .inl h1
   ·exact .inr ⟨h1, fun e => h e.symm⟩
theorem M4_L1_eq {F : Nat} (hF : 10000 ≤ F) {g : TGraph} (R : RightG g) {how : Int} (hh : how = 1 ∨ how = 2) {fs : List Tx} {i : Nat} (hi : i < g.Funcs.length) (kk : List Tx → Option ((List Tx) × Bool × Int)) (z : Int × NumM × NumM × FitM × SetM)
  (hz : z = ((i : Int), (wOf g how fs).funcs, (wOf g how fs).types, (wOf g how fs).fitting, (wOf g how fs).on)) :
  ∀ (r l : List Tx) (m : SetM), (∀ x, (mget m x).getD false = onF l x) → (m.map (·.1)).Nodup → (∀ s, s ∈ r → s ∈ l ∧ s ≠ []) → r.Nodup → l.length ≤ 1000000 → M4_L1 F g how z kk r l m = kk (enL g how (g.Funcs[i]).Name r l)
 | [], l, m, _, _, _, _, _ => rfl
 | s :: r, l, m, ho, hm, hr, hn, hl => by
  obtain ⟨hsl, hs0⟩ := hr s (by simp)
  rw [List.nodup_cons] at hn
  have ho' : ∀ x, (mget (mdel m s) x).getD false = onF (wo l s) x := fun x => by
   rw [mget_mdel s x m hm, onF_wo hs0]
   by_cases h : s = x
   ·rw [if_pos h, if_pos h]; rfl
   ·rw [if_neg h, if_neg h]; exact ho x
  have hm' : ((mdel m s).map (·.1)).Nodup := (mdel_sub s m).nodup hm
  obtain ⟨q, e1, e2⟩ := test_eq hF R hh (fs := fs) ho' hi
  have e1' : M13 F (Treach_world.mk g (z.2.1) (z.2.2.1) (z.2.2.2.1) (mdel m s) (how == 2)) z.1 = some q := by subst hz; exact e1
  have e2' : idx q.1 z.1 = some (reB g how (wo l s) (g.Funcs[i]).Name) := by subst hz; exact e2
  rw [M4_L1]
  simp only [jn_def]
  rw [e1', Option.bind_some, e2', Option.bind_some, enL]
  by_cases h : reB g how (wo l s) (g.Funcs[i]).Name = true
  ·rw [if_pos h, if_pos h]
   have e14 : M14 F s l = some (wo l s) := by unfold M14; rw [if_pos ⟨List.ne_nil_of_mem hsl, by omega⟩]; rfl
   rw [e14, Option.bind_some]
   exact M4_L1_eq hF R hh hi kk z hz r (wo l s) (mdel m s) ho' hm' (fun x hx => ⟨wo_mem.2 ⟨(hr x (List.mem_cons_of_mem _ hx)).1, fun e => by subst e; exact hn.1 hx⟩, (hr x (List.mem_cons_of_mem _ hx)).2⟩) hn.2 (Nat.le_trans (List.length_filter_le ..) hl)
  ·rw [if_neg h, if_neg h]
   refine M4_L1_eq hF R hh hi kk z hz r l _ (fun x => ?_) (mput_nodup hm') (fun x hx => hr x (List.mem_cons_of_mem _ hx)) hn.2 hl
   rw [mget_mput]
   by_cases hx : s = x
   ·rw [if_pos hx]; subst hx
    exact (onF_iff.2 (.inr hsl)).symm
   ·rw [if_neg hx, ho' x, onF_wo hs0, if_neg hx]
theorem nm_ne {s : Tx} (h : nm s = true) : s ≠ [] := by
 rintro rfl
 simp [nm] at h
theorem srt_nodup {l : List Tx} (h : l.Pairwise (fun a b => Op.bytesLess a b = true)) : l.Nodup := by
 unfold List.Nodup
 exact h.imp fun hab e => by subst e; exact bl_ne hab rfl
theorem M4_eq {F : Nat} (hF : 10000 ≤ F) {g : TGraph} {how : Int} {fs : List Tx} (t : Tx) (hg : okTGraph g) (hfs : ∀ x, x ∈ fs → x.length ≤ maxLen) : M4 F g how fs t = some (enA g how fs t) := by
 unfold M4 enA
 by_cases h0 : opnE g how fs = 0
 ·obtain ⟨R, hh⟩ := opn_parts h0
  obtain ⟨f1, f2, f3⟩ := feE_zero (opn_feE h0)
  rw [if_neg (show ¬ opnE g how fs ≠ 0 by simp [h0])]
  cases ht : fsOf g t
  ·rw [M12_none F g how fs t hg hfs (by omega) h0 ht, Option.bind_some, if_pos rfl]; rfl
  ·obtain ⟨i, hi, rfl⟩ := fs_at ht
   rw [M12_some F g how fs hg hfs (by omega) h0 R hi, Option.bind_some, if_neg (by simp)]
   simp only [sm]
   rw [if_neg (by decide)]
   obtain ⟨q, e1, e2⟩ := test_eq hF R hh (fs := fs) (l := fs) (m := (wOf g how fs).on) (fun x => has_onF fs x) hi
   have e1' : M13 F (Treach_world.mk g ((wOf g how fs).funcs) ((wOf g how fs).types) ((wOf g how fs).fitting) ((wOf g how fs).on) (how == 2)) (i : Int) = some q := e1
   rw [e1', Option.bind_some, e2, Option.bind_some]
   cases hr : reB g how fs (g.Funcs[i]).Name
   ·rfl
   ·rw [if_neg (by simp), if_neg (by simp), M11_eq F fs (by omega), Option.bind_some]
    simp only [jn_def]
    rw [M4_L1_eq hF R hh hi _ _ rfl fs fs (wOf g how fs).on (fun x => has_onF fs x) (sset_nodup _ _ (by simp [mput])) (fun s hs => ⟨hs, nm_ne (f3 s hs)⟩) (srt_nodup f2) (by omega)]
 ·rw [M12_err F g how fs t hg hfs (by omega) h0, if_pos h0, Option.bind_some]
  simp only [sm]
  rw [if_pos (by simpa using h0)]
theorem methE_of : ∀ {l : List Tx} {p : Option Tx}, (∀ b, p = some b → ∀ x, x ∈ l → Op.bytesLess b x = true) → l.Pairwise (fun a b => Op.bytesLess a b = true) → (∀ x, x ∈ l → nm x = true) → methE p l = 0
 | [], p, _, _, _ => rfl
 | s :: l, p, h1, h2, h3 => by
  have h2 := List.pairwise_cons.1 h2
  have e : nme s p = 0 := by
   unfold nme
   rw [h3 s (by simp)]
   cases p with
   | none => rfl
   | some b => simp [le_iff.2 (h1 b rfl s (by simp))]
  rw [methE, if_neg (by simp [e])]
  exact methE_of (fun b hb x hx => by simp at hb; subst hb; exact h2.1 x hx) h2.2 (fun x hx => h3 x (List.mem_cons_of_mem _ hx))
theorem opn_sub {g : TGraph} {how : Int} {fs l : List Tx} (h : opnE g how fs = 0) (hs : l.Sublist fs) : opnE g how l = 0 := by
 obtain ⟨f1, f2, f3⟩ := feE_zero (opn_feE h)
 have e : feE l = 0 := by
  unfold feE
  have := hs.length_le
  rw [if_neg (by omega)]
  exact methE_of (by simp) (f2.sublist hs) (fun x hx => f3 x (hs.mem hx))
 unfold opnE at h ⊢
 split at h
 ·rename_i h1; exact absurd h h1
 ·rename_i h1
  rw [if_neg h1]
  split at h
  ·rename_i h2; exact absurd h h2
  ·rw [if_neg (by simp [e])]; exact h
theorem reached_eq {F : Nat} (hF : 10000 ≤ F) {g : TGraph} {how : Int} {l : List Tx} (hg : okTGraph g) (hl : ∀ x, x ∈ l → x.length ≤ maxLen) (h0 : opnE g how l = 0) (t : Tx) (ht : fsOf g t = true) :
  ∃ r, M8 F g how l = some (r, 0) ∧ M9 F r t = some (reB g how l t) := by
 obtain ⟨R, hh⟩ := opn_parts h0
 obtain ⟨r, e, hr⟩ := M8_eq F g how l hg hl hF
 rw [h0] at e
 refine ⟨r, e, ?_⟩
 rw [M9_eq]
 congr 1
 rw [Bool.eq_iff_iff, reB_iff, List.contains_iff_mem, hr h0]
 constructor
 ·rintro ⟨i, hi, h1, rfl⟩
  exact (reach_iff (F := F) (by omega) R hh l hi).1 h1
 ·intro h
  obtain ⟨i, hi, rfl⟩ := fs_at ht
  exact ⟨i, hi, (reach_iff (F := F) (by omega) R hh l hi).2 h, rfl⟩
theorem take_drop_wo : ∀ {l : List Tx} (n : Nat) (h : n < l.length), l.Nodup → l.take n ++ l.drop (n + 1) = wo l l[n]
 | x :: l, 0, h, hn => by
  rw [List.nodup_cons] at hn
  show l = _
  unfold wo
  rw [List.filter_cons, if_neg (by simp)]
  symm
  rw [List.filter_eq_self]
  intro y hy
  have : y ≠ x := fun e => by subst e; exact hn.1 hy
  simpa using this
 | x :: l, n + 1, h, hn => by
  rw [List.nodup_cons] at hn
  have ih := take_drop_wo n (by simpa using h) hn.2
  have hx : (!(x == l[n]'(by simpa using h))) = true := by
   have : x ≠ l[n]'(by simpa using h) := fun e => hn.1 (by rw [e]; exact List.getElem_mem _)
   simpa using this
  unfold wo at ih ⊢
  rw [List.getElem_cons_succ, List.filter_cons, if_pos hx, ← ih]
  rfl
theorem law_loop {F : Nat} (hF : 10000 ≤ F) {g : TGraph} {how : Int} (hg : okTGraph g) {l : List Tx} (hl : ∀ x, x ∈ l → x.length ≤ maxLen) (hn : l.Nodup) (hlen : l.length ≤ 1000) (h0 : opnE g how l = 0) (t : Tx) (ht : fsOf g t = true)
  (hneed : ∀ s, s ∈ l → reB g how (wo l s) t = false) (b : Bool) (e : Int) (k : Option Bool) : ∀ (d n : Nat), n + d = l.length → M3_L1 F g how t (l, b, e) k d (n : Int) = k
 | 0, n, _ => rfl
 | d + 1, n, hd => by
  have hlt : n < l.length := by omega
  rw [M3_L1]
  have hw : w64 ((n : Int) + 1) = ((n + 1 : Nat) : Int) := w64_id (by omega) (by omega)
  have e10 : M10 F (n : Int) (w64 ((n : Int) + 1)) l = some (wo l l[n]) := by
   unfold M10
   rw [hw, if_pos ⟨by omega, by omega, by omega⟩, Int.toNat_natCast, Int.toNat_natCast, take_drop_wo n hlt hn]
  obtain ⟨r, e8, e9⟩ := reached_eq hF hg (l := wo l l[n]) (fun x hx => hl x (wo_mem.1 hx).1) (opn_sub h0 (List.filter_sublist ..)) t ht
  rw [show ((l, b, e) : List Tx × Bool × Int).1 = l from rfl, M11_eq F l (by omega), Option.bind_some, e10, Option.bind_some, e8, Option.bind_some, if_neg (by simp), e9, Option.bind_some, hneed _ (List.getElem_mem _), if_neg (by simp)]
  exact law_loop hF hg hl hn hlen h0 t ht hneed b e k d (n + 1) (by omega)
theorem plain_3 (g : TGraph) (how : Int) (fs : List Tx) (t : Tx) (hg : okTGraph g) (hi : (IntKind.i64).min ≤ how ∧ how ≤ (IntKind.i64).max) (hfs : (∀ a, a ∈ fs → (fun x : List UInt8 => x.length ≤ maxLen) a) ∧ fs.length ≤ maxLen) (ht : t.length ≤ maxLen) : ∃ F, M3 F g how fs t = some true := by
 refine ⟨20003, ?_⟩
 generalize hF : 20003 = F
 have hF : 10000 ≤ F := by omega
 have hA : (∃ e, enA g how fs t = ([], false, e)) ∨ (opnE g how fs = 0 ∧ fsOf g t = true ∧ reB g how fs t = true ∧ enA g how fs t = (enL g how t fs fs, true, 0)) := by
  unfold enA
  by_cases h0 : opnE g how fs = 0
  ·rw [if_neg (show ¬ opnE g how fs ≠ 0 by simp [h0])]
   cases hft : fsOf g t
   ·exact .inl ⟨_, if_pos rfl⟩
   ·rw [if_neg (show ¬ (true = false) by simp)]
    cases hr : reB g how fs t
    ·exact .inl ⟨_, if_pos rfl⟩
    ·exact .inr ⟨h0, rfl, rfl, if_neg (by simp)⟩
  ·exact .inl ⟨_, if_pos h0⟩
 unfold M3
 rw [M4_eq hF t hg hfs.1, M5_eq hF t hg hfs.1 hfs.2]
 simp only [Option.bind_some, M6_same]
 have told : (M7 F).bind (fun y => some y) = some true := rfl
 rw [if_neg (by simp), if_neg (by simp), if_neg (by simp), told]
 rcases hA with ⟨e, hA⟩ | ⟨h0, hft, hr, hA⟩
 ·rw [hA]; rfl
 ·rw [hA]
  obtain ⟨f1, f2, f3⟩ := feE_zero (opn_feE h0)
  have hsub := enL_sub g how t fs fs
  have hlen := hsub.length_le
  have hl : ∀ x, x ∈ enL g how t fs fs → x.length ≤ maxLen := fun x hx => hfs.1 x (hsub.mem hx)
  have o0 := opn_sub h0 hsub
  obtain ⟨r, e8, e9⟩ := reached_eq hF hg hl o0 t hft
  rw [if_neg (by simp), show ((enL g how t fs fs, true, (0 : Int)) : List Tx × Bool × Int).1 = enL g how t fs fs from rfl, e8, Option.bind_some, if_neg (by simp), e9, Option.bind_some, enL_re g how t fs fs hr, if_neg (by simp), jn_def]
  have := law_loop hF hg hl (srt_nodup (f2.sublist hsub)) (by omega) o0 t hft (fun s hs => enL_need g how t fs fs s (hsub.mem hs) hs) true 0 (some true) (enL g how t fs fs).length 0 (by omega)
  rw [Int.toNat_natCast]
  exact this
end Go.Proofs.Ytcbkgdagiccfmaa
/-
 DERIVED: THE SHELF's CONTRACTS AT THIS DUMP, IN PLAIN WORDS (tools/lay-plain.mjs out of 'TryShelf.lean', which tools/lay-shelf.mjs wrote): THE SAME DECLARATIONS UNDER THE SAME NAMES: 'import', 'namespace', 'open', 'def', 'theorem' AND NOTHING ELSE: no command of the shelf's: FOR A HAND-IN. Each laying: the table of numbers ('.._ren') and one theorem, a field a fact of the dump's own or the kernel's comparison; each contract: ONE APPLICATION.
-/
namespace Go.Proofs
open Go.Shelf
def Try.l14_ren : Go.Shelf.Ren := ⟨fun | 10 => 14 | 6 => 23 | n => n, fun | 22 => 25 | 23 => 9 | 25 => 56 | 3 => 3 | 4 => 4 | 0 => 0 | n => n, fun | n => n⟩
theorem Try.l14 : Go.Proofs.SlLaysH.n10 Try.prog Try.l14_ren := {
 mixed := by kernel_rfl
 f6 := ⟨Try.f23.name, by decide, Try.func23.trans (congrArg some (by kernel_rfl))⟩
 f10 := ⟨Try.f14.name, by decide, Try.func14.trans (congrArg some (by kernel_rfl))⟩
 t0 := Try.underlying0
 a0 := Try.isAgg0
 z0 := Try.sizeOf0
 v0 := Try.zeroValue0
 t3 := Try.underlying3
 a3 := Try.isAgg3
 z3 := Try.sizeOf3
 v3 := Try.zeroValue3
 t4 := Try.underlying4
 a4 := Try.isAgg4
 z4 := Try.sizeOf4
 v4 := Try.zeroValue4
 t22 := Try.underlying25
 a22 := Try.isAgg25
 z22 := Try.sizeOf25
 v22 := Try.zeroValue25
 a23 := Try.isAgg9
 z23 := Try.sizeOf9
 t25 := Try.underlying56
 a25 := Try.isAgg56
 z25 := Try.sizeOf56
 v25 := Try.zeroValue56 }
def Try.l10_ren : Go.Shelf.Ren := ⟨fun | 45 => 10 | n => n, fun | 22 => 25 | 23 => 9 | 3 => 3 | 4 => 4 | 0 => 0 | n => n, fun | n => n⟩
theorem Try.l10 : Go.Proofs.SlLaysE.n45 Try.prog Try.l10_ren := {
 mixed := by kernel_rfl
 f45 := ⟨Try.f10.name, by decide, Try.func10.trans (congrArg some (by kernel_rfl))⟩
 t0 := Try.underlying0
 a0 := Try.isAgg0
 z0 := Try.sizeOf0
 v0 := Try.zeroValue0
 t3 := Try.underlying3
 a3 := Try.isAgg3
 z3 := Try.sizeOf3
 v3 := Try.zeroValue3
 t4 := Try.underlying4
 a4 := Try.isAgg4
 z4 := Try.sizeOf4
 v4 := Try.zeroValue4
 t22 := Try.underlying25
 a22 := Try.isAgg25
 z22 := Try.sizeOf25
 v22 := Try.zeroValue25
 a23 := Try.isAgg9
 z23 := Try.sizeOf9 }
end Go.Proofs
namespace Go.Proofs.Ytcbkgdagiccfmaa
open Go Go.Pv Go.RowKit Go.Lib Go.Sort Go.Shelf
set_option linter.unusedVariables false
theorem gives15 (s x : List UInt8) (p : Addr) (W : World) (hc : W.cell? p = some (str s)) : FnGives Try.prog 15 #[.pointer (some p)] #[str x] (.bool (x == s)) W := by
 show Calls Try.prog 15 #[str x, .pointer (some p)] W _
 go_enter Try.func15, Try.ntmps15
 go_wp2
 all_goals (go_ret; exact ⟨by simp, 0, rfl⟩)
theorem enters15 : ∀ args w, (callFunc 15 args).run Try.prog w = .ok (.enter 15 args) w := enters_of Try.func15 (by kernel_rfl) rfl
theorem fn_cell {m : Mem} {β : Locs} {u : Value} {s : List UInt8} (h : VRel m β (V.fn (.func 15) [] [V.iptr [sV s] 0]) u) :
  ∃ p arr T fr, u = .func (.func 15) #[] #[.pointer (some p)] ∧ m p.block = some (.cells arr T fr) ∧ p.spot = none ∧ arr[p.off]? = some (str s) := by
 have key : ∀ (fs cs : Array Value), ([] : List V).length = fs.size → ([V.iptr [sV s] 0] : List V).length = cs.size → (∀ v, cs[0]? = some v → IRel m (V.iptr [sV s] 0) v) →
   ∃ p arr T fr, Value.func (.func 15) fs cs = .func (.func 15) #[] #[.pointer (some p)] ∧ m p.block = some (.cells arr T fr) ∧ p.spot = none ∧ arr[p.off]? = some (str s) := by
  intro fs cs h1 h2 h3
  obtain rfl : fs = #[] := Array.eq_empty_of_size_eq_zero h1.symm
  obtain ⟨v, rfl⟩ : ∃ v, cs = #[v] := by
   obtain ⟨cs⟩ := cs
   match cs, h2 with
   | [v], _ => exact ⟨v, rfl⟩
  cases h3 v rfl with
  | iptr f base hm hs ho hf hc =>
   have h0 := hf 0 (by simp)
   have hx := hc 0 _ rfl
   have e : f 0 = str s := by
    generalize f 0 = z at hx
    cases hx; rfl
   exact ⟨_, _, _, _, rfl, hm, hs, by rw [ho, ← e]; simpa using h0⟩
 cases h with
 | imm h =>
  cases h with
  | fn h1 h2 _ h4 => exact key _ _ h1 h2 fun v hv => h4 0 _ v rfl hv
 | fn h1 h2 _ h4 =>
  refine key _ _ h1 h2 fun v hv => ?_
  cases h4 0 _ v rfl hv with
  | imm h => exact h
theorem len_filter (l : List (List UInt8)) (s : List UInt8) : ((l.filter fun y => !(y == s)) ++ List.replicate (l.length - (l.filter fun y => !(y == s)).length) []).length = l.length := by
 have := List.length_filter_le (fun y => !(y == s)) l
 simp only [List.length_append, List.length_replicate]; omega
theorem one_of {us : List Value} (h : 1 = us.length) : ∃ u, us = [u] := by
 match us, h with
 | [u], _ => exact ⟨u, rfl⟩
theorem two_of {us : List Value} (h : 2 = us.length) : ∃ u v, us = [u, v] := by
 match us, h with
 | [u, v], _ => exact ⟨u, v, rfl⟩
theorem df14 {gl : Gl} (l : List (List UInt8)) (s : List UInt8) (hc : l ≠ [] ∧ l.length ≤ 140737488355328) : MutG gl Try.prog 14 [(V.own 0 l.length), (V.fn (.func 15) [] [(V.iptr [(sV s)] 0)])] 1 [(0, Ob.arr 9 1 (l.map encS))]
  (V.own 0 (l.filter fun y => !(y == s)).length) 1 ((0, Ob.arr 9 1 ((l.filter fun y => !(y == s)).map encS)) :: [(0, Ob.arr 9 1 (l.map encS))]) := by
 refine mut_filterG str (fun _ => rfl) l (l.filter fun y => !(y == s)) (List.replicate (l.length - (l.filter fun y => !(y == s)).length) []) _ rfl (len_filter l s) ?_ ?_
 ·intro m β w us blk off cap hus hown himm hne hblk hH hbs hcap hcm
  obtain ⟨u, rfl⟩ := one_of (us := us) (by simpa using hus.len)
  obtain ⟨p, arr, T, fr, rfl, hm, hs, ha⟩ := fn_cell (hus.at' 0 _ _ rfl rfl)
  have hw := himm _ _ hm
  have hpb : p.block < w.heap.size := lt_of_some hw
  have hcell : w.cell? p = some (str s) := by
   obtain ⟨b, o, sp⟩ := p
   simp only at hs; subst hs
   exact (cell_of_heap hw).trans ha
  have hnb : p.block ≠ blk := fun e => by rw [e, hblk] at hm; cases hm
  have h := AnyE.slices_DeleteFunc Try.l14 str (fun _ => rfl) (fun x => x == s) 15 #[.pointer (some p)] enters15 [] Try.zeroValue9 blk off cap l.toArray w
   (fun W x hb => gives15 s x p W ((hb.cell (p := p) hpb).trans hcell))
   (fun n os dk x _ => gives15 s x p _ (by
    unfold sortWorld
    rw [cell?_grow _ _ _ (by show p.block < (putRow _ _ _ _ _).heap.size; rw [size_putRow]; exact hpb), cell?_putRow_other _ _ blk off _ _ (Or.inl hnb)]
    exact hcell)) hH (by simp; omega) (by simpa using hcap)
  refine Calls.mono h ?_
  rintro e w' ⟨rfl, q, rfl⟩
  exact ⟨by simp, q, #[], by rw [grow_empty]; simp⟩
 ·intro m β w us a hus _ _ hl
  exact absurd hl hc.1
theorem nil10 (a : Option Addr) (w : World) : Calls Try.prog 10 #[.slice a 0 0, .int .i64 0, .int .i64 0] w fun e w' => e = .returned (.slice a 0 0) ∧ w' = w := by
 go_enter Try.func10, Try.ntmps10
 go_wp2
 all_goals (go_ret; exact ⟨rfl, rfl⟩)
theorem info9 : (Try.prog.info? 9).map (fun i => (i.zero, i.size, i.bytes)) = some (some (Value.string ⟨#[]⟩), 1, 16) := by kernel_rfl
theorem mdel10 {gl : Gl} (l : List (List UInt8)) {i j : Int} (hc : 0 ≤ i ∧ i ≤ j ∧ j.toNat ≤ l.length) : MutG gl Try.prog 10 [(V.own 0 l.length), (iV i), (iV j)] 1 [(0, Ob.arr 9 1 (l.map encS))]
  (V.own 0 (l.take i.toNat ++ l.drop j.toNat).length) 1 ((0, Ob.arr 9 1 ((l.take i.toNat ++ l.drop j.toNat).map encS)) :: [(0, Ob.arr 9 1 (l.map encS))]) := by
 obtain ⟨h0, hij, hjl⟩ := hc
 obtain ⟨i, rfl⟩ := Int.eq_ofNat_of_zero_le h0
 obtain ⟨j, rfl⟩ := Int.eq_ofNat_of_zero_le (Int.le_trans h0 hij)
 simp only [Int.toNat_natCast] at hij hjl ⊢
 have hij : i ≤ j := by omega
 refine mut_filterG str (fun _ => rfl) l (l.take i ++ l.drop j) (List.replicate (j - i) []) _ rfl (by simp; omega) ?_ ?_
 ·intro m β w us blk off cap hus hown himm hne hblk hH hbs hcap hcm
  obtain ⟨u, v, rfl⟩ := two_of (us := us) (by simpa using hus.len)
  obtain rfl := (hus.at' 0 _ _ rfl rfl).of_con
  obtain rfl := (hus.at' 1 _ _ rfl rfl).of_con
  obtain ⟨i0, hi0, hz0, hz1, hz2⟩ := info_parts info9
  have hm : cap ≤ 9223372036854775807 := by unfold maxLen at hcm; omega
  have h := AnyE.slices_Delete Try.l10 str (fun _ => rfl) [] Try.zeroValue9 i0 hi0 hz1 blk off cap i j l.toArray w hH (by simpa using hcap) hm hij (by simpa using hjl)
  refine Calls.mono h ?_
  rintro e w' ⟨rfl, q, rfl⟩
  exact ⟨by rw [show l.toArray.size - (j - i) = (l.take i ++ l.drop j).length by simp; omega], q, #[], by rw [grow_empty]⟩
 ·intro m β w us a hus _ _ hl
  obtain ⟨u, v, rfl⟩ := two_of (us := us) (by simpa using hus.len)
  obtain rfl := (hus.at' 0 _ _ rfl rfl).of_con
  obtain rfl := (hus.at' 1 _ _ rfl rfl).of_con
  subst hl
  obtain rfl : j = 0 := by simpa using hjl
  obtain rfl : i = 0 := by omega
  refine Calls.mono (nil10 a w) ?_
  rintro e w' ⟨rfl, rfl⟩
  exact ⟨rfl, Below.refl _ _, Nat.le_refl _⟩
end Go.Proofs.Ytcbkgdagiccfmaa
namespace Go.Pv
open Go
set_option linter.unusedVariables false
def conL (f : V → Option Value) : List V → Option (List Value)
 | [] => some []
 | x :: l => match f x with | some v => (match conL f l with | some r => some (v :: r) | none => none) | none => none
def conV : Nat → V → Option Value
 | 0, _ => none
 | n + 1, v => match v with
  | .con v => some v
  | .agg cs => (match conL (conV n) cs with | some l => some (.agg l.toArray) | none => none)
  | _ => none
theorem conL_at {f : V → Option Value} : ∀ {cs : List V} {l : List Value}, conL f cs = some l → l.length = cs.length ∧ ∀ (i : Nat) c v, cs[i]? = some c → l[i]? = some v → f c = some v
 | [], l, h => by simp [conL] at h; subst h; simp
 | x :: cs, l, h => by
  simp only [conL] at h
  split at h
  ·rename_i y hy
   split at h
   ·rename_i q hq
    simp at h; subst h
    obtain ⟨h1, h2⟩ := conL_at hq
    refine ⟨by simp [h1], fun i c v a b => ?_⟩
    cases i with
    | zero => simp at a b; subst a; subst b; exact hy
    | succ i => exact h2 i c v (by simpa using a) (by simpa using b)
   ·simp at h
  ·simp at h
theorem conV_ok {m : Mem} {β : Locs} : ∀ {n : Nat} {v : V} {x y : Value}, conV n v = some x → VRel m β v y → y = x
 | 0, v, x, y, h => by simp [conV] at h
 | n + 1, v, x, y, h => by
  intro hv
  cases v with
  | con c => simp [conV] at h; subst h; exact hv.of_con
  | agg cs =>
   simp only [conV] at h
   split at h
   ·rename_i l hl
    simp at h; subst h
    obtain ⟨vs, rfl, h2, h3⟩ := agg_inv hv
    obtain ⟨a1, a2⟩ := conL_at hl
    congr 1
    apply Array.ext
    ·simp [a1, h2]
    ·intro i hi hj
     have hic : i < cs.length := by rw [h2]; exact hi
     have hil : i < l.length := by rw [a1]; exact hic
     have := conV_ok (a2 i _ _ (List.getElem?_eq_getElem hic) (List.getElem?_eq_getElem hil)) (h3 i _ _ (List.getElem?_eq_getElem hic) (Array.getElem?_eq_getElem hi))
     simpa using this
   ·simp at h
  | _ => simp [conV] at h
theorem irel_agg {m : Mem} (l : List Value) : IRel m (.agg (l.map .con)) (.agg l.toArray) := .agg (by simp) fun i c v a b => by
 simp only [List.getElem?_map, List.getElem?_toArray] at a b
 rw [b] at a
 simp at a; subst a; exact .con _
def unC : Value → V
 | .agg vs => .agg (vs.toList.map .con)
 | v => .con v
theorem unC_ok {m : Mem} {β : Locs} (v : Value) : VRel m β (unC v) v := by
 cases v with
 | agg vs =>
  refine .imm (.agg (by simp) fun i c u a b => ?_)
  simp only [List.getElem?_map, Array.getElem?_toList, b, Option.map_some, Option.some.injEq] at a
  subst a; exact .con _
 | _ => exact .imm (.con _)
section
variable {K : Ctx} {Q : Post} {S S' : St} {ops : Array Oper} {rest : List Oper} {t : TT} {ty : TypeId} {pos : String} {after : Array Edge} {g : Option (Nat × Bool)}
theorem aops_mkIface {d n : Nat} {T : TypeId} {x : Operand} {v : V} {c : Value} (hT : K.P.concrete T = true) (hw : Wants ops S ⟨some d, .makeInterface T x, ty, pos, after, g⟩ true) (hx : evl K S x = v) (hc : conV n v = some c) (hN : Nat.blt d K.N = true)
  (k : AOps K ops rest Q (S.put d (.con (.iface T c)))) : AOps K ops (⟨some d, .makeInterface T x, ty, pos, after, g⟩ :: rest) Q S :=
 aops_val _ hw hN (fun m β w a r => by
  have := r.reads x
  rw [hx] at this
  have := conV_ok hc this
  exact ⟨.iface T c, by simp only [execOp, this]; exact run_value (Go.run_makeInterface w T c hT), .imm (.con _)⟩) k
def clI (t : TT) (e : Env) : Op → Option (Nat × List V)
 | .call c => (match c.callee with
  | .invoke x name => (match evC e x with
   | some (.con (.iface T v)) => (match ask t T (TF.qM name) with
    | some f => (match evL e c.args.toList with
     | some vs => (match frc (unC v :: vs) with | some r => some (f, r) | none => none)
     | none => none)
    | none => none)
   | _ => none)
  | .value x => (match evC e x with
   | some (.con (.func (.method name) first caps)) => (match first.toList, caps.toList with
    | [.iface T v], [] => (match ask t T (TF.qM name) with
     | some f => (match evL e c.args.toList with
      | some vs => (match frc (unC v :: vs) with | some r => some (f, r) | none => none)
      | none => none)
     | none => none)
    | _, _ => none)
   | _ => none)
  | _ => none)
 | _ => none
theorem evL_at {e : Env} (ha : Ag e S) : ∀ {l : List Operand} {vs : List V}, evL e l = some vs → vs = l.map (evl K S) := fun h => (evL_ok ha h).symm
theorem clI_run0 (ht : TTok K.P t) {e : Env} (ha : Ag e S) {o : Oper} {f : Nat} {avs : List V} (h : clI t e o.op = some (f, avs)) :
  ∀ m β w a, Rel K m β w a S → ∃ vs : Array Value, (execOp a.eval o).run K.P w = .ok (.enter f vs) w ∧ VRels m β avs vs := by
 obtain ⟨dst, op, ty', pos, after, g⟩ := o
 cases op <;> simp only [clI, reduceCtorEq] at h
 rename_i c
 obtain ⟨callee, args, at'⟩ := c
 simp only at h
 split at h
 ·rename_i x name
  split at h
  ·rename_i T v hx
   split at h
   ·rename_i f' hm
    split at h
    ·rename_i vs hv
     split at h
     ·rename_i q hq
      simp only [Option.some.injEq, Prod.mk.injEq] at h
      obtain ⟨rfl, rfl⟩ := h
      have hq := frc_ok hq
      have hv := evL_at (K := K) ha hv
      have hmm := (askM ht hm).1
      subst hq
      intro m β w a r
      have hr := r.con (evC_ok (K := K) ha hx)
      refine ⟨#[v] ++ args.map a.eval, ?_, ?_⟩
      ·have : (execOp a.eval ⟨dst, .call ⟨.invoke x name, args, at'⟩, ty', pos, after, g⟩) = callMethod (.iface T v) name (args.map a.eval) := by
        simp only [execOp, resolve, hr, pure_bind]
        show invoke (.fn (.method name) #[]) (#[Value.iface T v] ++ args.map a.eval) = _
        simp only [invoke]
        rw [show (#[Value.iface T v] ++ args.map a.eval)[0]? = some (Value.iface T v) by rw [Array.getElem?_append_left (by simp)]; rfl]
        simp only
        congr 1
        apply Array.ext'
        simp
        exact List.take_of_length_le (by simp)
       rw [this]
       exact hmm v (args.map a.eval) w
      ·refine ⟨by simp [hv]; omega, fun i c u h1 h2 => ?_⟩
       cases i with
       | zero =>
        rw [Array.getElem?_append_left (by simp)] at h2
        simp at h1 h2; subst h1; subst h2; exact unC_ok v
       | succ i =>
        simp only [List.getElem?_cons_succ, hv, List.getElem?_map, Array.getElem?_toList] at h1
        rw [Array.getElem?_append_right (by simp)] at h2
        simp only [List.size_toArray, List.length_cons, List.length_nil, Nat.zero_add, Nat.add_sub_cancel, Array.getElem?_map] at h2
        cases ho : args[i]? with
        | none => rw [ho] at h1; simp at h1
        | some y =>
         rw [ho] at h1 h2
         simp at h1 h2
         subst h1; subst h2
         exact r.reads y
     ·simp at h
    ·simp at h
   ·simp at h
  ·simp at h
 ·rename_i x
  split at h
  ·rename_i name first caps hx
   split at h
   ·rename_i T v hf1 hc1
    have hf1 := toList_one hf1
    have hc1 := toList_nil hc1
    subst hf1 hc1
    split at h
    ·rename_i f' hm
     split at h
     ·rename_i vs hv
      split at h
      ·rename_i q hq
       simp only [Option.some.injEq, Prod.mk.injEq] at h
       obtain ⟨rfl, rfl⟩ := h
       have hq := frc_ok hq
       have hv := evL_at (K := K) ha hv
       have hmm := (askM ht hm).1
       subst hq
       intro m β w a r
       have hr := r.con (evC_ok (K := K) ha hx)
       refine ⟨#[v] ++ args.map a.eval, ?_, ?_⟩
       ·have : (execOp a.eval ⟨dst, .call ⟨.value x, args, at'⟩, ty', pos, after, g⟩) = callMethod (.iface T v) name (args.map a.eval) := by
         simp only [execOp, resolve, hr, Deferred.ofValue, pure_bind]
         show invoke (.fn (.method name) #[]) (#[Value.iface T v] ++ args.map a.eval) = _
         simp only [invoke]
         rw [show (#[Value.iface T v] ++ args.map a.eval)[0]? = some (Value.iface T v) by rw [Array.getElem?_append_left (by simp)]; rfl]
         simp only
         congr 1
         apply Array.ext'
         simp
         exact List.take_of_length_le (by simp)
        rw [this]
        exact hmm v (args.map a.eval) w
       ·refine ⟨by simp [hv]; omega, fun i c u h1 h2 => ?_⟩
        cases i with
        | zero =>
         rw [Array.getElem?_append_left (by simp)] at h2
         simp at h1 h2; subst h1; subst h2; exact unC_ok v
        | succ i =>
         simp only [List.getElem?_cons_succ, hv, List.getElem?_map, Array.getElem?_toList] at h1
         rw [Array.getElem?_append_right (by simp)] at h2
         simp only [List.size_toArray, List.length_cons, List.length_nil, Nat.zero_add, Nat.add_sub_cancel, Array.getElem?_map] at h2
         cases ho : args[i]? with
         | none => rw [ho] at h1; simp at h1
         | some y =>
          rw [ho] at h1 h2
          simp at h1 h2
          subst h1; subst h2
          exact r.reads y
      ·simp at h
     ·simp at h
    ·simp at h
   ·simp at h
  ·simp at h
 ·simp at h
theorem aops_mkMeth {d : Nat} {name : String} {x : Operand} {iv : Value} (hw : Wants ops S ⟨some d, .makeFunc (.method name) #[x] #[], ty, pos, after, g⟩ true) (hx : evl K S x = .con iv) (hN : Nat.blt d K.N = true)
  (k : AOps K ops rest Q (S.put d (.con (.func (.method name) #[iv] #[])))) : AOps K ops (⟨some d, .makeFunc (.method name) #[x] #[], ty, pos, after, g⟩ :: rest) Q S :=
 aops_val _ hw hN (fun m β w a r => ⟨.func (.method name) #[iv] #[], by simp only [execOp]; exact run_value (by simp [Instr.makeFunc, pure, r.con hx]), .imm (.con _)⟩) k
theorem aops_nilMeth {d : Nat} {name : String} {x : Operand} {T : TypeId} {v : Value} (hT : ∀ (v : Value) (w : World), (nilAhead (K.P.types.size + Made.depth) T v name).run K.P w = .ok (some false) w) (hw : Wants ops S ⟨some d, .nilCheck x, ty, pos, after, g⟩ true) (hx : evl K S x = .con (.func (.method name) #[.iface T v] #[])) (hN : Nat.blt d K.N = true)
  (k : AOps K ops rest Q (S.put d (.con (.func (.method name) #[.iface T v] #[])))) : AOps K ops (⟨some d, .nilCheck x, ty, pos, after, g⟩ :: rest) Q S :=
 aops_val _ hw hN (fun m β w a r => ⟨.func (.method name) #[.iface T v] #[], by
  simp only [execOp, r.con hx]
  simp [Sem.run_bind, hT, Result.andThen, pure], .imm (.con _)⟩) k
theorem run_eqNilM {P : Program} {w : World} {T : TypeId} {x y : Operand} (neg : Bool) (hT : tyMp P T = true) (b : Option Nat) :
      (do eqGuard (if neg then .neq else .eql) T x y (.map b) (.map none); binOp (if neg then .neq else .eql) T (.map b) (.map none) : Sem Value).run P w = .ok (.bool (if neg then !b.isNone else b.isNone)) w := by
  obtain ⟨k, e, hu⟩ : ∃ k e, P.underlying T = some (.map k e) := by
    unfold tyMp at hT
    split at hT
    · exact ⟨_, _, ‹_›⟩
    · simp at hT
  have hd : (10000 : Nat) = 9999 + 1 := rfl
  have hg : ∀ op : BinOp, (eqGuard op T x y (.map b) (.map none)).run P w = .ok () w := by
    intro op; unfold eqGuard; cases op <;> simp [pure]
  have hq : (Op.equal T (.map b) (.map none)).run P w = .ok b.isNone w := by
    rw [Op.equal, Op.maxDepth, hd, Op.equalIn]
    simp only [Sem.run_bind, run_underlying hu, Result.andThen_ok]
    cases b <;> rfl
  rw [Sem.run_bind, hg, Result.andThen_ok]
  cases neg
  · simp only [Bool.false_eq_true, if_false, binOp, Sem.run_bind, hq, Result.andThen_ok]; rfl
  · simp only [if_true, binOp, Sem.run_bind, hq, Result.andThen_ok]; rfl
def mapNil : V → Option Bool
 | .con (.map none) => some true
 | .map _ => some false
 | _ => none
theorem aops_eqNilM {d : Nat} {x y : Operand} {T T' : TypeId} {v : V} {b : Bool} (neg : Bool) (hT : tyMp K.P T = true) (hw : Wants ops S ⟨some d, .binOp (if neg then .neq else .eql) T x y T', ty, pos, after, g⟩ true)
  (hx : evl K S x = v) (hv : mapNil v = some b) (hy : evl K S y = .con (.map none)) (hN : Nat.blt d K.N = true)
  (k : AOps K ops rest Q (S.put d (.con (.bool (if neg then !b else b))))) : AOps K ops (⟨some d, .binOp (if neg then .neq else .eql) T x y T', ty, pos, after, g⟩ :: rest) Q S :=
 aops_val _ hw hN (fun m β w a r => by
  have h := r.reads x
  rw [hx] at h
  have key : ∃ o, a.eval x = .map o ∧ o.isNone = b := by
   generalize a.eval x = u at h
   unfold mapNil at hv
   split at hv
   ·simp at hv; subst hv; exact ⟨none, h.of_con, rfl⟩
   ·simp at hv; subst hv
    cases h with
    | imm h => cases h
    | map hb => exact ⟨_, rfl, rfl⟩
   ·simp at hv
  obtain ⟨o, ho, hb⟩ := key
  have hr := run_eqNilM (P := K.P) (w := w) (x := x) (y := y) neg hT o
  refine ⟨.bool (if neg then !b else b), ?_, .imm (.con _)⟩
  simp only [execOp, ho, r.con hy]
  rw [← hb]
  exact run_value hr) k
end
end Go.Pv
