/- Part of the proof: C3PC, C3PD, C3PE, C3PF, C3PG, C3P3. -/
import Derived.Test.YtkeeppclihjlhaaGreatDoorKC3PB
namespace Go.Proofs.YtkeeppclihjlhaaGreatDoor
open Go Go.Pv
set_option linter.unusedVariables false
set_option linter.unusedSimpArgs false
set_option maxRecDepth 100000
mutual
theorem Tr.ind {P : Tr → Prop} (h : ∀ a b c d e ks, (∀ t, t ∈ ks → P t) → P (.mk a b c d e ks)) : ∀ t : Tr, P t
 | .mk a b c d e ks => h a b c d e ks (Tr.inds h ks)
theorem Tr.inds {P : Tr → Prop} (h : ∀ a b c d e ks, (∀ t, t ∈ ks → P t) → P (.mk a b c d e ks)) : ∀ (ks : List Tr) (t : Tr), t ∈ ks → P t
 | [], _, hu => absurd hu (by simp)
 | t :: r, u, hu => by
  rcases List.mem_cons.1 hu with e | hu
  ·rw [e]; exact Tr.ind h t
  ·exact Tr.inds h r u hu
end
noncomputable section
mutual
def Tr.fu : Tr → Nat
 | .mk a b c d e ks => c.length + ks.length + 2 + Tr.fus ks
def Tr.fus : List Tr → Nat
 | [] => 0
 | t :: r => t.fu + Tr.fus r
end
mutual
def Tr.cnt : Tr → Nat
 | .mk a b c d e ks => 1 + Tr.cnts ks
def Tr.cnts : List Tr → Nat
 | [] => 0
 | t :: r => t.cnt + Tr.cnts r
end
mutual
def Tr.dep : Tr → Nat
 | .mk a b c d e ks => 1 + Tr.deps ks
def Tr.deps : List Tr → Nat
 | [] => 0
 | t :: r => max t.dep (Tr.deps r)
end
mutual
def Tr.flt : Tr → Int
 | .mk a b c d e ks => if nodeV ⟨a, b, c, d, e, Tr.toKs ks⟩ = 0 then Tr.flts ks else nodeV ⟨a, b, c, d, e, Tr.toKs ks⟩
def Tr.flts : List Tr → Int
 | [] => 0
 | t :: r => if t.flt = 0 then Tr.flts r else t.flt
end
def Tr.toK (t : Tr) : KRow := ⟨encTTest t.toT, imms_encTTest _, one_encTTest _⟩
end
theorem Tr.dec (t : Tr) : kdec encTTest t.toK = some t.toT := kdec_toK t
theorem Tr.toKs_map : ∀ ks : List Tr, Tr.toKs ks = ks.map Tr.toK
 | [] => by simp [Tr.toKs]
 | t :: r => by rw [Tr.toKs, Tr.toKs_map r]; rfl
theorem idx_toKs {ks : List Tr} {n : Nat} (h : n < ks.length) : idx (Tr.toKs ks) (n : Int) = some (ks[n].toK) := by
 rw [Tr.toKs_map, idx_nat (by simpa using h)]; simp
theorem Tr.fu_mem : ∀ {ks : List Tr} {t : Tr}, t ∈ ks → t.fu ≤ Tr.fus ks
 | u :: r, t, h => by
  rw [Tr.fus]
  rcases List.mem_cons.1 h with e | h
  ·subst e; omega
  ·have := Tr.fu_mem h; omega
theorem Tr.oks_mem : ∀ {ks : List Tr} {t : Tr}, Tr.oks ks → t ∈ ks → t.ok
 | u :: r, t, ho, h => by
  rw [Tr.oks] at ho
  rcases List.mem_cons.1 h with e | h
  ·subst e; exact ho.1
  ·exact Tr.oks_mem ho.2 h
theorem maxLen_eq : maxLen = 9223372036854775807 := by decide
theorem Tr.okX {a b c d e ks} (h : (Tr.mk a b c d e ks).ok) : okX ⟨a, b, c, d, e, Tr.toKs ks⟩ := by
 rw [Tr.ok] at h
 exact ⟨h.2.1, h.2.2.1.1, h.2.2.1.2, by rw [show (Tr.toKs ks).length = ks.length from Tr.toKs_len ks]; exact h.2.2.2.2.2.2⟩
theorem Tr.okks {a b c d e ks} (h : (Tr.mk a b c d e ks).ok) : Tr.oks ks ∧ ks.length ≤ 9223372036854775807 := by
 rw [Tr.ok, maxLen_eq] at h
 exact ⟨h.2.2.2.2.2.1, h.2.2.2.2.2.2⟩
theorem Tr.cnt_mem : ∀ {ks : List Tr} {t : Tr}, t ∈ ks → t.cnt ≤ Tr.cnts ks
 | u :: r, t, h => by
  rw [Tr.cnts]
  rcases List.mem_cons.1 h with e | h
  ·subst e; omega
  ·have := Tr.cnt_mem h; omega
theorem cnt_pos (t : Tr) : 1 ≤ t.cnt := by cases t; rw [Tr.cnt]; omega
theorem len_cnts : ∀ ks : List Tr, ks.length ≤ Tr.cnts ks
 | [] => by simp [Tr.cnts]
 | t :: r => by rw [Tr.cnts]; have := len_cnts r; have := cnt_pos t; simp; omega
theorem deps_le : ∀ (ks : List Tr), (∀ t, t ∈ ks → t.dep ≤ t.cnt) → Tr.deps ks ≤ Tr.cnts ks
 | [], _ => by simp [Tr.deps]
 | t :: r, h => by
  rw [Tr.deps, Tr.cnts]
  have h1 := h t (by simp)
  have h2 := deps_le r fun u hu => h u (by simp [hu])
  omega
theorem dep_le : ∀ t : Tr, t.dep ≤ t.cnt := Tr.ind fun a b c d e ks ih => by rw [Tr.dep, Tr.cnt]; have := deps_le ks ih; omega
theorem M41_tr : ∀ t : Tr, t.ok → ∀ F, t.fu ≤ F → M41 F t.toT = some t.flt := Tr.ind fun a b c d e ks ih ok F hF => by
 rw [Tr.fu] at hF
 obtain ⟨F, rfl⟩ : ∃ G, F = G + 1 := ⟨F - 1, by omega⟩
 show M41_B (M41 F) F (Tr.mk a b c d e ks).toT = _
 rw [Tr.toT, M41_B_eq F _ _ (Tr.okX ok), Tr.flt]
 have hl : ∀ l : List Tr, (∀ t, t ∈ l → t ∈ ks) → M41_L1 (M41 F) F (some 0) (Tr.toKs l) = some (Tr.flts l) := by
  intro l
  induction l with
  | nil => intro _; simp only [Tr.toKs, M41_L1, Tr.flts]
  | cons t r ihr =>
   intro hm
   have ht := hm t (by simp)
   rw [Tr.toKs_map, List.map_cons, M41_L1, Tr.dec, Option.bind_some, ih t ht (Tr.oks_mem (Tr.okks ok).1 ht) F (by have := Tr.fu_mem ht; omega), Option.bind_some, ← Tr.toKs_map, ihr fun u hu => hm u (by simp [hu]), Tr.flts]
   by_cases h0 : t.flt = 0 <;> simp [h0]
 rw [hl ks fun _ h => h]
 by_cases h0 : nodeV ⟨a, b, c, d, e, Tr.toKs ks⟩ = 0
 ·simp [h0]
 ·rw [if_neg h0, if_pos (by simp [h0])]
theorem M44_tr : ∀ t : Tr, t.ok → ∀ F, t.fu ≤ F → M44 F t.toT = some t.flt := Tr.ind fun a b c d e ks ih ok F hF => by
 rw [Tr.fu] at hF
 obtain ⟨F, rfl⟩ : ∃ G, F = G + 1 := ⟨F - 1, by omega⟩
 show M44_B (M44 F) F (Tr.mk a b c d e ks).toT = _
 rw [Tr.toT, M44_B, M68_eq F _ (Tr.okX ok), Option.bind_some, Tr.flt, jn_def]
 have hk := (Tr.okks ok).2
 have hlen : (TTest.mk a b c d e (Tr.toKs ks)).Kids.length = ks.length := Tr.toKs_len ks
 rw [hlen, if_pos (show ((ks.length : Nat) : Int) ≤ 9223372036854775807 by omega), show (((ks.length : Nat) : Int)).toNat = ks.length by omega]
 have hl : ∀ m n : Nat, n + m = ks.length → M44_L1 (M44 F) F ⟨a, b, c, d, e, Tr.toKs ks⟩ (some 0) m (n : Int) = some (Tr.flts (ks.drop n)) := by
  intro m
  induction m with
  | zero => intro n h; rw [M44_L1, List.drop_eq_nil_of_le (by omega), Tr.flts]
  | succ m ihm =>
   intro n h
   have hn : n < ks.length := by omega
   have ht : ks[n] ∈ ks := List.getElem_mem _
   rw [M44_L1, idx_toKs hn, Option.bind_some, Tr.dec, Option.bind_some, ih _ ht (Tr.oks_mem (Tr.okks ok).1 ht) F (by have := Tr.fu_mem ht; omega), Option.bind_some, show ((n : Int) + 1) = ((n + 1 : Nat) : Int) from rfl, ihm (n + 1) (by omega), List.drop_eq_getElem_cons hn, Tr.flts]
   by_cases h0 : ks[n].flt = 0 <;> simp [h0]
 have := hl ks.length 0 (by omega)
 rw [show ((0 : Nat) : Int) = 0 from rfl, List.drop_zero] at this
 rw [this]
 by_cases h0 : nodeV ⟨a, b, c, d, e, Tr.toKs ks⟩ = 0
 ·simp [h0]
 ·rw [if_neg h0, if_pos (by simp [h0])]
theorem M42_tr : ∀ t : Tr, t.ok → ∀ F, t.fu ≤ F → ∀ most : Nat, most ≤ 60 → M42 F t.toT (most : Int) = some ((min t.cnt (most + 1) : Nat) : Int) := Tr.ind fun a b c d e ks ih ok F hF most hmost => by
 rw [Tr.fu] at hF
 obtain ⟨F, rfl⟩ : ∃ G, F = G + 1 := ⟨F - 1, by omega⟩
 show M42_B (M42 F) F (Tr.mk a b c d e ks).toT (most : Int) = _
 rw [Tr.toT, M42_B, jn_def, Tr.cnt]
 have hk := (Tr.okks ok).2
 have hl : ∀ fuel n j : Nat, ks.length < fuel + j → j ≤ ks.length → n ≤ most + 1 → M42_L1 (M42 F) F ⟨a, b, c, d, e, Tr.toKs ks⟩ (most : Int) (fun n4 => some n4) fuel (n : Int) (j : Int) = some ((min (n + Tr.cnts (ks.drop j)) (most + 1) : Nat) : Int) := by
  intro fuel
  induction fuel with
  | zero => intro n j h1 h2; omega
  | succ fuel ihf =>
   intro n j h1 h2 h3
   rw [M42_L1]
   have hlen : (TTest.mk a b c d e (Tr.toKs ks)).Kids.length = ks.length := Tr.toKs_len ks
   rw [hlen]
   by_cases hj : j < ks.length
   ·rw [if_pos (decide_eq_true (by omega))]
    by_cases hn : n ≤ most
    ·have ht : ks[j] ∈ ks := List.getElem_mem _
     rw [if_pos (decide_eq_true (by omega)), idx_toKs hj, Option.bind_some, Tr.dec, Option.bind_some, w64_id (by omega) (by omega), show ((most : Int) - (n : Int)) = ((most - n : Nat) : Int) by omega,
      ih _ ht (Tr.oks_mem (Tr.okks ok).1 ht) F (by have := Tr.fu_mem ht; omega) (most - n) (by omega), Option.bind_some, w64_id (by omega) (by omega), w64_id (by omega) (by omega)]
     have := ihf (n + min ks[j].cnt (most - n + 1)) (j + 1) (by omega) (by omega) (by omega)
     rw [show ((n : Int) + ((min ks[j].cnt (most - n + 1) : Nat) : Int)) = ((n + min ks[j].cnt (most - n + 1) : Nat) : Int) by omega, show ((j : Int) + 1) = ((j + 1 : Nat) : Int) from rfl, this, List.drop_eq_getElem_cons hj, Tr.cnts]
     congr 2
     omega
    ·rw [if_neg (by simp; omega)]
     have : n = most + 1 := by omega
     subst this
     congr 2
     omega
   ·rw [if_neg (by simp; omega), List.drop_eq_nil_of_le (by omega), Tr.cnts]
    congr 2
    omega
 have := hl F 1 0 (by omega) (by omega) (by omega)
 rw [List.drop_zero] at this
 exact this
theorem M43_tr : ∀ t : Tr, t.ok → ∀ F, t.fu ≤ F → t.cnt ≤ 60 → M43 F t.toT = some (t.dep : Int) := Tr.ind fun a b c d e ks ih ok F hF hc => by
 rw [Tr.fu] at hF
 rw [Tr.cnt] at hc
 obtain ⟨F, rfl⟩ : ∃ G, F = G + 1 := ⟨F - 1, by omega⟩
 show M43_B (M43 F) F (Tr.mk a b c d e ks).toT = _
 have hlen : (TTest.mk a b c d e (Tr.toKs ks)).Kids.length = ks.length := Tr.toKs_len ks
 have hk := (Tr.okks ok).2
 rw [Tr.toT, M43_B, jn_def, hlen, if_pos (by omega), show (((ks.length : Nat) : Int)).toNat = ks.length by omega, Tr.dep]
 have hl : ∀ m n q : Nat, n + m = ks.length → M43_L1 (M43 F) F ⟨a, b, c, d, e, Tr.toKs ks⟩ (fun n3 => some (w64 (n3 + 1))) m (n : Int) (q : Int) = some (w64 (((max q (Tr.deps (ks.drop n)) : Nat) : Int) + 1)) := by
  intro m
  induction m with
  | zero => intro n q h; rw [M43_L1, List.drop_eq_nil_of_le (by omega), Tr.deps, Nat.max_zero]
  | succ m ihm =>
   intro n q h
   have hn : n < ks.length := by omega
   have ht : ks[n] ∈ ks := List.getElem_mem _
   rw [M43_L1, idx_toKs hn, Option.bind_some, Tr.dec, Option.bind_some, ih _ ht (Tr.oks_mem (Tr.okks ok).1 ht) F (by have := Tr.fu_mem ht; omega) (by have := Tr.cnt_mem ht; omega), Option.bind_some]
   rw [show (if (ks[n].dep : Int) > (q : Int) then (ks[n].dep : Int) else (q : Int)) = ((max q ks[n].dep : Nat) : Int) by split <;> omega, show ((n : Int) + 1) = ((n + 1 : Nat) : Int) from rfl, ihm (n + 1) _ (by omega), List.drop_eq_getElem_cons hn, Tr.deps, Nat.max_assoc]
 have := hl ks.length 0 0 (by omega)
 rw [List.drop_zero] at this
 rw [show ((0 : Nat) : Int) = 0 from rfl] at this
 rw [this]
 have h1 := deps_le ks fun t _ => dep_le t
 rw [w64_id (by omega) (by omega)]
 congr 1
 omega
theorem M40_tr : ∀ t : Tr, t.ok → ∀ F, t.fu ≤ F → ∀ lvl : Int, 1 ≤ lvl → lvl ≤ 13 → ∃ a b : Int, M40 F t.toT lvl = some (a, b) ∧ 1 ≤ a ∧ a ≤ 61 ∧ lvl ≤ b ∧ b ≤ 13 ∧ (12 < b ↔ 12 < lvl + t.dep - 1) ∧ (b ≤ 12 → a = min (t.cnt : Int) 61) := Tr.ind fun a b c d e ks ih ok F hF lvl h1 h13 => by
 rw [Tr.fu] at hF
 obtain ⟨F, rfl⟩ : ∃ G, F = G + 1 := ⟨F - 1, by omega⟩
 show ∃ p q : Int, M40_B (M40 F) F (Tr.mk a b c d e ks).toT lvl = some (p, q) ∧ _
 rw [Tr.toT, M40_B, Tr.dep, Tr.cnt]
 by_cases hq : lvl > 12
 ·rw [if_pos (decide_eq_true hq)]
  exact ⟨1, lvl, rfl, by omega, by omega, by omega, by omega, by omega, by omega⟩
 ·rw [if_neg (by simpa using hq), jn_def]
  have hl : ∀ l : List Tr, (∀ t, t ∈ l → t ∈ ks) → ∀ n q : Int, 1 ≤ n → n ≤ 61 → lvl ≤ q → q ≤ 13 → ∃ p r : Int, M40_L1 (M40 F) F lvl (fun n5 n6 => some (n5, n6)) (Tr.toKs l) n q = some (p, r) ∧ 1 ≤ p ∧ p ≤ 61 ∧ lvl ≤ r ∧ r ≤ 13 ∧ (12 < r ↔ 12 < q ∨ 12 < lvl + Tr.deps l) ∧ (r ≤ 12 → p = min (n + (Tr.cnts l : Nat)) 61) := by
   intro l
   induction l with
   | nil =>
    intro _ n q g1 g2 g3 g4
    refine ⟨n, q, by simp only [Tr.toKs, M40_L1], g1, g2, g3, g4, ?_, ?_⟩
    ·rw [Tr.deps]; omega
    ·rw [Tr.cnts]; omega
   | cons t r ihr =>
    intro hm n q g1 g2 g3 g4
    have ht := hm t (by simp)
    obtain ⟨p', q', e1, e2, e3, e4, e5, e6, e7⟩ := ih t ht (Tr.oks_mem (Tr.okks ok).1 ht) F (by have := Tr.fu_mem ht; omega) (lvl + 1) (by omega) (by omega)
    rw [Tr.toKs_map, List.map_cons, M40_L1, Tr.dec, Option.bind_some, w64_id (by omega) (by omega), e1, Option.bind_some, ← Tr.toKs_map]
    dsimp only
    rw [w64_id (by omega) (by omega)]
    obtain ⟨p, s, f1, f2, f3, f4, f5, f6, f7⟩ := ihr (fun u hu => hm u (by simp [hu])) (if 61 < n + p' then 61 else n + p') (if q' > q then q' else q) (by split <;> omega) (by split <;> omega) (by split <;> omega) (by split <;> omega)
    refine ⟨p, s, f1, f2, f3, f4, f5, ?_, ?_⟩
    ·rw [f6, Tr.deps]
     split <;> omega
    ·intro hs
     have h7 := f7 hs
     have hq' : ¬ 12 < s := by omega
     rw [f6] at hq'
     have : q' ≤ 12 := by split at hq' <;> omega
     have h8 := e7 this
     rw [h7, Tr.cnts]
     split <;> omega
  obtain ⟨p, r, e1, e2, e3, e4, e5, e6, e7⟩ := hl ks (fun _ h => h) 1 lvl (by omega) (by omega) (by omega) (by omega)
  refine ⟨p, r, e1, e2, e3, e4, e5, ?_, ?_⟩
  ·rw [e6]; omega
  ·intro h; rw [e7 h]; omega
noncomputable def vT (t : Tr) : Int := if 60 < t.cnt ∨ 12 < t.dep then 3 else t.flt
theorem M12_tr (t : Tr) (ok : t.ok) (F : Nat) (hF : t.fu ≤ F) : M12 F t.toT = some (vT t) := by
 obtain ⟨a, b, e1, e2, e3, e4, e5, e6, e7⟩ := M40_tr t ok F hF 1 (by omega) (by omega)
 unfold M12
 rw [e1, Option.bind_some]
 dsimp only
 unfold vT
 by_cases hb : 12 < b
 ·have hd := e6.1 hb
  rw [if_pos (show 60 < t.cnt ∨ 12 < t.dep by omega), if_pos (show decide (b > 12) = true from decide_eq_true (by omega))]
  by_cases ha : a > 60 <;> simp [ha]
 ·have h7 := e7 (by omega)
  have hd : ¬ (12 < t.dep) := fun h => hb (e6.2 (by omega))
  by_cases hc : 60 < t.cnt
  ·rw [if_pos (decide_eq_true (by omega)), if_pos (Or.inl hc)]
  ·rw [if_neg (by simp; omega), if_neg (by simp; omega), if_neg (by omega), M41_tr t ok F hF]; rfl
theorem M13_tr (t : Tr) (ok : t.ok) (F : Nat) (hF : t.fu ≤ F) : M13 F t.toT = some (vT t) := by
 have h := M42_tr t ok F hF 60 (by omega)
 rw [show ((60 : Nat) : Int) = 60 from rfl] at h
 unfold M13 vT
 rw [h, Option.bind_some]
 by_cases hc : 60 < t.cnt
 ·rw [if_pos (decide_eq_true (by omega)), if_pos (Or.inl hc)]
 ·rw [if_neg (by simp; omega), M43_tr t ok F hF (by omega), Option.bind_some]
  by_cases hd : 12 < t.dep
  ·rw [if_pos (decide_eq_true (by omega)), if_pos (Or.inr hd)]
  ·rw [if_neg (by simp; omega), if_neg (by omega), M44_tr t ok F hF]; rfl
end Go.Proofs.YtkeeppclihjlhaaGreatDoor
namespace Go.Proofs.YtkeeppclihjlhaaGreatDoor
open Go Go.Pv
set_option linter.unusedVariables false
set_option linter.unusedSimpArgs false
set_option maxRecDepth 100000
def okTFact' (f : TFact) : Prop := okS f.Kind ∧ okS f.Subject ∧ (∀ p, p ∈ f.Texts → okS p.Name ∧ okS p.Value) ∧ f.Texts.length ≤ maxLen ∧ (∀ p, p ∈ f.Numbers → okS p.Name) ∧ f.Numbers.length ≤ maxLen
def leN (a b : List UInt8) : Bool := Op.bytesLess a b || a == b
def tcF (a : List TPair) : List TPair → Nat → Int
 | [], _ => 0
 | x :: l, n => if nameB x.Name = false then 8 else if valB x.Value = false then 2 else if (decide (0 < n) && leN x.Name (a.getD (n - 1) ⟨[], []⟩).Name) = true then 10 else tcF a l (n + 1)
def ncF (a : List TAmount) : List TAmount → Nat → Int
 | [], _ => 0
 | x :: l, n => if nameB x.Name = false then 8 else if outN x.N = true then 9 else if (decide (0 < n) && leN x.Name (a.getD (n - 1) ⟨[], 0⟩).Name) = true then 10 else ncF a l (n + 1)
theorem drop_cons {α : Type} {a : List α} {x : α} {l : List α} {n : Nat} (h : a.drop n = x :: l) : n < a.length ∧ idx a (n : Int) = some x ∧ x ∈ a ∧ a.drop (n + 1) = l := by
 have hn : n < a.length := by
  rcases Nat.lt_or_ge n a.length with h2 | h2
  ·exact h2
  ·rw [List.drop_eq_nil_of_le h2] at h; cases h
 rw [List.drop_eq_getElem_cons hn] at h
 injection h with hx hd
 exact ⟨hn, by rw [idx_nat hn, hx], hx ▸ List.getElem_mem _, hd⟩
theorem M10_L1_eq (F : Nat) (f : TFact) (hf : okTFact' f) (k : Option Int) : ∀ (l : List TPair) (n : Nat), f.Texts.drop n = l → M10_L1 F f k l (n : Int) = if tcF f.Texts l n = 0 then k else some (tcF f.Texts l n)
 | [], n, _ => by simp [M10_L1, tcF]
 | x :: l, n, h => by
  obtain ⟨hn, hi, hm, hd⟩ := drop_cons h
  have hx := hf.2.2.1 x hm
  rw [M10_L1, M34_eq F _ hx.1, Option.bind_some, jn_def, show ((n : Int) + 1) = ((n + 1 : Nat) : Int) from rfl, M10_L1_eq F f hf k l (n + 1) hd, M35_eq F _ hx.2, tcF]
  cases nameB x.Name
  ·simp
  ·simp only [Bool.not_true, Bool.false_eq_true, if_false, Option.bind_some]
   cases valB x.Value
   ·simp
   ·simp only [Bool.not_true, Bool.false_eq_true, if_false]
    by_cases h0 : 0 < n
    ·rw [if_pos (decide_eq_true (by omega)), idx_prev (d := ⟨[], []⟩) h0 (by omega) hf.2.2.2.1, Option.bind_some, decide_eq_true h0]
     simp only [Bool.true_and, leN]
     cases (Op.bytesLess x.Name (f.Texts.getD (n - 1) ⟨[], []⟩).Name || x.Name == (f.Texts.getD (n - 1) ⟨[], []⟩).Name) <;> simp
    ·rw [if_neg (by simp; omega), decide_eq_false h0]; simp
theorem M11_L1_eq (F : Nat) (f : TFact) (hf : okTFact' f) (k : Option Int) : ∀ (l : List TPair) (n : Nat), f.Texts.drop n = l → M11_L1 F f k l (n : Int) = if tcF f.Texts l n = 0 then k else some (tcF f.Texts l n)
 | [], n, _ => by simp [M11_L1, tcF]
 | x :: l, n, h => by
  obtain ⟨hn, hi, hm, hd⟩ := drop_cons h
  have hx := hf.2.2.1 x hm
  rw [M11_L1, M37_eq F _ hx.1, Option.bind_some, jn_def, show ((n : Int) + 1) = ((n + 1 : Nat) : Int) from rfl, M11_L1_eq F f hf k l (n + 1) hd, hi, Option.bind_some, M38_eq F _ hx.2, tcF]
  cases nameB x.Name
  ·simp
  ·simp only [Bool.not_true, Bool.false_eq_true, if_false, Option.bind_some]
   cases valB x.Value
   ·simp
   ·simp only [Bool.not_true, Bool.false_eq_true, if_false]
    by_cases h0 : 0 < n
    ·rw [if_pos (decide_eq_true (by omega)), idx_prev (d := ⟨[], []⟩) h0 (by omega) hf.2.2.2.1, Option.bind_some, decide_eq_true h0]
     simp only [Bool.true_and, leN]
     cases (Op.bytesLess x.Name (f.Texts.getD (n - 1) ⟨[], []⟩).Name || x.Name == (f.Texts.getD (n - 1) ⟨[], []⟩).Name) <;> simp
    ·rw [if_neg (by simp; omega), decide_eq_false h0]; simp
theorem M10_L2_eq (F : Nat) (f : TFact) (hf : okTFact' f) (k : Option Int) : ∀ (l : List TAmount) (n : Nat), f.Numbers.drop n = l → M10_L2 F f k l (n : Int) = if ncF f.Numbers l n = 0 then k else some (ncF f.Numbers l n)
 | [], n, _ => by simp [M10_L2, ncF]
 | x :: l, n, h => by
  obtain ⟨hn, hi, hm, hd⟩ := drop_cons h
  have hx := hf.2.2.2.2.1 x hm
  rw [M10_L2, M34_eq F _ hx, Option.bind_some, jn_def, show ((n : Int) + 1) = ((n + 1 : Nat) : Int) from rfl, M10_L2_eq F f hf k l (n + 1) hd, M36_N, ncF]
  cases nameB x.Name
  ·simp
  ·simp only [Bool.not_true, Bool.false_eq_true, if_false, Option.bind_some]
   cases outN x.N
   ·simp only [Bool.not_true, Bool.not_false, Bool.false_eq_true, if_false]
    by_cases h0 : 0 < n
    ·rw [if_pos (decide_eq_true (by omega)), idx_prev (d := ⟨[], 0⟩) h0 (by omega) hf.2.2.2.2.2, Option.bind_some, decide_eq_true h0]
     simp only [Bool.true_and, leN]
     cases (Op.bytesLess x.Name (f.Numbers.getD (n - 1) ⟨[], 0⟩).Name || x.Name == (f.Numbers.getD (n - 1) ⟨[], 0⟩).Name) <;> simp
    ·rw [if_neg (by simp; omega), decide_eq_false h0]; simp
   ·simp
theorem M11_L2_eq (F : Nat) (f : TFact) (hf : okTFact' f) (k : Option Int) : ∀ (l : List TAmount) (n : Nat), f.Numbers.drop n = l → M11_L2 F f k l (n : Int) = if ncF f.Numbers l n = 0 then k else some (ncF f.Numbers l n)
 | [], n, _ => by simp [M11_L2, ncF]
 | x :: l, n, h => by
  obtain ⟨hn, hi, hm, hd⟩ := drop_cons h
  have hx := hf.2.2.2.2.1 x hm
  rw [M11_L2, M37_eq F _ hx, Option.bind_some, jn_def, show ((n : Int) + 1) = ((n + 1 : Nat) : Int) from rfl, M11_L2_eq F f hf k l (n + 1) hd, hi, Option.bind_some, M39_N, ncF]
  cases nameB x.Name
  ·simp
  ·simp only [Bool.not_true, Bool.false_eq_true, if_false, Option.bind_some]
   cases outN x.N
   ·simp only [Bool.not_true, Bool.not_false, Bool.false_eq_true, if_false]
    by_cases h0 : 0 < n
    ·rw [if_pos (decide_eq_true (by omega)), idx_prev (d := ⟨[], 0⟩) h0 (by omega) hf.2.2.2.2.2, Option.bind_some, decide_eq_true h0]
     simp only [Bool.true_and, leN]
     cases (Op.bytesLess x.Name (f.Numbers.getD (n - 1) ⟨[], 0⟩).Name || x.Name == (f.Numbers.getD (n - 1) ⟨[], 0⟩).Name) <;> simp
    ·rw [if_neg (by simp; omega), decide_eq_false h0]; simp
   ·simp
def vF (f : TFact) : Int := if nameB f.Kind = false then 8 else if valB f.Subject = false then 2 else if 30 < f.Texts.length then 3 else if tcF f.Texts f.Texts 0 = 0 then (if 30 < f.Numbers.length then 3 else ncF f.Numbers f.Numbers 0) else tcF f.Texts f.Texts 0
theorem M10_eq (F : Nat) (f : TFact) (hf : okTFact' f) : M10 F f = some (vF f) := by
 unfold M10 vF
 have h1 := fun k => M10_L1_eq F f hf k f.Texts 0 rfl
 have h2 := M10_L2_eq F f hf (some 0) f.Numbers 0 rfl
 rw [show ((0 : Nat) : Int) = 0 from rfl] at h1 h2
 rw [M34_eq F _ hf.1, M35_eq F _ hf.2.1]
 simp only [jn_def, h1, h2, Option.bind_some, show decide (((f.Texts.length : Nat) : Int) > 30) = decide (30 < f.Texts.length) from decide_eq_decide.2 (by omega), show decide (((f.Numbers.length : Nat) : Int) > 30) = decide (30 < f.Numbers.length) from decide_eq_decide.2 (by omega)]
 by_cases a1 : nameB f.Kind = true <;> by_cases a2 : valB f.Subject = true <;> by_cases a3 : 30 < f.Texts.length <;> by_cases a4 : tcF f.Texts f.Texts 0 = 0 <;> by_cases a5 : 30 < f.Numbers.length <;> by_cases a6 : ncF f.Numbers f.Numbers 0 = 0 <;> simp [a1, a2, a3, a4, a5, a6]
theorem M11_eq (F : Nat) (f : TFact) (hf : okTFact' f) : M11 F f = some (vF f) := by
 unfold M11 vF
 have h1 := fun k => M11_L1_eq F f hf k f.Texts 0 rfl
 have h2 := M11_L2_eq F f hf (some 0) f.Numbers 0 rfl
 rw [show ((0 : Nat) : Int) = 0 from rfl] at h1 h2
 rw [M37_eq F _ hf.1, M38_eq F _ hf.2.1]
 simp only [jn_def, h1, h2, Option.bind_some, show decide (((f.Texts.length : Nat) : Int) > 30) = decide (30 < f.Texts.length) from decide_eq_decide.2 (by omega), show decide (((f.Numbers.length : Nat) : Int) > 30) = decide (30 < f.Numbers.length) from decide_eq_decide.2 (by omega)]
 by_cases a1 : nameB f.Kind = true <;> by_cases a2 : valB f.Subject = true <;> by_cases a3 : 30 < f.Texts.length <;> by_cases a4 : tcF f.Texts f.Texts 0 = 0 <;> by_cases a5 : 30 < f.Numbers.length <;> by_cases a6 : ncF f.Numbers f.Numbers 0 = 0 <;> simp [a1, a2, a3, a4, a5, a6]
def fT (nm : List UInt8) : List TPair → Bool × List UInt8 → Bool × List UInt8
 | [], p => p
 | x :: l, p => if (x.Name == nm) = true then fT nm l (true, x.Value) else fT nm l p
def fN (nm : List UInt8) : List TAmount → Bool × Int → Bool × Int
 | [], p => p
 | x :: l, p => if (x.Name == nm) = true then fN nm l (true, x.N) else fN nm l p
def fld (f : TFact) (nm : List UInt8) : Tprovenderref9_field := ⟨(fT nm f.Texts (false, [])).1, (fN nm f.Numbers (false, 0)).1, (fT nm f.Texts (false, [])).2, (fN nm f.Numbers (false, 0)).2⟩
theorem M61_L1_eq (F : Nat) (f : TFact) (nm : List UInt8) (k : Bool → List UInt8 → Option Tprovenderref9_field) : ∀ (m n : Nat) (b : Bool) (s : List UInt8), n + m = f.Texts.length → M61_L1 F f nm k m (n : Int) b s = k (fT nm (f.Texts.drop n) (b, s)).1 (fT nm (f.Texts.drop n) (b, s)).2
 | 0, n, b, s, h => by rw [M61_L1, List.drop_eq_nil_of_le (by omega), fT]
 | m + 1, n, b, s, h => by
  have hn : n < f.Texts.length := by omega
  rw [M61_L1, idx_nat hn, Option.bind_some, jn_def, List.drop_eq_getElem_cons hn, fT]
  by_cases h0 : (f.Texts[n].Name == nm) = true
  ·rw [if_pos h0, if_pos h0, Option.bind_some]
   exact M61_L1_eq F f nm k m (n + 1) true _ (by omega)
  ·rw [if_neg h0, if_neg h0]
   exact M61_L1_eq F f nm k m (n + 1) b s (by omega)
theorem M61_L2_eq (F : Nat) (f : TFact) (nm : List UInt8) (k : Bool → Int → Option Tprovenderref9_field) : ∀ (m n : Nat) (b : Bool) (s : Int), n + m = f.Numbers.length → M61_L2 F f nm k m (n : Int) b s = k (fN nm (f.Numbers.drop n) (b, s)).1 (fN nm (f.Numbers.drop n) (b, s)).2
 | 0, n, b, s, h => by rw [M61_L2, List.drop_eq_nil_of_le (by omega), fN]
 | m + 1, n, b, s, h => by
  have hn : n < f.Numbers.length := by omega
  rw [M61_L2, idx_nat hn, Option.bind_some, jn_def, List.drop_eq_getElem_cons hn, fN]
  by_cases h0 : (f.Numbers[n].Name == nm) = true
  ·rw [if_pos h0, if_pos h0, Option.bind_some]
   exact M61_L2_eq F f nm k m (n + 1) true _ (by omega)
  ·rw [if_neg h0, if_neg h0]
   exact M61_L2_eq F f nm k m (n + 1) b s (by omega)
theorem M61_eq (F : Nat) (f : TFact) (nm : List UInt8) (hf : okTFact' f) : M61 F f nm = some (fld f nm) := by
 have h1 := hf.2.2.2.1; have h2 := hf.2.2.2.2.2
 rw [maxLen_eq] at h1 h2
 unfold M61
 simp only [jn_def]
 rw [if_pos (by omega), show (((f.Texts.length : Nat) : Int)).toNat = f.Texts.length by omega, show (((f.Numbers.length : Nat) : Int)).toNat = f.Numbers.length by omega]
 have e1 := fun k => M61_L1_eq F f nm k f.Texts.length 0 false [] (by omega)
 have e2 := fun k => M61_L2_eq F f nm k f.Numbers.length 0 false 0 (by omega)
 simp only [show ((0 : Nat) : Int) = 0 from rfl, List.drop_zero] at e1 e2
 rw [e1, if_pos (by omega), e2]
 rfl
def zV : Tpolicy_value := ⟨false, false, [], 0⟩
def gV (m : List (List UInt8 × Tpolicy_value)) (nm : List UInt8) : Tpolicy_value := (mget m nm).getD zV
def vlT : List TPair → List (List UInt8 × Tpolicy_value) → List (List UInt8 × Tpolicy_value)
 | [], m => m
 | x :: l, m => vlT l (mput m x.Name ⟨true, (gV m x.Name).hasNumber, x.Value, (gV m x.Name).number⟩)
def vlN : List TAmount → List (List UInt8 × Tpolicy_value) → List (List UInt8 × Tpolicy_value)
 | [], m => m
 | x :: l, m => vlN l (mput m x.Name ⟨(gV m x.Name).hasText, true, (gV m x.Name).text, x.N⟩)
def vals (f : TFact) : Tpolicy_values := ⟨vlN f.Numbers (vlT f.Texts []), ()⟩
theorem gV_put (m : List (List UInt8 × Tpolicy_value)) (k nm : List UInt8) (v : Tpolicy_value) : gV (mput m k v) nm = if k = nm then v else gV m nm := by
 unfold gV; rw [mget_mput]; split <;> rfl
theorem vlT_get (nm : List UInt8) : ∀ (l : List TPair) (m : List (List UInt8 × Tpolicy_value)), gV (vlT l m) nm = ⟨(fT nm l ((gV m nm).hasText, (gV m nm).text)).1, (gV m nm).hasNumber, (fT nm l ((gV m nm).hasText, (gV m nm).text)).2, (gV m nm).number⟩
 | [], m => by rw [vlT, fT]
 | x :: l, m => by
  rw [vlT, vlT_get nm l, gV_put, fT]
  by_cases h : x.Name = nm
  ·subst h; rw [if_pos rfl, if_pos (by simp)]
  ·rw [if_neg h, if_neg (by simp [h])]
theorem vlN_get (nm : List UInt8) : ∀ (l : List TAmount) (m : List (List UInt8 × Tpolicy_value)), gV (vlN l m) nm = ⟨(gV m nm).hasText, (fN nm l ((gV m nm).hasNumber, (gV m nm).number)).1, (gV m nm).text, (fN nm l ((gV m nm).hasNumber, (gV m nm).number)).2⟩
 | [], m => by rw [vlN, fN]
 | x :: l, m => by
  rw [vlN, vlN_get nm l, gV_put, fN]
  by_cases h : x.Name = nm
  ·subst h; rw [if_pos rfl, if_pos (by simp)]
  ·rw [if_neg h, if_neg (by simp [h])]
theorem vals_get (f : TFact) (nm : List UInt8) : gV (vals f).by_ nm = ⟨(fld f nm).isText, (fld f nm).isNumber, (fld f nm).text, (fld f nm).number⟩ := by
 unfold vals fld
 dsimp only
 rw [vlN_get, vlT_get]
 rfl
theorem M32_L1_eq (F : Nat) (k : List (List UInt8 × Tpolicy_value) → Option Tpolicy_values) : ∀ (l : List TPair) m, M32_L1 F k l m = k (vlT l m)
 | [], m => rfl
 | x :: l, m => by rw [M32_L1, M32_L1_eq F k l]; rfl
theorem M32_L2_eq (F : Nat) (k : List (List UInt8 × Tpolicy_value) → Option Tpolicy_values) : ∀ (l : List TAmount) m, M32_L2 F k l m = k (vlN l m)
 | [], m => rfl
 | x :: l, m => by rw [M32_L2, M32_L2_eq F k l]; rfl
theorem M32_eq (F : Nat) (f : TFact) : M32 F f = some (vals f) := by
 unfold M32
 simp only [jn_def, M32_L1_eq, M32_L2_eq]
 rfl
end Go.Proofs.YtkeeppclihjlhaaGreatDoor
namespace Go.Proofs.YtkeeppclihjlhaaGreatDoor
open Go Go.Pv
set_option linter.unusedVariables false
set_option linter.unusedSimpArgs false
set_option maxRecDepth 100000
noncomputable section
mutual
def Tr.cd : Tr → KV
 | .mk k nm tx op n ks =>
  if k = 2 then mkK 105 encTpolicy_condIs ⟨nm, tx⟩ else if k = 3 then mkK 106 encTpolicy_condBegins ⟨nm, tx⟩ else if k = 4 then mkK 108 encTpolicy_condHas ⟨nm⟩
  else if k = 5 then mkK 110 encTpolicy_condNumber ⟨nm, op, n⟩ else if k = 6 then mkK 112 encTpolicy_condNot ⟨(Tr.cds ks).headD ⟨0, .con (.bool true)⟩⟩ else if k = 7 then mkK 114 encTpolicy_condAll ⟨Tr.cds ks⟩
  else if k = 8 then mkK 115 encTpolicy_condAny ⟨Tr.cds ks⟩ else mkK 117 encTpolicy_condTrue ⟨⟩
def Tr.cds : List Tr → List KV
 | [] => []
 | t :: r => t.cd :: Tr.cds r
end
end
theorem flts_mem : ∀ {ks : List Tr} {t : Tr}, Tr.flts ks = 0 → t ∈ ks → t.flt = 0
 | u :: r, t, h, hm => by
  rw [Tr.flts] at h
  by_cases h0 : u.flt = 0
  ·rw [if_pos h0] at h
   rcases List.mem_cons.1 hm with e | hm
   ·rw [e]; exact h0
   ·exact flts_mem h hm
  ·rw [if_neg h0] at h; exact absurd h h0
theorem flt_zero {a b c d e ks} (h : (Tr.mk a b c d e ks).flt = 0) : nodeV ⟨a, b, c, d, e, Tr.toKs ks⟩ = 0 ∧ Tr.flts ks = 0 := by
 rw [Tr.flt] at h
 by_cases h0 : nodeV ⟨a, b, c, d, e, Tr.toKs ks⟩ = 0
 ·rw [if_pos h0] at h; exact ⟨h0, h⟩
 ·rw [if_neg h0] at h; exact absurd h h0
theorem node_kind {x : TTest} (h : nodeV x = 0) : 1 ≤ x.Kind ∧ x.Kind ≤ 8 := by
 unfold nodeV at h
 by_cases hk : x.Kind < 1 ∨ 8 < x.Kind
 ·rw [if_pos hk] at h; cases h
 ·omega
theorem node_not {x : TTest} (h : nodeV x = 0) (h6 : x.Kind = 6) : x.Kids.length = 1 := by
 unfold nodeV at h
 rw [if_neg (by omega)] at h
 by_cases h1 : x.Kids.length = 1
 ·exact h1
 ·have : (x.Kids.length == 1) = false := beq_false_of_ne h1
  rw [if_pos h6, this] at h
  simp at h
theorem M31_tr : ∀ t : Tr, t.ok → t.flt = 0 → t.cnt ≤ 60 → ∀ F, t.fu ≤ F → M31 F t.toT = some t.cd := Tr.ind fun k nm tx op n ks ih ok hz hc F hF => by
 rw [Tr.fu] at hF
 rw [Tr.cnt] at hc
 obtain ⟨hnode, hfl⟩ := flt_zero hz
 obtain ⟨F, rfl⟩ : ∃ G, F = G + 1 := ⟨F - 1, by omega⟩
 show M31_B (M31 F) F (Tr.mk k nm tx op n ks).toT = _
 have hl : ∀ (kk : List KV → Option KV) (l : List Tr), (∀ t, t ∈ l → t ∈ ks) → ∀ acc : List KV, acc.length + l.length ≤ 60 → M31_L1 (M31 F) F kk (Tr.toKs l) acc = kk (acc ++ Tr.cds l) := by
  intro kk l
  induction l with
  | nil => intro _ acc _; simp only [Tr.toKs, M31_L1, Tr.cds, List.append_nil]
  | cons t r ihr =>
   intro hm acc hlen
   simp only [List.length_cons] at hlen
   have ht := hm t (by simp)
   rw [Tr.toKs_map, List.map_cons, M31_L1, Tr.dec, Option.bind_some, ih t ht (Tr.oks_mem (Tr.okks ok).1 ht) (flts_mem hfl ht) (by have := Tr.cnt_mem ht; omega) F (by have := Tr.fu_mem ht; omega), Option.bind_some, ← Tr.toKs_map,
    if_pos (by simp; omega), ihr (fun u hu => hm u (by simp [hu])) _ (by simp; omega), Tr.cds]
   simp
 have hlen := len_cnts ks
 rw [Tr.toT, M31_B, jn_def, hl _ ks (fun _ h => h) [] (by simp; omega), Tr.cd, List.nil_append]
 dsimp only
 have b1 : ∀ q : Int, ((k == q) = true) ↔ k = q := fun q => beq_iff_eq
 simp only [b1]
 by_cases h2 : k = 2
 ·rw [if_pos h2, if_pos h2]
 rw [if_neg h2, if_neg h2]
 by_cases h2 : k = 3
 ·rw [if_pos h2, if_pos h2]
 rw [if_neg h2, if_neg h2]
 by_cases h2 : k = 4
 ·rw [if_pos h2, if_pos h2]
 rw [if_neg h2, if_neg h2]
 by_cases h2 : k = 5
 ·rw [if_pos h2, if_pos h2]
 rw [if_neg h2, if_neg h2]
 by_cases h2 : k = 6
 ·rw [if_pos h2, if_pos h2]
  have h1 : ks.length = 1 := by rw [← node_not hnode h2]; exact (Tr.toKs_len ks).symm
  match ks, h1 with
  | [t], _ => simp only [Tr.cds]; rfl
 rw [if_neg h2, if_neg h2]
 by_cases h2 : k = 7
 ·rw [if_pos h2, if_pos h2]
 rw [if_neg h2, if_neg h2]
 by_cases h2 : k = 8
 ·rw [if_pos h2, if_pos h2]
 rw [if_neg h2, if_neg h2]
def beg (s w : List UInt8) : Bool := decide (w.length ≤ s.length) && (s.take w.length == w)
def cmpO (a op b : Int) : Bool := if op = 1 then decide (a < b) else if op = 2 then decide (a ≤ b) else if op = 3 then a == b else if op = 4 then decide (a ≥ b) else decide (a > b)
def txT (k : Int) (s : List UInt8) (l : List (List UInt8)) : Bool := l.any fun w => w == s || (k == 3) && beg s w
def oneB (k op n : Int) (tx : List (List UInt8)) (x : Tprovenderref9_field) : Bool := if k = 4 then x.isText || x.isNumber else if k = 5 then x.isNumber && cmpO x.number op n else x.isText && txT k x.text tx
noncomputable section
mutual
def Tr.tru (f : TFact) : Tr → Bool
 | .mk k nm tx op n ks => if k = 1 then true else if k = 6 then !(Tr.allT f ks) else if k = 7 then Tr.allT f ks else if k = 8 then Tr.anyT f ks else oneB k op n tx (fld f nm)
def Tr.allT (f : TFact) : List Tr → Bool
 | [] => true
 | t :: r => Tr.tru f t && Tr.allT f r
def Tr.anyT (f : TFact) : List Tr → Bool
 | [] => false
 | t :: r => Tr.tru f t || Tr.anyT f r
end
end
theorem M86_eq (F : Nat) (op a b : Int) : M86 F op a b = some (cmpO a op b) := by
 unfold M86 cmpO
 simp only [beq_iff_eq]
 repeat (split; · rfl)
 rfl
theorem M187_eq (F : Nat) (a op b : Int) : M187 F a op b = some (cmpO a op b) := by
 unfold M187 cmpO
 simp only [beq_iff_eq]
 repeat (split; · rfl)
 rfl
theorem M87_eq (F : Nat) (s w : List UInt8) : M87 F s w = some (beg s w) := by
 unfold M87 beg
 by_cases h : w.length ≤ s.length
 ·rw [if_pos (decide_eq_true (by omega)), if_pos ⟨by omega, by omega⟩, decide_eq_true h, show ((w.length : Int)).toNat = w.length by omega]; rfl
 ·rw [if_neg (by simp; omega), decide_eq_false h]; rfl
theorem M114_eq (F : Nat) (s w : List UInt8) : M114 F s w = some (beg s w) := M87_eq F s w
theorem M93_eq (F : Nat) (s w : List UInt8) : M93 F s w = some (beg s w) := by unfold M93; rw [M114_eq]; rfl
theorem M60_L1_eq (F : Nat) (x : TTest) (v : Tprovenderref9_field) (hl : x.Texts.length ≤ 9223372036854775807) (hv : v.isText = true) : ∀ (fuel j : Nat), x.Texts.length < fuel + j → j ≤ x.Texts.length → M60_L1 F x v (some false) fuel (j : Int) = some (txT x.Kind v.text (x.Texts.drop j))
 | 0, j, h1, h2 => by omega
 | fuel + 1, j, h1, h2 => by
  rw [M60_L1]
  by_cases hj : j < x.Texts.length
  ·rw [if_pos (decide_eq_true (by omega)), if_pos hv, jn_def, idx_nat hj, Option.bind_some]
   dsimp only
   rw [w64_id (by omega) (by omega), show ((j : Int) + 1) = ((j + 1 : Nat) : Int) from rfl, M60_L1_eq F x v hl hv fuel (j + 1) (by omega) (by omega), List.drop_eq_getElem_cons hj]
   simp only [txT, List.any_cons, Option.bind_some, M87_eq]
   cases h3 : (x.Texts[j] == v.text)
   ·cases h4 : (x.Kind == 3)
    ·simp
    ·cases h5 : beg v.text x.Texts[j] <;> simp
   ·simp
  ·rw [if_neg (by simp; omega), List.drop_eq_nil_of_le (by omega)]; rfl
theorem M60_eq (F : Nat) (x : TTest) (v : Tprovenderref9_field) (hl : x.Texts.length ≤ 9223372036854775807) (hF : x.Texts.length < F) : M60 F x v = some (oneB x.Kind x.Op x.N x.Texts v) := by
 unfold M60 oneB
 simp only [beq_iff_eq]
 by_cases h4 : x.Kind = 4
 ·rw [if_pos h4, if_pos h4]; cases v.isText <;> rfl
 ·rw [if_neg h4, if_neg h4]
  by_cases h5 : x.Kind = 5
  ·rw [if_pos h5, if_pos h5, M86_eq]; cases v.isNumber <;> rfl
  ·rw [if_neg h5, if_neg h5, jn_def]
   cases hv : v.isText
   ·obtain ⟨G, rfl⟩ : ∃ G, F = G + 1 := ⟨F - 1, by omega⟩
    rw [M60_L1, hv]
    simp
   ·have := M60_L1_eq F x v hl hv F 0 (by omega) (by omega)
    rw [show ((0 : Nat) : Int) = 0 from rfl, List.drop_zero] at this
    rw [this]; rfl
theorem M33_tr (f : TFact) (hf : okTFact' f) : ∀ t : Tr, t.ok → t.flt = 0 → ∀ F, t.fu ≤ F → M33 F t.toT f = some (t.tru f) := Tr.ind fun k nm tx op n ks ih ok hz F hF => by
 rw [Tr.fu] at hF
 obtain ⟨hnode, hfl⟩ := flt_zero hz
 have hx := Tr.okX ok
 obtain ⟨F, rfl⟩ : ∃ G, F = G + 1 := ⟨F - 1, by omega⟩
 show M33_B (M33 F) F (Tr.mk k nm tx op n ks).toT f = _
 have hk := (Tr.okks ok).2
 have hkid : ∀ t, t ∈ ks → M33 F t.toT f = some (t.tru f) := fun t ht => ih t ht (Tr.oks_mem (Tr.okks ok).1 ht) (flts_mem hfl ht) F (by have := Tr.fu_mem ht; omega)
 have hl : ∀ m j : Nat, j + m = ks.length → M33_L1 (M33 F) F ⟨k, nm, tx, op, n, Tr.toKs ks⟩ f (some (k == 7)) m (j : Int) = some (if k = 7 then Tr.allT f (ks.drop j) else if k = 8 then Tr.anyT f (ks.drop j) else if (ks.drop j).all (fun t => !t.tru f) then false else false) ∨ ¬ (k = 7 ∨ k = 8) := by
  intro m
  by_cases hk78 : k = 7 ∨ k = 8
  case neg => intro j _; exact Or.inr hk78
  induction m with
  | zero =>
   intro j h
   left
   rw [M33_L1, List.drop_eq_nil_of_le (by omega), Tr.allT, Tr.anyT]
   rcases hk78 with e | e <;> subst e <;> rfl
  | succ m ihm =>
   intro j h
   left
   have hj : j < ks.length := by omega
   have ht : ks[j] ∈ ks := List.getElem_mem _
   have ih2 := (ihm (j + 1) (by omega)).resolve_right (fun h => h hk78)
   rw [M33_L1, idx_toKs hj, Option.bind_some, Tr.dec, Option.bind_some, hkid _ ht, Option.bind_some, show ((j : Int) + 1) = ((j + 1 : Nat) : Int) from rfl, ih2, List.drop_eq_getElem_cons hj, Tr.allT, Tr.anyT]
   rcases hk78 with e | e
   ·subst e; cases ks[j].tru f <;> simp
   ·subst e; cases ks[j].tru f <;> simp
 have hlen : (TTest.mk k nm tx op n (Tr.toKs ks)).Kids.length = ks.length := Tr.toKs_len ks
 rw [Tr.toT, M33_B, Tr.tru]
 simp only [jn_def, hlen]
 rw [M61_eq F f nm hf, Option.bind_some, M60_eq F _ _ (by have := hx.2.2.1; rw [maxLen_eq] at this; exact this) (by show tx.length < F; omega), Option.bind_some]
 dsimp only
 have hkk := node_kind hnode
 dsimp only at hkk
 have hk' : k = 1 ∨ k = 6 ∨ k = 7 ∨ k = 8 ∨ (k = 2 ∨ k = 3 ∨ k = 4 ∨ k = 5) := by omega
 have hrun := hl ks.length 0 (by omega)
 rw [show ((0 : Nat) : Int) = 0 from rfl, List.drop_zero] at hrun
 rcases hk' with e | e | e | e | e
 ·subst e; rfl
 ·subst e
  have h1 : ks.length = 1 := by rw [← node_not hnode rfl]; exact (Tr.toKs_len ks).symm
  match ks, h1, hkid with
  | [t], _, hkid =>
   have : idx (Tr.toKs [t]) 0 = some t.toK := idx_toKs (ks := [t]) (n := 0) (by simp)
   rw [if_neg (by decide), if_pos (by decide), this, Option.bind_some, Tr.dec, Option.bind_some, hkid t (by simp), if_neg (by decide), if_pos rfl, Tr.allT, Tr.allT]
   simp
 ·subst e
  have h2 := hrun.resolve_right (fun h => h (Or.inl rfl))
  rw [if_neg (by decide), if_neg (by decide), if_pos (by decide), if_pos (by decide), if_pos (by omega), show (((ks.length : Nat) : Int)).toNat = ks.length by omega, h2]
  rfl
 ·subst e
  have h2 := hrun.resolve_right (fun h => h (Or.inr rfl))
  rw [if_neg (by decide), if_neg (by decide), if_neg (by decide), if_pos (by decide), if_pos (by omega), show (((ks.length : Nat) : Int)).toNat = ks.length by omega, h2]
  rfl
 ·rcases e with e | e | e | e <;> subst e <;> rfl
end Go.Proofs.YtkeeppclihjlhaaGreatDoor
namespace Go.Proofs.YtkeeppclihjlhaaGreatDoor
open Go Go.Pv
set_option linter.unusedVariables false
set_option linter.unusedSimpArgs false
set_option maxRecDepth 100000
section
variable {τ σ : Type}
theorem vdec_mk {enc : τ → List V} (inj : ∀ a b, enc a = enc b → a = b) {T : Nat} {y : τ} : vdec enc T (mkK T enc y) = some y := vdec_eq inj rfl rfl
theorem vdec_mkne {enc : τ → List V} {enc' : σ → List V} {T T' : Nat} {y : τ} (h : T ≠ T') : vdec enc' T' (mkK T enc y) = none := vdec_ne (x := mkK T enc y) h
end
theorem iV_inj {a b : Int} (h : iV a = iV b) : a = b := by injection h with h; injection h
theorem inj_Is (a b : Tpolicy_condIs) (h : encTpolicy_condIs a = encTpolicy_condIs b) : a = b := by
 obtain ⟨a1, a2⟩ := a; obtain ⟨b1, b2⟩ := b
 simp only [encTpolicy_condIs, List.cons.injEq, and_true] at h
 have e1 := sV_inj h.1
 have e2 : a2 = b2 := mapS_inj (by injection h.2)
 subst e1 e2; rfl
theorem inj_Begins (a b : Tpolicy_condBegins) (h : encTpolicy_condBegins a = encTpolicy_condBegins b) : a = b := by
 obtain ⟨a1, a2⟩ := a; obtain ⟨b1, b2⟩ := b
 simp only [encTpolicy_condBegins, List.cons.injEq, and_true] at h
 have e1 := sV_inj h.1
 have e2 : a2 = b2 := mapS_inj (by injection h.2)
 subst e1 e2; rfl
theorem inj_Has (a b : Tpolicy_condHas) (h : encTpolicy_condHas a = encTpolicy_condHas b) : a = b := by
 obtain ⟨a1⟩ := a; obtain ⟨b1⟩ := b
 simp only [encTpolicy_condHas, List.cons.injEq, and_true] at h
 have e1 := sV_inj h
 subst e1; rfl
theorem inj_Number (a b : Tpolicy_condNumber) (h : encTpolicy_condNumber a = encTpolicy_condNumber b) : a = b := by
 obtain ⟨a1, a2, a3⟩ := a; obtain ⟨b1, b2, b3⟩ := b
 simp only [encTpolicy_condNumber, List.cons.injEq, and_true] at h
 have e1 := sV_inj h.1
 have e2 := iV_inj h.2.1
 have e3 := iV_inj h.2.2
 subst e1 e2 e3; rfl
theorem KV.enc_inj {a b : KV} (h : a.enc = b.enc) : a = b := by
 obtain ⟨a1, a2⟩ := a; obtain ⟨b1, b2⟩ := b
 simp only [KV.enc, List.cons.injEq, and_true] at h
 injection h with h1 h2
 subst h1 h2; rfl
theorem mapV_inj {a b : List KV} (h : a.map KV.enc = b.map KV.enc) : a = b := List.map_inj_right (fun x y h => KV.enc_inj h) |>.1 h
theorem inj_Not (a b : Tpolicy_condNot) (h : encTpolicy_condNot a = encTpolicy_condNot b) : a = b := by
 obtain ⟨a1⟩ := a; obtain ⟨b1⟩ := b
 have e1 : a1 = b1 := KV.enc_inj h
 subst e1; rfl
theorem inj_All (a b : Tpolicy_condAll) (h : encTpolicy_condAll a = encTpolicy_condAll b) : a = b := by
 obtain ⟨a1⟩ := a; obtain ⟨b1⟩ := b
 simp only [encTpolicy_condAll, List.cons.injEq, and_true] at h
 have e1 : a1 = b1 := mapV_inj (by injection h)
 subst e1; rfl
theorem inj_Any (a b : Tpolicy_condAny) (h : encTpolicy_condAny a = encTpolicy_condAny b) : a = b := by
 obtain ⟨a1⟩ := a; obtain ⟨b1⟩ := b
 simp only [encTpolicy_condAny, List.cons.injEq, and_true] at h
 have e1 : a1 = b1 := mapV_inj (by injection h)
 subst e1; rfl
theorem inj_True (a b : Tpolicy_condTrue) (h : encTpolicy_condTrue a = encTpolicy_condTrue b) : a = b := rfl
def tv (b : Bool) : Int := if b = true then 1 else 2
theorem M179_eq (F : Nat) (b : Bool) : M179 F b = some (tv b) := by cases b <;> rfl
theorem anyGe {p : Bool} {n : Nat} : (if p = true then some ((n : Nat) : Int) else some (-1)).bind (fun y3 : Int => some (decide (y3 ≥ 0))) = some p := by
 cases p
 ·rfl
 ·simp
theorem M180_eq (F : Nat) (l : List (List UInt8)) (s : List UInt8) : M180 F l s = some (l.any fun w => s == w) := by
 unfold M180 M115
 have h := idxL (g := M115_L1 F s (some (-1))) (fun w => s == w) (fun _ => rfl) (fun x l n => by rw [M115_L1]) l 0
 rw [show ((0 : Nat) : Int) = 0 from rfl] at h
 rw [jn_def, h]
 exact anyGe
theorem M182_eq (F : Nat) (l : List (List UInt8)) (b c : Bool) (s : List UInt8) (n : Int) : M182 F l b c s n = some (l.any fun w => beg s w) := by
 unfold M182 M184
 have h := idxL (g := M184_L1 F b c s n (some (-1))) (fun w => beg s w) (fun _ => rfl) (fun x l m => by rw [M184_L1, M183, M93_eq, Option.bind_some, Option.bind_some]) l 0
 rw [show ((0 : Nat) : Int) = 0 from rfl] at h
 rw [jn_def, h]
 exact anyGe
theorem beg_self (s : List UInt8) : beg s s = true := by simp [beg]
theorem txT3 (s : List UInt8) (l : List (List UInt8)) : txT 3 s l = l.any fun w => beg s w := by
 unfold txT
 congr 1
 funext w
 by_cases h : w = s
 ·subst h; simp [beg_self]
 ·rw [beq_false_of_ne h]; rfl
theorem txT2 (s : List UInt8) (l : List (List UInt8)) : txT 2 s l = l.any fun w => s == w := by
 unfold txT
 congr 1
 funext w
 rw [beqC]; simp
section
variable (F : Nat) (f : TFact) (nm : List UInt8)
theorem M177_eq : M177 F (vals f) nm = some (⟨(fld f nm).isText, (fld f nm).isNumber, (fld f nm).text, (fld f nm).number⟩, true) := by
 rw [← vals_get]; rfl
theorem M178_eq (op n : Int) (tx : List (List UInt8)) : M178 F ⟨nm, tx⟩ (vals f) = some (tv (oneB 2 op n tx (fld f nm))) := by
 unfold M178
 rw [M177_eq, Option.bind_some]
 dsimp only
 rw [M180_eq, M179_eq, Option.bind_some, M179_eq]
 unfold oneB
 rw [txT2]
 cases (fld f nm).isText <;> rfl
theorem M181_eq (op n : Int) (tx : List (List UInt8)) : M181 F ⟨nm, tx⟩ (vals f) = some (tv (oneB 3 op n tx (fld f nm))) := by
 unfold M181
 rw [M177_eq, Option.bind_some]
 dsimp only
 rw [M182_eq, M179_eq, Option.bind_some, M179_eq]
 unfold oneB
 rw [txT3]
 cases (fld f nm).isText <;> rfl
theorem M185_eq (op n : Int) (tx : List (List UInt8)) : M185 F ⟨nm⟩ (vals f) = some (tv (oneB 4 op n tx (fld f nm))) := by
 unfold M185
 rw [M177_eq, Option.bind_some]
 dsimp only
 rw [M179_eq, M179_eq]
 unfold oneB
 cases (fld f nm).isText <;> rfl
theorem M186_eq (op n : Int) (tx : List (List UInt8)) : M186 F ⟨nm, op, n⟩ (vals f) = some (tv (oneB 5 op n tx (fld f nm))) := by
 unfold M186
 rw [M177_eq, Option.bind_some]
 dsimp only
 rw [M187_eq, M179_eq, Option.bind_some, M179_eq]
 unfold oneB
 cases (fld f nm).isNumber <;> rfl
end
theorem hold_tr (f : TFact) : ∀ t : Tr, t.ok → t.flt = 0 → ∀ F, t.fu ≤ F → Miholds F t.cd (vals f) = some (tv (t.tru f)) := Tr.ind fun k nm tx op n ks ih ok hz F hF => by
 rw [Tr.fu] at hF
 obtain ⟨hnode, hfl⟩ := flt_zero hz
 obtain ⟨F, rfl⟩ : ∃ G, F = G + 1 := ⟨F - 1, by omega⟩
 show Miholds_B (Miholds F) F (Tr.mk k nm tx op n ks).cd (vals f) = _
 have hkid : ∀ t, t ∈ ks → Miholds F t.cd (vals f) = some (tv (t.tru f)) := fun t ht => ih t ht (Tr.oks_mem (Tr.okks ok).1 ht) (flts_mem hfl ht) F (by have := Tr.fu_mem ht; omega)
 have hkk := node_kind hnode
 dsimp only at hkk
 have hk' : k = 1 ∨ k = 2 ∨ k = 3 ∨ k = 4 ∨ k = 5 ∨ k = 6 ∨ k = 7 ∨ k = 8 := by omega
 rw [Tr.cd, Tr.tru]
 have hall : ∀ l : List Tr, (∀ t, t ∈ l → t ∈ ks) → M189_L1 (Miholds F) F (vals f) (fun n4 => some n4) (Tr.cds l) 1 = some (tv (Tr.allT f l)) := by
  intro l
  induction l with
  | nil => intro _; rw [Tr.cds, Tr.allT]; rfl
  | cons t r ihr =>
   intro hm
   rw [Tr.cds, M189_L1, hkid t (hm t (by simp)), Option.bind_some, jn_def, Tr.allT]
   cases t.tru f
   ·rfl
   ·exact ihr fun u hu => hm u (by simp [hu])
 have hany : ∀ l : List Tr, (∀ t, t ∈ l → t ∈ ks) → M190_L1 (Miholds F) F (vals f) (fun n4 => some n4) (Tr.cds l) 2 = some (tv (Tr.anyT f l)) := by
  intro l
  induction l with
  | nil => intro _; rw [Tr.cds, Tr.anyT]; rfl
  | cons t r ihr =>
   intro hm
   rw [Tr.cds, M190_L1, hkid t (hm t (by simp)), Option.bind_some, jn_def, Tr.anyT]
   cases t.tru f
   ·exact ihr fun u hu => hm u (by simp [hu])
   ·rfl
 unfold Miholds_B
 rcases hk' with e | e | e | e | e | e | e | e
 ·subst e
  simp only [show ¬ (1 : Int) = 2 by decide, show ¬ (1 : Int) = 3 by decide, show ¬ (1 : Int) = 4 by decide, show ¬ (1 : Int) = 5 by decide, show ¬ (1 : Int) = 6 by decide, show ¬ (1 : Int) = 7 by decide, show ¬ (1 : Int) = 8 by decide, if_false]
  rw [vdec_mkne (by decide), vdec_mkne (by decide), vdec_mkne (by decide), vdec_mkne (by decide), vdec_mkne (by decide), vdec_mkne (by decide), vdec_mkne (by decide), vdec_mk inj_True]
  rfl
 ·subst e
  rw [if_pos rfl, vdec_mk inj_Is]
  exact M178_eq F f nm op n tx
 ·subst e
  rw [if_neg (by decide), if_pos rfl, vdec_mkne (by decide), vdec_mk inj_Begins]
  exact M181_eq F f nm op n tx
 ·subst e
  rw [if_neg (by decide), if_neg (by decide), if_pos rfl, vdec_mkne (by decide), vdec_mkne (by decide), vdec_mk inj_Has]
  exact M185_eq F f nm op n tx
 ·subst e
  rw [if_neg (by decide), if_neg (by decide), if_neg (by decide), if_pos rfl, vdec_mkne (by decide), vdec_mkne (by decide), vdec_mkne (by decide), vdec_mk inj_Number]
  exact M186_eq F f nm op n tx
 ·subst e
  rw [if_neg (by decide), if_neg (by decide), if_neg (by decide), if_neg (by decide), if_pos rfl, vdec_mkne (by decide), vdec_mkne (by decide), vdec_mkne (by decide), vdec_mkne (by decide), vdec_mk inj_Not]
  have h1 : ks.length = 1 := by rw [← node_not hnode rfl]; exact (Tr.toKs_len ks).symm
  match ks, h1, hkid with
  | [t], _, hkid =>
   show M188 (Miholds F) F ⟨(Tr.cds [t]).headD _⟩ (vals f) = _
   rw [Tr.cds, List.headD_cons, M188, hkid t (by simp), Option.bind_some, if_neg (by decide), if_pos rfl, Tr.allT, Tr.allT]
   cases t.tru f <;> rfl
 ·subst e
  rw [if_neg (by decide), if_neg (by decide), if_neg (by decide), if_neg (by decide), if_neg (by decide), if_pos rfl, vdec_mkne (by decide), vdec_mkne (by decide), vdec_mkne (by decide), vdec_mkne (by decide), vdec_mkne (by decide), vdec_mk inj_All]
  exact hall ks fun _ h => h
 ·subst e
  rw [if_neg (by decide), if_neg (by decide), if_neg (by decide), if_neg (by decide), if_neg (by decide), if_neg (by decide), if_pos rfl, vdec_mkne (by decide), vdec_mkne (by decide), vdec_mkne (by decide), vdec_mkne (by decide), vdec_mkne (by decide), vdec_mkne (by decide), vdec_mk inj_Any]
  exact hany ks fun _ h => h
theorem cd_t : ∀ t : Tr, t.cd.t ∈ ([105, 106, 108, 110, 112, 114, 115, 117] : List Nat)
 | .mk k nm tx op n ks => by
  rw [Tr.cd]
  repeat (split; · simp [mkK])
  simp [mkK]
theorem vT_zero {t : Tr} (h : vT t = 0) : t.flt = 0 ∧ t.cnt ≤ 60 := by
 unfold vT at h
 by_cases h0 : 60 < t.cnt ∨ 12 < t.dep
 ·rw [if_pos h0] at h; cases h
 ·rw [if_neg h0] at h; exact ⟨h, by omega⟩
noncomputable def holdV (t : Tr) (f : TFact) : Bool × Int := if vT t = 0 then (if vF f = 0 then (t.tru f, 0) else (false, vF f)) else (false, vT t)
theorem M8_eq (t : Tr) (ok : t.ok) (f : TFact) (hf : okTFact' f) (F : Nat) (hF : t.fu ≤ F) : M8 F t.toT f = some (holdV t f) := by
 unfold M8 holdV
 rw [M12_tr t ok F hF, Option.bind_some, M10_eq F f hf, Option.bind_some]
 by_cases h1 : vT t = 0
 ·rw [if_neg (by simp [h1]), if_pos h1]
  by_cases h2 : vF f = 0
  ·have := vT_zero h1
   rw [if_neg (by simp [h2]), if_pos h2, M31_tr t ok this.1 this.2 F hF, Option.bind_some, M32_eq, Option.bind_some, if_pos (cd_t t), hold_tr f t ok this.1 F hF]
   cases t.tru f <;> rfl
  ·rw [if_pos (by simp [h2]), if_neg h2]
 ·rw [if_pos (by simp [h1]), if_neg h1]
theorem M9_eq (t : Tr) (ok : t.ok) (f : TFact) (hf : okTFact' f) (F : Nat) (hF : t.fu ≤ F) : M9 F t.toT f = some (holdV t f) := by
 unfold M9 holdV
 rw [M13_tr t ok F hF, Option.bind_some, M11_eq F f hf, Option.bind_some]
 by_cases h1 : vT t = 0
 ·rw [if_neg (by simp [h1]), if_pos h1]
  by_cases h2 : vF f = 0
  ·have := vT_zero h1
   rw [if_neg (by simp [h2]), if_pos h2, M33_tr f hf t ok this.1 F hF]
   rfl
  ·rw [if_pos (by simp [h2]), if_neg h2]
 ·rw [if_pos (by simp [h1]), if_neg h1]
open Classical in
noncomputable def trE (x : TTest) : Tr := if h : ∃ t : Tr, x = t.toT ∧ t.ok then h.choose else .mk 0 [] [] 0 0 []
theorem trE_spec {x : TTest} (h : okTTest x) : x = (trE x).toT ∧ (trE x).ok := by
 have h' : ∃ t : Tr, x = t.toT ∧ t.ok := h
 unfold trE
 rw [dif_pos h']
 exact h'.choose_spec
noncomputable def vTT (x : TTest) : Int := vT (trE x)
theorem M12_tt {x : TTest} (h : okTTest x) {F : Nat} (hF : (trE x).fu ≤ F) : M12 F x = some (vTT x) := by
 obtain ⟨h1, h2⟩ := trE_spec h
 have := M12_tr (trE x) h2 F hF
 rwa [← h1] at this
theorem M13_tt {x : TTest} (h : okTTest x) {F : Nat} (hF : (trE x).fu ≤ F) : M13 F x = some (vTT x) := by
 obtain ⟨h1, h2⟩ := trE_spec h
 have := M13_tr (trE x) h2 F hF
 rwa [← h1] at this
theorem okTFact_of {f : TFact} (h : okTFact f) : okTFact' f :=
 ⟨h.1, h.2.1, fun p hp => ⟨(h.2.2.1.1 p hp).1, (h.2.2.1.1 p hp).2.1⟩, h.2.2.1.2, fun p hp => (h.2.2.2.1.1 p hp).1, h.2.2.2.1.2⟩
noncomputable def fuP (p : TPolicy) : Nat := (p.Rules.map fun r => (trE r.When).fu).sum + (p.Waivers.map fun w => w.Subject.length + 2).sum
theorem le_sum {α : Type} {g : α → Nat} : ∀ {l : List α} {x : α}, x ∈ l → g x ≤ (l.map g).sum
 | y :: l, x, h => by
  rcases List.mem_cons.1 h with e | h
  ·subst e; simp
  ·have := le_sum (g := g) h; simp; omega
noncomputable def rlF (seen : List (List UInt8)) : List TPolicyRule → Int
 | [] => 0
 | r :: l => if nameB r.Name = false then 8 else if (seen.any fun n => n == r.Name) = true then 5 else if nameB r.About = false then 8 else if vTT r.When = 0 then (if (decide (r.Level < 1) || decide (r.Level > 4)) = true then 7 else rlF (seen ++ [r.Name]) l) else vTT r.When
def starB (s : List UInt8) : Bool := s.dropLast.any fun c => c == 42
def wvF (p : TPolicy) (w : TWaiver) : Int :=
 if (p.Rules.any fun r => r.Name == w.Rule) = false then 4 else if valB w.Subject = false then 2 else if starB w.Subject = true then 2
 else if (decide (w.From < 0) || decide (w.From > w.To) || decide (w.To > 1000000)) = true then 9 else if nameB w.Owner = false then 8 else if (decide (w.Level < 1) || decide (w.Level > 3)) = true then 7 else 0
def wvsF (p : TPolicy) : List TWaiver → Int
 | [] => 0
 | w :: l => if wvF p w = 0 then wvsF p l else wvF p w
noncomputable def vP (p : TPolicy) : Int := if 100 < p.Rules.length then 3 else if 200 < p.Waivers.length then 3 else if rlF [] p.Rules = 0 then wvsF p p.Waivers else rlF [] p.Rules
theorem M72_eq (F : Nat) (l : List TPolicyRule) (nm : List UInt8) : ∃ y, M72 F l nm = some y ∧ (decide (y ≥ 0) = l.any fun r => r.Name == nm) ∧ (decide (y < 0) = !l.any fun r => r.Name == nm) := by
 unfold M72
 have h := idxL (g := M72_L1 F nm (some (-1))) (fun r => r.Name == nm) (fun _ => rfl) (fun x l n => by rw [M72_L1]) l 0
 rw [show ((0 : Nat) : Int) = 0 from rfl] at h
 rw [jn_def, h]
 cases ha : l.any fun r => r.Name == nm
 ·exact ⟨_, rfl, rfl, rfl⟩
 ·refine ⟨_, if_pos rfl, ?_, ?_⟩
  ·exact decide_eq_true (by omega)
  ·exact decide_eq_false (by omega)
theorem M70_eq (F : Nat) (l : List TPolicyRule) (a : List UInt8) (b : List UInt8) (c d : Int) (e : List UInt8) (g : Int) : M70 F l a b c d e g = some (l.any fun r => r.Name == a) := by
 unfold M70 M80
 have h := idxL (g := M80_L1 F a b c d e g (some (-1))) (fun r : TPolicyRule => r.Name == a) (fun _ => rfl) (fun x l n => by rw [M80_L1]; rfl) l 0
 rw [show ((0 : Nat) : Int) = 0 from rfl] at h
 rw [jn_def, h]
 exact anyGe
theorem ixb : ∀ s : List UInt8, (Lib.indexByte s 42 = -1 ∧ (s.any fun c => c == 42) = false) ∨ (0 ≤ Lib.indexByte s 42 ∧ (s.any fun c => c == 42) = true)
 | [] => Or.inl ⟨rfl, rfl⟩
 | c :: s => by
  rw [Lib.indexByte, List.any_cons]
  cases hc : c == 42
  ·simp only [Bool.false_eq_true, if_false, Bool.false_or]
   rcases ixb s with h | h
   ·rw [h.1]; exact Or.inl ⟨rfl, h.2⟩
   ·right
    rw [beq_false_of_ne (show Lib.indexByte s 42 ≠ -1 by omega)]
    exact ⟨by simp; omega, h.2⟩
  ·right; simp
theorem star_eq : ∀ s : List UInt8, (decide (0 ≤ Lib.indexByte s 42) && decide (Lib.indexByte s 42 < (s.length : Int) - 1)) = starB s
 | [] => rfl
 | [c] => by
  unfold starB
  simp only [List.dropLast_singleton, List.any_nil, List.length_singleton]
  by_cases h : 0 ≤ Lib.indexByte [c] 42
  ·rw [decide_eq_false (show ¬ Lib.indexByte [c] 42 < ((1 : Nat) : Int) - 1 by omega), Bool.and_false]
  ·rw [decide_eq_false h, Bool.false_and]
 | c :: d :: s => by
  have ih := star_eq (d :: s)
  unfold starB at ih ⊢
  rw [List.dropLast_cons_cons, List.any_cons, ← ih, Lib.indexByte]
  cases hc : c == 42
  ·simp only [Bool.false_eq_true, if_false, Bool.false_or]
   rcases ixb (d :: s) with h | h
   ·rw [h.1]; rfl
   ·rw [beq_false_of_ne (show Lib.indexByte (d :: s) 42 ≠ -1 by omega)]
    simp only [Bool.false_eq_true, if_false]
    rw [decide_eq_true h.1, decide_eq_true (show 0 ≤ Lib.indexByte (d :: s) 42 + 1 by omega)]
    congr 1
    exact decide_eq_decide.2 (by simp only [List.length_cons]; omega)
  ·rw [if_pos rfl, decide_eq_true (by simp), decide_eq_true (by simp only [List.length_cons]; omega)]; rfl
theorem M45_eq (F : Nat) (p : TPolicy) (w : TWaiver) (hw : okTWaiver w) : M45 F p w = some (wvF p w) := by
 have h1 : okS w.Subject := hw.2.1
 have h2 : okS w.Owner := hw.2.2.2.2.1
 unfold M45 wvF
 rw [M69, Option.bind_some, M70_eq, Option.bind_some, jn_def, M35_eq F _ h1, M34_eq F _ h2]
 have hs := star_eq w.Subject
 unfold okS at h1
 rw [show (42 : Int).toNat.toUInt8 = 42 from rfl, w64_id (by omega) (by omega)]
 rw [← hs]
 simp only [Option.bind_some, ge_iff_le]
 generalize decide (Lib.indexByte w.Subject 42 < (w.Subject.length : Int) - 1) = b1
 generalize decide (0 ≤ Lib.indexByte w.Subject 42) = b2
 generalize (p.Rules.any fun r => r.Name == w.Rule) = b3
 generalize valB w.Subject = b4
 generalize decide (w.From < 0) = b5
 generalize decide (w.From > w.To) = b6
 generalize decide (w.To > 1000000) = b7
 generalize nameB w.Owner = b8
 generalize decide (w.Level < 1) = b9
 generalize decide (w.Level > 3) = b10
 cases b3 <;> cases b4
 all_goals try rfl
 cases b2 <;> cases b1 <;> cases b5 <;> cases b6 <;> cases b7 <;> cases b8 <;> cases b9 <;> cases b10 <;> rfl
theorem M47_L1_eq (F : Nat) (w : TWaiver) (k : Option Int) (hl : w.Subject.length ≤ 140737488351232) : ∀ (fuel j : Nat), w.Subject.length < fuel + j → j ≤ w.Subject.length → M47_L1 F w k fuel (j : Int) = if ((w.Subject.drop j).dropLast.any fun c => c == 42) = true then some 2 else k
 | 0, j, h1, h2 => by omega
 | fuel + 1, j, h1, h2 => by
  rw [M47_L1, w64_id (by omega) (by omega)]
  by_cases hj : j + 1 < w.Subject.length
  ·rw [if_pos (decide_eq_true (by omega)), idx_nat (by omega), Option.bind_some, show ((j : Int) + 1) = ((j + 1 : Nat) : Int) from rfl, M47_L1_eq F w k hl fuel (j + 1) (by omega) (by omega), List.drop_eq_getElem_cons (show j < w.Subject.length by omega), List.drop_eq_getElem_cons hj, List.dropLast_cons_cons, List.any_cons]
   have : (((w.Subject[j]'(by omega)).toNat : Int) == 42) = (w.Subject[j]'(by omega) == 42) := by
    by_cases h : w.Subject[j]'(by omega) = 42
    ·rw [h]; rfl
    ·have : ((w.Subject[j]'(by omega)).toNat : Int) ≠ 42 := fun e => h (UInt8.toNat_inj.1 (by show _ = 42; omega))
     rw [beq_false_of_ne h, beq_false_of_ne this]
   rw [this]
   cases (w.Subject[j]'(by omega) == 42) <;> simp
  ·rw [if_neg (by simp; omega)]
   have : ((w.Subject.drop j).dropLast) = [] := by
    apply List.eq_nil_of_length_eq_zero
    rw [List.length_dropLast, List.length_drop]; omega
   rw [this]; rfl
theorem M47_eq (F : Nat) (p : TPolicy) (w : TWaiver) (hw : okTWaiver w) (hF : w.Subject.length < F) : M47 F p w = some (wvF p w) := by
 have h1 : okS w.Subject := hw.2.1
 have h2 : okS w.Owner := hw.2.2.2.2.1
 obtain ⟨y, e1, e2, e3⟩ := M72_eq F p.Rules w.Rule
 unfold M47 wvF
 rw [e1, Option.bind_some, e3, jn_def, M38_eq F _ h1, M37_eq F _ h2, M39_eq, M39_eq]
 have hl := fun k => M47_L1_eq F w k h1 F 0 (by omega) (by omega)
 simp only [show ((0 : Nat) : Int) = 0 from rfl, List.drop_zero] at hl
 rw [hl]
 unfold starB
 simp only [Option.bind_some]
 generalize (w.Subject.dropLast.any fun c => c == 42) = b1
 generalize (p.Rules.any fun r => r.Name == w.Rule) = b3
 generalize valB w.Subject = b4
 generalize decide (w.From < 0) = b5
 generalize decide (w.From > w.To) = b6
 generalize decide (w.To > 1000000) = b7
 generalize nameB w.Owner = b8
 generalize decide (w.Level < 1) = b9
 generalize decide (w.Level > 3) = b10
 cases b3 <;> cases b4
 all_goals try rfl
 cases b1 <;> cases b5 <;> cases b6 <;> cases b7 <;> cases b8 <;> cases b9 <;> cases b10 <;> rfl
theorem M14_L2_eq (F : Nat) (p : TPolicy) (hp : okTPolicy p) : ∀ l : List TWaiver, (∀ w, w ∈ l → w ∈ p.Waivers) → M14_L2 F p (some 0) l = some (wvsF p l)
 | [], _ => rfl
 | w :: l, h => by
  rw [M14_L2, M45_eq F p w (hp.2.1.1 w (h w (by simp))), Option.bind_some, M14_L2_eq F p hp l fun u hu => h u (by simp [hu]), wvsF]
  by_cases h0 : wvF p w = 0 <;> simp [h0]
theorem M15_L2_eq (F : Nat) (p : TPolicy) (hp : okTPolicy p) (hF : fuP p ≤ F) : ∀ m n : Nat, n + m = p.Waivers.length → M15_L2 F p (some 0) m (n : Int) = some (wvsF p (p.Waivers.drop n))
 | 0, n, h => by rw [M15_L2, List.drop_eq_nil_of_le (by omega), wvsF]
 | m + 1, n, h => by
  have hn : n < p.Waivers.length := by omega
  have hm : p.Waivers[n] ∈ p.Waivers := List.getElem_mem _
  rw [M15_L2, idx_nat hn, Option.bind_some, M47_eq F p _ (hp.2.1.1 _ hm) (by have := le_sum (g := fun w : TWaiver => w.Subject.length + 2) hm; unfold fuP at hF; omega), Option.bind_some, show ((n : Int) + 1) = ((n + 1 : Nat) : Int) from rfl, M15_L2_eq F p hp hF m (n + 1) (by omega), List.drop_eq_getElem_cons hn, wvsF]
  by_cases h0 : wvF p p.Waivers[n] = 0 <;> simp [h0]
theorem M14_L1_eq (F : Nat) (p : TPolicy) (hp : okTPolicy p) (hF : fuP p ≤ F) (k : Option Int) : ∀ (l : List TPolicyRule), (∀ r, r ∈ l → r ∈ p.Rules) → ∀ (m : List (List UInt8 × Bool)) (seen : List (List UInt8)), (∀ nm, (mget m nm).getD false = seen.any fun n => n == nm) → M14_L1 F k l m = if rlF seen l = 0 then k else some (rlF seen l)
 | [], _, m, seen, _ => by simp [M14_L1, rlF]
 | r :: l, h, m, seen, hm => by
  have hr := h r (by simp)
  have hok := hp.1.1 r hr
  rw [M14_L1, M34_eq F _ hok.1, Option.bind_some, hm, M34_eq F _ hok.2.1, M12_tt hok.2.2.1 (by have := le_sum (g := fun r : TPolicyRule => (trE r.When).fu) hr; unfold fuP at hF; omega), Option.bind_some, Option.bind_some,
   M14_L1_eq F p hp hF k l (fun u hu => h u (by simp [hu])) (mput m r.Name true) (seen ++ [r.Name]) (fun nm => by
    rw [mget_mput, List.any_append, ← hm]
    by_cases e : r.Name = nm
    ·rw [if_pos e]; simp [e]
    ·rw [if_neg e]; simp [e]), rlF]
  cases nameB r.Name
  ·rfl
  ·cases (seen.any fun n => n == r.Name)
   ·cases nameB r.About
    ·rfl
    ·by_cases h0 : vTT r.When = 0
     ·simp only [h0]
      cases decide (r.Level < 1) <;> cases decide (r.Level > 4) <;> rfl
     ·simp [h0]
   ·rfl
theorem M46_eq (F : Nat) (p : TPolicy) (hp : okTPolicy p) (hF : fuP p ≤ F) (n : Nat) (hn : n < p.Rules.length) : M46 F p (n : Int) = some (
  if nameB p.Rules[n].Name = false then 8 else if (((p.Rules.take n).map (·.Name)).any fun m => m == p.Rules[n].Name) = true then 5 else if nameB p.Rules[n].About = false then 8 else if vTT p.Rules[n].When = 0 then (if (decide (p.Rules[n].Level < 1) || decide (p.Rules[n].Level > 4)) = true then 7 else 0) else vTT p.Rules[n].When) := by
 have hr : p.Rules[n] ∈ p.Rules := List.getElem_mem _
 have hok := hp.1.1 _ hr
 obtain ⟨y, e1, e2, e3⟩ := M72_eq F (p.Rules.take n) p.Rules[n].Name
 unfold M46
 rw [idx_nat hn, Option.bind_some, M37_eq F _ hok.1, Option.bind_some, if_pos (show 0 ≤ (n : Int) ∧ (n : Int).toNat ≤ p.Rules.length by omega), show ((n : Int)).toNat = n by omega, e1, Option.bind_some, e2, M37_eq F _ hok.2.1, M13_tt hok.2.2.1 (by have := le_sum (g := fun r : TPolicyRule => (trE r.When).fu) hr; unfold fuP at hF; omega), M39_eq, List.any_map]
 simp only [Option.bind_some]
 show _ = some (if nameB p.Rules[n].Name = false then 8 else if ((p.Rules.take n).any fun r => r.Name == p.Rules[n].Name) = true then 5 else _)
 cases nameB p.Rules[n].Name
 ·rfl
 ·cases ((p.Rules.take n).any fun r => r.Name == p.Rules[n].Name)
  ·cases nameB p.Rules[n].About
   ·rfl
   ·by_cases h0 : vTT p.Rules[n].When = 0
    ·simp only [h0]
     cases decide (p.Rules[n].Level < 1) <;> cases decide (p.Rules[n].Level > 4) <;> rfl
    ·simp [h0]
  ·rfl
theorem M15_L1_eq (F : Nat) (p : TPolicy) (hp : okTPolicy p) (hF : fuP p ≤ F) (k : Option Int) : ∀ m n : Nat, n + m = p.Rules.length → M15_L1 F p k m (n : Int) = if rlF ((p.Rules.take n).map (·.Name)) (p.Rules.drop n) = 0 then k else some (rlF ((p.Rules.take n).map (·.Name)) (p.Rules.drop n))
 | 0, n, h => by rw [M15_L1, List.drop_eq_nil_of_le (by omega), rlF]; rfl
 | m + 1, n, h => by
  have hn : n < p.Rules.length := by omega
  rw [M15_L1, M46_eq F p hp hF n hn, Option.bind_some, show ((n : Int) + 1) = ((n + 1 : Nat) : Int) from rfl, M15_L1_eq F p hp hF k m (n + 1) (by omega), List.drop_eq_getElem_cons hn, rlF, List.take_succ_eq_append_getElem hn, List.map_append, List.map_cons, List.map_nil]
  cases nameB p.Rules[n].Name
  ·rfl
  ·cases (((p.Rules.take n).map (·.Name)).any fun m => m == p.Rules[n].Name)
   ·cases nameB p.Rules[n].About
    ·rfl
    ·by_cases h0 : vTT p.Rules[n].When = 0
     ·simp only [h0]
      cases decide (p.Rules[n].Level < 1) <;> cases decide (p.Rules[n].Level > 4) <;> rfl
     ·simp [h0]
   ·rfl
theorem M14_eq (p : TPolicy) (hp : okTPolicy p) (F : Nat) (hF : fuP p ≤ F) : M14 F p = some (vP p) := by
 unfold M14 vP
 simp only [jn_def]
 rw [M14_L1_eq F p hp hF _ p.Rules (fun _ h => h) [] [] (fun nm => rfl), M14_L2_eq F p hp _ fun _ h => h]
 by_cases h1 : 100 < p.Rules.length
 ·rw [if_pos (decide_eq_true (by omega)), if_pos h1]
 ·rw [if_neg (by simp; omega), if_neg h1]
  by_cases h2 : 200 < p.Waivers.length
  ·rw [if_pos (decide_eq_true (by omega)), if_pos h2]
  ·rw [if_neg (by simp; omega), if_neg h2]
   split <;> rfl
theorem M15_eq (p : TPolicy) (hp : okTPolicy p) (F : Nat) (hF : fuP p ≤ F) : M15 F p = some (vP p) := by
 have hm1 := hp.1.2
 have hm2 := hp.2.1.2
 rw [maxLen_eq] at hm1 hm2
 unfold M15 vP
 simp only [jn_def]
 have e1 := M15_L1_eq F p hp hF (some (wvsF p p.Waivers)) p.Rules.length 0 (by omega)
 have e2 := M15_L2_eq F p hp hF p.Waivers.length 0 (by omega)
 simp only [show ((0 : Nat) : Int) = 0 from rfl, List.drop_zero, List.take_zero, List.map_nil] at e1 e2
 rw [show (((p.Waivers.length : Nat) : Int)).toNat = p.Waivers.length by omega, show (((p.Rules.length : Nat) : Int)).toNat = p.Rules.length by omega, e2, if_pos (show ((p.Waivers.length : Nat) : Int) ≤ 9223372036854775807 by omega), e1]
 by_cases h1 : 100 < p.Rules.length
 ·rw [if_pos (decide_eq_true (by omega)), if_pos h1]
 ·rw [if_neg (by simp; omega), if_neg h1]
  by_cases h2 : 200 < p.Waivers.length
  ·rw [if_pos (decide_eq_true (by omega)), if_pos h2]
  ·rw [if_neg (by simp; omega), if_neg h2]
   split <;> rfl
theorem plain_3 (f : TFact) (x : TTest) (p : TPolicy) (hf : okTFact f) (hx : okTTest x) (hp : okTPolicy p) : ∃ F, M3 F f x p = some true := by
 obtain ⟨t, rfl, ok⟩ := hx
 have hf' := okTFact_of hf
 refine ⟨t.fu + fuP p, ?_⟩
 have h1 : t.fu ≤ t.fu + fuP p := by omega
 have h2 : fuP p ≤ t.fu + fuP p := by omega
 unfold M3
 rw [M8_eq t ok f hf' _ h1, M9_eq t ok f hf' _ h1, M10_eq _ f hf', M11_eq _ f hf', M12_tr t ok _ h1, M13_tr t ok _ h1, M14_eq p hp _ h2, M15_eq p hp _ h2]
 simp [M16]
end Go.Proofs.YtkeeppclihjlhaaGreatDoor
