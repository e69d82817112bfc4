/- Part of the proof: KT, Q, X, C3Tr, C3O, C3PA, C3PB. -/
import Derived.Test.YtkeeppclihjlhaaGreatDoorKPvK
import Derived.Test.YtkeeppclihjlhaaGreatDoorKPvU
import Derived.Test.YtkeeppclihjlhaaGreatDoorKZA
import Derived.Test.YtkeeppclihjlhaaGreatDoorKC3T
import Derived.KernelRfl
namespace Go.Pv
open Go Go.ChangeShapes Go.WideShapes
section
variable {P : Program} {t e : TypeId} {α β : Type}
def OpensB (b : Nat) (P : Program) (t : TypeId) (e : α → List V) (sz : α → Nat) (ok : α → Prop) : Prop :=
 ∀ {H : Type} (enc : TypeId × Value → H) (w : World) (fuel : Nat) (cs : List Value) (x : DataW H × List MemPlace),
  DataW.trod enc P w 0 (fun _ => true) true fuel t cs = some x → wOk P t x.1 → bulk x.1 ≤ b → ∃ a : α, IRelL (memOf w) (e a) cs ∧ sz a ≤ bulk x.1 ∧ ok a
theorem Opens.at {ee : α → List V} {sz : α → Nat} {ok : α → Prop} (h : Opens P t ee sz ok) (b : Nat) : OpensB b P t ee sz ok := fun enc w fuel cs x ht hw _ => h enc w fuel cs x ht hw
theorem OpensB.mono {b b' : Nat} {ee : α → List V} {sz : α → Nat} {ok : α → Prop} (h : OpensB b P t ee sz ok) (hb : b' ≤ b) : OpensB b' P t ee sz ok := fun enc w fuel cs x ht hw hl => h enc w fuel cs x ht hw (Nat.le_trans hl hb)
theorem bulk_pos {H : Type} (d : DataW H) : 0 < bulk d := by
 cases d with
 | lit l => cases l <;> simp [bulk]
 | _ => simp [bulk]
theorem opensB_zero {ee : α → List V} {sz : α → Nat} {ok : α → Prop} : OpensB 0 P t ee sz ok := fun enc w fuel cs x ht hw hl => absurd hl (by have := bulk_pos x.1; omega)
theorem bulk_mem {H : Type} {n i : Nat} (D : Nat → DataW H) (hi : i < n) : bulk (D i) ≤ ((List.range n).map fun i => bulk (D i)).sum := by
 have : bulk (D i) ∈ (List.range n).map fun i => bulk (D i) := List.mem_map.2 ⟨i, List.mem_range.2 hi, rfl⟩
 generalize (List.range n).map (fun i => bulk (D i)) = l at this
 induction l with
 | nil => simp at this
 | cons a l ih =>
  rcases List.mem_cons.1 this with h | h
  ·simp [← h]
  ·have := ih h; simp; omega
theorem opensB_slice {b k : Nat} {ee : α → List V} {sz : α → Nat} {ok : α → Prop} (ht : P.underlying t = some (.slice e)) (hk : P.cellsOf e = k) (h0 : 0 < k) (he : OpensB b P e ee sz ok) :
  OpensB (b + 1) P t (fun l : List α => [V.lst k (l.map ee)]) (fun l => (l.map sz).sum + 1) (fun l => (∀ a, a ∈ l → ok a) ∧ l.length ≤ maxLen) := by
 intro H enc w fuel cs x h hw hlt
 rcases Deep.open_slice ht h with ⟨rfl, rfl⟩ | ⟨a, len, cap, m, n, D, Pl, rfl, _, hlc, hcm, hm, rfl, hel⟩
 ·exact ⟨[], IRelL.one (.nil _ _ _), by simp [bulk], by simp⟩
 ·simp only [if_true] at hm
  subst hm
  obtain ⟨l, hl, hp⟩ := list_of (n := len) (p := fun i (b : α) => sz b ≤ bulk (D i) ∧ ok b ∧ ∃ cs', w.cells? 0 (a.add (i * P.cellsOf e)) (P.cellsOf e) = some cs' ∧ IRelL (memOf w) (ee b) cs') (by
   intro i hi
   obtain ⟨cs', hc, hd⟩ := hel i (by omega)
   obtain ⟨b, h1, h2, h3⟩ := he _ _ _ _ _ hd (by
    unfold wOk at hw
    rw [DataW.weights] at hw
    simp only [ht, List.all_cons, List.all_append, Bool.and_eq_true] at hw
    exact wAll _ hw.2.1 _ (List.mem_map.2 ⟨i, List.mem_range.2 hi, rfl⟩)) (by
    simp only [bulk] at hlt
    rw [bulkAll_map] at hlt
    have := bulk_mem D hi; show bulk (D i) ≤ b
    omega)
   exact ⟨b, h2, h3, cs', hc, h1⟩)
  refine ⟨l, IRelL.one ?_, ?_, fun b hb => ?_, by omega⟩
  ·by_cases hz : len = 0
   ·subst hz
    have : l = [] := List.length_eq_zero_iff.1 hl
    subst this
    exact .nil _ _ _
   ·have hcell : ∀ i j b, l[i]? = some b → j < k → ∃ v, w.cell? ((a.add (i * k)).add j) = some v ∧ (∃ c, (ee b)[j]? = some c) ∧ ∀ c, (ee b)[j]? = some c → IRel (memOf w) c v := by
     intro i j b hb hj
     obtain ⟨_, _, cs', hc, hr⟩ := hp i b hb
     rw [hk] at hc
     obtain ⟨_, hn, hcs⟩ := World.cells?_some hc
     have hj' : j < cs'.length := by omega
     have hv : cs'[j]? = some cs'[j] := List.getElem?_eq_getElem hj'
     have hj2 : j < (ee b).length := by rw [hr.1]; exact hj'
     exact ⟨cs'[j], (hcs j hj).trans hv, ⟨(ee b)[j], List.getElem?_eq_getElem hj2⟩, fun c hcc => hr.2 j c _ hcc hv⟩
    have hlen : ∀ b, b ∈ l → (ee b).length = k := by
     intro b hb
     obtain ⟨i, hi⟩ := List.mem_iff_getElem?.1 hb
     obtain ⟨_, _, cs', hc, hr⟩ := hp i b hi
     rw [hk] at hc
     rw [hr.1, (World.cells?_some hc).2.1]
    have hb0 : ∃ b, l[0]? = some b := ⟨l[0]'(by omega), List.getElem?_eq_getElem _⟩
    obtain ⟨b0, hb0⟩ := hb0
    obtain ⟨v0, hv0, _⟩ := hcell 0 0 b0 hb0 h0
    have hadd0 : (a.add (0 * k)).add 0 = a := by simp [Addr.add]
    rw [hadd0] at hv0
    unfold World.cell? at hv0
    split at hv0
    case h_2 => simp at hv0
    rename_i arr T fr hblk
    have hsp : a.spot = none := by
     cases hs : a.spot with
     | none => rfl
     | some s => simp [hs] at hv0
    have hget : ∀ i j b, l[i]? = some b → j < k → ∃ v, arr[a.off + (i * k + j)]? = some v ∧ (∃ c, (ee b)[j]? = some c) ∧ ∀ c, (ee b)[j]? = some c → IRel (memOf w) c v := by
     intro i j b hb hj
     obtain ⟨v, hv, hc⟩ := hcell i j b hb hj
     rw [Deep.add_add] at hv
     unfold World.cell? at hv
     have hbk : (a.add (i * k + j)).block = a.block := by unfold Addr.add; split <;> rfl
     have hso : (a.add (i * k + j)).spot = none := by unfold Addr.add; split <;> simp [hsp]
     have hof : (a.add (i * k + j)).off = a.off + (i * k + j) := by unfold Addr.add; split <;> simp [*]
     rw [hbk, hblk] at hv
     simp only [hso, hof] at hv
     exact ⟨v, by simpa using hv, hc⟩
    refine IRel.lst (arr := arr) (T := T) (fr := fr) (fun i => (arr[a.off + i]?).getD undef) hblk hsp (by simpa using hl) hlc (by omega) ?_ ?_ ?_
    ·intro row hrow
     obtain ⟨b, hb, rfl⟩ := List.mem_map.1 hrow
     exact hlen b hb
    ·intro i hi
     rw [List.length_map] at hi
     have hq : i / k < l.length := Nat.div_lt_of_lt_mul (by rw [Nat.mul_comm]; exact hi)
     obtain ⟨v, hv, _⟩ := hget (i / k) (i % k) l[i / k] (List.getElem?_eq_getElem hq) (Nat.mod_lt _ h0)
     have : i / k * k + i % k = i := by rw [Nat.mul_comm]; exact Nat.div_add_mod i k
     rw [this] at hv
     simp [hv]
    ·intro i j row c hrow hc
     rw [List.getElem?_map, Option.map_eq_some_iff] at hrow
     obtain ⟨b, hb, rfl⟩ := hrow
     have hj : j < k := by
      have := (List.getElem?_eq_some_iff.1 hc).1
      rw [hlen b (List.mem_iff_getElem?.2 ⟨i, hb⟩)] at this
      exact this
     obtain ⟨v, hv, _, hcr⟩ := hget i j b hb hj
     simp only [hv, Option.getD_some]
     exact hcr c hc
  ·simp only [bulk]
   rw [bulkAll_map]
   have := sum_le (l := l) (sz := sz) (g := fun i => bulk (D i)) fun i b hb => (hp i b hb).1
   rw [hl] at this
   omega
  ·obtain ⟨i, hi⟩ := List.mem_iff_getElem?.1 hb
   exact (hp i b hi).2.1
def FOpensB (b0 : Nat) (P : Program) (N : Nat) (fs : List (TypeId × Nat × Nat)) (off : Nat) (e : α → List V) (sz : α → Nat) (ok : α → Prop) : Prop :=
 ∀ {H : Type} (enc : TypeId × Value → H) (w : World) (n : Nat) (cs : List Value) (xs : List (DataW H × List MemPlace)), cs.length = N → xs.length = fs.length →
  (∀ (i : Nat) (f : TypeId × Nat × Nat), fs[i]? = some f → DataW.trod enc P w 0 (fun _ => true) true n f.1 ((cs.drop f.2.1).take f.2.2) = xs[i]?) →
  wOks P (fs.map (·.1)) (xs.map (·.1)) → bulkAll (xs.map (·.1)) ≤ b0 → ∃ a : α, IRelL (memOf w) (e a) (cs.drop off) ∧ sz a ≤ bulkAll (xs.map (·.1)) ∧ ok a
theorem fopensB_nil {b0 N : Nat} : FOpensB b0 P N [] N (fun _ : Unit => []) (fun _ => 0) (fun _ => True) := by
 intro H enc w n cs xs hN hx _ _ _
 refine ⟨(), ?_, by simp, trivial⟩
 rw [← hN]
 simp [IRelL]
theorem fopensB_cons {b0 N k off : Nat} {ft : TypeId} {fs : List (TypeId × Nat × Nat)} {ea : α → List V} {eb : β → List V} {sa : α → Nat} {sb : β → Nat} {oa : α → Prop} {ob : β → Prop}
  (h : OpensB b0 P ft ea sa oa) (hr : FOpensB b0 P N fs (off + k) eb sb ob) : FOpensB b0 P N ((ft, off, k) :: fs) off (fun p : α × β => ea p.1 ++ eb p.2) (fun p => sa p.1 + sb p.2) (fun p => oa p.1 ∧ ob p.2) := by
 intro H enc w n cs xs hN hx hf hw hb0
 match xs, hx with
 | x :: xs, hx =>
  have h1 := hf 0 _ rfl
  simp only [List.getElem?_cons_zero] at h1
  have hw' := wOks_cons hw
  simp only [List.map_cons, bulkAll] at hb0
  obtain ⟨a, ha, hs, ho⟩ := h enc w n _ x h1 hw'.1 (by omega)
  have hb' := hr enc w n cs xs hN (by simpa using hx) fun i f hi => by
   have := hf (i + 1) f (by simpa using hi)
   simpa using this
  obtain ⟨b, hb, hs', ho'⟩ := hb' hw'.2 (by omega)
  refine ⟨(a, b), ?_, by simp only [List.map_cons, bulkAll]; omega, ho, ho'⟩
  have := ha.app hb
  rw [show (cs.drop off).take k ++ cs.drop (off + k) = cs.drop off by rw [← List.drop_drop]; exact List.take_append_drop _ _] at this
  exact this
theorem opensB_struct {b0 N : Nat} {fs : List (TypeId × Nat × Nat)} {e : α → List V} {sz : α → Nat} {ok : α → Prop} (ht : fieldsOf P t = some fs) (hN : P.cellsOf t = N) (h : FOpensB b0 P N fs 0 e sz ok) :
  OpensB (b0 + 1) P t e (fun a => sz a + 1) ok := by
 intro H enc w fuel cs x hx hw hlt
 unfold fieldsOf at ht
 split at ht
 case h_2 => simp at ht
 rename_i gs hu
 simp only [Option.some.injEq] at ht
 subst ht
 obtain ⟨xs, n, _, rfl, hl, hxl, hf⟩ := DataW.trod_struct hu hx
 have ha' := h enc w n cs xs (hl.trans hN) (by simpa using hxl) fun i f hi => by
  rw [List.getElem?_map, Option.map_eq_some_iff] at hi
  obtain ⟨g, hg, rfl⟩ := hi
  exact hf i g (by simpa using hg)
 obtain ⟨a, h1, h2, h3⟩ := ha' (by
  unfold wOk at hw
  rw [DataW.weights] at hw
  simp only [hu] at hw
  unfold wOks
  rw [List.map_map]
  exact hw) (by simp only [bulk] at hlt; omega)
 exact ⟨a, by simpa using h1, by simp only [bulk]; omega, h3⟩
end
end Go.Pv
namespace Go.Pv
open Go
theorem w64_id {n : Int} (h : -9223372036854775808 ≤ n) (h' : n ≤ 9223372036854775807) : w64 n = n := by
 have : w64 n = if n % 18446744073709551616 ≥ 9223372036854775808 then n % 18446744073709551616 - 18446744073709551616 else n % 18446744073709551616 := by
  simp [w64, IntKind.wrap, IntKind.signed, IntKind.bits]
 rw [this]
 split <;> omega
theorem jn_def {α β : Type} (k : α) (b : α → β) : jn k b = b k := rfl
theorem idx_nat {α : Type} {xs : List α} {j : Nat} (h : j < xs.length) : idx xs (j : Int) = some xs[j] := by
 simp [idx, h]
theorem mget_mput {α β : Type} [DecidableEq α] (xs : List (α × β)) (k k' : α) (v : β) : mget (mput xs k v) k' = if k = k' then some v else mget xs k' := by
 induction xs with
 | nil => simp [mput, mget]
 | cons p r ih =>
  simp only [mput]
  split
  ·rename_i h
   simp only [mget, h]
   split <;> simp_all
  ·rename_i h
   simp only [mget]
   by_cases h2 : p.1 = k'
   ·rw [if_pos h2, if_pos h2, if_neg (fun e => h (h2.trans e.symm))]
   ·rw [if_neg h2, if_neg h2]; exact ih
theorem idxL {α : Type} {g : List α → Int → Option Int} {k : Option Int} (p : α → Bool) (h0 : ∀ n, g [] n = k) (h1 : ∀ x l n, g (x :: l) n = if p x = true then some n else g l (n + 1)) :
  ∀ l (n : Nat), g l n = if l.any p = true then some ((n + l.findIdx p : Nat) : Int) else k
 | [], n => by simp [h0]
 | x :: l, n => by
  have e : ((n : Int) + 1) = ((n + 1 : Nat) : Int) := rfl
  rw [h1, e, idxL p h0 h1 l (n + 1)]
  cases h : p x
  ·have e2 : n + 1 + l.findIdx p = n + (l.findIdx p + 1) := by omega
   simp only [List.any_cons, h, Bool.false_or, List.findIdx_cons, cond_false, e2, Bool.false_eq_true, if_false]
  ·simp [List.findIdx_cons, h]
theorem bytesL {β : Type} {g : Nat → Int → Option β} {k : Option β} {f : β} (s : List UInt8) (p : UInt8 → Bool) (h0 : ∀ n, g 0 n = k)
  (h1 : ∀ m n, g (m + 1) n = (idx s n).bind fun c => if p c = true then g m (n + 1) else some f) :
  ∀ (m n : Nat), n + m = s.length → g m n = if (s.drop n).all p = true then k else some f
 | 0, n, h => by rw [h0, List.drop_eq_nil_of_le (by omega)]; simp
 | m + 1, n, h => by
  have hn : n < s.length := by omega
  have e : ((n : Int) + 1) = ((n + 1 : Nat) : Int) := rfl
  rw [h1, idx_nat hn, Option.bind_some, e, bytesL s p h0 h1 m (n + 1) (by omega), List.drop_eq_getElem_cons hn, List.all_cons]
  cases h : p s[n]
  ·simp only [Bool.false_and, Bool.false_eq_true, if_false]
  ·simp only [Bool.true_and, if_true]
end Go.Pv
namespace Go.Proofs.YtkeeppclihjlhaaGreatDoor
open Go Go.Pv
set_option linter.unusedVariables false
set_option maxRecDepth 100000
inductive Tr where
 | mk (Kind : Int) (Name : List UInt8) (Texts : List (List UInt8)) (Op N : Int) (Kids : List Tr)
noncomputable section
mutual
def Tr.toT : Tr → TTest
 | .mk a b c d e ks => ⟨a, b, c, d, e, Tr.toKs ks⟩
def Tr.toKs : List Tr → List KRow
 | [] => []
 | t :: r => ⟨encTTest t.toT, imms_encTTest _, one_encTTest _⟩ :: Tr.toKs r
end
def okI (n : Int) : Prop := (IntKind.i64).min ≤ n ∧ n ≤ (IntKind.i64).max
def okS (s : List UInt8) : Prop := s.length ≤ 140737488351232
mutual
def Tr.ok : Tr → Prop
 | .mk a b c d e ks => okI a ∧ okS b ∧ ((∀ s, s ∈ c → okS s) ∧ c.length ≤ maxLen) ∧ okI d ∧ okI e ∧ Tr.oks ks ∧ ks.length ≤ maxLen
def Tr.oks : List Tr → Prop
 | [] => True
 | t :: r => t.ok ∧ Tr.oks r
end
end
theorem Tr.toKs_row : ∀ ks : List Tr, (Tr.toKs ks).map KRow.row = ks.map fun t => encTTest t.toT
 | [] => by simp [Tr.toKs]
 | t :: r => by simp [Tr.toKs, Tr.toKs_row r]
theorem Tr.oks_of : ∀ ks : List Tr, (∀ t, t ∈ ks → t.ok) → Tr.oks ks
 | [], _ => by simp [Tr.oks]
 | t :: r, h => by rw [Tr.oks]; exact ⟨h t (by simp), Tr.oks_of r fun u hu => h u (by simp [hu])⟩
theorem Tr.toKs_len : ∀ ks : List Tr, (Tr.toKs ks).length = ks.length
 | [] => by simp [Tr.toKs]
 | t :: r => by simp [Tr.toKs, Tr.toKs_len r]
theorem sV_inj {a b : List UInt8} (h : sV a = sV b) : a = b := by
 unfold sV str at h
 simp only [V.con.injEq, Value.string.injEq] at h
 have := congrArg (fun b => b.data.toList) h
 simpa using this
theorem encS_inj {a b : List UInt8} (h : encS a = encS b) : a = b := sV_inj (by simpa [encS] using h)
theorem mapS_inj {a b : List (List UInt8)} (h : a.map encS = b.map encS) : a = b := List.map_inj_right (fun x y h => encS_inj h) |>.1 h
theorem mapK_inj {a b : List KRow} (h : a.map KRow.row = b.map KRow.row) : a = b := List.map_inj_right (fun x y h => KRow.ext' h) |>.1 h
theorem encTTest_inj (a b : TTest) (h : encTTest a = encTTest b) : a = b := by
 obtain ⟨a1, a2, a3, a4, a5, a6⟩ := a
 obtain ⟨b1, b2, b3, b4, b5, b6⟩ := b
 simp only [encTTest, List.cons.injEq, and_true] at h
 obtain ⟨h1, h2, h3, h4, h5, h6⟩ := h
 have e1 : a1 = b1 := by injection h1 with h; injection h
 have e4 : a4 = b4 := by injection h4 with h; injection h
 have e5 : a5 = b5 := by injection h5 with h; injection h
 have e2 := sV_inj h2
 have e3 : a3 = b3 := mapS_inj (by injection h3)
 have e6 : a6 = b6 := mapK_inj (by injection h6)
 subst e1 e2 e3 e4 e5 e6; rfl
theorem kdec_toK (t : Tr) : kdec encTTest ⟨encTTest t.toT, imms_encTTest _, one_encTTest _⟩ = some t.toT := kdec_eq encTTest_inj rfl
def szTTest (x : TTest) : Nat := 0
def okTTest (x : TTest) : Prop := ∃ t : Tr, x = t.toT ∧ t.ok
theorem opensB_29 : ∀ b, OpensB b Tryz.prog 29 (fun t : Tr => encTTest t.toT) (fun _ => 0) Tr.ok
 | 0 => opensB_zero
 | b + 1 => by
  have hi : Opens Tryz.prog 3 (fun x => [V.con (.int .i64 x)]) (fun _ => 1) (fun x : Int => (IntKind.i64).min ≤ x ∧ x ≤ (IntKind.i64).max) := opens_int (show Tryz.prog.underlying 3 = some (.int .i64) by kernel_rfl)
  have hs : Opens Tryz.prog 9 (fun x => [sV x]) (fun s => s.length + 1) (fun s => s.length ≤ 140737488351232) := opens_stringW (show Tryz.prog.underlying 9 = some (.string) by kernel_rfl)
  intro enc w fuel cs x hx hw hl
  obtain ⟨a, h1, h2, h3⟩ := opensB_struct (P := Tryz.prog) (t := 29) (b0 := b) (fs := [(3, 0, 1), (9, 1, 1), (26, 2, 1), (3, 3, 1), (3, 4, 1), (27, 5, 1)]) (by kernel_rfl) (by kernel_rfl)
   (fopensB_cons (Opens.at hi b) (fopensB_cons (Opens.at hs b) (fopensB_cons (Opens.at (opens_slice (k := 1) (t := 26) (e := 9) (by kernel_rfl) (by kernel_rfl) (by decide) hs) b) (fopensB_cons (Opens.at hi b) (fopensB_cons (Opens.at hi b)
    (fopensB_cons (OpensB.mono (opensB_slice (k := 6) (t := 27) (e := 29) (by kernel_rfl) (by kernel_rfl) (by decide) (opensB_29 b)) (Nat.le_succ b)) fopensB_nil)))))) enc w fuel cs x hx hw hl
  refine ⟨Tr.mk a.1 a.2.1 a.2.2.1 a.2.2.2.1 a.2.2.2.2.1 a.2.2.2.2.2.1, ?_, Nat.zero_le _, ?_⟩
  ·simp only [Tr.toT, encTTest, Tr.toKs_row]
   exact h1
  ·simp only [Tr.ok]
   exact ⟨h3.1, h3.2.1, h3.2.2.1, h3.2.2.2.1, h3.2.2.2.2.1, Tr.oks_of _ h3.2.2.2.2.2.1.1, h3.2.2.2.2.2.1.2⟩
theorem opens_29 : Opens Tryz.prog 29 encTTest szTTest okTTest := by
 intro H enc w fuel cs x hx hw
 obtain ⟨t, h1, h2, h3⟩ := opensB_29 _ enc w fuel cs x hx hw (Nat.le_refl _)
 exact ⟨t.toT, h1, Nat.zero_le _, t, rfl, h3⟩
theorem opensV_29 : OpensV Tryz.prog 29 (fun x => V.agg (encTTest x)) szTTest okTTest := opensV_agg (fs := [(3, 0, 1), (9, 1, 1), (26, 2, 1), (3, 3, 1), (3, 4, 1), (27, 5, 1)]) (by kernel_rfl) opens_29
end Go.Proofs.YtkeeppclihjlhaaGreatDoor
namespace Go.Proofs.YtkeeppclihjlhaaGreatDoor
open Go Go.Pv
set_option linter.unusedVariables false
set_option maxRecDepth 100000
theorem opens_9 : Opens Tryz.prog 9 (fun x => [sV x]) (fun x : (List UInt8) => (x.length + 1)) (fun x : (List UInt8) => (x.length ≤ 140737488351232)) := opens_stringW (show Tryz.prog.underlying 9 = some (.string) by kernel_rfl)
def szTPair (x : TPair) : Nat := (x.Name.length + 1) + ((x.Value.length + 1) + 0) + 1
def okTPair (x : TPair) : Prop := (x.Name.length ≤ 140737488351232) ∧ ((x.Value.length ≤ 140737488351232) ∧ True)
theorem opens_77 : Opens Tryz.prog 77 encTPair szTPair okTPair := opens_map (opens_struct (fs := [(9, 0, 1), (9, 1, 1)]) (by kernel_rfl) (by kernel_rfl) (fopens_cons opens_9 (fopens_cons opens_9 fopens_nil))) (fun p => TPair.mk p.1 p.2.1) (fun _ => rfl) (fun _ => rfl) (fun _ h => h)
theorem opens_22 : Opens Tryz.prog 22 (fun l => [V.lst 2 (l.map encTPair)]) (fun x : (List TPair) => ((x.map (fun x : TPair => (szTPair x))).sum + 1)) (fun x : (List TPair) => ((∀ a, a ∈ x → (fun x : TPair => (okTPair x)) a) ∧ x.length ≤ maxLen)) := opens_slice (show Tryz.prog.underlying 22 = some (.slice 77) by kernel_rfl) (by kernel_rfl) (by decide) opens_77
theorem opens_3 : Opens Tryz.prog 3 (fun x => [V.con (.int .i64 x)]) (fun x : Int => 1) (fun x : Int => ((IntKind.i64).min ≤ x ∧ x ≤ (IntKind.i64).max)) := opens_int (show Tryz.prog.underlying 3 = some (.int .i64) by kernel_rfl)
def szTAmount (x : TAmount) : Nat := (x.Name.length + 1) + (1 + 0) + 1
def okTAmount (x : TAmount) : Prop := (x.Name.length ≤ 140737488351232) ∧ (((IntKind.i64).min ≤ x.N ∧ x.N ≤ (IntKind.i64).max) ∧ True)
theorem opens_79 : Opens Tryz.prog 79 encTAmount szTAmount okTAmount := opens_map (opens_struct (fs := [(9, 0, 1), (3, 1, 1)]) (by kernel_rfl) (by kernel_rfl) (fopens_cons opens_9 (fopens_cons opens_3 fopens_nil))) (fun p => TAmount.mk p.1 p.2.1) (fun _ => rfl) (fun _ => rfl) (fun _ h => h)
theorem opens_23 : Opens Tryz.prog 23 (fun l => [V.lst 2 (l.map encTAmount)]) (fun x : (List TAmount) => ((x.map (fun x : TAmount => (szTAmount x))).sum + 1)) (fun x : (List TAmount) => ((∀ a, a ∈ x → (fun x : TAmount => (okTAmount x)) a) ∧ x.length ≤ maxLen)) := opens_slice (show Tryz.prog.underlying 23 = some (.slice 79) by kernel_rfl) (by kernel_rfl) (by decide) opens_79
def szTFact (x : TFact) : Nat := (x.Kind.length + 1) + ((x.Subject.length + 1) + (((x.Texts.map (fun x : TPair => (szTPair x))).sum + 1) + (((x.Numbers.map (fun x : TAmount => (szTAmount x))).sum + 1) + 0))) + 1
def okTFact (x : TFact) : Prop := (x.Kind.length ≤ 140737488351232) ∧ ((x.Subject.length ≤ 140737488351232) ∧ (((∀ a, a ∈ x.Texts → (fun x : TPair => (okTPair x)) a) ∧ x.Texts.length ≤ maxLen) ∧ (((∀ a, a ∈ x.Numbers → (fun x : TAmount => (okTAmount x)) a) ∧ x.Numbers.length ≤ maxLen) ∧ True)))
theorem opens_25 : Opens Tryz.prog 25 encTFact szTFact okTFact := opens_map (opens_struct (fs := [(9, 0, 1), (9, 1, 1), (22, 2, 1), (23, 3, 1)]) (by kernel_rfl) (by kernel_rfl) (fopens_cons opens_9 (fopens_cons opens_9 (fopens_cons opens_22 (fopens_cons opens_23 fopens_nil))))) (fun p => TFact.mk p.1 p.2.1 p.2.2.1 p.2.2.2.1) (fun _ => rfl) (fun _ => rfl) (fun _ h => h)
theorem opensV_25 : OpensV Tryz.prog 25 (fun x => V.agg (encTFact x)) szTFact okTFact := opensV_agg (fs := [(9, 0, 1), (9, 1, 1), (22, 2, 1), (23, 3, 1)]) (by kernel_rfl) opens_25
def szTPolicyRule (x : TPolicyRule) : Nat := (x.Name.length + 1) + ((x.About.length + 1) + ((szTTest x.When) + (1 + 0))) + 1
def okTPolicyRule (x : TPolicyRule) : Prop := (x.Name.length ≤ 140737488351232) ∧ ((x.About.length ≤ 140737488351232) ∧ ((okTTest x.When) ∧ (((IntKind.i64).min ≤ x.Level ∧ x.Level ≤ (IntKind.i64).max) ∧ True)))
theorem opens_87 : Opens Tryz.prog 87 encTPolicyRule szTPolicyRule okTPolicyRule := opens_map (opens_struct (fs := [(9, 0, 1), (9, 1, 1), (29, 2, 6), (3, 8, 1)]) (by kernel_rfl) (by kernel_rfl) (fopens_cons opens_9 (fopens_cons opens_9 (fopens_cons opens_29 (fopens_cons opens_3 fopens_nil))))) (fun p => TPolicyRule.mk p.1 p.2.1 p.2.2.1 p.2.2.2.1) (fun _ => rfl) (fun _ => rfl) (fun _ h => h)
theorem opens_30 : Opens Tryz.prog 30 (fun l => [V.lst 9 (l.map encTPolicyRule)]) (fun x : (List TPolicyRule) => ((x.map (fun x : TPolicyRule => (szTPolicyRule x))).sum + 1)) (fun x : (List TPolicyRule) => ((∀ a, a ∈ x → (fun x : TPolicyRule => (okTPolicyRule x)) a) ∧ x.length ≤ maxLen)) := opens_slice (show Tryz.prog.underlying 30 = some (.slice 87) by kernel_rfl) (by kernel_rfl) (by decide) opens_87
def szTWaiver (x : TWaiver) : Nat := (x.Rule.length + 1) + ((x.Subject.length + 1) + (1 + (1 + ((x.Owner.length + 1) + (1 + 0))))) + 1
def okTWaiver (x : TWaiver) : Prop := (x.Rule.length ≤ 140737488351232) ∧ ((x.Subject.length ≤ 140737488351232) ∧ (((IntKind.i64).min ≤ x.From ∧ x.From ≤ (IntKind.i64).max) ∧ (((IntKind.i64).min ≤ x.To ∧ x.To ≤ (IntKind.i64).max) ∧ ((x.Owner.length ≤ 140737488351232) ∧ (((IntKind.i64).min ≤ x.Level ∧ x.Level ≤ (IntKind.i64).max) ∧ True)))))
theorem opens_44 : Opens Tryz.prog 44 encTWaiver szTWaiver okTWaiver := opens_map (opens_struct (fs := [(9, 0, 1), (9, 1, 1), (3, 2, 1), (3, 3, 1), (9, 4, 1), (3, 5, 1)]) (by kernel_rfl) (by kernel_rfl) (fopens_cons opens_9 (fopens_cons opens_9 (fopens_cons opens_3 (fopens_cons opens_3 (fopens_cons opens_9 (fopens_cons opens_3 fopens_nil))))))) (fun p => TWaiver.mk p.1 p.2.1 p.2.2.1 p.2.2.2.1 p.2.2.2.2.1 p.2.2.2.2.2.1) (fun _ => rfl) (fun _ => rfl) (fun _ h => h)
theorem opens_31 : Opens Tryz.prog 31 (fun l => [V.lst 6 (l.map encTWaiver)]) (fun x : (List TWaiver) => ((x.map (fun x : TWaiver => (szTWaiver x))).sum + 1)) (fun x : (List TWaiver) => ((∀ a, a ∈ x → (fun x : TWaiver => (okTWaiver x)) a) ∧ x.length ≤ maxLen)) := opens_slice (show Tryz.prog.underlying 31 = some (.slice 44) by kernel_rfl) (by kernel_rfl) (by decide) opens_44
def szTPolicy (x : TPolicy) : Nat := ((x.Rules.map (fun x : TPolicyRule => (szTPolicyRule x))).sum + 1) + (((x.Waivers.map (fun x : TWaiver => (szTWaiver x))).sum + 1) + 0) + 1
def okTPolicy (x : TPolicy) : Prop := ((∀ a, a ∈ x.Rules → (fun x : TPolicyRule => (okTPolicyRule x)) a) ∧ x.Rules.length ≤ maxLen) ∧ (((∀ a, a ∈ x.Waivers → (fun x : TWaiver => (okTWaiver x)) a) ∧ x.Waivers.length ≤ maxLen) ∧ True)
theorem opens_33 : Opens Tryz.prog 33 encTPolicy szTPolicy okTPolicy := opens_map (opens_struct (fs := [(30, 0, 1), (31, 1, 1)]) (by kernel_rfl) (by kernel_rfl) (fopens_cons opens_30 (fopens_cons opens_31 fopens_nil))) (fun p => TPolicy.mk p.1 p.2.1) (fun _ => rfl) (fun _ => rfl) (fun _ h => h)
theorem opensV_33 : OpensV Tryz.prog 33 (fun x => V.agg (encTPolicy x)) szTPolicy okTPolicy := opensV_agg (fs := [(30, 0, 1), (31, 1, 1)]) (by kernel_rfl) opens_33
set_option linter.unusedSimpArgs false
def words : List (List UInt8) := [([114, 117, 108, 101] : List UInt8), ([97, 98, 111, 117, 116] : List UInt8), ([119, 104, 101, 110] : List UInt8), ([119, 97, 105, 118, 101] : List UInt8), ([102, 111, 114] : List UInt8), ([102, 114, 111, 109] : List UInt8), ([116, 111] : List UInt8), ([98, 121] : List UInt8), ([97, 115] : List UInt8), ([112, 97, 115, 115] : List UInt8), ([110, 111, 116, 101] : List UInt8), ([119, 97, 114, 110] : List UInt8), ([100, 101, 110, 121] : List UInt8), ([111, 114] : List UInt8), ([97, 110, 100] : List UInt8), ([116, 114, 117, 101] : List UInt8), ([105, 115] : List UInt8), ([98, 101, 103, 105, 110, 115] : List UInt8), ([104, 97, 115] : List UInt8), ([110, 111, 116] : List UInt8)]
def wordB (s : List UInt8) : Bool := words.any fun w => s == w
theorem orS {b c : Bool} {x : Option Bool} (h : x = some c) : (if b = true then (if b = true then some true else some false) else x) = some (b || c) := by cases b <;> simp [h]
theorem orL {b : Bool} : (if b = true then some true else some false) = some (b || false) := by cases b <;> rfl
theorem M62_eq (F : Nat) (s : List UInt8) : M62 F s = some (wordB s) := by
 unfold M62
 simp only [jn_def]
 show _ = some (words.any fun w => s == w)
 simp only [words, List.any_cons, List.any_nil]
 repeat (first | exact orL | apply orS)
theorem beqC (a b : List UInt8) : (a == b) = (b == a) := by
 by_cases h : a = b
 ·subst h; rfl
 ·rw [beq_false_of_ne h, beq_false_of_ne (Ne.symm h)]
theorem M63_L1_eq (F : Nat) (a : List UInt8) (k : Option Bool) : ∀ (m n : Nat), n + m = 20 → M63_L1 F a k m n = if ((words.drop n).any fun w => a == w) = true then some true else k
 | 0, n, h => by
  obtain rfl : n = 20 := by omega
  simp [M63_L1, words]
 | m + 1, n, h => by
  have hn : n < words.length := by simp [words]; omega
  have e : ((n : Int) + 1) = ((n + 1 : Nat) : Int) := rfl
  rw [M63_L1, if_pos ⟨by omega, by omega⟩, e, M63_L1_eq F a k m (n + 1) (by omega), List.drop_eq_getElem_cons hn, List.any_cons]
  have h2 : (arrOf ([] : List UInt8) words n) = words[n] := by simp [arrOf, List.getD, List.getElem?_eq_getElem hn]
  have h3 : ((n : Int)).toNat = n := by omega
  rw [h3]
  show (if (arrOf ([] : List UInt8) words n == a) = true then some true else _) = _
  rw [h2, beqC]
  cases h : a == words[n]
  ·simp only [Bool.false_eq_true, if_false, Bool.false_or]
  ·simp only [if_true, Bool.true_or]
theorem M63_eq (F : Nat) (s : List UInt8) : M63 F s = some (wordB s) := by
 unfold M63
 rw [jn_def, if_pos (by omega)]
 have := M63_L1_eq F s (some false) 20 0 rfl
 rw [show ((0 : Nat) : Int) = 0 from rfl] at this
 rw [show (20 : Int).toNat = 20 from rfl, this]
 rw [List.drop_zero]
 unfold wordB
 cases words.any fun w => s == w <;> rfl
def run (c : UInt8) : Bool := (decide (97 ≤ c.toNat) && decide (c.toNat ≤ 122)) || (decide (48 ≤ c.toNat) && decide (c.toNat ≤ 57)) || (c.toNat == 45)
def lower (c : UInt8) : Bool := decide (97 ≤ c.toNat) && decide (c.toNat ≤ 122)
theorem M64_eq (F : Nat) (c : UInt8) : M64 F (c.toNat : Int) = some (run c) := by
 unfold M64 run
 have h1 : ((c.toNat : Int) == 45) = (c.toNat == 45) := by
  by_cases h : c.toNat = 45
  ·simp [h]
  ·have : (c.toNat : Int) ≠ 45 := by omega
   rw [beq_false_of_ne h, beq_false_of_ne this]
 by_cases a1 : 97 ≤ c.toNat <;> by_cases a2 : c.toNat ≤ 122 <;> by_cases a3 : 48 ≤ c.toNat <;> by_cases a4 : c.toNat ≤ 57 <;>
  simp only [h1, a1, a2, a3, a4, show ((c.toNat : Int) ≥ 97) ↔ 97 ≤ c.toNat by omega, show ((c.toNat : Int) ≤ 122) ↔ c.toNat ≤ 122 by omega, show ((c.toNat : Int) ≥ 48) ↔ 48 ≤ c.toNat by omega, show ((c.toNat : Int) ≤ 57) ↔ c.toNat ≤ 57 by omega, decide_true, decide_false, if_true, if_false, Bool.false_eq_true, Bool.and_true, Bool.and_false, Bool.or_true, Bool.true_or, Bool.false_or, Bool.or_false, Bool.and_self]
def nameB (s : List UInt8) : Bool := match s with | [] => false | c :: r => decide ((c :: r).length ≤ 40) && !wordB (c :: r) && lower c && r.all run
theorem nm_step {c : UInt8} {k : Option Bool} :
    (if (decide ((c.toNat : Int) ≥ 97)) = true then if (decide ((c.toNat : Int) ≤ 122)) = true then k
 else if (decide ((c.toNat : Int) ≥ 48)) = true then if (decide ((c.toNat : Int) ≤ 57)) = true then k
 else if (!((c.toNat : Int) == 45)) = true then some false
 else k
 else if (!((c.toNat : Int) == 45)) = true then some false
 else k
 else if (decide ((c.toNat : Int) ≥ 48)) = true then if (decide ((c.toNat : Int) ≤ 57)) = true then k
 else if (!((c.toNat : Int) == 45)) = true then some false
 else k
 else if (!((c.toNat : Int) == 45)) = true then some false
 else k) = if run c = true then k else some false := by
  unfold run
  have h1 : ((c.toNat : Int) == 45) = (c.toNat == 45) := by
    by_cases h : c.toNat = 45
    · simp [h]
    · have : (c.toNat : Int) ≠ 45 := by omega
      rw [beq_false_of_ne h, beq_false_of_ne this]
  by_cases a1 : 97 ≤ c.toNat <;> by_cases a2 : c.toNat ≤ 122 <;> by_cases a3 : 48 ≤ c.toNat <;> by_cases a4 : c.toNat ≤ 57 <;> cases h5 : (c.toNat == 45) <;>
    simp only [h1, h5, a1, a2, a3, a4, show ((c.toNat : Int) ≥ 97) ↔ 97 ≤ c.toNat by omega, show ((c.toNat : Int) ≤ 122) ↔ c.toNat ≤ 122 by omega, show ((c.toNat : Int) ≥ 48) ↔ 48 ≤ c.toNat by omega, show ((c.toNat : Int) ≤ 57) ↔ c.toNat ≤ 57 by omega, decide_true, decide_false, if_true, if_false, Bool.false_eq_true, Bool.and_true, Bool.and_false, Bool.or_true, Bool.true_or, Bool.false_or, Bool.or_false, Bool.and_self, Bool.not_true, Bool.not_false]
theorem M34_tail (F : Nat) (s : List UInt8) (k : Option Bool) : ∀ (m n : Nat), 0 < n → n + m = s.length → M34_L1 F s k m n = if (s.drop n).all run = true then k else some false
 | 0, n, _, h => by rw [M34_L1, List.drop_eq_nil_of_le (by omega)]; simp
 | m + 1, n, h0, h => by
  have hn : n < s.length := by omega
  have e : ((n : Int) + 1) = ((n + 1 : Nat) : Int) := rfl
  have h3 : decide ((n : Int) > 0) = true := decide_eq_true (by omega)
  rw [M34_L1, jn_def, idx_nat hn, Option.bind_some, e, M34_tail F s k m (n + 1) (by omega) (by omega), List.drop_eq_getElem_cons hn, List.all_cons]
  simp only [h3, if_true]
  rw [nm_step]
  cases h : run s[n]
  ·simp only [Bool.false_and, Bool.false_eq_true, if_false]
  ·simp only [Bool.true_and, if_true]
theorem maxI {n : Nat} (h : n ≤ 140737488351232) : (n : Int) ≤ 9223372036854775807 := by omega
theorem M34_eq (F : Nat) (s : List UInt8) (hs : okS s) : M34 F s = some (nameB s) := by
 unfold okS at hs
 unfold M34
 rw [jn_def, if_pos (maxI hs), show ((s.length : Int) : Int).toNat = s.length by omega]
 cases s with
 | nil => rfl
 | cons c r =>
  rw [List.length_cons, M34_L1, jn_def, show idx (c :: r) 0 = some c from rfl, Option.bind_some]
  have e : ((0 : Int) + 1) = ((1 : Nat) : Int) := rfl
  rw [e, M34_tail F (c :: r) _ r.length 1 (by omega) (by simp; omega)]
  simp only [List.drop_succ_cons, List.drop_zero, M62_eq, Option.bind_some, nameB, lower, show decide ((0 : Int) > 0) = false from rfl, Bool.false_eq_true, if_false, List.length_cons]
  have h40 : decide (((r.length + 1 : Nat) : Int) ≤ 40) = decide (r.length + 1 ≤ 40) := by
   by_cases h : r.length + 1 ≤ 40
   ·rw [decide_eq_true h, decide_eq_true (by omega)]
   ·rw [decide_eq_false h, decide_eq_false (by omega)]
  have hne : (!(c :: r == ([] : List UInt8))) = true := rfl
  rw [h40, hne]
  by_cases a1 : 97 ≤ c.toNat <;> by_cases a2 : c.toNat ≤ 122 <;>
   simp only [a1, a2, show ((c.toNat : Int) ≥ 97) ↔ 97 ≤ c.toNat by omega, show ((c.toNat : Int) ≤ 122) ↔ c.toNat ≤ 122 by omega, decide_true, decide_false, if_true, if_false, Bool.false_eq_true, Bool.and_true, Bool.and_false, Bool.false_and]
  cases r.all run <;> cases decide (r.length + 1 ≤ 40) <;> cases wordB (c :: r) <;> rfl
theorem M37_L1_eq (F : Nat) (s : List UInt8) (k : Option Bool) (m n : Nat) (h : n + m = s.length) : M37_L1 F s k m n = if (s.drop n).all run = true then k else some false :=
 bytesL s run (fun n => rfl) (fun m n => by
  rw [M37_L1]
  cases idx s n with
  | none => rfl
  | some c => simp only [Option.bind_some, M64_eq]; cases run c <;> rfl) m n h
theorem M37_eq (F : Nat) (s : List UInt8) (hs : okS s) : M37 F s = some (nameB s) := by
 unfold okS at hs
 unfold M37
 rw [jn_def, if_pos (maxI hs), show ((s.length : Int) : Int).toNat = s.length by omega]
 have hl := M37_L1_eq F s (some true) s.length 0 (by omega)
 rw [show ((0 : Nat) : Int) = 0 from rfl, List.drop_zero] at hl
 rw [hl]
 cases s with
 | nil => rfl
 | cons c r =>
  rw [show idx (c :: r) 0 = some c from rfl]
  simp only [M63_eq, Option.bind_some, nameB, lower, List.length_cons, List.all_cons, show ((c :: r == ([] : List UInt8))) = false from rfl, Bool.false_eq_true, if_false]
  have h40 : decide (((r.length + 1 : Nat) : Int) > 40) = !decide (r.length + 1 ≤ 40) := by
   by_cases h : r.length + 1 ≤ 40
   ·rw [decide_eq_true h, decide_eq_false (by omega)]; rfl
   ·rw [decide_eq_false h, decide_eq_true (by omega)]; rfl
  rw [h40]
  by_cases a1 : 97 ≤ c.toNat <;> by_cases a2 : c.toNat ≤ 122 <;>
   simp only [a1, a2, show ((c.toNat : Int) < 97) ↔ ¬ (97 ≤ c.toNat) by omega, show ((c.toNat : Int) > 122) ↔ ¬ (c.toNat ≤ 122) by omega, not_true_eq_false, not_false_eq_true, decide_true, decide_false, if_true, if_false, Bool.false_eq_true, Bool.and_true, Bool.and_false, Bool.false_and]
  ·have : run c = true := by simp [run, a1, a2]
   simp only [this, Bool.true_and]
   cases r.all run <;> cases decide (r.length + 1 ≤ 40) <;> cases wordB (c :: r) <;> rfl
  all_goals (cases decide (r.length + 1 ≤ 40) <;> rfl)
def valC (c : UInt8) : Bool := decide (32 ≤ c.toNat) && decide (c.toNat ≤ 126)
def valB (s : List UInt8) : Bool := decide (s.length ≤ 1000) && s.all valC
theorem val_step {β : Type} {s : List UInt8} {n : Int} {k f : Option β} : ((idx s n).bind fun c6 => if (decide ((c6.toNat : Int) < 32)) = true then f
 else (idx s n).bind fun c9 => if (decide ((c9.toNat : Int) > 126)) = true then f else k) = (idx s n).bind fun c => if valC c = true then k else f := by
  cases idx s n with
  | none => rfl
  | some c =>
    simp only [Option.bind_some, valC]
    by_cases a1 : 32 ≤ c.toNat <;> by_cases a2 : c.toNat ≤ 126 <;>
      simp only [a1, a2, show ((c.toNat : Int) < 32) ↔ ¬ (32 ≤ c.toNat) by omega, show ((c.toNat : Int) > 126) ↔ ¬ (c.toNat ≤ 126) by omega, not_true_eq_false, not_false_eq_true, decide_true, decide_false, if_true, if_false, Bool.false_eq_true, Bool.and_true, Bool.and_false, Bool.false_and]
theorem M35_eq (F : Nat) (s : List UInt8) (hs : okS s) : M35 F s = some (valB s) := by
 unfold okS at hs
 unfold M35
 rw [jn_def, if_pos (maxI hs), show ((s.length : Int) : Int).toNat = s.length by omega]
 have hl := bytesL (g := M35_L1 F s (some (decide ((s.length : Int) ≤ 1000)))) (f := false) s valC (fun n => rfl) (fun m n => by rw [M35_L1]; exact val_step) s.length 0 (by omega)
 rw [show ((0 : Nat) : Int) = 0 from rfl, List.drop_zero] at hl
 rw [hl, valB, show decide ((s.length : Int) ≤ 1000) = decide (s.length ≤ 1000) from decide_eq_decide.2 (by omega)]
 cases s.all valC <;> simp
theorem M38_eq (F : Nat) (s : List UInt8) (hs : okS s) : M38 F s = some (valB s) := by
 unfold okS at hs
 unfold M38
 rw [jn_def, if_pos (maxI hs), show ((s.length : Int) : Int).toNat = s.length by omega]
 have hl := bytesL (g := M38_L1 F s (some true)) (f := false) s valC (fun n => rfl) (fun m n => by rw [M38_L1]; exact val_step) s.length 0 (by omega)
 rw [show ((0 : Nat) : Int) = 0 from rfl, List.drop_zero] at hl
 rw [hl, valB, show decide ((s.length : Int) > 1000) = !decide (s.length ≤ 1000) by
  by_cases h : s.length ≤ 1000
  ·rw [decide_eq_true h, decide_eq_false (by omega)]; rfl
  ·rw [decide_eq_false h, decide_eq_true (by omega)]; rfl]
 cases s.all valC <;> cases decide (s.length ≤ 1000) <;> rfl
def txC (a : List (List UInt8)) : List (List UInt8) → Nat → Int
 | [], _ => 0
 | x :: l, n => if (!valB x) = true then 2 else if (decide (0 < n) && (Op.bytesLess x (a.getD (n - 1) []) || x == a.getD (n - 1) [])) = true then 10 else txC a l (n + 1)
theorem idx_prev {α : Type} {a : List α} {n : Nat} {d : α} (h0 : 0 < n) (h : n ≤ a.length) (hl : a.length ≤ maxLen) : idx a (w64 ((n : Int) - 1)) = some (a.getD (n - 1) d) := by
 have hm : maxLen = 9223372036854775807 := by decide
 rw [hm] at hl
 rw [w64_id (by omega) (by omega), show ((n : Int) - 1) = ((n - 1 : Nat) : Int) by omega, idx_nat (by omega)]
 simp [List.getD, List.getElem?_eq_getElem (show n - 1 < a.length by omega)]
theorem txL {g : List (List UInt8) → Int → Option Int} {k : Option Int} {a : List (List UInt8)} (hl : a.length ≤ maxLen) (h0 : ∀ n, g [] n = k)
  (h1 : ∀ x l (n : Nat), a[n]? = some x → x ∈ a → g (x :: l) n = if (!valB x) = true then some 2 else if decide ((n : Int) > 0) = true then (idx a (w64 ((n : Int) - 1))).bind fun y => if (Op.bytesLess x y || x == y) = true then some 10 else g l (n + 1) else g l (n + 1)) :
  ∀ (l : List (List UInt8)) (n : Nat), a.drop n = l → g l n = if (txC a l n != 0) = true then some (txC a l n) else k
 | [], n, _ => by simp [h0, txC]
 | x :: l, n, h => by
  have hn : n < a.length := by
   rcases Nat.lt_or_ge n a.length with h2 | h2
   ·exact h2
   ·rw [List.drop_eq_nil_of_le h2] at h; cases h
  rw [List.drop_eq_getElem_cons hn] at h
  injection h with hx hd
  have e : ((n : Int) + 1) = ((n + 1 : Nat) : Int) := rfl
  rw [h1 x l n (by rw [List.getElem?_eq_getElem hn, hx]) (by rw [← hx]; exact List.getElem_mem _), e, txL hl h0 h1 l (n + 1) hd]
  rw [txC]
  cases valB x
  ·simp
  ·simp only [Bool.not_true, Bool.false_eq_true, if_false]
   by_cases h2 : 0 < n
   ·rw [if_pos (decide_eq_true (by omega)), idx_prev (d := []) h2 (by omega) hl, Option.bind_some, decide_eq_true h2]
    simp only [Bool.true_and]
    cases (Op.bytesLess x (a.getD (n - 1) []) || x == a.getD (n - 1) []) <;> simp
   ·rw [decide_eq_false h2, if_neg (by simp; omega)]; simp
def txF (a : List (List UInt8)) : Int := if a.length = 0 then 13 else if 50 < a.length then 3 else txC a a 0
def okX (x : TTest) : Prop := okS x.Name ∧ (∀ s, s ∈ x.Texts → okS s) ∧ x.Texts.length ≤ maxLen ∧ x.Kids.length ≤ maxLen
theorem M67_eq (F : Nat) (a : List (List UInt8)) (ha : ∀ s, s ∈ a → okS s) (hl : a.length ≤ maxLen) : M67 F a = some (txF a) := by
 unfold M67 txF
 have h := txL (g := M67_L1 F a (some 0)) (k := some 0) hl (fun n => rfl) (fun x l n h1 h2 => by
  rw [M67_L1, M35_eq F x (ha x h2), Option.bind_some, jn_def]) a 0 rfl
 rw [show ((0 : Nat) : Int) = 0 from rfl] at h
 rw [jn_def, h]
 by_cases h1 : a.length = 0
 ·simp [h1]
 ·have h3 : (((a.length : Nat) : Int) == 0) = false := beq_false_of_ne (by omega)
  rw [h3, if_neg h1, if_neg (by simp : ¬ (false = true))]
  by_cases h2 : 50 < a.length
  ·rw [if_pos h2, if_pos (decide_eq_true (by omega))]
  ·have h5 : decide (((a.length : Nat) : Int) > 50) = false := decide_eq_false (by omega)
   rw [if_neg h2, h5]
   by_cases h4 : txC a a 0 = 0 <;> simp [h4]
theorem M36_eq (F : Nat) (n : Int) : M36 F n = some (decide (-1000000000000 ≤ n) && decide (n ≤ 1000000000000)) := by
 unfold M36
 by_cases h : -1000000000000 ≤ n
 ·simp [h, show n ≥ -1000000000000 from h]
 ·simp [h, show ¬ n ≥ -1000000000000 from h]
theorem M39_eq (F : Nat) (a b c : Int) : M39 F a b c = some (decide (a < b) || decide (a > c)) := by
 unfold M39
 by_cases h : a < b <;> simp [h]
theorem M68_L1_eq : ∀ (F : Nat) (x : TTest) (k : Option Int) (hx : okX x), M68_L1 F x k x.Texts ((0 : Nat) : Int) = if (txC x.Texts x.Texts 0 != 0) = true then some (txC x.Texts x.Texts 0) else k := (fun (F : Nat) (x : TTest) (k : Option Int) (hx : okX x) => txL (g := M68_L1 F x k) (k := k) hx.2.2.1 (fun n => rfl) (fun y l n h1 h2 => by
  have hn : n < x.Texts.length := (List.getElem?_eq_some_iff.1 h1).1
  have hi : idx x.Texts (n : Int) = some y := by rw [idx_nat hn]; exact (List.getElem?_eq_getElem hn).symm.trans h1
  show jn _ _ = _
  rw [jn_def, M38_eq F y (hx.2.1 y h2), Option.bind_some, hi]
  cases valB y <;> rfl) x.Texts 0 rfl)
theorem M68_L2_eq : ∀ (F : Nat) (x : TTest) (k : Option Int) (hx : okX x), M68_L2 F x k x.Texts ((0 : Nat) : Int) = if (txC x.Texts x.Texts 0 != 0) = true then some (txC x.Texts x.Texts 0) else k := (fun (F : Nat) (x : TTest) (k : Option Int) (hx : okX x) => txL (g := M68_L2 F x k) (k := k) hx.2.2.1 (fun n => rfl) (fun y l n h1 h2 => by
  have hn : n < x.Texts.length := (List.getElem?_eq_some_iff.1 h1).1
  have hi : idx x.Texts (n : Int) = some y := by rw [idx_nat hn]; exact (List.getElem?_eq_getElem hn).symm.trans h1
  show jn _ _ = _
  rw [jn_def, M38_eq F y (hx.2.1 y h2), Option.bind_some, hi]
  cases valB y <;> rfl) x.Texts 0 rfl)
def outN (n : Int) : Bool := decide (n < -1000000000000) || decide (n > 1000000000000)
theorem M39_N (F : Nat) (n : Int) : M39 F n (-1000000000000) 1000000000000 = some (outN n) := M39_eq F n _ _
theorem M39_18 (F : Nat) (n : Int) : M39 F n 1 8 = some (decide (n < 1) || decide (n > 8)) := M39_eq F n _ _
theorem M39_15 (F : Nat) (n : Int) : M39 F n 1 5 = some (decide (n < 1) || decide (n > 5)) := M39_eq F n _ _
theorem M36_N (F : Nat) (n : Int) : M36 F n = some (!outN n) := by
 rw [M36_eq, outN, Bool.not_or, ← decide_not, ← decide_not]
 exact congrArg some (congr (congrArg and (decide_eq_decide.2 (by omega))) (decide_eq_decide.2 (by omega)))
def nodeV (x : TTest) : Int :=
 if x.Kind < 1 ∨ 8 < x.Kind then 7
 else if !(decide (2 ≤ x.Kind) && decide (x.Kind ≤ 5)) && !(x.Name == []) || !(x.Kind == 2 || x.Kind == 3) && decide (0 < x.Texts.length) || !(x.Kind == 5) && (x.Op != 0 || x.N != 0) ||
  !(if x.Kind = 6 then x.Kids.length == 1 else if 7 ≤ x.Kind then decide (2 ≤ x.Kids.length) else x.Kids.length == 0) then 2
 else if (decide (2 ≤ x.Kind) && decide (x.Kind ≤ 5)) && !nameB x.Name then 8
 else if x.Kind = 2 ∨ x.Kind = 3 then txF x.Texts
 else if x.Kind = 5 then (if x.Op < 1 ∨ 5 < x.Op then 7 else if outN x.N = true then 9 else 0)
 else 0
theorem kid0 {n : Nat} : (((n : Nat) : Int) == 0) = (n == 0) := by
 by_cases h : n = 0
 ·simp [h]
 ·rw [beq_false_of_ne h, beq_false_of_ne (by omega)]
theorem kid1 {n : Nat} : (((n : Nat) : Int) == 1) = (n == 1) := by
 by_cases h : n = 1
 ·simp [h]
 ·rw [beq_false_of_ne h, beq_false_of_ne (by omega)]
theorem gt0 {n : Nat} : decide (((n : Nat) : Int) > 0) = decide (0 < n) := decide_eq_decide.2 (by omega)
theorem ge2 {n : Nat} : decide (((n : Nat) : Int) ≥ 2) = decide (2 ≤ n) := decide_eq_decide.2 (by omega)
theorem gt50 {n : Nat} : decide (((n : Nat) : Int) > 50) = decide (50 < n) := decide_eq_decide.2 (by omega)
noncomputable def usesA : Nat → Tpolicy_uses := (M65 0).get rfl
theorem M65_eq (F : Nat) : M65 F = some usesA := rfl
theorem uses_1 : usesA 1 = ⟨false, false, false, 0⟩ := rfl
theorem uses_2 : usesA 2 = ⟨true, true, false, 0⟩ := rfl
theorem uses_3 : usesA 3 = ⟨true, true, false, 0⟩ := rfl
theorem uses_4 : usesA 4 = ⟨true, false, false, 0⟩ := rfl
theorem uses_5 : usesA 5 = ⟨true, false, true, 0⟩ := rfl
theorem uses_6 : usesA 6 = ⟨false, false, false, 1⟩ := rfl
theorem uses_7 : usesA 7 = ⟨false, false, false, -1⟩ := rfl
theorem uses_8 : usesA 8 = ⟨false, false, false, -1⟩ := rfl
def fm (u : Tpolicy_uses) (x : TTest) : Bool := (u.name || (x.Name == [])) && (u.texts || !decide (0 < x.Texts.length)) && (u.number || ((x.Op == 0) && (x.N == 0))) && (if u.kids < 0 then decide (2 ≤ x.Kids.length) else (((x.Kids.length : Nat) : Int) == u.kids))
theorem M66_eq (F : Nat) (x : TTest) (h : 0 ≤ x.Kind ∧ x.Kind.toNat < 9) : M66 F x = some (fm (usesA x.Kind.toNat) x) := by
 unfold M66 fm
 rw [M65_eq, Option.bind_some, if_pos h]
 generalize usesA x.Kind.toNat = u
 simp only [gt0, ge2]
 by_cases hk : u.kids < 0
 ·simp only [if_pos hk, decide_eq_true hk]
  cases u.name <;> cases u.texts <;> cases u.number <;> by_cases a1 : x.Name = [] <;> by_cases a2 : 0 < x.Texts.length <;> by_cases a3 : x.Op = 0 <;> by_cases a4 : x.N = 0 <;> simp [a1, a2, a3, a4]
 ·simp only [if_neg hk, decide_eq_false hk]
  cases u.name <;> cases u.texts <;> cases u.number <;> by_cases a1 : x.Name = [] <;> by_cases a2 : 0 < x.Texts.length <;> by_cases a3 : x.Op = 0 <;> by_cases a4 : x.N = 0 <;> simp [a1, a2, a3, a4]
def nodeU (u : Tpolicy_uses) (x : TTest) : Int := if !fm u x then 2 else if u.name && !nameB x.Name then 8 else if u.texts && txF x.Texts != 0 then txF x.Texts else if u.number && (decide (x.Op < 1) || decide (x.Op > 5)) then 7 else if u.number && outN x.N then 9 else 0
theorem M41_B_u (F : Nat) (R : TTest → Option Int) (x : TTest) (hx : okX x) (h : 1 ≤ x.Kind ∧ x.Kind ≤ 8) : M41_B R F x = if (nodeU (usesA x.Kind.toNat) x != 0) = true then some (nodeU (usesA x.Kind.toNat) x) else M41_L1 R F (some 0) x.Kids := by
 have h9 : 0 ≤ x.Kind ∧ x.Kind.toNat < 9 := by omega
 unfold M41_B nodeU
 rw [M66_eq F x h9, M65_eq, Option.bind_some, if_pos h9, Option.bind_some, M34_eq F x.Name hx.1, M67_eq F x.Texts hx.2.1 hx.2.2.1, M36_N, decide_eq_false (show ¬ x.Kind < 1 by omega), decide_eq_false (show ¬ x.Kind > 8 by omega)]
 simp only [jn_def, Option.bind_some]
 generalize usesA x.Kind.toNat = u
 generalize M41_L1 R F (some 0) x.Kids = L
 generalize fm u x = b0
 generalize nameB x.Name = b1
 generalize txF x.Texts = t1
 generalize outN x.N = b2
 generalize decide (x.Op < 1) = b3
 generalize decide (x.Op > 5) = b4
 by_cases h0 : t1 = 0 <;> cases b0 <;> cases u.name <;> cases u.texts <;> cases u.number <;> cases b1 <;> cases b2 <;> cases b3 <;> cases b4 <;> simp [h0]
theorem M68_k1 {F : Nat} {nm : List UInt8} {tx : List (List UInt8)} {op n : Int} {ks : List KRow} (hn : M37 F nm = some (nameB nm)) : M68 F ⟨1, nm, tx, op, n, ks⟩ = some (nodeV ⟨1, nm, tx, op, n, ks⟩) := by
 have e4 : tx = [] ↔ tx.length = 0 := List.length_eq_zero_iff.symm
 have e5 : ks = [] ↔ ks.length = 0 := List.length_eq_zero_iff.symm
 simp only [M68, M88, M39_18, M39_15, M39_N, jn_def, nodeV, gt0, gt50, kid0, hn]
 by_cases a1 : nm = [] <;> by_cases a2 : 0 < tx.length <;> by_cases a3 : op = 0 <;> by_cases a4 : n = 0 <;> by_cases a5 : ks.length = 0 <;> simp [a1, a2, a3, a4, a5, e4, e5]
theorem nodeU_k1 {nm : List UInt8} {tx : List (List UInt8)} {op n : Int} {ks : List KRow} : nodeU (usesA 1) ⟨1, nm, tx, op, n, ks⟩ = nodeV ⟨1, nm, tx, op, n, ks⟩ := by
 have e5 : ks = [] ↔ ks.length = 0 := List.length_eq_zero_iff.symm
 rw [uses_1]
 simp only [nodeU, fm, nodeV, gt0, kid0]
 by_cases a1 : nm = [] <;> by_cases a2 : 0 < tx.length <;> by_cases a3 : op = 0 <;> by_cases a4 : n = 0 <;> by_cases a5 : ks.length = 0 <;> simp [a1, a2, a3, a4, a5, e5, kid0]
theorem M68_k2 {F : Nat} {nm : List UInt8} {tx : List (List UInt8)} {op n : Int} {ks : List KRow} (hn : M37 F nm = some (nameB nm)) (h1 : ∀ k, M68_L1 F ⟨2, nm, tx, op, n, ks⟩ k tx 0 = if (txC tx tx 0 != 0) = true then some (txC tx tx 0) else k) : M68 F ⟨2, nm, tx, op, n, ks⟩ = some (nodeV ⟨2, nm, tx, op, n, ks⟩) := by
 have e4 : tx = [] ↔ tx.length = 0 := List.length_eq_zero_iff.symm
 have e5 : ks = [] ↔ ks.length = 0 := List.length_eq_zero_iff.symm
 simp only [M68, M88, M39_18, M39_15, M39_N, jn_def, nodeV, gt0, gt50, kid0, hn, h1, txF]
 by_cases a1 : nameB nm = true <;> by_cases a2 : tx.length = 0 <;> by_cases a3 : 50 < tx.length <;> by_cases a4 : op = 0 <;> by_cases a5 : n = 0 <;> by_cases a6 : ks.length = 0 <;> by_cases a7 : txC tx tx 0 = 0 <;> simp [a1, a2, a3, a4, a5, a6, a7, e4, e5]
theorem nodeU_k2 {nm : List UInt8} {tx : List (List UInt8)} {op n : Int} {ks : List KRow} : nodeU (usesA 2) ⟨2, nm, tx, op, n, ks⟩ = nodeV ⟨2, nm, tx, op, n, ks⟩ := by
 have e5 : ks = [] ↔ ks.length = 0 := List.length_eq_zero_iff.symm
 rw [uses_2]
 simp only [nodeU, fm, nodeV, gt0, kid0]
 by_cases a1 : nameB nm = true <;> by_cases a2 : op = 0 <;> by_cases a3 : n = 0 <;> by_cases a4 : ks.length = 0 <;> by_cases a5 : txF tx = 0 <;> simp [a1, a2, a3, a4, a5, e5, kid0]
theorem M68_k3 {F : Nat} {nm : List UInt8} {tx : List (List UInt8)} {op n : Int} {ks : List KRow} (hn : M37 F nm = some (nameB nm)) (h1 : ∀ k, M68_L2 F ⟨3, nm, tx, op, n, ks⟩ k tx 0 = if (txC tx tx 0 != 0) = true then some (txC tx tx 0) else k) : M68 F ⟨3, nm, tx, op, n, ks⟩ = some (nodeV ⟨3, nm, tx, op, n, ks⟩) := by
 have e4 : tx = [] ↔ tx.length = 0 := List.length_eq_zero_iff.symm
 have e5 : ks = [] ↔ ks.length = 0 := List.length_eq_zero_iff.symm
 simp only [M68, M88, M39_18, M39_15, M39_N, jn_def, nodeV, gt0, gt50, kid0, hn, h1, txF]
 by_cases a1 : nameB nm = true <;> by_cases a2 : tx.length = 0 <;> by_cases a3 : 50 < tx.length <;> by_cases a4 : op = 0 <;> by_cases a5 : n = 0 <;> by_cases a6 : ks.length = 0 <;> by_cases a7 : txC tx tx 0 = 0 <;> simp [a1, a2, a3, a4, a5, a6, a7, e4, e5]
theorem nodeU_k3 {nm : List UInt8} {tx : List (List UInt8)} {op n : Int} {ks : List KRow} : nodeU (usesA 3) ⟨3, nm, tx, op, n, ks⟩ = nodeV ⟨3, nm, tx, op, n, ks⟩ := by
 have e5 : ks = [] ↔ ks.length = 0 := List.length_eq_zero_iff.symm
 rw [uses_3]
 simp only [nodeU, fm, nodeV, gt0, kid0]
 by_cases a1 : nameB nm = true <;> by_cases a2 : op = 0 <;> by_cases a3 : n = 0 <;> by_cases a4 : ks.length = 0 <;> by_cases a5 : txF tx = 0 <;> simp [a1, a2, a3, a4, a5, e5, kid0]
theorem M68_k4 {F : Nat} {nm : List UInt8} {tx : List (List UInt8)} {op n : Int} {ks : List KRow} (hn : M37 F nm = some (nameB nm)) : M68 F ⟨4, nm, tx, op, n, ks⟩ = some (nodeV ⟨4, nm, tx, op, n, ks⟩) := by
 have e4 : tx = [] ↔ tx.length = 0 := List.length_eq_zero_iff.symm
 have e5 : ks = [] ↔ ks.length = 0 := List.length_eq_zero_iff.symm
 simp only [M68, M88, M39_18, M39_15, M39_N, jn_def, nodeV, gt0, gt50, kid0, hn]
 by_cases a1 : nameB nm = true <;> by_cases a2 : 0 < tx.length <;> by_cases a3 : op = 0 <;> by_cases a4 : n = 0 <;> by_cases a5 : ks.length = 0 <;> simp [a1, a2, a3, a4, a5, e4, e5]
theorem nodeU_k4 {nm : List UInt8} {tx : List (List UInt8)} {op n : Int} {ks : List KRow} : nodeU (usesA 4) ⟨4, nm, tx, op, n, ks⟩ = nodeV ⟨4, nm, tx, op, n, ks⟩ := by
 have e5 : ks = [] ↔ ks.length = 0 := List.length_eq_zero_iff.symm
 rw [uses_4]
 simp only [nodeU, fm, nodeV, gt0, kid0]
 by_cases a1 : nameB nm = true <;> by_cases a2 : 0 < tx.length <;> by_cases a3 : op = 0 <;> by_cases a4 : n = 0 <;> by_cases a5 : ks.length = 0 <;> simp [a1, a2, a3, a4, a5, e5, kid0]
theorem M88_k5 {F : Nat} {nm : List UInt8} {tx : List (List UInt8)} {op n : Int} {ks : List KRow} : M88 F ⟨5, nm, tx, op, n, ks⟩ = some (if decide (0 < tx.length) = true then 2 else if (ks.length == 0) = true then 0 else 2) := by
 have e5 : ks = [] ↔ ks.length = 0 := List.length_eq_zero_iff.symm
 simp only [M88, M39_18, jn_def, gt0, kid0]
 by_cases a2 : 0 < tx.length <;> by_cases a3 : ks.length = 0 <;> simp [a2, a3, e5]
theorem M68_k5 {F : Nat} {nm : List UInt8} {tx : List (List UInt8)} {op n : Int} {ks : List KRow} (hn : M37 F nm = some (nameB nm)) : M68 F ⟨5, nm, tx, op, n, ks⟩ = some (nodeV ⟨5, nm, tx, op, n, ks⟩) := by
 have hv : nodeV ⟨5, nm, tx, op, n, ks⟩ = if (if decide (0 < tx.length) = true then (2 : Int) else if (ks.length == 0) = true then 0 else 2) = 2 then 2 else if nameB nm = false then 8 else if (decide (op < 1) || decide (op > 5)) = true then 7 else if outN n = true then 9 else 0 := by
  simp only [nodeV]
  generalize outN n = c1
  by_cases a1 : nameB nm = true <;> by_cases a2 : 0 < tx.length <;> by_cases a3 : ks.length = 0 <;> simp [a1, a2, a3]
 rw [hv]
 unfold M68
 rw [M88_k5, Option.bind_some]
 have hz : (if decide (0 < tx.length) = true then (2 : Int) else if (ks.length == 0) = true then 0 else 2) = 0 ∨ (if decide (0 < tx.length) = true then (2 : Int) else if (ks.length == 0) = true then 0 else 2) = 2 := by
  split
  ·exact Or.inr rfl
  ·split
   ·exact Or.inl rfl
   ·exact Or.inr rfl
 generalize (if decide (0 < tx.length) = true then (2 : Int) else if (ks.length == 0) = true then 0 else 2) = z at hz ⊢
 clear hv
 rcases hz with rfl | rfl
 ·rw [if_neg (show ¬ ((0 : Int) != 0) = true by decide), if_neg (show ¬ (0 : Int) = 2 by decide)]
  dsimp only
  rw [if_pos (show decide ((5 : Int) ≥ 2) = true from rfl), if_pos (show decide ((5 : Int) ≤ 5) = true from rfl), hn, Option.bind_some]
  cases nameB nm
  ·rfl
  ·rw [if_neg (show ¬ (!true) = true by decide), if_neg (show ¬ ((5 : Int) == 2) = true by decide), if_neg (show ¬ true = false by decide)]
   simp only [jn_def]
   rw [if_neg (show ¬ ((5 : Int) == 3) = true by decide), if_pos (show ((5 : Int) == 5) = true from rfl), M39_15, Option.bind_some, M39_N, Option.bind_some]
   cases decide (op < 1) || decide (op > 5)
   ·cases outN n <;> rfl
   ·rfl
 ·rfl
theorem nodeU_k5 {nm : List UInt8} {tx : List (List UInt8)} {op n : Int} {ks : List KRow} : nodeU (usesA 5) ⟨5, nm, tx, op, n, ks⟩ = nodeV ⟨5, nm, tx, op, n, ks⟩ := by
 have e5 : ks = [] ↔ ks.length = 0 := List.length_eq_zero_iff.symm
 rw [uses_5]
 simp only [nodeU, fm, nodeV, gt0, kid0]
 generalize outN n = c1
 by_cases a1 : nameB nm = true <;> by_cases a2 : 0 < tx.length <;> by_cases a3 : ks.length = 0 <;> by_cases a4 : op < 1 <;> by_cases a5 : 5 < op <;> cases c1 <;> simp [a1, a2, a3, a4, a5, e5, kid0]
theorem M68_k6 {F : Nat} {nm : List UInt8} {tx : List (List UInt8)} {op n : Int} {ks : List KRow} (hn : M37 F nm = some (nameB nm)) : M68 F ⟨6, nm, tx, op, n, ks⟩ = some (nodeV ⟨6, nm, tx, op, n, ks⟩) := by
 have e4 : tx = [] ↔ tx.length = 0 := List.length_eq_zero_iff.symm
 have e5 : ks = [] ↔ ks.length = 0 := List.length_eq_zero_iff.symm
 simp only [M68, M88, M39_18, M39_15, M39_N, jn_def, nodeV, gt0, gt50, kid1, hn]
 by_cases a1 : nm = [] <;> by_cases a2 : 0 < tx.length <;> by_cases a3 : op = 0 <;> by_cases a4 : n = 0 <;> by_cases a5 : ks.length = 1 <;> simp [a1, a2, a3, a4, a5, e4, e5]
theorem nodeU_k6 {nm : List UInt8} {tx : List (List UInt8)} {op n : Int} {ks : List KRow} : nodeU (usesA 6) ⟨6, nm, tx, op, n, ks⟩ = nodeV ⟨6, nm, tx, op, n, ks⟩ := by
 have e5 : ks = [] ↔ ks.length = 0 := List.length_eq_zero_iff.symm
 rw [uses_6]
 simp only [nodeU, fm, nodeV, gt0, kid1]
 by_cases a1 : nm = [] <;> by_cases a2 : 0 < tx.length <;> by_cases a3 : op = 0 <;> by_cases a4 : n = 0 <;> by_cases a5 : ks.length = 1 <;> simp [a1, a2, a3, a4, a5, e5, kid1]
theorem M68_k7 {F : Nat} {nm : List UInt8} {tx : List (List UInt8)} {op n : Int} {ks : List KRow} (hn : M37 F nm = some (nameB nm)) : M68 F ⟨7, nm, tx, op, n, ks⟩ = some (nodeV ⟨7, nm, tx, op, n, ks⟩) := by
 have e4 : tx = [] ↔ tx.length = 0 := List.length_eq_zero_iff.symm
 have e5 : ks = [] ↔ ks.length = 0 := List.length_eq_zero_iff.symm
 simp only [M68, M88, M39_18, M39_15, M39_N, jn_def, nodeV, gt0, gt50, kid0, ge2, hn]
 by_cases a1 : nm = [] <;> by_cases a2 : 0 < tx.length <;> by_cases a3 : op = 0 <;> by_cases a4 : n = 0 <;> by_cases a5 : 2 ≤ ks.length <;> simp [a1, a2, a3, a4, a5, e4, e5]
theorem nodeU_k7 {nm : List UInt8} {tx : List (List UInt8)} {op n : Int} {ks : List KRow} : nodeU (usesA 7) ⟨7, nm, tx, op, n, ks⟩ = nodeV ⟨7, nm, tx, op, n, ks⟩ := by
 have e5 : ks = [] ↔ ks.length = 0 := List.length_eq_zero_iff.symm
 rw [uses_7]
 simp only [nodeU, fm, nodeV, gt0, kid0, ge2]
 by_cases a1 : nm = [] <;> by_cases a2 : 0 < tx.length <;> by_cases a3 : op = 0 <;> by_cases a4 : n = 0 <;> by_cases a5 : 2 ≤ ks.length <;> simp [a1, a2, a3, a4, a5, e5, kid0, ge2]
theorem M68_k8 {F : Nat} {nm : List UInt8} {tx : List (List UInt8)} {op n : Int} {ks : List KRow} (hn : M37 F nm = some (nameB nm)) : M68 F ⟨8, nm, tx, op, n, ks⟩ = some (nodeV ⟨8, nm, tx, op, n, ks⟩) := by
 have e4 : tx = [] ↔ tx.length = 0 := List.length_eq_zero_iff.symm
 have e5 : ks = [] ↔ ks.length = 0 := List.length_eq_zero_iff.symm
 simp only [M68, M88, M39_18, M39_15, M39_N, jn_def, nodeV, gt0, gt50, kid0, ge2, hn]
 by_cases a1 : nm = [] <;> by_cases a2 : 0 < tx.length <;> by_cases a3 : op = 0 <;> by_cases a4 : n = 0 <;> by_cases a5 : 2 ≤ ks.length <;> simp [a1, a2, a3, a4, a5, e4, e5]
theorem nodeU_k8 {nm : List UInt8} {tx : List (List UInt8)} {op n : Int} {ks : List KRow} : nodeU (usesA 8) ⟨8, nm, tx, op, n, ks⟩ = nodeV ⟨8, nm, tx, op, n, ks⟩ := by
 have e5 : ks = [] ↔ ks.length = 0 := List.length_eq_zero_iff.symm
 rw [uses_8]
 simp only [nodeU, fm, nodeV, gt0, kid0, ge2]
 by_cases a1 : nm = [] <;> by_cases a2 : 0 < tx.length <;> by_cases a3 : op = 0 <;> by_cases a4 : n = 0 <;> by_cases a5 : 2 ≤ ks.length <;> simp [a1, a2, a3, a4, a5, e5, kid0, ge2]
theorem M68_eq (F : Nat) (x : TTest) (hx : okX x) : M68 F x = some (nodeV x) := by
 have h1 : ∀ k, _ := fun k => M68_L1_eq F x k hx
 have h2 : ∀ k, _ := fun k => M68_L2_eq F x k hx
 rw [show ((0 : Nat) : Int) = 0 from rfl] at h1 h2
 have hn := M37_eq F x.Name hx.1
 obtain ⟨kd, nm, tx, op, n, ks⟩ := x
 by_cases hk : kd < 1 ∨ 8 < kd
 ·have : (decide (kd < 1) || decide (kd > 8)) = true := by simp; omega
  simp only [M68, M88, M39_18, M39_15, M39_N, this, Option.bind_some, if_true, nodeV, if_pos hk]; rfl
 ·have hk' : kd = 1 ∨ kd = 2 ∨ kd = 3 ∨ kd = 4 ∨ kd = 5 ∨ kd = 6 ∨ kd = 7 ∨ kd = 8 := by omega
  rcases hk' with rfl | rfl | rfl | rfl | rfl | rfl | rfl | rfl
  ·exact M68_k1 hn
  ·exact M68_k2 hn h1
  ·exact M68_k3 hn h2
  ·exact M68_k4 hn
  ·exact M68_k5 hn
  ·exact M68_k6 hn
  ·exact M68_k7 hn
  ·exact M68_k8 hn
theorem nodeU_eq (x : TTest) (h : 1 ≤ x.Kind ∧ x.Kind ≤ 8) : nodeU (usesA x.Kind.toNat) x = nodeV x := by
 obtain ⟨kd, nm, tx, op, n, ks⟩ := x
 simp only at h
 have hk' : kd = 1 ∨ kd = 2 ∨ kd = 3 ∨ kd = 4 ∨ kd = 5 ∨ kd = 6 ∨ kd = 7 ∨ kd = 8 := by omega
 rcases hk' with rfl | rfl | rfl | rfl | rfl | rfl | rfl | rfl
 ·exact nodeU_k1
 ·exact nodeU_k2
 ·exact nodeU_k3
 ·exact nodeU_k4
 ·exact nodeU_k5
 ·exact nodeU_k6
 ·exact nodeU_k7
 ·exact nodeU_k8
theorem M41_B_eq (F : Nat) (R : TTest → Option Int) (x : TTest) (hx : okX x) : M41_B R F x = if (nodeV x != 0) = true then some (nodeV x) else M41_L1 R F (some 0) x.Kids := by
 by_cases h : 1 ≤ x.Kind ∧ x.Kind ≤ 8
 ·rw [M41_B_u F R x hx h, nodeU_eq x h]
 ·have h7 : nodeV x = 7 := by unfold nodeV; rw [if_pos (by omega)]
  rw [h7]
  unfold M41_B
  by_cases h1 : x.Kind < 1
  ·rw [if_pos (decide_eq_true h1)]; rfl
  ·rw [if_neg (by simp [h1]), if_pos (decide_eq_true (by omega))]; rfl
end Go.Proofs.YtkeeppclihjlhaaGreatDoor
