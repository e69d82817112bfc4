/- Part of the proof: K, H4O, H4M, Q, X. -/
import Derived.Test.YtcoppoeibjkinaaDoorMPvU
import Derived.WideKeyArgs
import Derived.Deep.Slices
import Derived.ProofKit
import Derived.OpenShut
import Derived.JoinedCond
import Derived.Test.YtcoppoeibjkinaaDoorMH4T
import Derived.KernelRfl
import Derived.Test.YtcoppoeibjkinaaDoorMPvT
namespace Go.Pv
open Go Go.ChangeShapes Go.WideShapes
set_option linter.unusedVariables false
mutual
def bulk {H : Type} : DataW H → Nat
 | .lit (.string bytes) => bytes.length + 1
 | .lit _ => 1
 | .nil => 1
 | .ptr d => bulk d + 1
 | .slice elems spare => bulkAll elems + bulkAll spare + 1
 | .agg parts => bulkAll parts + 1
 | .iface _ d => bulk d + 1
 | .map entries => bulkEnts entries + 1
 | .held _ => 1
def bulkAll {H : Type} : List (DataW H) → Nat
 | [] => 0
 | d :: r => bulk d + bulkAll r
def bulkEnts {H : Type} : List (Lit × DataW H) → Nat
 | [] => 0
 | x :: r => bulkEnt x + bulkEnts r
def bulkEnt {H : Type} : Lit × DataW H → Nat
 | (.string bytes, d) => bytes.length + bulk d + 1
 | (_, d) => bulk d + 1
end
def memOf (w : World) : Mem := fun b => w.heap[b]?
def IRelL (m : Mem) (ds : List V) (cs : List Value) : Prop :=
 ds.length = cs.length ∧ ∀ (i : Nat) (c : V) (v : Value), ds[i]? = some c → cs[i]? = some v → IRel m c v
theorem IRelL.one {m : Mem} {d : V} {c : Value} (h : IRel m d c) : IRelL m [d] [c] :=
 ⟨rfl, fun i d' c' hd hc => by
  match i with
  | 0 => simp at hd hc; subst hd; subst hc; exact h
  | _ + 1 => simp at hd⟩
theorem IRelL.app {m : Mem} {a b : List V} {x y : List Value} (h : IRelL m a x) (h' : IRelL m b y) : IRelL m (a ++ b) (x ++ y) := by
 refine ⟨by simp [h.1, h'.1], fun i c v hc hv => ?_⟩
 by_cases hi : i < a.length
 ·rw [List.getElem?_append_left hi] at hc
  rw [List.getElem?_append_left (by rw [← h.1]; exact hi)] at hv
  exact h.2 i c v hc hv
 ·rw [List.getElem?_append_right (by omega)] at hc
  rw [List.getElem?_append_right (by rw [← h.1]; omega), ← h.1] at hv
  exact h'.2 _ c v hc hv
section
variable {P : Program} {t e : TypeId} {α β : Type}
def wOk {H : Type} (P : Program) (t : TypeId) (d : DataW H) : Prop := (d.weights P t).all (· ≤ reachBytes) = true
def wOks {H : Type} (P : Program) (ts : List TypeId) (ds : List (DataW H)) : Prop := (DataW.weightsEach P ts ds).all (· ≤ reachBytes) = true
theorem wOks_cons {H : Type} {P : Program} {t : TypeId} {ts : List TypeId} {d : DataW H} {ds : List (DataW H)} (h : wOks P (t :: ts) (d :: ds)) : wOk P t d ∧ wOks P ts ds := by
 unfold wOks wOk at *
 rw [DataW.weightsEach, List.all_append, Bool.and_eq_true] at h
 exact h
theorem wAll {H : Type} {P : Program} {e : TypeId} : ∀ (l : List (DataW H)), (DataW.weightsAll P e l).all (· ≤ reachBytes) = true → ∀ d, d ∈ l → wOk P e d
 | [], _, d, hd => by simp at hd
 | x :: l, h, d, hd => by
  rw [DataW.weightsAll, List.all_append, Bool.and_eq_true] at h
  rcases List.mem_cons.1 hd with rfl | hd
  ·exact h.1
  ·exact wAll l h.2 d hd
def Opens (P : Program) (t : TypeId) (e : α → List V) (sz : α → Nat) (ok : α → Prop) : Prop :=
 ∀ {H : Type} (enc : TypeId × Value → H) (w : World) (fuel : Nat) (cs : List Value) (x : DataW H × List MemPlace),
  DataW.trod enc P w 0 (fun _ => true) true fuel t cs = some x → wOk P t x.1 → ∃ a : α, IRelL (memOf w) (e a) cs ∧ sz a ≤ bulk x.1 ∧ ok a
theorem opens_int {k : IntKind} (ht : P.underlying t = some (.int k)) : Opens P t (fun n : Int => [V.con (.int k n)]) (fun _ => 1) (fun n => k.min ≤ n ∧ n ≤ k.max) := by
 intro H enc w fuel cs x h hw
 obtain ⟨n, rfl, rfl, hw'⟩ := DataW.trod_int ht h
 simp only [Lit.wf, Bool.and_eq_true, decide_eq_true_eq] at hw'
 exact ⟨n, IRelL.one (.con _), by simp [bulk], hw'⟩
theorem opens_string (ht : P.underlying t = some .string) : Opens P t (fun s : List UInt8 => [sV s]) (fun s => s.length + 1) (fun s => s.length ≤ maxLen) := by
 intro H enc w fuel cs x h hw
 obtain ⟨s, rfl, rfl, hs⟩ := DataW.trod_string ht h
 refine ⟨s.data.toList, IRelL.one ?_, by simp [bulk], by simpa using hs⟩
 have : str s.data.toList = .string s := by simp [str]
 unfold sV
 rw [this]
 exact .con _
theorem list_of {p : Nat → α → Prop} : ∀ {n : Nat}, (∀ i, i < n → ∃ a, p i a) → ∃ l : List α, l.length = n ∧ ∀ i a, l[i]? = some a → p i a
 | 0, _ => ⟨[], rfl, by simp⟩
 | n + 1, h => by
  obtain ⟨l, hl, hp⟩ := list_of (n := n) fun i hi => h i (by omega)
  obtain ⟨a, ha⟩ := h n (by omega)
  refine ⟨l ++ [a], by simp [hl], fun i b hb => ?_⟩
  by_cases hi : i < l.length
  ·rw [List.getElem?_append_left hi] at hb; exact hp i b hb
  ·rw [List.getElem?_append_right (by omega)] at hb
   have : i - l.length = 0 := by
    have := (List.getElem?_eq_some_iff.1 hb).1
    simp at this; omega
   rw [this] at hb
   simp at hb
   subst hb
   rw [show i = n by omega]; exact ha
theorem bulkAll_map {H : Type} {n : Nat} (D : Nat → DataW H) : bulkAll ((List.range n).map D) = ((List.range n).map fun i => bulk (D i)).sum := by
 generalize List.range n = l
 induction l with
 | nil => rfl
 | cons a l ih => simp [bulkAll, ih]
theorem sum_le {l : List α} {sz : α → Nat} {g : Nat → Nat} (h : ∀ i a, l[i]? = some a → sz a ≤ g i) : (l.map sz).sum ≤ ((List.range l.length).map g).sum := by
 induction l generalizing g with
 | nil => simp
 | cons a l ih =>
  rw [List.length_cons, List.range_succ_eq_map]
  simp only [List.map_cons, List.sum_cons, List.map_map]
  have h0 := h 0 a rfl
  have h1 := ih (g := g ∘ Nat.succ) fun i b hb => h (i + 1) b (by simpa using hb)
  exact Nat.add_le_add h0 h1
theorem opens_slice {k : Nat} {ee : α → List V} {sz : α → Nat} {ok : α → Prop} (ht : P.underlying t = some (.slice e)) (hk : P.cellsOf e = k) (h0 : 0 < k) (he : Opens P e ee sz ok) :
  Opens P t (fun l : List α => [V.lst k (l.map ee)]) (fun l => (l.map sz).sum + 1) (fun l => (∀ a, a ∈ l → ok a) ∧ l.length ≤ maxLen) := by
 intro H enc w fuel cs x h hw
 rcases Deep.open_slice ht h with ⟨rfl, rfl⟩ | ⟨a, len, cap, m, n, D, Pl, rfl, _, hlc, hcm, hm, rfl, hel⟩
 ·exact ⟨[], IRelL.one (.nil _ _ _), by simp [bulk], by simp⟩
 ·simp only [if_true] at hm
  subst hm
  obtain ⟨l, hl, hp⟩ := list_of (n := len) (p := fun i (b : α) => sz b ≤ bulk (D i) ∧ ok b ∧ ∃ cs', w.cells? 0 (a.add (i * P.cellsOf e)) (P.cellsOf e) = some cs' ∧ IRelL (memOf w) (ee b) cs') (by
   intro i hi
   obtain ⟨cs', hc, hd⟩ := hel i (by omega)
   obtain ⟨b, h1, h2, h3⟩ := he _ _ _ _ _ hd (by
    unfold wOk at hw
    rw [DataW.weights] at hw
    simp only [ht, List.all_cons, List.all_append, Bool.and_eq_true] at hw
    exact wAll _ hw.2.1 _ (List.mem_map.2 ⟨i, List.mem_range.2 hi, rfl⟩))
   exact ⟨b, h2, h3, cs', hc, h1⟩)
  refine ⟨l, IRelL.one ?_, ?_, fun b hb => ?_, by omega⟩
  ·by_cases hz : len = 0
   ·subst hz
    have : l = [] := List.length_eq_zero_iff.1 hl
    subst this
    exact .nil _ _ _
   ·have hcell : ∀ i j b, l[i]? = some b → j < k → ∃ v, w.cell? ((a.add (i * k)).add j) = some v ∧ (∃ c, (ee b)[j]? = some c) ∧ ∀ c, (ee b)[j]? = some c → IRel (memOf w) c v := by
     intro i j b hb hj
     obtain ⟨_, _, cs', hc, hr⟩ := hp i b hb
     rw [hk] at hc
     obtain ⟨_, hn, hcs⟩ := World.cells?_some hc
     have hj' : j < cs'.length := by omega
     have hv : cs'[j]? = some cs'[j] := List.getElem?_eq_getElem hj'
     have hj2 : j < (ee b).length := by rw [hr.1]; exact hj'
     exact ⟨cs'[j], (hcs j hj).trans hv, ⟨(ee b)[j], List.getElem?_eq_getElem hj2⟩, fun c hcc => hr.2 j c _ hcc hv⟩
    have hlen : ∀ b, b ∈ l → (ee b).length = k := by
     intro b hb
     obtain ⟨i, hi⟩ := List.mem_iff_getElem?.1 hb
     obtain ⟨_, _, cs', hc, hr⟩ := hp i b hi
     rw [hk] at hc
     rw [hr.1, (World.cells?_some hc).2.1]
    have hb0 : ∃ b, l[0]? = some b := ⟨l[0]'(by omega), List.getElem?_eq_getElem _⟩
    obtain ⟨b0, hb0⟩ := hb0
    obtain ⟨v0, hv0, _⟩ := hcell 0 0 b0 hb0 h0
    have hadd0 : (a.add (0 * k)).add 0 = a := by simp [Addr.add]
    rw [hadd0] at hv0
    unfold World.cell? at hv0
    split at hv0
    case h_2 => simp at hv0
    rename_i arr T fr hblk
    have hsp : a.spot = none := by
     cases hs : a.spot with
     | none => rfl
     | some s => simp [hs] at hv0
    have hget : ∀ i j b, l[i]? = some b → j < k → ∃ v, arr[a.off + (i * k + j)]? = some v ∧ (∃ c, (ee b)[j]? = some c) ∧ ∀ c, (ee b)[j]? = some c → IRel (memOf w) c v := by
     intro i j b hb hj
     obtain ⟨v, hv, hc⟩ := hcell i j b hb hj
     rw [Deep.add_add] at hv
     unfold World.cell? at hv
     have hbk : (a.add (i * k + j)).block = a.block := by unfold Addr.add; split <;> rfl
     have hso : (a.add (i * k + j)).spot = none := by unfold Addr.add; split <;> simp [hsp]
     have hof : (a.add (i * k + j)).off = a.off + (i * k + j) := by unfold Addr.add; split <;> simp [*]
     rw [hbk, hblk] at hv
     simp only [hso, hof] at hv
     exact ⟨v, by simpa using hv, hc⟩
    refine IRel.lst (arr := arr) (T := T) (fr := fr) (fun i => (arr[a.off + i]?).getD undef) hblk hsp (by simpa using hl) hlc (by omega) ?_ ?_ ?_
    ·intro row hrow
     obtain ⟨b, hb, rfl⟩ := List.mem_map.1 hrow
     exact hlen b hb
    ·intro i hi
     rw [List.length_map] at hi
     have hq : i / k < l.length := Nat.div_lt_of_lt_mul (by rw [Nat.mul_comm]; exact hi)
     obtain ⟨v, hv, _⟩ := hget (i / k) (i % k) l[i / k] (List.getElem?_eq_getElem hq) (Nat.mod_lt _ h0)
     have : i / k * k + i % k = i := by rw [Nat.mul_comm]; exact Nat.div_add_mod i k
     rw [this] at hv
     simp [hv]
    ·intro i j row c hrow hc
     rw [List.getElem?_map, Option.map_eq_some_iff] at hrow
     obtain ⟨b, hb, rfl⟩ := hrow
     have hj : j < k := by
      have := (List.getElem?_eq_some_iff.1 hc).1
      rw [hlen b (List.mem_iff_getElem?.2 ⟨i, hb⟩)] at this
      exact this
     obtain ⟨v, hv, _, hcr⟩ := hget i j b hb hj
     simp only [hv, Option.getD_some]
     exact hcr c hc
  ·simp only [bulk]
   rw [bulkAll_map]
   have := sum_le (l := l) (sz := sz) (g := fun i => bulk (D i)) fun i b hb => (hp i b hb).1
   rw [hl] at this
   omega
  ·obtain ⟨i, hi⟩ := List.mem_iff_getElem?.1 hb
   exact (hp i b hi).2.1
def FOpens (P : Program) (N : Nat) (fs : List (TypeId × Nat × Nat)) (off : Nat) (e : α → List V) (sz : α → Nat) (ok : α → Prop) : Prop :=
 ∀ {H : Type} (enc : TypeId × Value → H) (w : World) (n : Nat) (cs : List Value) (xs : List (DataW H × List MemPlace)), cs.length = N → xs.length = fs.length →
  (∀ (i : Nat) (f : TypeId × Nat × Nat), fs[i]? = some f → DataW.trod enc P w 0 (fun _ => true) true n f.1 ((cs.drop f.2.1).take f.2.2) = xs[i]?) →
  wOks P (fs.map (·.1)) (xs.map (·.1)) → ∃ a : α, IRelL (memOf w) (e a) (cs.drop off) ∧ sz a ≤ bulkAll (xs.map (·.1)) ∧ ok a
theorem fopens_nil {N : Nat} : FOpens P N [] N (fun _ : Unit => []) (fun _ => 0) (fun _ => True) := by
 intro H enc w n cs xs hN hx _ _
 refine ⟨(), ?_, by simp, trivial⟩
 rw [← hN]
 simp [IRelL]
theorem fopens_cons {N k off : Nat} {ft : TypeId} {fs : List (TypeId × Nat × Nat)} {ea : α → List V} {eb : β → List V} {sa : α → Nat} {sb : β → Nat} {oa : α → Prop} {ob : β → Prop}
  (h : Opens P ft ea sa oa) (hr : FOpens P N fs (off + k) eb sb ob) : FOpens P N ((ft, off, k) :: fs) off (fun p : α × β => ea p.1 ++ eb p.2) (fun p => sa p.1 + sb p.2) (fun p => oa p.1 ∧ ob p.2) := by
 intro H enc w n cs xs hN hx hf hw
 match xs, hx with
 | x :: xs, hx =>
  have h1 := hf 0 _ rfl
  simp only [List.getElem?_cons_zero] at h1
  have hw' := wOks_cons hw
  obtain ⟨a, ha, hs, ho⟩ := h enc w n _ x h1 hw'.1
  have hb' := hr enc w n cs xs hN (by simpa using hx) fun i f hi => by
   have := hf (i + 1) f (by simpa using hi)
   simpa using this
  obtain ⟨b, hb, hs', ho'⟩ := hb' hw'.2
  refine ⟨(a, b), ?_, by simp only [List.map_cons, bulkAll]; omega, ho, ho'⟩
  have := ha.app hb
  rw [show (cs.drop off).take k ++ cs.drop (off + k) = cs.drop off by rw [← List.drop_drop]; exact List.take_append_drop _ _] at this
  exact this
def fieldsOf (P : Program) (t : TypeId) : Option (List (TypeId × Nat × Nat)) :=
 match P.underlying t with
 | some (.struct fs) => some (fs.toList.map fun f => (f.type, f.offset, P.cellsOf f.type))
 | _ => none
theorem opens_struct {N : Nat} {fs : List (TypeId × Nat × Nat)} {e : α → List V} {sz : α → Nat} {ok : α → Prop} (ht : fieldsOf P t = some fs) (hN : P.cellsOf t = N) (h : FOpens P N fs 0 e sz ok) :
  Opens P t e (fun a => sz a + 1) ok := by
 intro H enc w fuel cs x hx hw
 unfold fieldsOf at ht
 split at ht
 case h_2 => simp at ht
 rename_i gs hu
 simp only [Option.some.injEq] at ht
 subst ht
 obtain ⟨xs, n, _, rfl, hl, hxl, hf⟩ := DataW.trod_struct hu hx
 have ha' := h enc w n cs xs (hl.trans hN) (by simpa using hxl) fun i f hi => by
  rw [List.getElem?_map, Option.map_eq_some_iff] at hi
  obtain ⟨g, hg, rfl⟩ := hi
  exact hf i g (by simpa using hg)
 obtain ⟨a, h1, h2, h3⟩ := ha' (by
  unfold wOk at hw
  rw [DataW.weights] at hw
  simp only [hu] at hw
  unfold wOks
  rw [List.map_map]
  exact hw)
 exact ⟨a, by simpa using h1, by simp only [bulk]; omega, h3⟩
theorem opens_map {ea : α → List V} {eb : β → List V} {sa : α → Nat} {sb : β → Nat} {oa : α → Prop} {ob : β → Prop} (h : Opens P t ea sa oa) (g : α → β)
  (he : ∀ a, eb (g a) = ea a) (hs : ∀ a, sb (g a) = sa a) (ho : ∀ a, oa a → ob (g a)) : Opens P t eb sb ob := by
 intro H enc w fuel cs x hx hw
 obtain ⟨a, h1, h2, h3⟩ := h enc w fuel cs x hx hw
 exact ⟨g a, by rw [he]; exact h1, by rw [hs]; exact h2, ho a h3⟩
def OpensV (P : Program) (t : TypeId) (e : α → V) (sz : α → Nat) (ok : α → Prop) : Prop :=
 ∀ {H : Type} (enc : TypeId × Value → H) (w : World) (base : Nat) (v : Value) (d : DataW H) (p : List MemPlace),
  Value.okWide P w .any base t v → DataW.Trod enc P w 0 (fun _ => true) true t v d p → wOk P t d → ∃ a : α, IRel (memOf w) (e a) v ∧ sz a ≤ bulk d ∧ ok a
theorem opensV_agg {fs : List (TypeId × Nat × Nat)} {e : α → List V} {sz : α → Nat} {ok : α → Prop} (ht : fieldsOf P t = some fs) (h : Opens P t e sz ok) : OpensV P t (fun a => .agg (e a)) sz ok := by
 intro H enc w base v d p hv ⟨n, hd⟩ hw
 unfold fieldsOf at ht
 split at ht
 case h_2 => simp at ht
 rename_i gs hu
 obtain ⟨cs, rfl, _⟩ := okWide_struct hu hv
 obtain ⟨a, h1, h2, h3⟩ := h enc w n _ _ hd hw
 exact ⟨a, .agg (by simpa [Value.cells] using h1.1) (fun i c v' hc hv' => h1.2 i c v' hc (by simpa [Value.cells] using hv')), h2, h3⟩
theorem sameAt_of {w w' : World} (h : ∀ b, b < w.heap.size → w'.heap[b]? = w.heap[b]?) {p : MemPlace} (hp : p.block < w.heap.size) : w.sameAt w' p := by
 cases p with
 | cell b o => simp only [World.sameAt, World.cell?]; rw [h b hp]
 | map b => exact h b hp
theorem trodAll_stays {H : Type} {enc : TypeId × Value → H} (hl : laidOutB P = true) {w w' : World} {sp : Nat → Bool} (hh : ∀ b, b < w.heap.size → w'.heap[b]? = w.heap[b]?)
  (hs : ∀ b, b < w.heap.size → sp b = true) : ∀ {ts : List TypeId} {vs : List Value} {ds : List (DataW H)} {ps : List MemPlace},
  (ts.all fun t => P.readableRec t && decide (t < P.types.size)) = true → DataW.TrodAll enc P w 0 (fun _ => true) true ts vs ds ps → (∀ p ∈ ps, p.block < w.heap.size) → DataW.TrodAll enc P w' 0 sp true ts vs ds ps
 | [], [], [], _, _, h, _ => h
 | t :: ts, v :: vs, d :: ds, _, hr, ⟨p, q, h1, h2, e⟩, hlt => by
  subst e
  simp only [List.all_cons, Bool.and_eq_true, decide_eq_true_eq] at hr
  exact ⟨p, q, WideElems.Trod_stays hl hr.1.1 hr.1.2 h1 (fun x hx => sameAt_of hh (hlt x (List.mem_append_left _ hx))) (fun x hx => hs _ (hlt x (List.mem_append_left _ hx))),
   trodAll_stays hl hh hs (by simpa using hr.2) h2 (fun x hx => hlt x (List.mem_append_right _ hx)), rfl⟩
theorem kept_of {w w' : World} (hs : Same w w') (hh : ∀ b, b < w.heap.size → w'.heap[b]? = w.heap[b]?) (may : MemPlace → Prop) : w.keptBut w' may := by
 refine ⟨hs.os, hs.output, fun i hi => ?_⟩
 rw [hh i hi]
 split <;> first | exact ⟨rfl, rfl, rfl, fun _ _ => rfl⟩ | exact .inr ⟨rfl, rfl⟩ | rfl | skip
 all_goals simp_all
theorem law_post {H : Type} {enc : TypeId × Value → H} {f : Func} {s : ChangeSpec} {apart fresh handsOn : Bool} {w w' : World} {args : Array Value} {v : Value} {ds gs : List (DataW H)} {before : List MemPlace} {m m' : Mem} {tb : TypeId}
  (hl : laidOutB P = true) (hts : (f.params.toList.all fun t => P.readableRec t && decide (t < P.types.size)) = true) (hv : s.vars = []) (hfn : ∀ gs', gs' = [] → s.fn H (ds ++ gs') = { results := [.lit (.bool true)], args := ds })
  (hres : f.resultTypes = #[tb]) (hb : P.underlying tb = some .bool) (hW : DataW.Whole enc P f.params.toList s.vars apart w args.toList ds gs before) (h : IRel m' (bV true) v) (hg : Grew m m' w w') :
  s.post enc P f apart fresh handsOn false w args v w' := by
 have hW0 := hW
 obtain ⟨p, q, hA, hV, rfl, hfz, hnd⟩ := hW0
 cases h
 rw [hv] at hV
 cases gs with
 | cons _ _ => simp [DataW.TrodVars] at hV
 | nil =>
 have hq : q = [] := hV
 subst hq
 refine ⟨ds, [], p ++ [], [], p, [], hW, ?_, ?_, ?_, kept_of hg.same hg.heap _, fun h => by simp at h⟩
 ·rw [hfn _ rfl, hres]
  exact trodAll_cons_mk (RowKit.shut_bool hb _) trodAll_mk0
 ·rw [hfn _ rfl]
  exact trodAll_stays hl hg.heap (fun b hb => by simpa using hb) hts hA (DataW.TrodAll.lt hA)
 ·rw [hv, hfn _ rfl]
  rfl
theorem args_nil {H : Type} {enc : TypeId × Value → H} {w : World} {args : Array Value} {f : Func} {s : ChangeSpec} {apart : Bool} {ds gs : List (DataW H)} {before : List MemPlace}
  (hW : DataW.Whole enc P f.params.toList s.vars apart w args.toList ds gs before) : ∃ p, DataW.TrodAll enc P w 0 (fun _ => true) true f.params.toList args.toList ds p := by
 obtain ⟨p, q, hA, _⟩ := hW
 exact ⟨p, hA⟩
end
def factsA (P : Program) (f : FuncId) (fn : Func) (s : ChangeSpec) (c : OpenClaim) : Bool :=
 c.wf (OpenSpec.ofChange s) && laidOutB P && mapsRowed P &&
 fn.params.all (P.readableRec ·) && namedTie P c.named s.vars &&
 (c.stops == []) && (P.stops == []) && (c.knobs == []) && (P.stopKnobs == []) &&
 (c.inPlace == P.inPlace f) && (c.unfollowed == P.unfollowed f) && (c.recurses == P.recurses f) && (c.named == P.varsNamed f) &&
 (c.maps == (fn.params.toList ++ s.plain.varTypes P).any (P.mapsRec ·)) && (c.ifaces == (fn.params.toList ++ s.plain.varTypes P).any (P.ifacesRec ·)) && (c.mapsOut == P.mapsAmong fn.resultTypes.toList) &&
 (c.loops == (fn.params.toList ++ s.plain.varTypes P).any (P.loopsFrom ·)) && (c.wideKeys == (fn.params.toList ++ s.plain.varTypes P ++ fn.resultTypes.toList).any (P.wideKeysFrom ·)) &&
 s.vars.all (P.varReadable ·) && fn.resultTypes.all (fun t => P.readableRec t && decide (t < P.types.size)) && (c.ifacesOut == fn.resultTypes.toList.any (P.ifacesRec ·)) && (c.loopsOut == fn.resultTypes.toList.any (P.loopsFrom ·)) && (c.plainKeys == P.plainKeys) && c.shortTexts.isNone && P.stopsHeard
def factsB (P : Program) (c : OpenClaim) : Bool := P.mayEnter && (c.lifted == P.liftsFinal) && (P.make == some c.make)
def factsC (P : Program) (fn : Func) (s : ChangeSpec) (c : OpenClaim) : Bool :=
 (c.kinds == (if c.domain.isEmpty then [] else fn.params.toList.map fun t => match P.underlying t with | some (.int k) => some k | _ => none)) && (c.pinned == c.pinnedBy) &&
 (c.veiled == (fn.params.toList ++ s.plain.varTypes P ++ fn.resultTypes.toList).any (P.veiledRec ·)) && c.veiledFits P fn.params.toList (fn.params.toList ++ s.plain.varTypes P ++ fn.resultTypes.toList)
theorem facts_join {P : Program} {f : FuncId} {fn : Func} {s : ChangeSpec} {c : OpenClaim} (h1 : factsA P f fn s c = true) (h2 : factsB P c = true) (h3 : factsC P fn s c = true) : joinedFacts P f fn s c = true := by
 unfold factsA at h1
 unfold factsB at h2
 unfold factsC at h3
 have e : ∀ a b c d b1 b2 b3 c1 c2 c3 : Bool, a = true → (b1 && b2 && b3) = true → (b && c && d && c1) = true → (a && b1 && b2 && b3 && b && c && d && c1) = true := by
  intro a b c d b1 b2 b3 c1 c2 c3 h h' h''
  simp only [Bool.and_eq_true] at *
  simp_all
 exact e _ _ _ _ _ _ _ _ true true h1 h2 h3
end Go.Pv
namespace Go.Proofs.YtcoppoeibjkinaaDoor
open Go Go.Pv
set_option linter.unusedVariables false
set_option maxRecDepth 100000
theorem opens_9 : Opens Tryd.prog 9 (fun x => [sV x]) (fun x : (List UInt8) => (x.length + 1)) (fun x : (List UInt8) => (x.length ≤ maxLen)) := opens_string (show Tryd.prog.underlying 9 = some (.string) by kernel_rfl)
theorem opens_3 : Opens Tryd.prog 3 (fun x => [V.con (.int .i64 x)]) (fun x : Int => 1) (fun x : Int => ((IntKind.i64).min ≤ x ∧ x ≤ (IntKind.i64).max)) := opens_int (show Tryd.prog.underlying 3 = some (.int .i64) by kernel_rfl)
def szTExposure (x : TExposure) : Nat := (x.Advisory.length + 1) + ((x.Component.length + 1) + (1 + 0)) + 1
def okTExposure (x : TExposure) : Prop := (x.Advisory.length ≤ maxLen) ∧ ((x.Component.length ≤ maxLen) ∧ (((IntKind.i64).min ≤ x.Severity ∧ x.Severity ≤ (IntKind.i64).max) ∧ True))
theorem opens_66 : Opens Tryd.prog 66 encTExposure szTExposure okTExposure := opens_map (opens_struct (fs := [(9, 0, 1), (9, 1, 1), (3, 2, 1)]) (by kernel_rfl) (by kernel_rfl) (fopens_cons opens_9 (fopens_cons opens_9 (fopens_cons opens_3 fopens_nil)))) (fun p => TExposure.mk p.1 p.2.1 p.2.2.1) (fun _ => rfl) (fun _ => rfl) (fun _ h => h)
theorem opens_45 : Opens Tryd.prog 45 (fun l => [V.lst 3 (l.map encTExposure)]) (fun x : (List TExposure) => ((x.map (fun x : TExposure => (szTExposure x))).sum + 1)) (fun x : (List TExposure) => ((∀ a, a ∈ x → (fun x : TExposure => (okTExposure x)) a) ∧ x.length ≤ maxLen)) := opens_slice (show Tryd.prog.underlying 45 = some (.slice 66) by kernel_rfl) (by kernel_rfl) (by decide) opens_66
def szTRelease (x : TRelease) : Nat := (x.Version.length + 1) + (1 + (((x.Exposures.map (fun x : TExposure => (szTExposure x))).sum + 1) + 0)) + 1
def okTRelease (x : TRelease) : Prop := (x.Version.length ≤ maxLen) ∧ (((IntKind.i64).min ≤ x.Day ∧ x.Day ≤ (IntKind.i64).max) ∧ (((∀ a, a ∈ x.Exposures → (fun x : TExposure => (okTExposure x)) a) ∧ x.Exposures.length ≤ maxLen) ∧ True))
theorem opens_47 : Opens Tryd.prog 47 encTRelease szTRelease okTRelease := opens_map (opens_struct (fs := [(9, 0, 1), (3, 1, 1), (45, 2, 1)]) (by kernel_rfl) (by kernel_rfl) (fopens_cons opens_9 (fopens_cons opens_3 (fopens_cons opens_45 fopens_nil)))) (fun p => TRelease.mk p.1 p.2.1 p.2.2.1) (fun _ => rfl) (fun _ => rfl) (fun _ h => h)
theorem opens_22 : Opens Tryd.prog 22 (fun l => [V.lst 3 (l.map encTRelease)]) (fun x : (List TRelease) => ((x.map (fun x : TRelease => (szTRelease x))).sum + 1)) (fun x : (List TRelease) => ((∀ a, a ∈ x → (fun x : TRelease => (okTRelease x)) a) ∧ x.length ≤ maxLen)) := opens_slice (show Tryd.prog.underlying 22 = some (.slice 47) by kernel_rfl) (by kernel_rfl) (by decide) opens_47
def szTPublished (x : TPublished) : Nat := (x.Advisory.length + 1) + (1 + (1 + 0)) + 1
def okTPublished (x : TPublished) : Prop := (x.Advisory.length ≤ maxLen) ∧ (((IntKind.i64).min ≤ x.Day ∧ x.Day ≤ (IntKind.i64).max) ∧ (((IntKind.i64).min ≤ x.Ended ∧ x.Ended ≤ (IntKind.i64).max) ∧ True))
theorem opens_51 : Opens Tryd.prog 51 encTPublished szTPublished okTPublished := opens_map (opens_struct (fs := [(9, 0, 1), (3, 1, 1), (3, 2, 1)]) (by kernel_rfl) (by kernel_rfl) (fopens_cons opens_9 (fopens_cons opens_3 (fopens_cons opens_3 fopens_nil)))) (fun p => TPublished.mk p.1 p.2.1 p.2.2.1) (fun _ => rfl) (fun _ => rfl) (fun _ h => h)
theorem opens_23 : Opens Tryd.prog 23 (fun l => [V.lst 3 (l.map encTPublished)]) (fun x : (List TPublished) => ((x.map (fun x : TPublished => (szTPublished x))).sum + 1)) (fun x : (List TPublished) => ((∀ a, a ∈ x → (fun x : TPublished => (okTPublished x)) a) ∧ x.length ≤ maxLen)) := opens_slice (show Tryd.prog.underlying 23 = some (.slice 51) by kernel_rfl) (by kernel_rfl) (by decide) opens_51
def szTStory (x : TStory) : Nat := (x.Product.length + 1) + (((x.Releases.map (fun x : TRelease => (szTRelease x))).sum + 1) + (((x.Known.map (fun x : TPublished => (szTPublished x))).sum + 1) + (1 + 0))) + 1
def okTStory (x : TStory) : Prop := (x.Product.length ≤ maxLen) ∧ (((∀ a, a ∈ x.Releases → (fun x : TRelease => (okTRelease x)) a) ∧ x.Releases.length ≤ maxLen) ∧ (((∀ a, a ∈ x.Known → (fun x : TPublished => (okTPublished x)) a) ∧ x.Known.length ≤ maxLen) ∧ (((IntKind.i64).min ≤ x.Until ∧ x.Until ≤ (IntKind.i64).max) ∧ True)))
theorem opens_25 : Opens Tryd.prog 25 encTStory szTStory okTStory := opens_map (opens_struct (fs := [(9, 0, 1), (22, 1, 1), (23, 2, 1), (3, 3, 1)]) (by kernel_rfl) (by kernel_rfl) (fopens_cons opens_9 (fopens_cons opens_22 (fopens_cons opens_23 (fopens_cons opens_3 fopens_nil))))) (fun p => TStory.mk p.1 p.2.1 p.2.2.1 p.2.2.2.1) (fun _ => rfl) (fun _ => rfl) (fun _ h => h)
theorem opensV_25 : OpensV Tryd.prog 25 (fun x => V.agg (encTStory x)) szTStory okTStory := opensV_agg (fs := [(9, 0, 1), (22, 1, 1), (23, 2, 1), (3, 3, 1)]) (by kernel_rfl) opens_25
end Go.Proofs.YtcoppoeibjkinaaDoor
namespace Go.Proofs.YtcoppoeibjkinaaDoor
open Go Go.Pv
set_option linter.unusedVariables false
set_option maxRecDepth 100000
variable {mx : Int}
noncomputable section
def M28_L1 (F : Nat) (a1 : (List UInt8)) (k2 : Option Bool) : Nat → Int → Option Bool
  | 0, n4 => k2
  | tl1 + 1, n4 => (idx a1 n4).bind fun c6 => if (decide ((c6.toNat : Int) < 33)) = true then some false
 else (idx a1 n4).bind fun c9 => if (decide ((c9.toNat : Int) > 126)) = true then some false
 else M28_L1 F a1 k2 tl1 (n4 + 1)
def M28 (F : Nat) (a1 : (List UInt8)) : Option Bool :=
 jn (some (!(a1 == ([] : List UInt8)))) (fun k2 => if (a1.length : Int) ≤ 9223372036854775807 then M28_L1 F a1 k2 (((a1.length : Int) : Int).toNat) 0 else none)
def M30 (F : Nat) (a1 : (List UInt8)) : Option Bool :=
 (M28 F a1).bind fun y2 => if y2 = true then some (decide ((a1.length : Int) ≤ 100))
 else some false
def M31 (F : Nat) (a1 : Int) : Option Bool :=
 if (decide (a1 ≥ 0)) = true then some (decide (a1 ≤ 1000000))
 else some false
def M64 (F : Nat) (a1 : TExposure) : Option Thistory_key :=
 some (Thistory_key.mk a1.Advisory a1.Component)
def M96 (F : Nat) (a1 : (List UInt8)) : Option Bool :=
 some (!(a1 == a1))
def M83 (F : Nat) (a1 : (List UInt8)) (a2 : (List UInt8)) : Option Int :=
 (M96 F a1).bind fun y3 => (M96 F a2).bind fun y5 => if y3 = true then if y5 = true then some 0
 else some (-1)
 else if y5 = true then some 1
 else if (Op.bytesLess a1 a2) = true then some (-1)
 else if (!(Op.bytesLess a1 a2 || a1 == a2)) = true then some 1
 else some 0
def M82_L1 (F : Nat) (k2 : Option Int) : List Int → Option Int
  | [] => k2
  | x6 :: tl1 => if (x6 != 0) = true then some x6
 else M82_L1 F k2 tl1
def M82 (F : Nat) (a1 : (List Int)) : Option Int :=
 jn (some 0) (fun k2 => M82_L1 F k2 a1)
def M63 (F : Nat) (a1 : Thistory_key) (a2 : Thistory_key) : Option Int :=
 (M83 F a1.advisory a2.advisory).bind fun y3 => (M83 F a1.component a2.component).bind fun y5 => (M82 F ([y3, y5] : List Int)).bind fun y7 => some y7
def M50_L1 (F : Nat) (a1 : (List TExposure)) (k3 : Option Int) : List TExposure → Int → Option Int
  | [], n5 => k3
  | x7 :: tl1, n5 => (M30 F x7.Advisory).bind fun y9 => if (!y9) = true then some 8
 else (M30 F x7.Component).bind fun y12 => jn (M50_L1 F a1 k3 tl1 (n5 + 1)) (fun k14 => if (!y12) = true then some 8
 else if (decide (x7.Severity < 0)) = true then some 9
 else if (decide (x7.Severity > 100)) = true then some 9
 else if (decide (n5 > 0)) = true then (idx a1 (w64 (n5 - 1))).bind fun x19 => (M64 F x19).bind fun y21 => (M64 F x7).bind fun y23 => (M63 F y21 y23).bind fun y25 => if (decide (y25 ≥ 0)) = true then some 10
 else k14
 else k14)
def M50 (F : Nat) (a1 : (List TExposure)) : Option Int :=
 if (decide (((a1.length : Nat) : Int) > 500)) = true then some 3
 else jn (some 0) (fun k3 => M50_L1 F a1 k3 a1 0)
def M32_L1 (F : Nat) (a1 : TStory) (k2 : Option Int) : List TRelease → Int → (List ((List UInt8) × Bool)) → Option Int
  | [], n5, m6 => k2
  | x8 :: tl1, n5, m6 => (M30 F x8.Version).bind fun y10 => jn ((M50 F x8.Exposures).bind fun y21 => if (y21 != 0) = true then some y21
 else M32_L1 F a1 k2 tl1 (n5 + 1) (mput m6 x8.Version true)) (fun k12 => if (!y10) = true then some 8
 else if ((mget m6 x8.Version).getD false) = true then some 5
 else if (decide (x8.Day < 0)) = true then some 9
 else if (decide (x8.Day > a1.Until)) = true then some 9
 else if (decide (n5 > 0)) = true then (idx a1.Releases (w64 (n5 - 1))).bind fun x18 => if (decide (x8.Day ≤ x18.Day)) = true then some 10
 else k12
 else k12)
def M32 (F : Nat) (a1 : TStory) : Option Int :=
 jn (some 0) (fun k2 => M32_L1 F a1 k2 a1.Releases 0 ([] : List ((List UInt8) × Bool)))
def M14_L3 (F : Nat) (m14 : List ((List UInt8) × Bool)) (k51 : Option Int) : List TExposure → Option Int
  | [] => k51
  | x55 :: tl3 => if (!((mget m14 x55.Advisory).getD false)) = true then some 4
 else M14_L3 F m14 k51 tl3
def M14_L2 (F : Nat) (m14 : List ((List UInt8) × Bool)) (k44 : Option Int) : List TRelease → Option Int
 | [] => k44
 | x49 :: tl2 => jn (M14_L2 F m14 k44 tl2 ) (fun k48 => jn (k48) (fun k51 => M14_L3 F m14 k51 x49.Exposures))
def M14_L1 (F : Nat) (a1 : TStory) (k13 : (List ((List UInt8) × Bool)) → Option Int) : List TPublished → Int → (List ((List UInt8) × Bool)) → Option Int
  | [], n17, m18 => k13 m18
  | x20 :: tl1, n17, m18 => (M30 F x20.Advisory).bind fun y22 => jn (fun (b25 : Bool) => M14_L1 F a1 k13 tl1 (n17 + 1) (mput m18 x20.Advisory true)) (fun k24 => if (!y22) = true then some 8
 else if (decide (n17 > 0)) = true then (idx a1.Known (w64 (n17 - 1))).bind fun x28 => if (Op.bytesLess x20.Advisory x28.Advisory || x20.Advisory == x28.Advisory) = true then some 10
 else (M31 F x20.Day).bind fun y31 => if (!y31) = true then some 9
 else if (x20.Ended != (-1)) = true then if (decide (x20.Ended < x20.Day)) = true then some 9
 else if (decide (x20.Ended > 1000000)) = true then some 9
 else k24 (decide (x20.Ended > 1000000))
 else k24 false
 else (M31 F x20.Day).bind fun y37 => if (!y37) = true then some 9
 else if (x20.Ended != (-1)) = true then if (decide (x20.Ended < x20.Day)) = true then some 9
 else if (decide (x20.Ended > 1000000)) = true then some 9
 else k24 (decide (x20.Ended > 1000000))
 else k24 false)
def M14 (F : Nat) (a1 : TStory) : Option Int :=
 (M30 F a1.Product).bind fun y2 => if (!y2) = true then some 8
 else (M31 F a1.Until).bind fun y5 => if (!y5) = true then some 9
 else if (decide (((a1.Releases.length : Nat) : Int) > 500)) = true then some 3
 else if (decide (((a1.Known.length : Nat) : Int) > 2000)) = true then some 3
 else (M32 F a1).bind fun y10 => if (y10 != 0) = true then some y10
 else jn (fun (m14 : List ((List UInt8) × Bool)) => jn (some 0) (fun k44 => M14_L2 F m14 k44 a1.Releases)) (fun k13 => M14_L1 F a1 k13 a1.Known 0 ([] : List ((List UInt8) × Bool)))
def M22 (F : Nat) (a1 : Int) : Option (List UInt8) := if -9223372036854775808 ≤ a1 ∧ a1 ≤ 9223372036854775807 then some (Lib.itoa a1) else none
def M21 (F : Nat) (a1 : (List UInt8)) (a2 : List UInt8) : Option Unit := if a2.length + a1.length ≤ 140737488355328 then some () else none
def M23 (F : Nat) (a1 : List UInt8) : Option Unit := some ()
def M24 (F : Nat) (a1 : List UInt8) : Option Unit := some ()
def M9_L3 (F : Nat) (k53 : (List UInt8) → Option ((List UInt8) × Int)) : List TPublished → (List UInt8) → Option ((List UInt8) × Int)
  | [], s58 => k53 s58
  | x60 :: tl3, s58 => if ([107, 110, 111, 119, 110, 32] : List UInt8).length + x60.Advisory.length ≤ 9223372036854775807 then if (([107, 110, 111, 119, 110, 32] : List UInt8) ++ x60.Advisory).length + ([32] : List UInt8).length ≤ 9223372036854775807 then (M22 F x60.Day).bind fun y64 => if ((([107, 110, 111, 119, 110, 32] : List UInt8) ++ x60.Advisory) ++ ([32] : List UInt8)).length + y64.length ≤ 9223372036854775807 then (M21 F (((([107, 110, 111, 119, 110, 32] : List UInt8) ++ x60.Advisory) ++ ([32] : List UInt8)) ++ y64) s58).bind fun y67 => jn (fun (s70 : List UInt8) => (M21 F ([10] : List UInt8) s70).bind fun y77 => M9_L3 F k53 tl3 (s70 ++ ([10] : List UInt8))) (fun k69 => if (x60.Ended != (-1)) = true then (M22 F x60.Ended).bind fun y72 => if ([32] : List UInt8).length + y72.length ≤ 9223372036854775807 then (M21 F (([32] : List UInt8) ++ y72) (s58 ++ (((([107, 110, 111, 119, 110, 32] : List UInt8) ++ x60.Advisory) ++ ([32] : List UInt8)) ++ y64))).bind fun y75 => k69 ((s58 ++ (((([107, 110, 111, 119, 110, 32] : List UInt8) ++ x60.Advisory) ++ ([32] : List UInt8)) ++ y64)) ++ (([32] : List UInt8) ++ y72)) else none
 else k69 (s58 ++ (((([107, 110, 111, 119, 110, 32] : List UInt8) ++ x60.Advisory) ++ ([32] : List UInt8)) ++ y64))) else none else none else none
def M9_L2 (F : Nat) (k32 : (List UInt8) → Option ((List UInt8) × Int)) : List TExposure → (List UInt8) → Option ((List UInt8) × Int)
 | [], s37 => k32 s37
 | x39 :: tl2, s37 => if ([104, 97, 115, 32] : List UInt8).length + x39.Advisory.length ≤ 9223372036854775807 then if (([104, 97, 115, 32] : List UInt8) ++ x39.Advisory).length + ([32] : List UInt8).length ≤ 9223372036854775807 then if ((([104, 97, 115, 32] : List UInt8) ++ x39.Advisory) ++ ([32] : List UInt8)).length + x39.Component.length ≤ 9223372036854775807 then if (((([104, 97, 115, 32] : List UInt8) ++ x39.Advisory) ++ ([32] : List UInt8)) ++ x39.Component).length + ([32] : List UInt8).length ≤ 9223372036854775807 then (M22 F x39.Severity).bind fun y45 => if ((((([104, 97, 115, 32] : List UInt8) ++ x39.Advisory) ++ ([32] : List UInt8)) ++ x39.Component) ++ ([32] : List UInt8)).length + y45.length ≤ 9223372036854775807 then if (((((([104, 97, 115, 32] : List UInt8) ++ x39.Advisory) ++ ([32] : List UInt8)) ++ x39.Component) ++ ([32] : List UInt8)) ++ y45).length + ([10] : List UInt8).length ≤ 9223372036854775807 then (M21 F ((((((([104, 97, 115, 32] : List UInt8) ++ x39.Advisory) ++ ([32] : List UInt8)) ++ x39.Component) ++ ([32] : List UInt8)) ++ y45) ++ ([10] : List UInt8)) s37).bind fun y49 => M9_L2 F k32 tl2 (s37 ++ ((((((([104, 97, 115, 32] : List UInt8) ++ x39.Advisory) ++ ([32] : List UInt8)) ++ x39.Component) ++ ([32] : List UInt8)) ++ y45) ++ ([10] : List UInt8))) else none else none else none else none else none else none
def M9_L1 (F : Nat) (k13 : (List UInt8) → Option ((List UInt8) × Int)) : List TRelease → (List UInt8) → Option ((List UInt8) × Int)
 | [], s18 => k13 s18
 | x22 :: tl1, s18 => jn (fun (s21 : List UInt8) => M9_L1 F k13 tl1 s21) (fun k20 => if ([114, 101, 108, 101, 97, 115, 101, 32] : List UInt8).length + x22.Version.length ≤ 9223372036854775807 then if (([114, 101, 108, 101, 97, 115, 101, 32] : List UInt8) ++ x22.Version).length + ([32] : List UInt8).length ≤ 9223372036854775807 then (M22 F x22.Day).bind fun y26 => if ((([114, 101, 108, 101, 97, 115, 101, 32] : List UInt8) ++ x22.Version) ++ ([32] : List UInt8)).length + y26.length ≤ 9223372036854775807 then if (((([114, 101, 108, 101, 97, 115, 101, 32] : List UInt8) ++ x22.Version) ++ ([32] : List UInt8)) ++ y26).length + ([10] : List UInt8).length ≤ 9223372036854775807 then (M21 F ((((([114, 101, 108, 101, 97, 115, 101, 32] : List UInt8) ++ x22.Version) ++ ([32] : List UInt8)) ++ y26) ++ ([10] : List UInt8)) s18).bind fun y30 => jn (fun (s33 : List UInt8) => k20 s33) (fun k32 => M9_L2 F k32 x22.Exposures (s18 ++ ((((([114, 101, 108, 101, 97, 115, 101, 32] : List UInt8) ++ x22.Version) ++ ([32] : List UInt8)) ++ y26) ++ ([10] : List UInt8)))) else none else none else none else none)
def M9 (F : Nat) (a1 : TStory) : Option ((List UInt8) × Int) :=
 (M14 F a1).bind fun y2 => if (y2 != 0) = true then some (([] : List UInt8), y2)
 else if ([115, 116, 111, 114, 121, 32] : List UInt8).length + a1.Product.length ≤ 9223372036854775807 then if (([115, 116, 111, 114, 121, 32] : List UInt8) ++ a1.Product).length + ([32] : List UInt8).length ≤ 9223372036854775807 then (M22 F a1.Until).bind fun y7 => if ((([115, 116, 111, 114, 121, 32] : List UInt8) ++ a1.Product) ++ ([32] : List UInt8)).length + y7.length ≤ 9223372036854775807 then if (((([115, 116, 111, 114, 121, 32] : List UInt8) ++ a1.Product) ++ ([32] : List UInt8)) ++ y7).length + ([10] : List UInt8).length ≤ 9223372036854775807 then (M21 F ((((([115, 116, 111, 114, 121, 32] : List UInt8) ++ a1.Product) ++ ([32] : List UInt8)) ++ y7) ++ ([10] : List UInt8)) ([] : List UInt8)).bind fun y11 => jn (fun (s14 : List UInt8) => jn (fun (s54 : List UInt8) => (M23 F s54).bind fun y80 => if (decide (((s54.length : Nat) : Int) > 1000000)) = true then some (([] : List UInt8), 3)
 else (M24 F s54).bind fun y83 => some (s54, 0)) (fun k53 => M9_L3 F k53 a1.Known s14)) (fun k13 => M9_L1 F k13 a1.Releases (([] : List UInt8) ++ ((((([115, 116, 111, 114, 121, 32] : List UInt8) ++ a1.Product) ++ ([32] : List UInt8)) ++ y7) ++ ([10] : List UInt8)))) else none else none else none else none
def M35_L1 (F : Nat) (a1 : (List UInt8)) (k2 : Option Bool) : Nat → Int → Option Bool
  | 0, n4 => k2
  | tl1 + 1, n4 => (idx a1 n4).bind fun c6 => if (decide ((c6.toNat : Int) < 33)) = true then some false
 else (idx a1 n4).bind fun c9 => if (decide ((c9.toNat : Int) > 126)) = true then some false
 else M35_L1 F a1 k2 tl1 (n4 + 1)
def M35 (F : Nat) (a1 : (List UInt8)) : Option Bool :=
 jn (if (decide ((a1.length : Int) ≥ 1)) = true then some (decide ((a1.length : Int) ≤ 100))
 else some false) (fun k2 => if (a1.length : Int) ≤ 9223372036854775807 then M35_L1 F a1 k2 (((a1.length : Int) : Int).toNat) 0 else none)
def M36 (F : Nat) (a1 : Int) : Option Bool :=
 if (decide (a1 ≥ 0)) = true then some (decide (a1 ≤ 1000000))
 else some false
def M51 (F : Nat) (a1 : TExposure) (a2 : TExposure) : Option Bool :=
 if (Op.bytesLess a1.Advisory a2.Advisory) = true then some true
 else if (a1.Advisory == a2.Advisory) = true then some (Op.bytesLess a1.Component a2.Component)
 else some false
def M37_L1 (F : Nat) (a1 : (List TExposure)) (k3 : Option Int) : List TExposure → Int → Option Int
  | [], n5 => k3
  | x7 :: tl1, n5 => (M35 F x7.Advisory).bind fun y9 => if (!y9) = true then some 8
 else (M35 F x7.Component).bind fun y12 => jn (M37_L1 F a1 k3 tl1 (n5 + 1)) (fun k14 => if (!y12) = true then some 8
 else if (decide (x7.Severity < 0)) = true then some 9
 else if (decide (x7.Severity > 100)) = true then some 9
 else if (decide (n5 > 0)) = true then (idx a1 (w64 (n5 - 1))).bind fun x19 => (M51 F x19 x7).bind fun y21 => if (!y21) = true then some 10
 else k14
 else k14)
def M37 (F : Nat) (a1 : (List TExposure)) : Option Int :=
 if (decide (((a1.length : Nat) : Int) > 500)) = true then some 3
 else jn (some 0) (fun k3 => M37_L1 F a1 k3 a1 0)
def M38_L1 (F : Nat) (a1 : (List TPublished)) (k2 : Option Int) : List TPublished → Int → Option Int
  | [], n4 => k2
  | x6 :: tl1, n4 => (M35 F x6.Advisory).bind fun y8 => jn (fun (b11 : Bool) => M38_L1 F a1 k2 tl1 (n4 + 1)) (fun k10 => if (!y8) = true then some 8
 else if (decide (n4 > 0)) = true then (idx a1 (w64 (n4 - 1))).bind fun x14 => if (Op.bytesLess x6.Advisory x14.Advisory || x6.Advisory == x14.Advisory) = true then some 10
 else (M36 F x6.Day).bind fun y17 => if (!y17) = true then some 9
 else if (x6.Ended != (-1)) = true then if (decide (x6.Ended < x6.Day)) = true then some 9
 else if (decide (x6.Ended > 1000000)) = true then some 9
 else k10 (decide (x6.Ended > 1000000))
 else k10 false
 else (M36 F x6.Day).bind fun y23 => if (!y23) = true then some 9
 else if (x6.Ended != (-1)) = true then if (decide (x6.Ended < x6.Day)) = true then some 9
 else if (decide (x6.Ended > 1000000)) = true then some 9
 else k10 (decide (x6.Ended > 1000000))
 else k10 false)
def M38 (F : Nat) (a1 : (List TPublished)) : Option Int :=
 jn (some 0) (fun k2 => M38_L1 F a1 k2 a1 0)
def M16_L4 (F : Nat) (m37 : List ((List UInt8) × Bool)) (k53 : Option Int) : List TExposure → Option Int
  | [] => k53
  | x57 :: tl4 => if (!((mget m37 x57.Advisory).getD false)) = true then some 4
 else M16_L4 F m37 k53 tl4
def M16_L3 (F : Nat) (m37 : List ((List UInt8) × Bool)) (k46 : Option Int) : List TRelease → Option Int
 | [] => k46
 | x51 :: tl3 => jn (M16_L3 F m37 k46 tl3 ) (fun k50 => jn (k50) (fun k53 => M16_L4 F m37 k53 x51.Exposures))
def M16_L2 (F : Nat) (k36 : (List ((List UInt8) × Bool)) → Option Int) : List TPublished → (List ((List UInt8) × Bool)) → Option Int
 | [], m41 => k36 m41
 | x43 :: tl2, m41 => M16_L2 F k36 tl2 (mput m41 x43.Advisory true)
def M16_L1 (F : Nat) (a1 : TStory) (k10 : Option Int) : List TRelease → Int → (List ((List UInt8) × Bool)) → Option Int
  | [], n13, m14 => k10
  | x16 :: tl1, n13, m14 => (M35 F x16.Version).bind fun y18 => jn ((M37 F x16.Exposures).bind fun y29 => if (y29 != 0) = true then some y29
 else M16_L1 F a1 k10 tl1 (n13 + 1) (mput m14 x16.Version true)) (fun k20 => if (!y18) = true then some 8
 else if ((mget m14 x16.Version).getD false) = true then some 5
 else if (decide (x16.Day < 0)) = true then some 9
 else if (decide (x16.Day > a1.Until)) = true then some 9
 else if (decide (n13 > 0)) = true then (idx a1.Releases (w64 (n13 - 1))).bind fun x26 => if (decide (x16.Day ≤ x26.Day)) = true then some 10
 else k20
 else k20)
def M16 (F : Nat) (a1 : TStory) : Option Int :=
 (M35 F a1.Product).bind fun y2 => if (!y2) = true then some 8
 else (M36 F a1.Until).bind fun y5 => if (!y5) = true then some 9
 else if (decide (((a1.Releases.length : Nat) : Int) > 500)) = true then some 3
 else if (decide (((a1.Known.length : Nat) : Int) > 2000)) = true then some 3
 else jn ((M38 F a1.Known).bind fun y33 => if (y33 != 0) = true then some y33
 else jn (fun (m37 : List ((List UInt8) × Bool)) => jn (some 0) (fun k46 => M16_L3 F m37 k46 a1.Releases)) (fun k36 => M16_L2 F k36 a1.Known ([] : List ((List UInt8) × Bool)))) (fun k10 => M16_L1 F a1 k10 a1.Releases 0 ([] : List ((List UInt8) × Bool)))
def M45 (F : Nat) (a1 : (List (List UInt8))) (a2 : (List UInt8)) : Option (List UInt8) := if a1.length ≤ 140737488355328 ∧ (Lib.join a1 a2).length ≤ 140737488355328 then some (Lib.join a1 a2) else none
def M25 (F : Nat) (a1 : (List (List UInt8))) (a2 : List Int) : Option (List Int) :=
 (M45 F a1 ([32] : List UInt8)).bind fun y8 => if (a2 ++ (y8.map fun c => (c.toNat : Int))).length * 1 ≤ 140737488355328 then if ((a2 ++ (y8.map fun c => (c.toNat : Int))) ++ ([10] : List Int)).length * 1 ≤ 140737488355328 then some ((a2 ++ (y8.map fun c => (c.toNat : Int))) ++ ([10] : List Int)) else none else none
def M10_L3 (F : Nat) (k39 : (List Int) → Option ((List UInt8) × Int)) : List TPublished → (List Int) → Option ((List UInt8) × Int)
  | [], l44 => k39 l44
  | x46 :: tl3, l44 => (M22 F x46.Day).bind fun y48 => jn (fun (l51 : List (List UInt8)) => (M25 F l51 l44).bind fun y56 => M10_L3 F k39 tl3 y56) (fun k50 => if (x46.Ended != (-1)) = true then (M22 F x46.Ended).bind fun y53 => if (([([107, 110, 111, 119, 110] : List UInt8), x46.Advisory, y48] : List (List UInt8)) ++ ([y53] : List (List UInt8))).length * 16 ≤ 140737488355328 then k50 (([([107, 110, 111, 119, 110] : List UInt8), x46.Advisory, y48] : List (List UInt8)) ++ ([y53] : List (List UInt8))) else none
 else k50 ([([107, 110, 111, 119, 110] : List UInt8), x46.Advisory, y48] : List (List UInt8)))
def M10_L2 (F : Nat) (k24 : (List Int) → Option ((List UInt8) × Int)) : List TExposure → (List Int) → Option ((List UInt8) × Int)
 | [], l29 => k24 l29
 | x31 :: tl2, l29 => (M22 F x31.Severity).bind fun y33 => (M25 F ([([104, 97, 115] : List UInt8), x31.Advisory, x31.Component, y33] : List (List UInt8)) l29).bind fun y35 => M10_L2 F k24 tl2 y35
def M10_L1 (F : Nat) (k9 : (List Int) → Option ((List UInt8) × Int)) : List TRelease → (List Int) → Option ((List UInt8) × Int)
 | [], l14 => k9 l14
 | x18 :: tl1, l14 => jn (fun (l17 : List Int) => M10_L1 F k9 tl1 l17) (fun k16 => (M22 F x18.Day).bind fun y20 => (M25 F ([([114, 101, 108, 101, 97, 115, 101] : List UInt8), x18.Version, y20] : List (List UInt8)) l14).bind fun y22 => jn (fun (l25 : List Int) => k16 l25) (fun k24 => M10_L2 F k24 x18.Exposures y22))
def M10 (F : Nat) (a1 : TStory) : Option ((List UInt8) × Int) :=
 (M16 F a1).bind fun y2 => if (y2 != 0) = true then some (([] : List UInt8), y2)
 else (M22 F a1.Until).bind fun y5 => (M25 F ([([115, 116, 111, 114, 121] : List UInt8), a1.Product, y5] : List (List UInt8)) ([] : List Int)).bind fun y7 => jn (fun (l10 : List Int) => jn (fun (l40 : List Int) => if (decide (((l40.length : Nat) : Int) > 1000000)) = true then some (([] : List UInt8), 3)
 else some ((l40.map fun n => UInt8.ofNat n.toNat), 0)) (fun k39 => M10_L3 F k39 a1.Known l10)) (fun k9 => M10_L1 F k9 a1.Releases y7)
def M52_L1 (F : Nat) (a1 : (List Int)) (a2 : Int) (k3 : Option Int) : List Int → Int → Option Int
  | [], n5 => k3
  | x7 :: tl1, n5 => if (decide (x7 < 0)) = true then some 9
 else jn (M52_L1 F a1 a2 k3 tl1 (n5 + 1)) (fun k10 => if (decide (x7 > a2)) = true then some 9
 else if (decide (n5 > 0)) = true then (idx a1 (w64 (n5 - 1))).bind fun x13 => if (decide (x7 ≤ x13)) = true then some 10
 else k10
 else k10)
def M52 (F : Nat) (a1 : (List Int)) (a2 : Int) : Option Int :=
 jn (some 0) (fun k3 => M52_L1 F a1 a2 k3 a1 0)
def M40 (F : Nat) (a1 : TCalendar) : Option Int :=
 if (decide (((a1.Free.length : Nat) : Int) > 6)) = true then some 3
 else if (decide (((a1.Holidays.length : Nat) : Int) > 2000)) = true then some 3
 else (M52 F a1.Free 6).bind fun y4 => if (y4 != 0) = true then some y4
 else (M52 F a1.Holidays 1000000).bind fun y7 => some y7
def M41_L2 (F : Nat) (f3 : Nat → Bool) (k13 : (List Int) → Option Thistory_week) : List Int → (List Int) → Option Thistory_week
  | [], l18 => k13 l18
  | x20 :: tl2, l18 => if 0 ≤ (Int.tmod x20 7) ∧ (Int.tmod x20 7).toNat < 7 then jn (fun (l24 : List Int) => M41_L2 F f3 k13 tl2 l24) (fun k23 => if (!(f3 (Int.tmod x20 7).toNat)) = true then if (l18 ++ ([x20] : List Int)).length * 8 ≤ 140737488355328 then k23 (l18 ++ ([x20] : List Int)) else none
 else k23 l18) else none
def M41_L1 (F : Nat) (k2 : (Nat → Bool) → Option Thistory_week) : List Int → (Nat → Bool) → Option Thistory_week
 | [], f7 => k2 f7
 | x9 :: tl1, f7 => if 0 ≤ x9 ∧ x9.toNat < 7 then M41_L1 F k2 tl1 (upd f7 x9.toNat true) else none
def M41 (F : Nat) (a1 : TCalendar) : Option Thistory_week :=
 jn (fun (f3 : Nat → Bool) => jn (fun (l14 : List Int) => some (Thistory_week.mk f3 (w64 (7 - ((a1.Free.length : Nat) : Int))) l14)) (fun k13 => M41_L2 F f3 k13 a1.Holidays ([] : List Int))) (fun k2 => M41_L1 F k2 a1.Free (fun _ => false))
def M84 (F : Nat) (a1 : Int) : Option Bool :=
 some (a1 != a1)
def M65 (F : Nat) (a1 : Int) (a2 : Int) : Option Bool :=
 (M84 F a1).bind fun y3 => if y3 = true then (M84 F a2).bind fun y6 => if (!y6) = true then some true
 else some (decide (a1 < a2))
 else some (decide (a1 < a2))
def M66 (F : Nat) (a1 : Int) : Option Bool :=
 some (a1 != a1)
def M53_L1 (F : Nat) (a1 : (List Int)) (a2 : Int) (k3 : Int → Option (Int × Bool)) : Nat → Int → Int → Option (Int × Bool)
 | 0, _, _ => none
 | n + 1, n7, n8 => if (decide (n7 < n8)) = true then (idx a1 (w64 (Int.fdiv (IntKind.wrap .u64 (w64 (n7 + n8))) (2 ^ (min (Int.toNat 1) (IntKind.bits .u64)))))).bind fun x10 => (M65 F x10 a2).bind fun y12 => jn (fun (n15 : Int) (n16 : Int) => M53_L1 F a1 a2 k3 n n15 n16) (fun k14 => if y12 = true then k14 (w64 ((w64 (Int.fdiv (IntKind.wrap .u64 (w64 (n7 + n8))) (2 ^ (min (Int.toNat 1) (IntKind.bits .u64))))) + 1)) n8
 else k14 n7 (w64 (Int.fdiv (IntKind.wrap .u64 (w64 (n7 + n8))) (2 ^ (min (Int.toNat 1) (IntKind.bits .u64))))))
 else k3 n7
def M53 (F : Nat) (a1 : (List Int)) (a2 : Int) : Option (Int × Bool) :=
 jn (fun (n4 : Int) => if (decide (n4 < ((a1.length : Nat) : Int))) = true then (idx a1 n4).bind fun x19 => if (x19 == a2) = true then some (n4, true)
 else (idx a1 n4).bind fun x22 => (M66 F x22).bind fun y24 => if y24 = true then (M66 F a2).bind fun y27 => some (n4, y27)
 else some (n4, false)
 else some (n4, false)) (fun k3 => M53_L1 F a1 a2 k3 F 0 ((a1.length : Nat) : Int))
def M42_L1 (F : Nat) (a1 : Thistory_week) (k3 : Int → Option Int) : Nat → Int → Int → Option Int
  | 0, n8, n7 => k3 n7
  | tl1 + 1, n8, n7 => if 0 ≤ n8 ∧ n8.toNat < 7 then jn (fun (n12 : Int) => M42_L1 F a1 k3 tl1 (n8 + 1) n12) (fun k11 => if (!(a1.free n8.toNat)) = true then k11 (w64 (n7 + 1))
 else k11 n7) else none
def M42 (F : Nat) (a1 : Thistory_week) (a2 : Int) : Option Int :=
 jn (fun (n4 : Int) => (M53 F a1.holidays a2).bind fun y15 => some (w64 (n4 - (y15.1)))) (fun k3 => if (Int.tmod a2 7) ≤ 9223372036854775807 then M42_L1 F a1 k3 (((Int.tmod a2 7) : Int).toNat) 0 (w64 ((w64 (Int.tdiv a2 7)) * a1.work)) else none)
def M20 (F : Nat) (a1 : TCalendar) (a2 : Int) (a3 : Int) : Option (Int × Int) :=
 (M40 F a1).bind fun y4 => if (y4 != 0) = true then some (0, y4)
 else (M31 F a2).bind fun y7 => if (!y7) = true then some (0, 9)
 else (M31 F a3).bind fun y10 => if (!y10) = true then some (0, 9)
 else if (decide (a2 > a3)) = true then some (0, 9)
 else (M41 F a1).bind fun y14 => (M42 F y14 a3).bind fun y16 => (M42 F y14 a2).bind fun y18 => some ((w64 (y16 - y18)), 0)
def M8 (F : Nat) : Option Bool :=
 (M20 F (TCalendar.mk ([5, 6] : List Int) ([] : List Int)) 0 14).bind fun y1 => if ((y1.1) == 10) = true then some ((y1.2) == 0)
 else some false
def M11 (F : Nat) (a1 : (List UInt8)) (a2 : (List UInt8)) : Option (List (List UInt8)) := if a1.length < 4294967281 ∧ 1 ≤ a2.length then some (Lib.split a1 a2) else none
def M49 (F : Nat) (a1 : (List UInt8)) : Option (Int × Unit) := match Lib.atoi a1 with | some n => if a1.length ≤ 18 then some (n, ()) else none | none => none
def M29_L1 (F : Nat) (a1 : (List UInt8)) (k8 : Option (Int × Bool)) : Nat → Int → Option (Int × Bool)
  | 0, n10 => k8
  | tl1 + 1, n10 => (idx a1 n10).bind fun c12 => if (decide ((c12.toNat : Int) < 48)) = true then some (0, false)
 else (idx a1 n10).bind fun c15 => if (decide ((c15.toNat : Int) > 57)) = true then some (0, false)
 else M29_L1 F a1 k8 tl1 (n10 + 1)
def M29_L2 (F : Nat) (a1 : (List UInt8)) (k21 : Option (Int × Bool)) : Nat → Int → Option (Int × Bool)
  | 0, n23 => k21
  | tl2 + 1, n23 => (idx a1 n23).bind fun c25 => if (decide ((c25.toNat : Int) < 48)) = true then some (0, false)
 else (idx a1 n23).bind fun c28 => if (decide ((c28.toNat : Int) > 57)) = true then some (0, false)
 else M29_L2 F a1 k21 tl2 (n23 + 1)
def M29 (F : Nat) (a1 : (List UInt8)) : Option (Int × Bool) :=
 if (a1 == ([] : List UInt8)) = true then some (0, false)
 else if (decide ((a1.length : Int) > 7)) = true then some (0, false)
 else if (decide ((a1.length : Int) > 1)) = true then (idx a1 0).bind fun c5 => if ((c5.toNat : Int) == 48) = true then some (0, false)
 else jn ((M49 F a1).bind fun y19 => some ((y19.1), true)) (fun k8 => if (a1.length : Int) ≤ 9223372036854775807 then M29_L1 F a1 k8 (((a1.length : Int) : Int).toNat) 0 else none)
 else jn ((M49 F a1).bind fun y32 => some ((y32.1), true)) (fun k21 => if (a1.length : Int) ≤ 9223372036854775807 then M29_L2 F a1 k21 (((a1.length : Int) : Int).toNat) 0 else none)
def M13_L1 (F : Nat) (a2 : Int) (k3 : (List Int) → Option ((List Int) × Bool)) : List (List UInt8) → Int → (List Int) → Option ((List Int) × Bool)
  | [], n7, l8 => k3 l8
  | x12 :: tl1, n7, l8 => jn (fun (l11 : List Int) => M13_L1 F a2 k3 tl1 (n7 + 1) l11) (fun k10 => if (decide (n7 < a2)) = true then (M28 F x12).bind fun y15 => if (!y15) = true then some (([] : List Int), false)
 else k10 l8
 else (M29 F x12).bind fun y18 => if (!(y18.2)) = true then some (([] : List Int), false)
 else if (l8 ++ ([(y18.1)] : List Int)).length * 8 ≤ 140737488355328 then k10 (l8 ++ ([(y18.1)] : List Int)) else none)
def M13 (F : Nat) (a1 : (List (List UInt8))) (a2 : Int) : Option ((List Int) × Bool) :=
 jn (fun (l4 : List Int) => some (l4, true)) (fun k3 => M13_L1 F a2 k3 a1 0 ([] : List Int))
def M27 (F : Nat) (a1 : (List (List UInt8))) (a2 : (List UInt8)) (a3 : Int) (a4 : List TRelease) (a5 : List TPublished) : Option (Bool × (List TPublished)) :=
 (M13 F a1 1).bind fun y23 => if (!(y23.2)) = true then some (false, a5)
 else if (decide ((((y23.1).length : Nat) : Int) < 1)) = true then some (false, a5)
 else if (decide ((((y23.1).length : Nat) : Int) > 2)) = true then some (false, a5)
 else (idx a1 0).bind fun x28 => (idx (y23.1) 0).bind fun x30 => jn (fun (n33 : Int) => if (a5 ++ ([(TPublished.mk x28 x30 n33)] : List TPublished)).length * 32 ≤ 140737488355328 then some (true, (a5 ++ ([(TPublished.mk x28 x30 n33)] : List TPublished))) else none) (fun k32 => if ((((y23.1).length : Nat) : Int) == 2) = true then (idx (y23.1) 1).bind fun x35 => k32 x35
 else k32 (-1))
def M12 (F : Nat) (a1 : (List (List UInt8))) (a2 : (List UInt8)) (a3 : Int) (a4 : List TRelease) (a5 : List TPublished) : Option (Bool × (List TRelease) × (List TPublished)) :=
 jn (some (false, a4, a5)) (fun k139 => (idx a1 0).bind fun x140 => if (x140 == ([114, 101, 108, 101, 97, 115, 101] : List UInt8)) = true then if (((a1.length : Nat) : Int) == 3) = true then jn (k139) (fun k144 => if (((a5.length : Nat) : Int) == 0) = true then if 1 ≤ a1.length then (M13 F (a1.drop 1) 1).bind fun y147 => jn (fun (l150 : List TRelease) => some ((y147.2), l150, a5)) (fun k149 => if (y147.2) = true then (idx a1 1).bind fun x152 => (idx (y147.1) 0).bind fun x154 => if (a4 ++ [(TRelease.mk x152 x154 ([] : List TExposure))]).length * 48 ≤ 140737488355328 then k149 (a4 ++ [(TRelease.mk x152 x154 ([] : List TExposure))]) else none
 else k149 a4) else none
 else (idx a1 0).bind fun x157 => if (x157 == ([104, 97, 115] : List UInt8)) = true then if (((a1.length : Nat) : Int) == 4) = true then (idx a1 0).bind fun x161 => if (x161 == ([107, 110, 111, 119, 110] : List UInt8)) = true then if 1 ≤ a1.length then (M27 F (a1.drop 1) a2 a3 a4 a5).bind fun y165 => some ((y165.1), a4, (y165.2)) else none
 else k144
 else (idx a1 0).bind fun x167 => if (x167 == ([107, 110, 111, 119, 110] : List UInt8)) = true then if 1 ≤ a1.length then (M27 F (a1.drop 1) a2 a3 a4 a5).bind fun y171 => some ((y171.1), a4, (y171.2)) else none
 else k144
 else (idx a1 0).bind fun x173 => if (x173 == ([107, 110, 111, 119, 110] : List UInt8)) = true then if 1 ≤ a1.length then (M27 F (a1.drop 1) a2 a3 a4 a5).bind fun y177 => some ((y177.1), a4, (y177.2)) else none
 else k144)
 else (idx a1 0).bind fun x179 => if (x179 == ([104, 97, 115] : List UInt8)) = true then if (((a1.length : Nat) : Int) == 4) = true then if (((a5.length : Nat) : Int) == 0) = true then if (decide (((a4.length : Nat) : Int) > 0)) = true then if 1 ≤ a1.length then (M13 F (a1.drop 1) 2).bind fun y186 => jn (fun (l189 : List TRelease) => some ((y186.2), l189, a5)) (fun k188 => if (y186.2) = true then (idx a4 (w64 (((a4.length : Nat) : Int) - 1))).bind fun x191 => (idx a1 1).bind fun x193 => (idx a1 2).bind fun x195 => (idx (y186.1) 0).bind fun x197 => if (x191.Exposures ++ ([(TExposure.mk x193 x195 x197)] : List TExposure)).length * 40 ≤ 140737488355328 then k188 (a4.set ((w64 (((a4.length : Nat) : Int) - 1)).toNat) ({ x191 with Exposures := (x191.Exposures ++ ([(TExposure.mk x193 x195 x197)] : List TExposure)) } : TRelease)) else none
 else k188 a4) else none
 else (idx a1 0).bind fun x200 => if (x200 == ([107, 110, 111, 119, 110] : List UInt8)) = true then if 1 ≤ a1.length then (M27 F (a1.drop 1) a2 a3 a4 a5).bind fun y204 => some ((y204.1), a4, (y204.2)) else none
 else k139
 else (idx a1 0).bind fun x206 => if (x206 == ([107, 110, 111, 119, 110] : List UInt8)) = true then if 1 ≤ a1.length then (M27 F (a1.drop 1) a2 a3 a4 a5).bind fun y210 => some ((y210.1), a4, (y210.2)) else none
 else k139
 else (idx a1 0).bind fun x212 => if (x212 == ([107, 110, 111, 119, 110] : List UInt8)) = true then if 1 ≤ a1.length then (M27 F (a1.drop 1) a2 a3 a4 a5).bind fun y216 => some ((y216.1), a4, (y216.2)) else none
 else k139
 else (idx a1 0).bind fun x218 => if (x218 == ([107, 110, 111, 119, 110] : List UInt8)) = true then if 1 ≤ a1.length then (M27 F (a1.drop 1) a2 a3 a4 a5).bind fun y222 => some ((y222.1), a4, (y222.2)) else none
 else k139
 else (idx a1 0).bind fun x224 => if (x224 == ([104, 97, 115] : List UInt8)) = true then if (((a1.length : Nat) : Int) == 4) = true then if (((a5.length : Nat) : Int) == 0) = true then if (decide (((a4.length : Nat) : Int) > 0)) = true then if 1 ≤ a1.length then (M13 F (a1.drop 1) 2).bind fun y231 => jn (fun (l234 : List TRelease) => some ((y231.2), l234, a5)) (fun k233 => if (y231.2) = true then (idx a4 (w64 (((a4.length : Nat) : Int) - 1))).bind fun x236 => (idx a1 1).bind fun x238 => (idx a1 2).bind fun x240 => (idx (y231.1) 0).bind fun x242 => if (x236.Exposures ++ ([(TExposure.mk x238 x240 x242)] : List TExposure)).length * 40 ≤ 140737488355328 then k233 (a4.set ((w64 (((a4.length : Nat) : Int) - 1)).toNat) ({ x236 with Exposures := (x236.Exposures ++ ([(TExposure.mk x238 x240 x242)] : List TExposure)) } : TRelease)) else none
 else k233 a4) else none
 else (idx a1 0).bind fun x245 => if (x245 == ([107, 110, 111, 119, 110] : List UInt8)) = true then if 1 ≤ a1.length then (M27 F (a1.drop 1) a2 a3 a4 a5).bind fun y249 => some ((y249.1), a4, (y249.2)) else none
 else k139
 else (idx a1 0).bind fun x251 => if (x251 == ([107, 110, 111, 119, 110] : List UInt8)) = true then if 1 ≤ a1.length then (M27 F (a1.drop 1) a2 a3 a4 a5).bind fun y255 => some ((y255.1), a4, (y255.2)) else none
 else k139
 else (idx a1 0).bind fun x257 => if (x257 == ([107, 110, 111, 119, 110] : List UInt8)) = true then if 1 ≤ a1.length then (M27 F (a1.drop 1) a2 a3 a4 a5).bind fun y261 => some ((y261.1), a4, (y261.2)) else none
 else k139
 else (idx a1 0).bind fun x263 => if (x263 == ([107, 110, 111, 119, 110] : List UInt8)) = true then if 1 ≤ a1.length then (M27 F (a1.drop 1) a2 a3 a4 a5).bind fun y267 => some ((y267.1), a4, (y267.2)) else none
 else k139)
def M5_L1 (F : Nat) (k11 : (List UInt8) → Int → (List TRelease) → (List TPublished) → Option (TStory × Int × Int)) : List (List UInt8) → Int → (List UInt8) → Int → (List TRelease) → (List TPublished) → Option (TStory × Int × Int)
  | [], n21, s22, n23, l24, l25 => k11 s22 n23 l24 l25
  | x27 :: tl1, n21, s22, n23, l24, l25 => (M11 F x27 ([32] : List UInt8)).bind fun y29 => jn (fun (b32 : Bool) (s33 : List UInt8) (n34 : Int) (l35 : List TRelease) (l36 : List TPublished) => if (!b32) = true then some ((TStory.mk ([] : List UInt8) ([] : List TRelease) ([] : List TPublished) 0), n21, 6)
 else M5_L1 F k11 tl1 (n21 + 1) s33 n34 l35 l36) (fun k31 => if (decide (n21 > 0)) = true then (M12 F y29 s22 n23 l24 l25).bind fun y38 => k31 (y38.1) s22 n23 (y38.2.1) (y38.2.2)
 else (idx y29 0).bind fun x40 => if (x40 == ([115, 116, 111, 114, 121] : List UInt8)) = true then if (((y29.length : Nat) : Int) == 3) = true then if 1 ≤ y29.length then (M13 F (y29.drop 1) 1).bind fun y45 => if (y45.2) = true then (idx y29 1).bind fun x48 => (idx (y45.1) 0).bind fun x50 => k31 (y45.2) x48 x50 l24 l25
 else k31 (y45.2) s22 n23 l24 l25 else none
 else k31 false s22 n23 l24 l25
 else k31 false s22 n23 l24 l25)
def M5 (F : Nat) (a1 : (List UInt8)) : Option (TStory × Int × Int) :=
 if (decide ((a1.length : Int) > 1000000)) = true then some ((TStory.mk ([] : List UInt8) ([] : List TRelease) ([] : List TPublished) 0), 0, 3)
 else (M11 F a1 ([10] : List UInt8)).bind fun y3 => (idx y3 (w64 (((y3.length : Nat) : Int) - 1))).bind fun x5 => jn (fun (l8 : List (List UInt8)) => jn (fun (s12 : List UInt8) (n13 : Int) (l14 : List TRelease) (l15 : List TPublished) => if (((l8.length : Nat) : Int) == 0) = true then some ((TStory.mk ([] : List UInt8) ([] : List TRelease) ([] : List TPublished) 0), ((l8.length : Nat) : Int), 6)
 else if (!(x5 == ([] : List UInt8))) = true then some ((TStory.mk ([] : List UInt8) ([] : List TRelease) ([] : List TPublished) 0), ((l8.length : Nat) : Int), 6)
 else (M14 F (TStory.mk s12 l14 l15 n13)).bind fun y56 => if (y56 != 0) = true then some ((TStory.mk ([] : List UInt8) ([] : List TRelease) ([] : List TPublished) 0), 0, y56)
 else some ((TStory.mk s12 l14 l15 n13), 0, 0)) (fun k11 => M5_L1 F k11 l8 0 ([] : List UInt8) 0 ([] : List TRelease) ([] : List TPublished))) (fun k7 => if (x5 == ([] : List UInt8)) = true then if 0 ≤ (w64 (((y3.length : Nat) : Int) - 1)) ∧ (w64 (((y3.length : Nat) : Int) - 1)).toNat ≤ y3.length then k7 (y3.take (w64 (((y3.length : Nat) : Int) - 1)).toNat) else none
 else k7 y3)
def M39_L1 (F : Nat) (a2 : (List TExposure)) (k4 : Option Bool) : List TExposure → Int → Option Bool
  | [], n6 => k4
  | x8 :: tl1, n6 => (idx a2 n6).bind fun x10 => if (!(decide (x8 = x10))) = true then some false
 else M39_L1 F a2 k4 tl1 (n6 + 1)
def M39 (F : Nat) (a1 : (List TExposure)) (a2 : (List TExposure)) : Option Bool :=
 if (((a1.length : Nat) : Int) != ((a2.length : Nat) : Int)) = true then some false
 else jn (some true) (fun k4 => M39_L1 F a2 k4 a1 0)
def M18 (F : Nat) (a1 : TRelease) (a2 : TRelease) : Option Bool :=
 if (a1.Version == a2.Version) = true then if (a1.Day == a2.Day) = true then (M39 F a1.Exposures a2.Exposures).bind fun y5 => some y5
 else some false
 else some false
def M17_L1 (F : Nat) (a2 : (List TRelease)) (k4 : Option Bool) : List TRelease → Int → Option Bool
  | [], n6 => k4
  | x8 :: tl1, n6 => (idx a2 n6).bind fun x10 => (M18 F x8 x10).bind fun y12 => if (!y12) = true then some false
 else M17_L1 F a2 k4 tl1 (n6 + 1)
def M17 (F : Nat) (a1 : (List TRelease)) (a2 : (List TRelease)) : Option Bool :=
 if (((a1.length : Nat) : Int) != ((a2.length : Nat) : Int)) = true then some false
 else jn (some true) (fun k4 => M17_L1 F a2 k4 a1 0)
def M19_L1 (F : Nat) (a2 : (List TPublished)) (k4 : Option Bool) : List TPublished → Int → Option Bool
  | [], n6 => k4
  | x8 :: tl1, n6 => (idx a2 n6).bind fun x10 => if (!(decide (x8 = x10))) = true then some false
 else M19_L1 F a2 k4 tl1 (n6 + 1)
def M19 (F : Nat) (a1 : (List TPublished)) (a2 : (List TPublished)) : Option Bool :=
 if (((a1.length : Nat) : Int) != ((a2.length : Nat) : Int)) = true then some false
 else jn (some true) (fun k4 => M19_L1 F a2 k4 a1 0)
def M7 (F : Nat) (a1 : TStory) (a2 : TStory) : Option Bool :=
 if (a1.Product == a2.Product) = true then if (a1.Until == a2.Until) = true then (M17 F a1.Releases a2.Releases).bind fun y5 => if y5 = true then (M19 F a1.Known a2.Known).bind fun y8 => some y8
 else some false
 else some false
 else some false
def M4 (F : Nat) (a1 : TStory) : Option Bool :=
 (M9 F a1).bind fun y2 => (M10 F a1).bind fun y4 => if (!((y2.1) == (y4.1))) = true then some false
 else if ((y2.2) != (y4.2)) = true then some false
 else if ((y2.2) != 0) = true then (M8 F).bind fun y9 => some y9
 else (M5 F (y2.1)).bind fun y11 => if ((y11.2.2) == 0) = true then if ((y11.2.1) == 0) = true then (M7 F (y11.1) a1).bind fun y15 => if y15 = true then (M8 F).bind fun y18 => some y18
 else some false
 else some false
 else some false
end
end Go.Proofs.YtcoppoeibjkinaaDoor
namespace Go.Pv
open Go
set_option linter.unusedVariables false
theorem w64_id {n : Int} (h : -9223372036854775808 ≤ n) (h' : n ≤ 9223372036854775807) : w64 n = n := by
 have : w64 n = if n % 18446744073709551616 ≥ 9223372036854775808 then n % 18446744073709551616 - 18446744073709551616 else n % 18446744073709551616 := by
  simp [w64, IntKind.wrap, IntKind.signed, IntKind.bits]
 rw [this]
 split <;> omega
theorem jn_def {α β : Type} (k : α) (b : α → β) : jn k b = b k := rfl
theorem idx_nat {α : Type} {xs : List α} {j : Nat} (h : j < xs.length) : idx xs (j : Int) = some xs[j] := by
 simp [idx, h]
theorem if_t {α : Type} {p : Prop} [Decidable p] {x y : α} (h : p) : (if decide p = true then x else y) = x := by simp [h]
theorem if_f {α : Type} {p : Prop} [Decidable p] {x y : α} (h : ¬ p) : (if decide p = true then x else y) = y := by simp [h]
theorem mget_mput {α β : Type} [DecidableEq α] (xs : List (α × β)) (k k' : α) (v : β) : mget (mput xs k v) k' = if k = k' then some v else mget xs k' := by
 induction xs with
 | nil => simp [mput, mget]
 | cons p r ih =>
  simp only [mput]
  split
  ·rename_i h
   simp only [mget, h]
   split <;> simp_all
  ·rename_i h
   simp only [mget]
   by_cases h2 : p.1 = k'
   ·rw [if_pos h2, if_pos h2, if_neg (fun e => h (h2.trans e.symm))]
   ·rw [if_neg h2, if_neg h2]; exact ih
theorem bl_cons (x : UInt8) (a : List UInt8) (y : UInt8) (b : List UInt8) : Op.bytesLess (x :: a) (y :: b) = (decide (x < y) || (x == y && Op.bytesLess a b)) := by
 rw [Op.bytesLess]
theorem bl_irrefl : ∀ a : List UInt8, Op.bytesLess a a = false
 | [] => by simp [Op.bytesLess]
 | x :: a => by rw [bl_cons, bl_irrefl a]; simp
theorem bl_trans : ∀ {a b c : List UInt8}, Op.bytesLess a b = true → Op.bytesLess b c = true → Op.bytesLess a c = true
 | [], [], _, h, _ => by simp [Op.bytesLess] at h
 | [], y :: b, [], _, h => by simp [Op.bytesLess] at h
 | [], y :: b, z :: c, _, _ => by simp [Op.bytesLess]
 | x :: a, [], _, h, _ => by simp [Op.bytesLess] at h
 | x :: a, y :: b, [], _, h => by simp [Op.bytesLess] at h
 | x :: a, y :: b, z :: c, h, g => by
  rw [bl_cons] at *
  simp only [Bool.or_eq_true, decide_eq_true_eq, Bool.and_eq_true, beq_iff_eq, UInt8.lt_iff_toNat_lt] at *
  rcases h with h | ⟨rfl, h⟩ <;> rcases g with g | ⟨rfl, g⟩
  ·exact .inl (by omega)
  ·exact .inl h
  ·exact .inl g
  ·exact .inr ⟨rfl, bl_trans h g⟩
theorem bl_tri : ∀ a b : List UInt8, Op.bytesLess a b = true ∨ a = b ∨ Op.bytesLess b a = true
 | [], [] => by simp
 | [], y :: b => by simp [Op.bytesLess]
 | x :: a, [] => by simp [Op.bytesLess]
 | x :: a, y :: b => by
  rw [bl_cons, bl_cons]
  simp only [Bool.or_eq_true, decide_eq_true_eq, Bool.and_eq_true, beq_iff_eq, UInt8.lt_iff_toNat_lt, List.cons.injEq]
  rcases Nat.lt_trichotomy x.toNat y.toNat with h | h | h
  ·exact .inl (.inl h)
  ·have := UInt8.toNat_inj.1 h
   subst this
   rcases bl_tri a b with h | h | h
   ·exact .inl (.inr ⟨rfl, h⟩)
   ·exact .inr (.inl ⟨rfl, h⟩)
   ·exact .inr (.inr (.inr ⟨rfl, h⟩))
  ·exact .inr (.inr (.inl h))
theorem bl_asymm {a b : List UInt8} (h : Op.bytesLess a b = true) : Op.bytesLess b a = false := by
 cases h' : Op.bytesLess b a with
 | false => rfl
 | true => have := bl_trans h h'; rw [bl_irrefl] at this; simp at this
theorem bl_ne {a b : List UInt8} (h : Op.bytesLess a b = true) : a ≠ b := by rintro rfl; rw [bl_irrefl] at h; simp at h
theorem bl_gt (a b : List UInt8) : (!(Op.bytesLess a b || a == b)) = Op.bytesLess b a := by
 rcases bl_tri a b with h | h | h
 ·rw [h, bl_asymm h]; simp
 ·subst h; simp [bl_irrefl]
 ·rw [h, bl_asymm h]; simp; exact fun e => bl_ne h e.symm
def cmpS (a b : List UInt8) : Int := if Op.bytesLess a b = true then -1 else if Op.bytesLess b a = true then 1 else 0
theorem cmpS_lt {a b : List UInt8} : cmpS a b < 0 ↔ Op.bytesLess a b = true := by unfold cmpS; split <;> (try split) <;> simp_all
theorem cmpS_eq {a b : List UInt8} : cmpS a b = 0 ↔ a = b := by
 unfold cmpS; split
 ·rename_i h; simp [bl_ne h]
 ·split
  ·rename_i h; simp; exact fun e => bl_ne h e.symm
  ·rename_i h h'
   simp
   rcases bl_tri a b with g | g | g
   ·exact absurd g h
   ·exact g
   ·exact absurd g h'
theorem eqL_at {α : Type} [DecidableEq α] {g : List α → Int → Option Bool} (b : List α) (k : Option Bool)
  (h0 : ∀ n, g [] n = k) (h1 : ∀ x l n, g (x :: l) n = (idx b n).bind fun y => if (!(decide (x = y))) = true then some false else g l (n + 1)) :
  ∀ (l : List α) (n : Nat), n + l.length ≤ b.length → g l n = if l = (b.drop n).take l.length then k else some false
 | [], n, _ => by simp [h0]
 | x :: l, n, h => by
  have hn : n < b.length := by simp at h; omega
  rw [h1, idx_nat hn, Option.bind_some]
  have ih := eqL_at b k h0 h1 l (n + 1) (by simp at h; omega)
  have e : ((n : Int) + 1) = ((n + 1 : Nat) : Int) := rfl
  rw [e, ih, List.drop_eq_getElem_cons hn]
  simp only [List.length_cons, List.take_succ_cons, List.cons.injEq]
  by_cases hx : x = b[n]
  ·simp [hx]
  ·simp [hx]
theorem eqL_all {α : Type} [DecidableEq α] {g : List α → Int → Option Bool} (b : List α)
  (h0 : ∀ n, g [] n = some true) (h1 : ∀ x l n, g (x :: l) n = (idx b n).bind fun y => if (!(decide (x = y))) = true then some false else g l (n + 1)) (a : List α) :
  (if (((a.length : Nat) : Int) != ((b.length : Nat) : Int)) = true then some false else g a 0) = some (decide (a = b)) := by
 by_cases h : a.length = b.length
 ·rw [if_neg (by simp [h])]
  have := eqL_at b (some true) h0 h1 a 0 (by omega)
  rw [show ((0 : Nat) : Int) = 0 from rfl] at this
  rw [this, List.drop_zero, List.take_of_length_le (by omega)]
  split <;> simp [*]
 ·rw [if_pos (by simp; omega)]
  have : a ≠ b := fun e => h (by rw [e])
  simp [this]
theorem bytesL {β : Type} {g : Nat → Int → Option β} {k : Option β} {f : β} (s : List UInt8) (p : UInt8 → Bool) (h0 : ∀ n, g 0 n = k)
  (h1 : ∀ m n, g (m + 1) n = (idx s n).bind fun c => if p c = true then g m (n + 1) else some f) :
  ∀ (m n : Nat), n + m = s.length → g m n = if (s.drop n).all p = true then k else some f
 | 0, n, h => by rw [h0, List.drop_eq_nil_of_le (by omega)]; simp
 | m + 1, n, h => by
  have hn : n < s.length := by omega
  have e : ((n : Int) + 1) = ((n + 1 : Nat) : Int) := rfl
  rw [h1, idx_nat hn, Option.bind_some, e, bytesL s p h0 h1 m (n + 1) (by omega), List.drop_eq_getElem_cons hn, List.all_cons]
  cases h : p s[n]
  ·simp only [Bool.false_and, Bool.false_eq_true, if_false]
  ·simp only [Bool.true_and, if_true]
end Go.Pv
