/- Part of the proof: DQ. -/
import Derived.Test.YtpbkggamiipdmaaGreatR3DP
namespace Go.Pv
open Go
inductive Und : V → V → Prop
  | imm {c : V} (h : c.deep = false) : Und c c
  | sl {e k : Nat} {rows rows' : List (List V)} (hl : rows.length = rows'.length)
      (h0 : ∀ (i : Nat) (r r' : List V), rows[i]? = some r → rows'[i]? = some r' → r.length = r'.length)
      (h : ∀ (i j : Nat) (r r' : List V) (c c' : V), rows[i]? = some r → rows'[i]? = some r' → r[j]? = some c → r'[j]? = some c' → Und c c') : Und (.dsl e k rows) (.lst k rows')
  | mp {es es' : List (Value × V)} (hl : es.length = es'.length)
      (hk : ∀ (i : Nat) (p p' : Value × V), es[i]? = some p → es'[i]? = some p' → p.1 = p'.1)
      (h : ∀ (i : Nat) (p p' : Value × V), es[i]? = some p → es'[i]? = some p' → Und p.2 p'.2) : Und (.dmp es) (.imap es')
  | pt {e : Nat} {row row' : List V} (hl : row.length = row'.length) (h : ∀ (j : Nat) (c c' : V), row[j]? = some c → row'[j]? = some c' → Und c c') : Und (.dpt e row) (.iptr row' 0)
theorem flat_idx {k n p : Nat} (h : p < n * k) : p / k < n ∧ p % k < k ∧ (p / k) * k + p % k = p := by
  have hk : 0 < k := by
    rcases Nat.eq_zero_or_pos k with h0 | h0
    · subst h0; simp at h
    · exact h0
  refine ⟨(Nat.div_lt_iff_lt_mul hk).2 h, Nat.mod_lt _ hk, ?_⟩
  rw [Nat.mul_comm]; exact Nat.div_add_mod p k
theorem DRel.und {m m' : Mem} {w : World} {B : Nat → Prop} {c : V} {v : Value} (h : DRel m w B c v) (hm : m.le m') : ∀ c', Und c c' → (∀ x, B x → m' x = w.heap[x]?) → IRel m' c' v := by
  induction h with
  | imm h =>
    intro c' hu _
    cases hu with
    | imm _ => exact h.mono hm
    | sl _ _ _ => cases h
    | mp _ _ _ => cases h
    | pt _ _ => cases h
  | nil e k a =>
    intro c' hu _
    cases hu with
    | imm h => simp [V.deep] at h
    | sl hl _ _ =>
      have := List.length_eq_zero_iff.1 hl.symm
      subst this; exact .nil _ _ _
  | @sl B k b cap off e rows arr bl f hb hbb hBl h1 h2 h3 h4 h5 h6 _ ih =>
    intro c' hu hB
    cases hu with
    | imm h => simp [V.deep] at h
    | @sl _ _ _ rows' hl h0 hh =>
      have hlen : ∀ r', r' ∈ rows' → r'.length = k := by
        intro r' hr
        obtain ⟨i, hi⟩ := List.mem_iff_getElem?.1 hr
        have hlt := (List.getElem?_eq_some_iff.1 hi).1
        have hlt' : i < rows.length := by omega
        rw [← h0 i _ r' (List.getElem?_eq_getElem hlt') hi]
        exact h5 _ (List.getElem_mem hlt')
      refine .lst (T := e) (arr := arr) (fr := (0, 0)) f (by rw [hB b hb, h1]) rfl hl.symm h3 (by omega) hlen (fun p hp => ?_) (fun i j r' c' hr hc => ?_)
      · rw [← hl] at hp
        obtain ⟨g1, g2, g3⟩ := flat_idx hp
        have hr : rows[p / k]? = some rows[p / k] := List.getElem?_eq_getElem g1
        have hlr : p % k < rows[p / k].length := by rw [h5 _ (List.getElem_mem g1)]; exact g2
        have := (h6 (p / k) (p % k) _ _ hr (List.getElem?_eq_getElem hlr)).1
        rw [g3] at this; exact this
      · have hlt := (List.getElem?_eq_some_iff.1 hr).1
        have hlt' : i < rows.length := by omega
        have hr0 : rows[i]? = some rows[i] := List.getElem?_eq_getElem hlt'
        have hj := (List.getElem?_eq_some_iff.1 hc).1
        have hj' : j < rows[i].length := by rw [h0 i _ r' hr0 hr]; exact hj
        have hc0 : rows[i][j]? = some rows[i][j] := List.getElem?_eq_getElem hj'
        exact ih i j _ _ hr0 hc0 c' (hh i j _ r' _ c' hr0 hr hc0 hc) (fun x hx => hB x (hBl.1 _ x hx))
  | @mp B b es ents clock bl hb hbb hBl h1 h2 h3 _ ih =>
    intro c' hu hB
    cases hu with
    | imm h => simp [V.deep] at h
    | @mp _ es' hl hkk hh =>
      refine .imap (by rw [hB b hb, h1]) (by rw [← hl]; exact h2) (fun i p' e hp he => ?_) (fun i p' e hp he => ?_)
      · have hlt : i < es.length := by rw [hl]; exact (List.getElem?_eq_some_iff.1 hp).1
        rw [h3 i _ e (List.getElem?_eq_getElem hlt) he]
        exact hkk i _ p' (List.getElem?_eq_getElem hlt) hp
      · have hlt : i < es.length := by rw [hl]; exact (List.getElem?_eq_some_iff.1 hp).1
        exact ih i _ e (List.getElem?_eq_getElem hlt) he _ (hh i _ p' (List.getElem?_eq_getElem hlt) hp) (fun x hx => hB x (hBl.1 _ x hx))
  | @pt B b row T arr bl f hb hbb hBl h1 h2 h3 _ ih =>
    intro c' hu hB
    cases hu with
    | imm h => simp [V.deep] at h
    | @pt _ _ row' hl hh =>
      refine .iptr (T := T) (arr := arr) (fr := (0, 0)) f 0 (by rw [hB b hb, h1]) rfl rfl (fun p hp => ?_) (fun j c' hc => ?_)
      · have hlt : p < row.length := by omega
        have := (h3 p _ (List.getElem?_eq_getElem hlt)).1
        simpa using this
      · have hlt : j < row.length := by rw [hl]; exact (List.getElem?_eq_some_iff.1 hc).1
        exact ih j _ (List.getElem?_eq_getElem hlt) c' (hh j _ c' (List.getElem?_eq_getElem hlt) hc) (fun x hx => hB x (hBl.1 _ x hx))
section
variable {K : Ctx} {S : St}
end
end Go.Pv
