/- Part of the proof: KL. -/
import Derived.Test.YtiphmdpaajjdeaaGreatDoorGPvK
import Derived.OpenShut
import Derived.MakeChecks
namespace Go.Pv
open Go
set_option linter.unusedVariables false
theorem laidVars_mem {P : Program} {w : World} {name : String} {d : DataW Unit} : ∀ {laid : List (String × DataW Unit)} {ps : List MemPlace}, DataW.LaidVars P w laid ps → (name, d) ∈ laid →
    ∃ g t cs fuel p, P.globalNamed name = some g ∧ (P.globals[g]?).map (·.type) = some t ∧ w.var? P name = some cs ∧ DataW.trod (fun _ => ()) P w 0 (fun _ => true) false fuel t cs.toList = some (d, p)
  | [], _, _, h => by simp at h
  | (n, d') :: r, ps, hl, h => by
    obtain ⟨g, t, cs, fuel, p, q, hg, ht, hv, hd, hr, _⟩ := hl
    rcases List.mem_cons.1 h with h | h
    · cases h
      exact ⟨g, t, cs, fuel, p, hg, ht, hv, hd⟩
    · exact laidVars_mem hr h
theorem laid_tab {P : Program} {w : World} {laid : List (String × DataW Unit)} (hL : laidMet P laid w) {name : String} {vals : List Int} {k : IntKind} {g t n e : Nat}
    (hin : (name, DataW.agg (vals.map fun v => .lit (.int k v))) ∈ laid) (hg : P.globalNamed name = some g) (ht : (P.globals[g]?).map (·.type) = some t) (hu : P.underlying t = some (.array n e))
    (he : P.underlying e = some (.int k)) (hc : P.cellsOf e = 1) (hcs : P.cellsOf t = n) : GlAt (memOf w) g (vals.map fun v => V.con (.int k v)) := by
  obtain ⟨ps, hl, _⟩ := hL
  obtain ⟨g', t', cs, fuel, p, hg', ht', hv, hd⟩ := laidVars_mem hl hin
  obtain rfl := Option.some.inj (hg.symm.trans hg')
  obtain rfl := Option.some.inj (ht.symm.trans ht')
  obtain ⟨xs, m, _, hx, hlen, hn, hel⟩ := DataW.trod_array hu hd
  simp only [Prod.mk.injEq, DataW.agg.injEq] at hx
  have hlx : xs.length = vals.length := by
    have := congrArg List.length hx.1
    simpa using this.symm
  have hcell : ∀ (i : Nat) (v : Int), vals[i]? = some v → cs.toList[i]? = some (.int k v) := by
    intro i v hv'
    have hi : i < vals.length := (List.getElem?_eq_some_iff.1 hv').1
    have hE := hel i (by omega)
    rw [hc, Nat.mul_one, List.getElem?_eq_getElem (by omega)] at hE
    obtain ⟨z, e1, e2, _⟩ := DataW.trod_int he hE
    have e4 : (xs.map (·.1))[i]? = (vals.map fun v => (DataW.lit (.int k v) : DataW Unit))[i]? := by rw [hx.1]
    rw [List.getElem?_map, List.getElem?_map, List.getElem?_eq_getElem (by omega : i < xs.length), hv', e2] at e4
    simp only [Option.map_some, Option.some.injEq, DataW.lit.injEq, Lit.int.injEq, true_and] at e4
    subst e4
    have h0 : ((cs.toList.drop i).take 1)[0]? = some (.int k z) := by rw [e1]; rfl
    simpa using h0
  unfold World.var? at hv
  rw [hg, Option.bind_some] at hv
  split at hv
  case h_2 => simp at hv
  rename_i cs' T fr hblk
  simp only [Option.some.injEq] at hv
  subst hv
  have hsz : cs'.size = n := by
    have := hd
    have hlen' := hlen
    exact hlen'.trans hcs
  refine ⟨?_, cs', T, fr, hblk, by rw [hsz, List.length_map, ← hlx, hn]⟩
  refine IRel.iptr (arr := cs') (T := T) (fr := fr) (fun i => (cs'[i]?).getD undef) 0 hblk rfl rfl ?_ ?_
  · intro i hi
    have hi' : i < vals.length := by simpa using hi
    have := hcell i vals[i] (List.getElem?_eq_getElem hi')
    rw [Array.getElem?_toList] at this
    rw [Nat.zero_add, this]; rfl
  · intro j c hj
    rw [List.getElem?_map, Option.map_eq_some_iff] at hj
    obtain ⟨v, hv', rfl⟩ := hj
    have := hcell j v hv'
    rw [Array.getElem?_toList] at this
    simp only [this, Option.getD_some]
    exact .con _
theorem GlOk.cons {m : Mem} {gl : Gl} {g : Nat} {row : List V} (h : GlAt m g row) (hr : GlOk gl m) : GlOk ((g, row) :: gl) m := by
  intro g' row' hg
  rw [glk] at hg
  cases hb : Nat.beq g g' with
  | true =>
    rw [hb] at hg
    have e := Nat.eq_of_beq_eq_true hb
    subst e
    simp only [cond_true, Option.some.injEq] at hg
    subst hg
    exact h
  | false =>
    rw [hb] at hg
    exact hr g' row' hg
end Go.Pv
