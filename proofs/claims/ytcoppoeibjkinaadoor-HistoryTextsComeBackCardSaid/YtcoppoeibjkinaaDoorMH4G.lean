/- Part of the proof: KL, H4G. -/
import Derived.Test.YtcoppoeibjkinaaDoorMPvX
import Derived.OpenShut
import Derived.MakeChecks
import Derived.Test.YtcoppoeibjkinaaDoorMH4T
import Derived.Test.YtcoppoeibjkinaaDoorMH4Sh
namespace Go.Pv
open Go
set_option linter.unusedVariables false
theorem laidVars_mem {P : Program} {w : World} {name : String} {d : DataW Unit} : ∀ {laid : List (String × DataW Unit)} {ps : List MemPlace}, DataW.LaidVars P w laid ps → (name, d) ∈ laid →
  ∃ g t cs fuel p, P.globalNamed name = some g ∧ (P.globals[g]?).map (·.type) = some t ∧ w.var? P name = some cs ∧ DataW.trod (fun _ => ()) P w 0 (fun _ => true) false fuel t cs.toList = some (d, p)
 | [], _, _, h => by simp at h
 | (n, d') :: r, ps, hl, h => by
  obtain ⟨g, t, cs, fuel, p, q, hg, ht, hv, hd, hr, _⟩ := hl
  rcases List.mem_cons.1 h with h | h
  ·cases h
   exact ⟨g, t, cs, fuel, p, hg, ht, hv, hd⟩
  ·exact laidVars_mem hr h
theorem laid_tab {P : Program} {w : World} {laid : List (String × DataW Unit)} (hL : laidMet P laid w) {name : String} {vals : List Int} {k : IntKind} {g t n e : Nat}
  (hin : (name, DataW.agg (vals.map fun v => .lit (.int k v))) ∈ laid) (hg : P.globalNamed name = some g) (ht : (P.globals[g]?).map (·.type) = some t) (hu : P.underlying t = some (.array n e))
  (he : P.underlying e = some (.int k)) (hc : P.cellsOf e = 1) (hcs : P.cellsOf t = n) : GlAt (memOf w) g (vals.map fun v => V.con (.int k v)) := by
 obtain ⟨ps, hl, _⟩ := hL
 obtain ⟨g', t', cs, fuel, p, hg', ht', hv, hd⟩ := laidVars_mem hl hin
 obtain rfl := Option.some.inj (hg.symm.trans hg')
 obtain rfl := Option.some.inj (ht.symm.trans ht')
 obtain ⟨xs, m, _, hx, hlen, hn, hel⟩ := DataW.trod_array hu hd
 simp only [Prod.mk.injEq, DataW.agg.injEq] at hx
 have hlx : xs.length = vals.length := by
  have := congrArg List.length hx.1
  simpa using this.symm
 have hcell : ∀ (i : Nat) (v : Int), vals[i]? = some v → cs.toList[i]? = some (.int k v) := by
  intro i v hv'
  have hi : i < vals.length := (List.getElem?_eq_some_iff.1 hv').1
  have hE := hel i (by omega)
  rw [hc, Nat.mul_one, List.getElem?_eq_getElem (by omega)] at hE
  obtain ⟨z, e1, e2, _⟩ := DataW.trod_int he hE
  have e4 : (xs.map (·.1))[i]? = (vals.map fun v => (DataW.lit (.int k v) : DataW Unit))[i]? := by rw [hx.1]
  rw [List.getElem?_map, List.getElem?_map, List.getElem?_eq_getElem (by omega : i < xs.length), hv', e2] at e4
  simp only [Option.map_some, Option.some.injEq, DataW.lit.injEq, Lit.int.injEq, true_and] at e4
  subst e4
  have h0 : ((cs.toList.drop i).take 1)[0]? = some (.int k z) := by rw [e1]; rfl
  simpa using h0
 unfold World.var? at hv
 rw [hg, Option.bind_some] at hv
 split at hv
 case h_2 => simp at hv
 rename_i cs' T fr hblk
 simp only [Option.some.injEq] at hv
 subst hv
 have hsz : cs'.size = n := by
  have := hd
  have hlen' := hlen
  exact hlen'.trans hcs
 refine ⟨?_, cs', T, fr, hblk, by rw [hsz, List.length_map, ← hlx, hn]⟩
 refine IRel.iptr (arr := cs') (T := T) (fr := fr) (fun i => (cs'[i]?).getD undef) 0 hblk rfl rfl ?_ ?_
 ·intro i hi
  have hi' : i < vals.length := by simpa using hi
  have := hcell i vals[i] (List.getElem?_eq_getElem hi')
  rw [Array.getElem?_toList] at this
  rw [Nat.zero_add, this]; rfl
 ·intro j c hj
  rw [List.getElem?_map, Option.map_eq_some_iff] at hj
  obtain ⟨v, hv', rfl⟩ := hj
  have := hcell j v hv'
  rw [Array.getElem?_toList] at this
  simp only [this, Option.getD_some]
  exact .con _
theorem GlOk.cons {m : Mem} {gl : Gl} {g : Nat} {row : List V} (h : GlAt m g row) (hr : GlOk gl m) : GlOk ((g, row) :: gl) m := by
 intro g' row' hg
 rw [glk] at hg
 cases hb : Nat.beq g g' with
 | true =>
  rw [hb] at hg
  have e := Nat.eq_of_beq_eq_true hb
  subst e
  simp only [cond_true, Option.some.injEq] at hg
  subst hg
  exact h
 | false =>
  rw [hb] at hg
  exact hr g' row' hg
end Go.Pv
namespace Go.Proofs.YtcoppoeibjkinaaDoor
open Go Go.Pv
set_option linter.unusedVariables false
set_option linter.unusedSimpArgs false
theorem okR_of {r : TRelease} (h : okTRelease r) : okR r := ⟨h.1, fun x hx => ⟨(h.2.2.1.1 x hx).1, (h.2.2.1.1 x hx).2.1⟩⟩
theorem okSt_of {s : TStory} (h : okTStory s) : okSt s := ⟨h.1, fun r hr => okR_of (h.2.1.1 r hr), fun k hk => (h.2.2.1.1 k hk).1⟩
theorem gl_of (W : World) (h : W.ShapedOpen Tryd.prog) {laid : List (String × DataW Unit)} (hL : laidMet Tryd.prog laid W) (hin : ("internal/strconv.uint64pow10", DataW.agg (((List.range 20).map tab1).map fun v => .lit (.int .u64 v))) ∈ laid) : ∃ mx, GlOk (gl mx) (memOf W) := by
 obtain ⟨m, hm⟩ := Tryd.laysM146.s1_3 W h
 obtain ⟨h1, _⟩ := h
 have hz : (((begin Tryd.prog (fun _ _ => 0) default).world.heap[0]?).bind Obj.row?) = some (#[.int .i64 0], 3) := by kernel_rfl
 obtain ⟨cs, hc, hs, _⟩ := h1 0 _ _ (of_decide_eq_true (by kernel_rfl)) hz
 have hm : W.cell? ⟨0, 0, none⟩ = some (.int .i64 m) := hm
 have h0 : cs[0]? = some (.int .i64 m) := by simpa [World.cell?, hc] using hm
 have ht := laid_tab hL (k := .u64) (g := 1) (t := 124) (n := 20) (e := 111) hin (by kernel_rfl) (by kernel_rfl) (by kernel_rfl) (by kernel_rfl) (by kernel_rfl) (by kernel_rfl)
 refine ⟨m, GlOk.cons ⟨.iptr (arr := cs) (T := 3) (fr := (0, 0)) (fun _ => .int .i64 m) 0 hc rfl rfl (fun i hi => ?_) (fun i c hi => ?_), cs, 3, (0, 0), hc, hs⟩ (GlOk.cons ht GlOk.nil)⟩
 ·match i with
  | 0 => exact h0
  | i + 1 => simp at hi
 ·match i with
  | 0 => simp at hi; subst hi; exact .con _
  | i + 1 => simp at hi
end Go.Proofs.YtcoppoeibjkinaaDoor
