/- Part of the proof: H3W3c, KL, H3G. -/
import Derived.Test.YtcoppoeibjkinaaDoorLPvX
import Derived.Test.YtcoppoeibjkinaaDoorLH3W3a
import Derived.Test.YtcoppoeibjkinaaDoorLH3W3b
import Derived.KernelRfl
import Derived.Test.YtcoppoeibjkinaaDoorLH3O
import Derived.OpenShut
import Derived.MakeChecks
import Derived.Test.YtcoppoeibjkinaaDoorLH3Sh
namespace Go.Proofs.YtcoppoeibjkinaaDoor
open Go Go.Pv
set_option linter.unusedVariables false
set_option maxRecDepth 100000
variable {mx : Int}
theorem W3 (F : Nat) (a1 : (List UInt8)) (r : Bool) (h : M3 F a1 = some r) : PureG (gl mx) Tryd.prog 3 [(sV a1)] (bV r) := by
 refine pin (fun r => (bV r)) r rfl Tryd.func3 rfl rfl rfl rfl rfl (fun w0 m0 hg => ?_)
 unfold M3 at h
 refine rn 7 rfl ?_
 refine cl h rfl rfl rfl (W5 _ _) rfl (fun y2 hx3 h => ?_)
 refine rn 12 rfl ?_
 refine cl h rfl rfl rfl (W6 _ _) rfl (fun y4 hx5 h => ?_)
 refine rn 13 rfl ?_
 refine cl h rfl rfl rfl (W7 _ _ _) rfl (fun y6 hx7 h => ?_)
 refine rn 1 rfl ?_
 refine spO 24 h rfl (fun hb8 h => ?_) (fun hb8 h => ?_)
 ·refine rn 5 rfl ?_
  refine spO 29 h rfl (fun hb9 h => ?_) (fun hb9 h => ?_)
  ·refine rn 5 rfl ?_
   refine spO 34 h rfl (fun hb10 h => ?_) (fun hb10 h => ?_)
   ·refine cl h rfl rfl rfl (W8 _) rfl (fun y11 hx12 h => ?_)
    refine rn 3 rfl ?_
    exact rt h rfl
   refine rn 4 rfl ?_
   exact rt h rfl
  refine rn 9 rfl ?_
  exact rt h rfl
 refine rn 14 rfl ?_
 exact rt h rfl
end Go.Proofs.YtcoppoeibjkinaaDoor
namespace Go.Pv
open Go
set_option linter.unusedVariables false
theorem GlOk.cons {m : Mem} {gl : Gl} {g : Nat} {row : List V} (h : GlAt m g row) (hr : GlOk gl m) : GlOk ((g, row) :: gl) m := by
 intro g' row' hg
 rw [glk] at hg
 cases hb : Nat.beq g g' with
 | true =>
  rw [hb] at hg
  have e := Nat.eq_of_beq_eq_true hb
  subst e
  simp only [cond_true, Option.some.injEq] at hg
  subst hg
  exact h
 | false =>
  rw [hb] at hg
  exact hr g' row' hg
end Go.Pv
namespace Go.Proofs.YtcoppoeibjkinaaDoor
open Go Go.Pv
set_option linter.unusedVariables false
set_option linter.unusedSimpArgs false
theorem gl_of (W : World) (h : W.ShapedOpen Tryd.prog) : ∃ mx, GlOk (gl mx) (memOf W) := by
 obtain ⟨m, hm⟩ := Tryd.laysM146.s1_3 W h
 obtain ⟨h1, _⟩ := h
 have hz : (((begin Tryd.prog (fun _ _ => 0) default).world.heap[0]?).bind Obj.row?) = some (#[.int .i64 0], 3) := by kernel_rfl
 obtain ⟨cs, hc, hs, _⟩ := h1 0 _ _ (of_decide_eq_true (by kernel_rfl)) hz
 have hm : W.cell? ⟨0, 0, none⟩ = some (.int .i64 m) := hm
 have h0 : cs[0]? = some (.int .i64 m) := by simpa [World.cell?, hc] using hm
 refine ⟨m, GlOk.cons ⟨.iptr (arr := cs) (T := 3) (fr := (0, 0)) (fun _ => .int .i64 m) 0 hc rfl rfl (fun i hi => ?_) (fun i c hi => ?_), cs, 3, (0, 0), hc, hs⟩ GlOk.nil⟩
 ·match i with
  | 0 => exact h0
  | i + 1 => simp at hi
 ·match i with
  | 0 => simp at hi; subst hi; exact .con _
  | i + 1 => simp at hi
end Go.Proofs.YtcoppoeibjkinaaDoor
