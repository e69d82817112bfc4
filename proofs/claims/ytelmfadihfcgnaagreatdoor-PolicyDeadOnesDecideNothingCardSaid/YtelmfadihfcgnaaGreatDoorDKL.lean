/- Part of the proof: KL. -/
import Derived.Test.YtelmfadihfcgnaaGreatDoorDD5PB
import Derived.OpenShut
import Derived.MakeChecks
namespace Go.Pv
open Go
set_option linter.unusedVariables false
theorem GlOk.cons{m:Mem}{gl:Gl}{g:Nat}{row:List V}(h:GlAt m g row)(hr:GlOk gl m):GlOk ((g,row)::gl) m:=by
 intro g' row' hg
 rw[glk] at hg
 cases hb:Nat.beq g g' with
 |true=>
  rw[hb] at hg
  have e:=Nat.eq_of_beq_eq_true hb
  subst e
  simp only[cond_true,Option.some.injEq] at hg
  subst hg
  exact h
 |false=>
  rw[hb] at hg
  exact hr g' row' hg
end Go.Pv
