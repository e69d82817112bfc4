/- Part of the proof: KL, R4G. -/
import Derived.Test.YtjofofmllnpkpaaGreatDoorSR4O
import Derived.OpenShut
import Derived.MakeChecks
import Derived.Test.YtjofofmllnpkpaaGreatDoorSR4T
import Derived.Test.YtjofofmllnpkpaaGreatDoorSEI
namespace Go.Pv
open Go
set_option linter.unusedVariables false
theorem GlOk.cons{m:Mem}{gl:Gl}{g:Nat}{row:List V}(h:GlAt m g row)(hr:GlOk gl m):GlOk ((g,row)::gl) m:=by
 intro g' row' hg
 rw[glk] at hg
 cases hb:Nat.beq g g' with
 |true=>
  rw[hb] at hg
  have e:=Nat.eq_of_beq_eq_true hb
  subst e
  simp only[cond_true,Option.some.injEq] at hg
  subst hg
  exact h
 |false=>
  rw[hb] at hg
  exact hr g' row' hg
end Go.Pv
namespace Go.Proofs.YtjofofmllnpkpaaGreatDoor
open Go Go.Pv
set_option linter.unusedVariables false
set_option linter.unusedSimpArgs false
theorem gl_of(W:World)(h:W.ShapedOpen Tryz.prog):∃mx,GlOk (gl mx) (memOf W):=by
 obtain⟨m,hm⟩:=Tryz.laysM138.s1_3 W h
 obtain⟨h1,_⟩:=h
 have hz:(((begin Tryz.prog (fun _ _=>0) default).world.heap[0]?).bind Obj.row?)=some (#[.int .i64 0],3):=by kernel_rfl
 obtain⟨cs,hc,hs,_⟩:=h1 0 _ _ (of_decide_eq_true (by kernel_rfl)) hz
 have hm:W.cell? ⟨0,0,none⟩=some (.int .i64 m):=hm
 have h0:cs[0]? = some (.int .i64 m):=by simpa[World.cell?,hc] using hm
 refine⟨m,GlOk.cons ⟨.iptr (arr:=cs) (T:=3) (fr:=(0,0)) (fun _=>.int .i64 m) 0 hc rfl rfl (fun i hi=>?_) (fun i c hi=>?_),cs,3,(0,0),hc,hs⟩ GlOk.nil⟩
 ·match i with
  |0=>exact h0
  |i+1=>simp at hi
 ·match i with
  |0=>simp at hi;subst hi;exact .con _
  |i+1=>simp at hi
end Go.Proofs.YtjofofmllnpkpaaGreatDoor
