/- ReachSummariesCompose is proved: for all graphs, features and components, with the summaries of these components just what is reached is reached. Conditions: none beyond the given statement. -/
import Derived.Test.YtpbkggamiipdmaaGreatC6EV
import Derived.Test.YtpbkggamiipdmaaGreatC6ZC6W6b
import Derived.Test.YtpbkggamiipdmaaGreatRows
import Derived.WalkKit
import Derived.ProofKit
import Derived.SizedLaws
import Derived.OpenShut
import Derived.JoinedCond
namespace Go.Proofs.YtpbkggamiipdmaaGreat.lawReachSummariesCompose
open Go Go.Pv Go.ChangeShapes Go.WideShapes Go.ChangeAt Go.RowKit
set_option linter.unusedVariables false
set_option maxRecDepth 100000
theorem own : ownKnob Tryz.prog.godebug = none := by kernel_rfl
theorem contract (H : Type) (enc : TypeId × Value → H) (W : World) (base : Nat) (args : Array Value) (ds gs : List (DataW H)) (before : List MemPlace)
  (hval : ∀ (j : Nat) t v, Tryz.f6.params[j]? = some t → args[j]? = some v → Value.okWide Tryz.prog W .any base t v)
  (hW : DataW.Whole enc Tryz.prog Tryz.f6.params.toList Rows.reachSummariesComposeSpec.vars false W args.toList ds gs before) (hwt : (DataW.weightsEach Tryz.prog (Tryz.f6.params.toList ++ Rows.reachSummariesComposeSpec.plain.varTypes Tryz.prog) (ds ++ gs)).all (· ≤ reachBytes) = true) :
  Calls Tryz.prog 6 args W fun e W' => ∃ v, e = .returned v ∧ Rows.reachSummariesComposeSpec.post enc Tryz.prog Tryz.f6 false true false false W args v W' := by
 obtain ⟨p, hA⟩ := args_nil hW
 rw [show Tryz.f6.params = #[27, 25, 25] from rfl] at hA hval
 obtain ⟨v0, vs0, d0, ds0, p0, q0, hargs, rfl, rfl, h0, r0⟩ := trodAll_cons hA
 obtain ⟨v1, vs1, d1, ds1, p1, q1, rfl, rfl, rfl, h1, r1⟩ := trodAll_cons r0
 obtain ⟨v2, vs2, d2, ds2, p2, q2, rfl, rfl, rfl, h2, r2⟩ := trodAll_cons r1
 obtain ⟨rfl, rfl, rfl⟩ := trodAll_nil r2
 obtain rfl : args = #[v0, v1, v2] := by cases args; simp_all
 have hwt : wOks Tryz.prog ([27, 25, 25] ++ _) _ := hwt
 obtain ⟨w0, hwt⟩ := wOks_cons hwt
 obtain ⟨a0, i0, s0, k0⟩ := opensV_27 enc W base v0 d0 p0 (hval 0 27 v0 rfl rfl) h0 w0
 obtain ⟨w1, hwt⟩ := wOks_cons hwt
 obtain ⟨a1, i1, s1, k1⟩ := opensV_25 enc W base v1 d1 p1 (hval 1 25 v1 rfl rfl) h1 w1
 obtain ⟨w2, hwt⟩ := wOks_cons hwt
 obtain ⟨a2, i2, s2, k2⟩ := opensV_25W enc W base v2 d2 p2 (hval 2 25 v2 rfl rfl) h2 w2
 obtain ⟨F, hF⟩ := plain_6 a0 a1 a2 k0 k1 k2
 refine (W6 F a0 a1 a2 true hF (memOf W) W _ (fun _ _ h => h) GlOk.nil ⟨(IRelL.app (IRelL.one i0) (IRelL.app (IRelL.one i1) (IRelL.one i2))).1, fun i c v hc hv => (IRelL.app (IRelL.one i0) (IRelL.app (IRelL.one i1) (IRelL.one i2))).2 i c v hc (by simpa using hv)⟩).mono ?_
 rintro e W' ⟨v, m', rfl, hv, hg⟩
 exact ⟨v, rfl, law_post (by kernel_rfl) (by kernel_rfl) rfl (fun _ h => by subst h; rfl) rfl (show Tryz.prog.underlying 4 = some .bool by kernel_rfl) hW hv hg⟩
theorem lifted (os : Os) (started : os.Started) (H : Type) (enc : TypeId × Value → H) :
  ReturnsInHanded {} Tryz.checked os 6 .any (Rows.reachSummariesComposeSpec.pre6 enc Tryz.prog Tryz.f6 Rows.reachSummariesComposeRow.domain false) (Rows.reachSummariesComposeSpec.post enc Tryz.prog Tryz.f6 false true false false) := by
 refine returnsInHanded_of_change_sized (C := Tryz.checked) own started (by kernel_rfl) Tryz.func6
  (ChangeSpec.witness6 (enc := enc) (C := Tryz.checked) false ⟨#[], #[.agg #[.slice none 0 0, .slice none 0 0, .slice none 0 0, .slice none 0 0], .slice none 0 0, .slice none 0 0], []⟩ 8 (by kernel_rfl) (by kernel_rfl) (by kernel_rfl) (by kernel_rfl)) ?_
 intro W base args ds gs before hval hW hcnd hwt _
 exact contract H enc W base args ds gs before hval hW hwt
theorem closedA : factsA Tryz.prog 6 Tryz.f6 Rows.reachSummariesComposeSpec Rows.reachSummariesComposeRow = true := by kernel_rfl
theorem closedB : factsB Tryz.prog Rows.reachSummariesComposeRow = true := by kernel_rfl
theorem closedC : factsC Tryz.prog Tryz.f6 Rows.reachSummariesComposeSpec Rows.reachSummariesComposeRow = true := by kernel_rfl
theorem proved : Rows.ReachSummariesComposeSaid :=
 OpenClaim.holds_of_wide 6 Tryz.f6 rfl rfl rfl rfl rfl rfl rfl ⟨rfl, rfl, rfl, rfl, rfl⟩ rfl rfl rfl rfl rfl (by kernel_rfl) Tryz.func6 (facts_join closedA closedB closedC)
  (of_decide_eq_true (by kernel_rfl)) (by unfold Func.isWrapper; first | (rw [if_pos (by decide +kernel)]; kernel_rfl) | (rw [if_neg (by decide +kernel)]; exact ⟨rfl, rfl⟩))
  (fun os started H enc _ => lifted os started H enc)
#print axioms proved
end Go.Proofs.YtpbkggamiipdmaaGreat.lawReachSummariesCompose
