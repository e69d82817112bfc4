/- Without a waiver that is stale on a day, the decisions of that day are the same, but for the numbers of waivers. -/
import Derived.Test.YtkeeppclihjlhaaGreatDoorRC3PF
import Derived.Test.YtkeeppclihjlhaaGreatDoorRC3Sh
import Derived.Test.YtkeeppclihjlhaaGreatDoorRKL
import Derived.Test.YtkeeppclihjlhaaGreatDoorRows
import Derived.WalkKit
import Derived.ProofKit
import Derived.OpenShut
import Derived.JoinedCond
import Derived.Test.YtkeeppclihjlhaaGreatDoorCards
import Derived.Test.YtkeeppclihjlhaaGreatDoorTie
import Derived.LaidMore
import Derived.Lay
import Derived.SevenTiedAt
import Derived.Stop.Joined
namespace Go.Proofs.YtkeeppclihjlhaaGreatDoor.lawPolicyStaleOnesAreIdle
open Go Go.Pv Go.ChangeShapes Go.WideShapes Go.ChangeAt Go.RowKit
set_option linter.unusedVariables false
set_option maxRecDepth 100000
theorem own : ownKnob Tryz.prog.godebug = none := by kernel_rfl
theorem contract (H : Type) (enc : TypeId × Value → H) (W : World) (base : Nat) (args : Array Value) (ds gs : List (DataW H)) (before : List MemPlace)
  (hval : ∀ (j : Nat) t v, Tryz.f7.params[j]? = some t → args[j]? = some v → Value.okWide Tryz.prog W .any base t v)
  (hW : DataW.Whole enc Tryz.prog Tryz.f7.params.toList Rows.policyStaleOnesAreIdleSpec.vars false W args.toList ds gs before) (hwt : (DataW.weightsEach Tryz.prog (Tryz.f7.params.toList ++ Rows.policyStaleOnesAreIdleSpec.plain.varTypes Tryz.prog) (ds ++ gs)).all (· ≤ reachBytes) = true) (hL : laidMetH Tryz.prog Rows.policyStaleOnesAreIdleRow.laid W) :
  Calls Tryz.prog 7 args W fun e W' => ∃ v, e = .returned v ∧ Rows.policyStaleOnesAreIdleSpec.post enc Tryz.prog Tryz.f7 false true false false W args v W' := by
 obtain ⟨p, hA⟩ := args_nil hW
 rw [show Tryz.f7.params = #[33, 42, 3] from rfl] at hA hval
 obtain ⟨v0, vs0, d0, ds0, p0, q0, hargs, rfl, rfl, h0, r0⟩ := trodAll_cons hA
 obtain ⟨v1, vs1, d1, ds1, p1, q1, rfl, rfl, rfl, h1, r1⟩ := trodAll_cons r0
 obtain ⟨v2, vs2, d2, ds2, p2, q2, rfl, rfl, rfl, h2, r2⟩ := trodAll_cons r1
 obtain ⟨rfl, rfl, rfl⟩ := trodAll_nil r2
 obtain rfl : args = #[v0, v1, v2] := by cases args; simp_all
 have hwt : wOks Tryz.prog ([33, 42, 3] ++ _) _ := hwt
 obtain ⟨w0, hwt⟩ := wOks_cons hwt
 obtain ⟨a0, i0, s0, k0⟩ := opensV_33 enc W base v0 d0 p0 (hval 0 33 v0 rfl rfl) h0 w0
 obtain ⟨w1, hwt⟩ := wOks_cons hwt
 obtain ⟨a1, i1, s1, k1⟩ := opensV_42 enc W base v1 d1 p1 (hval 1 42 v1 rfl rfl) h1 w1
 obtain ⟨w2, hwt⟩ := wOks_cons hwt
 obtain ⟨a2, i2, s2, k2⟩ := opensV_3 enc W base v2 d2 p2 (hval 2 3 v2 rfl rfl) h2 w2
 have hgl : GlOk [] (memOf W) := GlOk.nil
 obtain ⟨F, hF⟩ := plain_7 a0 a1 a2 k0 k1 k2
 refine (W7 F a0 a1 a2 true hF (memOf W) W _ (fun _ _ h => h) hgl ⟨(IRelL.app (IRelL.one i0) (IRelL.app (IRelL.one i1) (IRelL.one i2))).1, fun i c v hc hv => (IRelL.app (IRelL.one i0) (IRelL.app (IRelL.one i1) (IRelL.one i2))).2 i c v hc (by simpa using hv)⟩).mono ?_
 rintro e W' ⟨v, m', rfl, hv, hg⟩
 exact ⟨v, rfl, law_post (by kernel_rfl) (by kernel_rfl) rfl (fun _ h => by subst h; rfl) rfl (show Tryz.prog.underlying 4 = some .bool by kernel_rfl) hW hv hg⟩
theorem door_met (os : Os) (args : Array Value) : laidMetH Tryz.prog Rows.policyStaleOnesAreIdleRow.laid ((World.doorLaid Tryz.prog 4000 os).forCall (fun _ _ => 0) ⟨#[], args, []⟩).memory :=
 laidMetH_of_parts3 (fuel := 8) (laidMet_of_run' 8 (by kernel_rfl) (by kernel_rfl)) (by kernel_rfl) (by kernel_rfl)
theorem lifted (os : Os) (started : os.Started) (H : Type) (enc : TypeId × Value → H) :
  ReturnsInHanded {} Tryz.checked os 7 .any (fun w args => (Rows.policyStaleOnesAreIdleSpec.pre enc Tryz.prog Tryz.f7 Rows.policyStaleOnesAreIdleRow.domain false w args ∧ laidMetH Tryz.prog Rows.policyStaleOnesAreIdleRow.laid w) ∧ sizedMet enc Tryz.prog Tryz.f7 (OpenSpec.ofChange Rows.policyStaleOnesAreIdleSpec) false w args)
   (Rows.policyStaleOnesAreIdleSpec.post enc Tryz.prog Tryz.f7 false true false false) := by
 refine returnsInHanded_of_change_and (C := Tryz.checked) (X := fun w _ => laidMetH Tryz.prog Rows.policyStaleOnesAreIdleRow.laid w) (fun _ _ _ hh h => h.of_heap hh) own started (by kernel_rfl) Tryz.func7
  (ChangeSpec.witness_shaped (enc := enc) (C := Tryz.checked) (os := os) (X := fun w _ => laidMetH Tryz.prog Rows.policyStaleOnesAreIdleRow.laid w) false (World.doorLaid Tryz.prog 4000 os) #[.agg #[.slice none 0 0, .slice none 0 0], .slice none 0 0, .int .i64 0] 8 rfl
   (World.shaped_of_RefB (by kernel_rfl) (by kernel_rfl)) (by kernel_rfl) (by kernel_rfl) (by kernel_rfl) (door_met os _)) ?_
 intro W base args ds gs before hval hW hcnd hwt hL _
 exact contract H enc W base args ds gs before hval hW hwt hL
theorem closedA : factsA Tryz.prog 7 Tryz.f7 Rows.policyStaleOnesAreIdleSpec Rows.policyStaleOnesAreIdleRow = true := by kernel_rfl
theorem closedB : factsB Tryz.prog Rows.policyStaleOnesAreIdleRow = true := by kernel_rfl
theorem closedC : factsC Tryz.prog Tryz.f7 Rows.policyStaleOnesAreIdleSpec Rows.policyStaleOnesAreIdleRow = true := by kernel_rfl
theorem said : Rows.PolicyStaleOnesAreIdleSaid :=
 OpenClaim.holds_of_wide 7 Tryz.f7 rfl rfl rfl rfl rfl rfl rfl ⟨rfl, rfl, rfl, rfl, rfl⟩ rfl rfl rfl rfl rfl (by kernel_rfl) Tryz.func7 (facts_join closedA closedB closedC)
  (of_decide_eq_true (by kernel_rfl)) (by unfold Func.isWrapper; first | (rw [if_pos (by decide +kernel)]; kernel_rfl) | (rw [if_neg (by decide +kernel)]; exact ⟨rfl, rfl⟩))
  (fun os started H enc _ => lifted os started H enc)
theorem proved : Rows.PolicyStaleOnesAreIdleCardSaid :=
 Claim7.holds_tied_plain_at .later [] [.data, .data, .data, .sentinel, .sentinel] true (true, "c30285a5ccbfcc7599bbba8c294361c6c23a2f30bdf1453afd5fdde6eb217e1a") true
  said (fun _ h => by cases h) (by kernel_rfl) (fun _ h => by cases h) policyStaleOnesAreIdle_row_tie rfl ⟨rfl, rfl⟩ (by kernel_rfl) rfl
  (fun f fn hf hfn => by
   obtain rfl : f = 7 := Option.some.inj ((show Tryz.prog.funcNamed "provender/provenderlaw9.PolicyStaleOnesAreIdle" = some 7 by kernel_rfl).symm.trans hf) |>.symm
   obtain rfl : fn = Tryz.f7 := (Option.some.inj (Tryz.func7.symm.trans hfn)).symm
   exact ⟨by kernel_rfl, fun j t ht => by
    rw [show Tryz.f7.params = #[33, 42, 3] from rfl] at ht
    have hm : t ∈ [33, 42, 3] := by simpa using Array.mem_of_getElem? ht
    have hall : ([33, 42, 3].all fun u => !Tryz.prog.wantsStandIn u) = true := by kernel_rfl
    exact (show Tryz.prog.wantsStandIn t = false by simpa using List.all_eq_true.1 hall t hm)⟩)
  (by kernel_rfl)
#print axioms proved
end Go.Proofs.YtkeeppclihjlhaaGreatDoor.lawPolicyStaleOnesAreIdle
