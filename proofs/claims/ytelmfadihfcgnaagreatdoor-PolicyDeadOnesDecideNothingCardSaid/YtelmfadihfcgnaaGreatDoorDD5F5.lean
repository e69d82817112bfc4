/- PolicyDeadOnesDecideNothing: a rule that Dead names decides no fact, without these rules every level is the same, and then no rule is dead -/
import Derived.Test.YtelmfadihfcgnaaGreatDoorDD5PB
import Derived.Test.YtelmfadihfcgnaaGreatDoorDEV
import Derived.Test.YtelmfadihfcgnaaGreatDoorDD5W5b
import Derived.Test.YtelmfadihfcgnaaGreatDoorRows
import Derived.WalkKit
import Derived.ProofKit
import Derived.OpenShut
import Derived.JoinedCond
import Derived.Test.YtelmfadihfcgnaaGreatDoorDKL
import Derived.Test.YtelmfadihfcgnaaGreatDoorCards
import Derived.Test.YtelmfadihfcgnaaGreatDoorTie
import Derived.LaidMore
import Derived.Lay
import Derived.SevenTiedAt
import Derived.Stop.Joined
namespace Go.Proofs.YtelmfadihfcgnaaGreatDoor.lawPolicyDeadOnesDecideNothing
open Go Go.Pv Go.ChangeShapes Go.WideShapes Go.ChangeAt Go.RowKit
set_option linter.unusedVariables false
set_option maxRecDepth 100000
theorem own:ownKnob Tryz.prog.godebug=none:=by kernel_rfl
theorem contract(H:Type)(enc:TypeId×Value->H)(W:World)(base:Nat)(args:Array Value)(ds gs:List (DataW H))(before:List MemPlace)
  (hval:∀(j:Nat) t v,Tryz.f5.params[j]? = some t->args[j]? = some v->Value.okWide Tryz.prog W .any base t v)
  (hW:DataW.Whole enc Tryz.prog Tryz.f5.params.toList Rows.policyDeadOnesDecideNothingSpec.vars false W args.toList ds gs before) (hwt:(DataW.weightsEach Tryz.prog (Tryz.f5.params.toList++Rows.policyDeadOnesDecideNothingSpec.plain.varTypes Tryz.prog) (ds++gs)).all (·<=reachBytes)=true) (hL:laidMetH Tryz.prog Rows.policyDeadOnesDecideNothingRow.laid W):
  Calls Tryz.prog 5 args W fun e W'=>∃v,e=.returned v/\Rows.policyDeadOnesDecideNothingSpec.post enc Tryz.prog Tryz.f5 false true false false W args v W':=by
 obtain⟨p,hA⟩:=args_nil hW
 rw[show Tryz.f5.params=#[49,50] from rfl] at hA hval
 obtain⟨v0,vs0,d0,ds0,p0,q0,hargs,rfl,rfl,h0,r0⟩:=trodAll_cons hA
 obtain⟨v1,vs1,d1,ds1,p1,q1,rfl,rfl,rfl,h1,r1⟩:=trodAll_cons r0
 obtain⟨rfl,rfl,rfl⟩:=trodAll_nil r1
 obtain rfl:args=#[v0,v1]:=by cases args;simp_all
 have hwt:wOks Tryz.prog ([49,50]++_) _:=hwt
 obtain⟨w0,hwt⟩:=wOks_cons hwt
 obtain⟨a0,i0,s0,k0⟩:=opensV_49 enc W base v0 d0 p0 (hval 0 49 v0 rfl rfl) h0 w0
 obtain⟨w1,hwt⟩:=wOks_cons hwt
 obtain⟨a1,i1,s1,k1⟩:=opensV_50 enc W base v1 d1 p1 (hval 1 50 v1 rfl rfl) h1 w1
 have hgl:GlOk [] (memOf W):=GlOk.nil
 obtain⟨F,hF⟩:=plain_5 a0 a1 k0 k1
 refine(W5 F a0 a1 true hF (memOf W) W _ (fun _ _ h=>h) hgl ⟨(IRelL.app (IRelL.one i0) (IRelL.one i1)).1,fun i c v hc hv=>(IRelL.app (IRelL.one i0) (IRelL.one i1)).2 i c v hc (by simpa using hv)⟩).mono ?_
 rintro e W' ⟨v,m',rfl,hv,hg⟩
 exact⟨v,rfl,law_post (by kernel_rfl) (by kernel_rfl) rfl (fun _ h=>by subst h;rfl) rfl (show Tryz.prog.underlying 4=some .bool by kernel_rfl) hW hv hg⟩
theorem door_met(os:Os)(args:Array Value):laidMetH Tryz.prog Rows.policyDeadOnesDecideNothingRow.laid ((World.doorLaid Tryz.prog 4000 os).forCall (fun _ _=>0) ⟨#[],args,[]⟩).memory:=
 laidMetH_of_parts3 (fuel:=8) (laidMet_of_run' 8 (by kernel_rfl) (by kernel_rfl)) (by kernel_rfl) (by kernel_rfl)
theorem lifted(os:Os)(started:os.Started)(H:Type)(enc:TypeId×Value->H):
  ReturnsInHanded {} Tryz.checked os 5 .any (fun w args=>(Rows.policyDeadOnesDecideNothingSpec.pre enc Tryz.prog Tryz.f5 Rows.policyDeadOnesDecideNothingRow.domain false w args/\laidMetH Tryz.prog Rows.policyDeadOnesDecideNothingRow.laid w)/\sizedMet enc Tryz.prog Tryz.f5 (OpenSpec.ofChange Rows.policyDeadOnesDecideNothingSpec) false w args)
   (Rows.policyDeadOnesDecideNothingSpec.post enc Tryz.prog Tryz.f5 false true false false):=by
 refine returnsInHanded_of_change_and (C:=Tryz.checked) (X:=fun w _=>laidMetH Tryz.prog Rows.policyDeadOnesDecideNothingRow.laid w) (fun _ _ _ hh h=>h.of_heap hh) own started (by kernel_rfl) Tryz.func5
  (ChangeSpec.witness_shaped (enc:=enc) (C:=Tryz.checked) (os:=os) (X:=fun w _=>laidMetH Tryz.prog Rows.policyDeadOnesDecideNothingRow.laid w) false (World.doorLaid Tryz.prog 4000 os) #[.agg #[.slice none 0 0,.slice none 0 0],.slice none 0 0] 8 rfl
   (World.shaped_of_RefB (by kernel_rfl) (by kernel_rfl)) (by kernel_rfl) (by kernel_rfl) (by kernel_rfl) (door_met os _)) ?_
 intro W base args ds gs before hval hW hcnd hwt hL _
 exact contract H enc W base args ds gs before hval hW hwt hL
theorem closedA:factsA Tryz.prog 5 Tryz.f5 Rows.policyDeadOnesDecideNothingSpec Rows.policyDeadOnesDecideNothingRow=true:=by kernel_rfl
theorem closedB:factsB Tryz.prog Rows.policyDeadOnesDecideNothingRow=true:=by kernel_rfl
theorem closedC:factsC Tryz.prog Tryz.f5 Rows.policyDeadOnesDecideNothingSpec Rows.policyDeadOnesDecideNothingRow=true:=by kernel_rfl
theorem said:Rows.PolicyDeadOnesDecideNothingSaid:=
 OpenClaim.holds_of_wide 5 Tryz.f5 rfl rfl rfl rfl rfl rfl rfl ⟨rfl,rfl,rfl,rfl,rfl⟩ rfl rfl rfl rfl rfl (by kernel_rfl) Tryz.func5 (facts_join closedA closedB closedC)
  (of_decide_eq_true (by kernel_rfl)) (by unfold Func.isWrapper;first|(rw[if_pos (by decide +kernel)];kernel_rfl)|(rw[if_neg (by decide +kernel)];exact⟨rfl,rfl⟩))
  (fun os started H enc _=>lifted os started H enc)
theorem proved:Rows.PolicyDeadOnesDecideNothingCardSaid:=
 Claim7.holds_tied_plain_at .later [] [.data,.data,.data,.sentinel,.sentinel] true (true, "c967bf1a43de598d8b2392c6185dfd3e623573f59fbf8f45544c1465eaa1aa86") true
  said (fun _ h=>by cases h) (by kernel_rfl) (fun _ h=>by cases h) policyDeadOnesDecideNothing_row_tie rfl ⟨rfl,rfl⟩ (by kernel_rfl) rfl
  (fun f fn hf hfn=>by
   obtain rfl:f=5:=Option.some.inj ((show Tryz.prog.funcNamed "provender/provenderlaw9.PolicyDeadOnesDecideNothing" = some 5 by kernel_rfl).symm.trans hf) |>.symm
   obtain rfl:fn=Tryz.f5:=(Option.some.inj (Tryz.func5.symm.trans hfn)).symm
   exact⟨by kernel_rfl,fun j t ht=>by
    rw[show Tryz.f5.params=#[49,50] from rfl] at ht
    have hm:t∈[49,50]:=by simpa using Array.mem_of_getElem? ht
    have hall:([49,50].all fun u=>!Tryz.prog.wantsStandIn u)=true:=by kernel_rfl
    exact(show Tryz.prog.wantsStandIn t=false by simpa using List.all_eq_true.1 hall t hm)⟩)
  (by kernel_rfl)
#print axioms proved
end Go.Proofs.YtelmfadihfcgnaaGreatDoor.lawPolicyDeadOnesDecideNothing
