/- PolicyExampleIsOne: the example that is found is one, and the reference finds one exactly if the program does -/
import Derived.Test.YtelmfadihfcgnaaGreatDoorXC9PB
import Derived.Test.YtelmfadihfcgnaaGreatDoorXEX
import Derived.Test.YtelmfadihfcgnaaGreatDoorXC9W3b
import Derived.Test.YtelmfadihfcgnaaGreatDoorRows
import Derived.WalkKit
import Derived.ProofKit
import Derived.OpenShut
import Derived.JoinedCond
import Derived.Test.YtelmfadihfcgnaaGreatDoorXKL
import Derived.Test.YtelmfadihfcgnaaGreatDoorCards
import Derived.Test.YtelmfadihfcgnaaGreatDoorTie
import Derived.LaidMore
import Derived.Lay
import Derived.SevenTiedAt
import Derived.Stop.Joined
set_option linter.unusedSimpArgs false
set_option linter.unusedVariables false
namespace Go.Proofs.YtelmfadihfcgnaaGreatDoor.lawPolicyExampleIsOne
open Go Go.Pv Go.ChangeShapes Go.WideShapes Go.ChangeAt Go.RowKit
set_option maxRecDepth 100000
theorem own:ownKnob Tryz.prog.godebug=none:=by kernel_rfl
theorem contract(H:Type)(enc:TypeId×Value->H)(W:World)(base:Nat)(args:Array Value)(ds gs:List (DataW H))(before:List MemPlace)
  (hval:∀(j:Nat) t v,Tryz.f3.params[j]? = some t->args[j]? = some v->Value.okWide Tryz.prog W .any base t v)
  (hW:DataW.Whole enc Tryz.prog Tryz.f3.params.toList Rows.policyExampleIsOneSpec.vars false W args.toList ds gs before) (hwt:(DataW.weightsEach Tryz.prog (Tryz.f3.params.toList++Rows.policyExampleIsOneSpec.plain.varTypes Tryz.prog) (ds++gs)).all (·<=reachBytes)=true) (hL:laidMetH Tryz.prog Rows.policyExampleIsOneRow.laid W):
  Calls Tryz.prog 3 args W fun e W'=>∃v,e=.returned v/\Rows.policyExampleIsOneSpec.post enc Tryz.prog Tryz.f3 false true false false W args v W':=by
 obtain⟨p,hA⟩:=w7p hW;rw[show Tryz.f3.params=#[25,9] from rfl] at hA hval;obtain⟨v0,vs0,d0,ds0,p0,q0,hargs,rfl,rfl,h0,r0⟩:=trodAll_cons hA;obtain⟨v1,vs1,d1,ds1,p1,q1,rfl,rfl,rfl,h1,r1⟩:=trodAll_cons r0;obtain⟨rfl,rfl,rfl⟩:=trodAll_nil r1;obtain rfl:args=#[v0,v1]:=by cases args;simp_all
 have hwt:y1j Tryz.prog ([25,9]++_) _:=hwt;obtain⟨w0,hwt⟩:=z2z hwt;obtain⟨a0,i0,s0,k0⟩:=v5w enc W base v0 d0 p0 (hval 0 25 v0 rfl rfl) h0 w0;obtain⟨w1,hwt⟩:=z2z hwt;obtain⟨a1,i1,s1,k1⟩:=w5j enc W base v1 d1 p1 (hval 1 9 v1 rfl rfl) h1 w1;have hgl:z6t [] (z6w W):=z6t.nil;obtain⟨F,hF⟩:=y8a a0 a1 k0 k1;refine(W3 F a0 a1 true hF (z6w W) W _ (fun _ _ h=>h) hgl ⟨(q8t.app (q8t.one i0) (q8t.one i1)).1,fun i c v hc hv=>(q8t.app (q8t.one i0) (q8t.one i1)).2 i c v hc (by simpa using hv)⟩).mono ?_
 rintro e W' ⟨v,m',rfl,hv,hg⟩
 exact⟨v,rfl,w7l (by kernel_rfl) (by kernel_rfl) rfl (fun _ h=>by subst h;rfl) rfl (show Tryz.prog.underlying 4=some .bool by kernel_rfl) hW hv hg⟩
theorem w1o(os:Os)(args:Array Value):laidMetH Tryz.prog Rows.policyExampleIsOneRow.laid ((World.doorLaid Tryz.prog 4000 os).forCall (fun _ _=>0) ⟨#[],args,[]⟩).memory:=
 laidMetH_of_parts3 (fuel:=8) (laidMet_of_run' 8 (by kernel_rfl) (by kernel_rfl)) (by kernel_rfl) (by kernel_rfl)
theorem lifted(os:Os)(started:os.Started)(H:Type)(enc:TypeId×Value->H):
  ReturnsInHanded {} Tryz.checked os 3 .any (fun w args=>(Rows.policyExampleIsOneSpec.pre enc Tryz.prog Tryz.f3 Rows.policyExampleIsOneRow.domain false w args/\laidMetH Tryz.prog Rows.policyExampleIsOneRow.laid w)/\sizedMet enc Tryz.prog Tryz.f3 (OpenSpec.ofChange Rows.policyExampleIsOneSpec) false w args)
   (Rows.policyExampleIsOneSpec.post enc Tryz.prog Tryz.f3 false true false false):=by
 refine returnsInHanded_of_change_and (C:=Tryz.checked) (X:=fun w _=>laidMetH Tryz.prog Rows.policyExampleIsOneRow.laid w) (fun _ _ _ hh h=>h.of_heap hh) own started (by kernel_rfl) Tryz.func3
  (ChangeSpec.witness_shaped (enc:=enc) (C:=Tryz.checked) (os:=os) (X:=fun w _=>laidMetH Tryz.prog Rows.policyExampleIsOneRow.laid w) false (World.doorLaid Tryz.prog 4000 os) #[.agg #[.int .i64 0,.string ⟨#[]⟩,.slice none 0 0,.int .i64 0,.int .i64 0,.slice none 0 0],.string ⟨#[]⟩] 8 rfl
   (World.shaped_of_RefB (by kernel_rfl) (by kernel_rfl)) (by kernel_rfl) (by kernel_rfl) (by kernel_rfl) (w1o os _)) ?_
 intro W base args ds gs before hval hW hcnd hwt hL _;exact contract H enc W base args ds gs before hval hW hwt hL
theorem y4d:w5b Tryz.prog 3 Tryz.f3 Rows.policyExampleIsOneSpec Rows.policyExampleIsOneRow=true:=by kernel_rfl
theorem y3d:w4b Tryz.prog Rows.policyExampleIsOneRow=true:=by kernel_rfl
theorem y2d:w3b Tryz.prog Tryz.f3 Rows.policyExampleIsOneSpec Rows.policyExampleIsOneRow=true:=by kernel_rfl
theorem said:Rows.PolicyExampleIsOneSaid:=
 OpenClaim.holds_of_wide 3 Tryz.f3 rfl rfl rfl rfl rfl rfl rfl ⟨rfl,rfl,rfl,rfl,rfl⟩ rfl rfl rfl rfl rfl (by kernel_rfl) Tryz.func3 (v5q y4d y3d y2d)
  (of_decide_eq_true (by kernel_rfl)) (by unfold Func.isWrapper;first|(rw[if_pos (by decide +kernel)];kernel_rfl)|(rw[if_neg (by decide +kernel)];exact⟨rfl,rfl⟩))
  (fun os started H enc _=>lifted os started H enc)
theorem proved:Rows.PolicyExampleIsOneCardSaid:=
 Claim7.holds_tied_plain_at .later [] [.data,.data,.data,.sentinel,.sentinel] true (true, "c967bf1a43de598d8b2392c6185dfd3e623573f59fbf8f45544c1465eaa1aa86") true
  said (fun _ h=>by cases h) (by kernel_rfl) (fun _ h=>by cases h) policyExampleIsOne_row_tie rfl ⟨rfl,rfl⟩ (by kernel_rfl) rfl
  (fun f fn hf hfn=>by
   obtain rfl:f=3:=aj9 ((show Tryz.prog.funcNamed "provender/provenderlaw9.PolicyExampleIsOne" = some 3 by kernel_rfl).symm.trans hf) |>.symm;obtain rfl:fn=Tryz.f3:=(aj9 (Tryz.func3.symm.trans hfn)).symm
   exact⟨by kernel_rfl,fun j t ht=>by
    rw[show Tryz.f3.params=#[25,9] from rfl] at ht;have hm:t∈[25,9]:=by simpa using Array.mem_of_getElem? ht
    have hall:([25,9].all fun u=>!Tryz.prog.wantsStandIn u)=true:=by kernel_rfl
    exact(show Tryz.prog.wantsStandIn t=false by simpa using as8.1 hall t hm)⟩)
  (by kernel_rfl)
#print axioms proved
end Go.Proofs.YtelmfadihfcgnaaGreatDoor.lawPolicyExampleIsOne
