/- PolicyDeadMatchesSpec: for all policies, Dead returns what is specified -/
import Derived.Test.YtelmfadihfcgnaaGreatDoorED6PB
import Derived.Test.YtelmfadihfcgnaaGreatDoorEEX
import Derived.Test.YtelmfadihfcgnaaGreatDoorEKL
import Derived.Test.YtelmfadihfcgnaaGreatDoorRows
import Derived.WalkKit
import Derived.ProofKit
import Derived.OpenShut
import Derived.JoinedCond
import Derived.Test.YtelmfadihfcgnaaGreatDoorCards
import Derived.Test.YtelmfadihfcgnaaGreatDoorTie
import Derived.LaidMore
import Derived.Lay
import Derived.SevenTiedAt
import Derived.Stop.Joined
set_option linter.unusedSimpArgs false
set_option linter.unusedVariables false
namespace Go.Proofs.YtelmfadihfcgnaaGreatDoor.lawPolicyDeadMatchesSpec
open Go Go.Pv Go.ChangeShapes Go.WideShapes Go.ChangeAt Go.RowKit
set_option maxRecDepth 100000
theorem own:ownKnob Tryz.prog.godebug=none:=by kernel_rfl
theorem contract(H:Type)(enc:TypeId×Value->H)(W:World)(base:Nat)(args:Array Value)(ds gs:List (DataW H))(before:List MemPlace)
  (hval:∀(j:Nat) t v,Tryz.f6.params[j]? = some t->args[j]? = some v->Value.okWide Tryz.prog W .any base t v)
  (hW:DataW.Whole enc Tryz.prog Tryz.f6.params.toList Rows.policyDeadMatchesSpecSpec.vars false W args.toList ds gs before) (hwt:(DataW.weightsEach Tryz.prog (Tryz.f6.params.toList++Rows.policyDeadMatchesSpecSpec.plain.varTypes Tryz.prog) (ds++gs)).all (·<=reachBytes)=true) (hL:laidMetH Tryz.prog Rows.policyDeadMatchesSpecRow.laid W):
  Calls Tryz.prog 6 args W fun e W'=>∃v,e=.returned v/\Rows.policyDeadMatchesSpecSpec.post enc Tryz.prog Tryz.f6 false true false false W args v W':=by
 obtain⟨p,hA⟩:=Gg hW;rw[show Tryz.f6.params=#[49] from rfl] at hA hval;obtain⟨v0,vs0,d0,ds0,p0,q0,hargs,rfl,rfl,h0,r0⟩:=trodAll_cons hA;obtain⟨rfl,rfl,rfl⟩:=trodAll_nil r0;obtain rfl:args=#[v0]:=by cases args;simp_all
 have hwt:xo Tryz.prog ([49]++_) _:=hwt;obtain⟨w0,hwt⟩:=py hwt;obtain⟨a0,i0,s0,k0⟩:=Ca enc W base v0 d0 p0 (hval 0 49 v0 rfl rfl) h0 w0;have hgl:gk [] (jI W):=gk.nil;obtain⟨F,hF⟩:=HF a0 k0;refine(W6 F a0 true hF (jI W) W _ (fun _ _ h=>h) hgl ⟨(eI.one i0).1,fun i c v hc hv=>(eI.one i0).2 i c v hc (by simpa using hv)⟩).mono ?_
 rintro e W' ⟨v,m',rfl,hv,hg⟩
 exact⟨v,Y,Ff (by kernel_rfl) (by kernel_rfl) Y (fun _ h=>by subst h;rfl) Y (show Tryz.prog.underlying 4=some .bool by kernel_rfl) hW hv hg⟩
theorem FR(os:Os)(args:Array Value):laidMetH Tryz.prog Rows.policyDeadMatchesSpecRow.laid ((World.doorLaid Tryz.prog 4000 os).forCall (fun _ _=>0) ⟨#[],args,[]⟩).memory:=
 laidMetH_of_parts3 (fuel:=8) (laidMet_of_run' 8 (by kernel_rfl) (by kernel_rfl)) (by kernel_rfl) (by kernel_rfl)
theorem lifted(os:Os)(started:os.Started)(H:Type)(enc:TypeId×Value->H):
  ReturnsInHanded {} Tryz.checked os 6 .any (fun w args=>(Rows.policyDeadMatchesSpecSpec.pre enc Tryz.prog Tryz.f6 Rows.policyDeadMatchesSpecRow.domain false w args/\laidMetH Tryz.prog Rows.policyDeadMatchesSpecRow.laid w)/\sizedMet enc Tryz.prog Tryz.f6 (OpenSpec.ofChange Rows.policyDeadMatchesSpecSpec) false w args)
   (Rows.policyDeadMatchesSpecSpec.post enc Tryz.prog Tryz.f6 false true false false):=by
 refine returnsInHanded_of_change_and (C:=Tryz.checked) (X:=fun w _=>laidMetH Tryz.prog Rows.policyDeadMatchesSpecRow.laid w) (fun _ _ _ hh h=>h.of_heap hh) own started (by kernel_rfl) Tryz.func6
  (ChangeSpec.witness_shaped (enc:=enc) (C:=Tryz.checked) (os:=os) (X:=fun w _=>laidMetH Tryz.prog Rows.policyDeadMatchesSpecRow.laid w) false (World.doorLaid Tryz.prog 4000 os) #[.agg #[.slice none 0 0,.slice none 0 0]] 8 rfl
   (World.shaped_of_RefB (by kernel_rfl) (by kernel_rfl)) (by kernel_rfl) (by kernel_rfl) (by kernel_rfl) (FR os _)) ?_
 intro W base args ds gs before hval hW hcnd hwt hL _;exact contract H enc W base args ds gs before hval hW hwt hL
theorem Ig:Af Tryz.prog 6 Tryz.f6 Rows.policyDeadMatchesSpecSpec Rows.policyDeadMatchesSpecRow=true:=by kernel_rfl
theorem If:Ae Tryz.prog Rows.policyDeadMatchesSpecRow=true:=by kernel_rfl
theorem Ie:Ad Tryz.prog Tryz.f6 Rows.policyDeadMatchesSpecSpec Rows.policyDeadMatchesSpecRow=true:=by kernel_rfl
theorem OZ:Rows.PolicyDeadMatchesSpecSaid:=
 OpenClaim.holds_of_wide 6 Tryz.f6 rfl rfl rfl rfl rfl rfl rfl ⟨rfl,rfl,rfl,rfl,rfl⟩ rfl rfl rfl rfl rfl (by kernel_rfl) Tryz.func6 (Ac Ig If Ie)
  (of_decide_eq_true (by kernel_rfl)) (by unfold Func.isWrapper;first|(rw[if_pos (by decide +kernel)];kernel_rfl)|(rw[if_neg (by decide +kernel)];exact⟨rfl,rfl⟩))
  (fun os started H enc _=>lifted os started H enc)
theorem proved:Rows.PolicyDeadMatchesSpecCardSaid:=
 Claim7.holds_tied_plain_at .later [] [.data,.data,.data,.sentinel,.sentinel] true (true, "c967bf1a43de598d8b2392c6185dfd3e623573f59fbf8f45544c1465eaa1aa86") true
  OZ (fun _ h=>by cases h) (by kernel_rfl) (fun _ h=>by cases h) policyDeadMatchesSpec_row_tie rfl ⟨rfl,rfl⟩ (by kernel_rfl) rfl
  (fun f fn hf hfn=>by
   obtain rfl:f=6:=ah8 ((show Tryz.prog.funcNamed "provender/provenderlaw9.PolicyDeadMatchesSpec" = some 6 by kernel_rfl).symm.trans hf) |>.symm;obtain rfl:fn=Tryz.f6:=(ah8 (Tryz.func6.symm.trans hfn)).symm
   exact⟨by kernel_rfl,fun j t ht=>by
    rw[show Tryz.f6.params=#[49] from rfl] at ht;have hm:t∈[49]:=by simpa using Array.mem_of_getElem? ht
    have hall:([49].all fun u=>!Tryz.prog.wantsStandIn u)=true:=by kernel_rfl
    exact(show Tryz.prog.wantsStandIn t=false by simpa using ap8.1 hall t hm)⟩)
  (by kernel_rfl)
#print axioms proved
end Go.Proofs.YtelmfadihfcgnaaGreatDoor.lawPolicyDeadMatchesSpec
