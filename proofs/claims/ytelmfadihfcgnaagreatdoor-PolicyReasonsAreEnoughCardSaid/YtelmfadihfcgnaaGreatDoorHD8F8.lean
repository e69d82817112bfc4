/- PolicyReasonsAreEnough -/
import Derived.Test.YtelmfadihfcgnaaGreatDoorHD8W8b
import Derived.Test.YtelmfadihfcgnaaGreatDoorHKL
import Derived.Test.YtelmfadihfcgnaaGreatDoorCards
import Derived.Test.YtelmfadihfcgnaaGreatDoorTie
import Derived.LaidMore
import Derived.Lay
set_option linter.unusedSimpArgs false
set_option linter.unusedVariables false
namespace Go.Proofs.YtelmfadihfcgnaaGreatDoor.lawPolicyReasonsAreEnough
open Go Go.Pv Go.ChangeShapes Go.WideShapes Go.ChangeAt Go.RowKit
set_option maxRecDepth 100000
theorem own:ownKnob Tryz.prog.godebug=none:=by kernel_rfl
theorem contract(H:Type)(enc:TypeId×Value->H)(W:World)(base:Nat)(args:Array Value)(ds gs:List (DataW H))(before:List MemPlace)
  (hval:∀(j:Nat) t v,Tryz.f8.params[j]? = some t->args[j]? = some v->Value.okWide Tryz.prog W .any base t v)
  (hW:DataW.Whole enc Tryz.prog Tryz.f8.params.toList Rows.policyReasonsAreEnoughSpec.vars false W args.toList ds gs before) (hwt:(DataW.weightsEach Tryz.prog (Tryz.f8.params.toList++Rows.policyReasonsAreEnoughSpec.plain.varTypes Tryz.prog) (ds++gs)).all (·<=reachBytes)=true) (hL:laidMetH Tryz.prog Rows.policyReasonsAreEnoughRow.laid W):
  Calls Tryz.prog 8 args W fun e W'=>∃v,e=.returned v/\Rows.policyReasonsAreEnoughSpec.post enc Tryz.prog Tryz.f8 false true false false W args v W':=by
 obtain⟨p,hA⟩:=GU hW;rw[show Tryz.f8.params=#[25,29,29] from rfl] at hA hval;obtain⟨v0,vs0,d0,ds0,p0,q0,hargs,rfl,rfl,h0,r0⟩:=trodAll_cons hA;obtain⟨v1,vs1,d1,ds1,p1,q1,rfl,rfl,rfl,h1,r1⟩:=trodAll_cons r0;obtain⟨v2,vs2,d2,ds2,p2,q2,rfl,rfl,rfl,h2,r2⟩:=trodAll_cons r1;obtain⟨rfl,rfl,rfl⟩:=trodAll_nil r2;obtain rfl:args=#[v0,v1,v2]:=by cases args;simp_all
 have hwt:xH Tryz.prog ([25,29,29]++_) _:=hwt;obtain⟨w0,hwt⟩:=jM hwt;obtain⟨a0,i0,s0,k0⟩:=CF enc W base v0 d0 p0 (hval 0 25 v0 rfl rfl) h0 w0;obtain⟨w1,hwt⟩:=jM hwt;obtain⟨a1,i1,s1,k1⟩:=uJ enc W base v1 d1 p1 (hval 1 29 v1 rfl rfl) h1 w1;obtain⟨w2,hwt⟩:=jM hwt;obtain⟨a2,i2,s2,k2⟩:=uJ enc W base v2 d2 p2 (hval 2 29 v2 rfl rfl) h2 w2;have hgl:fU [] (jW W):=fU.nil;obtain⟨F,hF⟩:=H4 a0 a1 a2 k0 k1 k2;refine(W8 F a0 a1 a2 true hF (jW W) W _ (fun _ _ h=>h) hgl ⟨(dj.app (dj.one i0) (dj.app (dj.one i1) (dj.one i2))).1,fun i c v hc hv=>(dj.app (dj.one i0) (dj.app (dj.one i1) (dj.one i2))).2 i c v hc (by simpa using hv)⟩).mono ?_
 rintro e W' ⟨v,m',rfl,hv,hg⟩
 exact⟨v,Y,FV (by kernel_rfl) (by kernel_rfl) Y (fun _ h=>by subst h;rfl) Y (show Tryz.prog.underlying 4=some .bool by kernel_rfl) hW hv hg⟩
theorem Gz(os:Os)(args:Array Value):laidMetH Tryz.prog Rows.policyReasonsAreEnoughRow.laid ((World.doorLaid Tryz.prog 4000 os).forCall (fun _ _=>0) ⟨#[],args,[]⟩).memory:=
 laidMetH_of_parts3 (fuel:=8) (laidMet_of_run' 8 (by kernel_rfl) (by kernel_rfl)) (by kernel_rfl) (by kernel_rfl)
theorem lifted(os:Os)(started:os.Started)(H:Type)(enc:TypeId×Value->H):
  ReturnsInHanded {} Tryz.checked os 8 .any (fun w args=>(Rows.policyReasonsAreEnoughSpec.pre enc Tryz.prog Tryz.f8 Rows.policyReasonsAreEnoughRow.domain false w args/\laidMetH Tryz.prog Rows.policyReasonsAreEnoughRow.laid w)/\sizedMet enc Tryz.prog Tryz.f8 (OpenSpec.ofChange Rows.policyReasonsAreEnoughSpec) false w args)
   (Rows.policyReasonsAreEnoughSpec.post enc Tryz.prog Tryz.f8 false true false false):=by
 refine returnsInHanded_of_change_and (C:=Tryz.checked) (X:=fun w _=>laidMetH Tryz.prog Rows.policyReasonsAreEnoughRow.laid w) (fun _ _ _ hh h=>h.of_heap hh) own started (by kernel_rfl) Tryz.func8
  (ChangeSpec.witness_shaped (enc:=enc) (C:=Tryz.checked) (os:=os) (X:=fun w _=>laidMetH Tryz.prog Rows.policyReasonsAreEnoughRow.laid w) false (World.doorLaid Tryz.prog 4000 os) #[.agg #[.int .i64 0,.string ⟨#[]⟩,.slice none 0 0,.int .i64 0,.int .i64 0,.slice none 0 0],.agg #[.string ⟨#[]⟩,.string ⟨#[]⟩,.slice none 0 0,.slice none 0 0],.agg #[.string ⟨#[]⟩,.string ⟨#[]⟩,.slice none 0 0,.slice none 0 0]] 8 rfl
   (World.shaped_of_RefB (by kernel_rfl) (by kernel_rfl)) (by kernel_rfl) (by kernel_rfl) (by kernel_rfl) (Gz os _)) ?_
 intro W base args ds gs before hval hW hcnd hwt hL _;exact contract H enc W base args ds gs before hval hW hwt hL
theorem IL:AF Tryz.prog 8 Tryz.f8 Rows.policyReasonsAreEnoughSpec Rows.policyReasonsAreEnoughRow=true:=by kernel_rfl
theorem IK:AE Tryz.prog Rows.policyReasonsAreEnoughRow=true:=by kernel_rfl
theorem IJ:AD Tryz.prog Tryz.f8 Rows.policyReasonsAreEnoughSpec Rows.policyReasonsAreEnoughRow=true:=by kernel_rfl
theorem O3:Rows.PolicyReasonsAreEnoughSaid:=
 OpenClaim.holds_of_wide 8 Tryz.f8 rfl rfl rfl rfl rfl rfl rfl ⟨rfl,rfl,rfl,rfl,rfl⟩ rfl rfl rfl rfl rfl (by kernel_rfl) Tryz.func8 (AB IL IK IJ)
  (of_decide_eq_true (by kernel_rfl)) (by unfold Func.isWrapper;first|(rw[if_pos (by decide +kernel)];kernel_rfl)|(rw[if_neg (by decide +kernel)];exact⟨rfl,rfl⟩))
  (fun os started H enc _=>lifted os started H enc)
theorem proved:Rows.PolicyReasonsAreEnoughCardSaid:=
 Claim7.holds_tied_plain_at .later [] [.data,.data,.data,.sentinel,.sentinel] true (true, "c967bf1a43de598d8b2392c6185dfd3e623573f59fbf8f45544c1465eaa1aa86") true
  O3 (fun _ h=>by cases h) (by kernel_rfl) (fun _ h=>by cases h) policyReasonsAreEnough_row_tie rfl ⟨rfl,rfl⟩ (by kernel_rfl) rfl
  (fun f fn hf hfn=>by
   obtain rfl:f=8:=ah8 ((show Tryz.prog.funcNamed "provender/provenderlaw9.PolicyReasonsAreEnough" = some 8 by kernel_rfl).symm.trans hf) |>.symm;obtain rfl:fn=Tryz.f8:=(ah8 (Tryz.func8.symm.trans hfn)).symm
   exact⟨by kernel_rfl,fun j t ht=>by
    rw[show Tryz.f8.params=#[25,29,29] from rfl] at ht;have hm:t∈[25,29,29]:=by simpa using Array.mem_of_getElem? ht
    have hall:([25,29,29].all fun u=>!Tryz.prog.wantsStandIn u)=true:=by kernel_rfl
    exact(show Tryz.prog.wantsStandIn t=false by simpa using aq8.1 hall t hm)⟩)
  (by kernel_rfl)
#print axioms proved
end Go.Proofs.YtelmfadihfcgnaaGreatDoor.lawPolicyReasonsAreEnough
