/- PolicyDifferIsRight -/
import Derived.Test.YtelmfadihfcgnaaGreatDoorFD7W7c
import Derived.Test.YtelmfadihfcgnaaGreatDoorFKL
import Derived.Test.YtelmfadihfcgnaaGreatDoorCards
import Derived.Test.YtelmfadihfcgnaaGreatDoorTie
import Derived.LaidMore
import Derived.Lay
set_option linter.unusedSimpArgs false
set_option linter.unusedVariables false
namespace Go.Proofs.YtelmfadihfcgnaaGreatDoor.lawPolicyDifferIsRight
open Go Go.Pv Go.ChangeShapes Go.WideShapes Go.ChangeAt Go.RowKit
set_option maxRecDepth 100000
theorem own:ownKnob Tryz.prog.godebug=none:=by kernel_rfl
theorem contract(H:Type)(enc:TypeId×Value->H)(W:World)(base:Nat)(args:Array Value)(ds gs:List (DataW H))(before:List MemPlace)
  (hval:∀(j:Nat) t v,Tryz.f7.params[j]? = some t->args[j]? = some v->Value.okWide Tryz.prog W .any base t v)
  (hW:DataW.Whole enc Tryz.prog Tryz.f7.params.toList Rows.policyDifferIsRightSpec.vars false W args.toList ds gs before) (hwt:(DataW.weightsEach Tryz.prog (Tryz.f7.params.toList++Rows.policyDifferIsRightSpec.plain.varTypes Tryz.prog) (ds++gs)).all (·<=reachBytes)=true) (hL:laidMetH Tryz.prog Rows.policyDifferIsRightRow.laid W):
  Calls Tryz.prog 7 args W fun e W'=>∃v,e=.returned v/\Rows.policyDifferIsRightSpec.post enc Tryz.prog Tryz.f7 false true false false W args v W':=by
 obtain⟨p,hA⟩:=IT hW;rw[show Tryz.f7.params=#[49,49,9,29] from rfl] at hA hval;obtain⟨v0,vs0,d0,ds0,p0,q0,hargs,rfl,rfl,h0,r0⟩:=trodAll_cons hA;obtain⟨v1,vs1,d1,ds1,p1,q1,rfl,rfl,rfl,h1,r1⟩:=trodAll_cons r0;obtain⟨v2,vs2,d2,ds2,p2,q2,rfl,rfl,rfl,h2,r2⟩:=trodAll_cons r1;obtain⟨v3,vs3,d3,ds3,p3,q3,rfl,rfl,rfl,h3,r3⟩:=trodAll_cons r2;obtain⟨rfl,rfl,rfl⟩:=trodAll_nil r3;obtain rfl:args=#[v0,v1,v2,v3]:=by cases args;simp_all
 have hwt:zr Tryz.prog ([49,49,9,29]++_) _:=hwt;obtain⟨w0,hwt⟩:=i9 hwt;obtain⟨a0,i0,s0,k0⟩:=wk enc W base v0 d0 p0 (hval 0 49 v0 rfl rfl) h0 w0;obtain⟨w1,hwt⟩:=i9 hwt;obtain⟨a1,i1,s1,k1⟩:=wk enc W base v1 d1 p1 (hval 1 49 v1 rfl rfl) h1 w1;obtain⟨w2,hwt⟩:=i9 hwt;obtain⟨a2,i2,s2,k2⟩:=Hd enc W base v2 d2 p2 (hval 2 9 v2 rfl rfl) h2 w2;obtain⟨w3,hwt⟩:=i9 hwt;obtain⟨a3,i3,s3,k3⟩:=Eu enc W base v3 d3 p3 (hval 3 29 v3 rfl rfl) h3 w3;have hgl:gT [] (kK W):=gT.nil;obtain⟨F,hF⟩:=Km a0 a1 a2 a3 k0 k1 k2 k3;refine(W7 F a0 a1 a2 a3 true hF (kK W) W _ (fun _ _ h=>h) hgl ⟨(dI.app (dI.one i0) (dI.app (dI.one i1) (dI.app (dI.one i2) (dI.one i3)))).1,fun i c v hc hv=>(dI.app (dI.one i0) (dI.app (dI.one i1) (dI.app (dI.one i2) (dI.one i3)))).2 i c v hc (by simpa using hv)⟩).mono ?_
 rintro e W' ⟨v,m',rfl,hv,hg⟩
 exact⟨v,Y,HU (by kernel_rfl) (by kernel_rfl) Y (fun _ h=>by subst h;rfl) Y (show Tryz.prog.underlying 4=some .bool by kernel_rfl) hW hv hg⟩
theorem Is(os:Os)(args:Array Value):laidMetH Tryz.prog Rows.policyDifferIsRightRow.laid ((World.doorLaid Tryz.prog 4000 os).forCall (fun _ _=>0) ⟨#[],args,[]⟩).memory:=
 laidMetH_of_parts3 (fuel:=8) (laidMet_of_run' 8 (by kernel_rfl) (by kernel_rfl)) (by kernel_rfl) (by kernel_rfl)
theorem lifted(os:Os)(started:os.Started)(H:Type)(enc:TypeId×Value->H):
  ReturnsInHanded {} Tryz.checked os 7 .any (fun w args=>(Rows.policyDifferIsRightSpec.pre enc Tryz.prog Tryz.f7 Rows.policyDifferIsRightRow.domain false w args/\laidMetH Tryz.prog Rows.policyDifferIsRightRow.laid w)/\sizedMet enc Tryz.prog Tryz.f7 (OpenSpec.ofChange Rows.policyDifferIsRightSpec) false w args)
   (Rows.policyDifferIsRightSpec.post enc Tryz.prog Tryz.f7 false true false false):=by
 refine returnsInHanded_of_change_and (C:=Tryz.checked) (X:=fun w _=>laidMetH Tryz.prog Rows.policyDifferIsRightRow.laid w) (fun _ _ _ hh h=>h.of_heap hh) own started (by kernel_rfl) Tryz.func7
  (ChangeSpec.witness_shaped (enc:=enc) (C:=Tryz.checked) (os:=os) (X:=fun w _=>laidMetH Tryz.prog Rows.policyDifferIsRightRow.laid w) false (World.doorLaid Tryz.prog 4000 os) #[.agg #[.slice none 0 0,.slice none 0 0],.agg #[.slice none 0 0,.slice none 0 0],.string ⟨#[]⟩,.agg #[.string ⟨#[]⟩,.string ⟨#[]⟩,.slice none 0 0,.slice none 0 0]] 8 rfl
   (World.shaped_of_RefB (by kernel_rfl) (by kernel_rfl)) (by kernel_rfl) (by kernel_rfl) (by kernel_rfl) (Is os _)) ?_
 intro W base args ds gs before hval hW hcnd hwt hL _;exact contract H enc W base args ds gs before hval hW hwt hL
theorem KY:Ce Tryz.prog 7 Tryz.f7 Rows.policyDifferIsRightSpec Rows.policyDifferIsRightRow=true:=by kernel_rfl
theorem KX:Cd Tryz.prog Rows.policyDifferIsRightRow=true:=by kernel_rfl
theorem KW:Cc Tryz.prog Tryz.f7 Rows.policyDifferIsRightSpec Rows.policyDifferIsRightRow=true:=by kernel_rfl
theorem Sr:Rows.PolicyDifferIsRightSaid:=
 OpenClaim.holds_of_wide 7 Tryz.f7 rfl rfl rfl rfl rfl rfl rfl ⟨rfl,rfl,rfl,rfl,rfl⟩ rfl rfl rfl rfl rfl (by kernel_rfl) Tryz.func7 (Cb KY KX KW)
  (of_decide_eq_true (by kernel_rfl)) (by unfold Func.isWrapper;first|(rw[if_pos (by decide +kernel)];kernel_rfl)|(rw[if_neg (by decide +kernel)];exact⟨rfl,rfl⟩))
  (fun os started H enc _=>lifted os started H enc)
theorem proved:Rows.PolicyDifferIsRightCardSaid:=
 Claim7.holds_tied_plain_at .later [] [.data,.data,.data,.sentinel,.sentinel] true (true, "c967bf1a43de598d8b2392c6185dfd3e623573f59fbf8f45544c1465eaa1aa86") true
  Sr (fun _ h=>by cases h) (by kernel_rfl) (fun _ h=>by cases h) policyDifferIsRight_row_tie rfl ⟨rfl,rfl⟩ (by kernel_rfl) rfl
  (fun f fn hf hfn=>by
   obtain rfl:f=7:=ah8 ((show Tryz.prog.funcNamed "provender/provenderlaw9.PolicyDifferIsRight" = some 7 by kernel_rfl).symm.trans hf) |>.symm;obtain rfl:fn=Tryz.f7:=(ah8 (Tryz.func7.symm.trans hfn)).symm
   exact⟨by kernel_rfl,fun j t ht=>by
    rw[show Tryz.f7.params=#[49,49,9,29] from rfl] at ht;have hm:t∈[49,49,9,29]:=by simpa using Array.mem_of_getElem? ht
    have hall:([49,49,9,29].all fun u=>!Tryz.prog.wantsStandIn u)=true:=by kernel_rfl
    exact(show Tryz.prog.wantsStandIn t=false by simpa using ap9.1 hall t hm)⟩)
  (by kernel_rfl)
#print axioms proved
end Go.Proofs.YtelmfadihfcgnaaGreatDoor.lawPolicyDifferIsRight
