/- PolicyReasonsMatchSpec -/
import Derived.Test.YtelmfadihfcgnaaGreatDoorGKL
import Derived.Test.YtelmfadihfcgnaaGreatDoorCards
import Derived.Test.YtelmfadihfcgnaaGreatDoorTie
import Derived.LaidMore
import Derived.Lay
set_option linter.unusedSimpArgs false
set_option linter.unusedVariables false
namespace Go.Proofs.YtelmfadihfcgnaaGreatDoor.lawPolicyReasonsMatchSpec
open Go Go.Pv Go.ChangeShapes Go.WideShapes Go.ChangeAt Go.RowKit
set_option maxRecDepth 100000
theorem own:ownKnob Tryz.prog.godebug=none:=by kernel_rfl
theorem contract(H:Type)(enc:TypeId×Value->H)(W:World)(base:Nat)(args:Array Value)(ds gs:List (DataW H))(before:List MemPlace)
  (hval:∀(j:Nat) t v,Tryz.f4.params[j]? = some t->args[j]? = some v->Value.okWide Tryz.prog W .any base t v)
  (hW:DataW.Whole enc Tryz.prog Tryz.f4.params.toList Rows.policyReasonsMatchSpecSpec.vars false W args.toList ds gs before) (hwt:(DataW.weightsEach Tryz.prog (Tryz.f4.params.toList++Rows.policyReasonsMatchSpecSpec.plain.varTypes Tryz.prog) (ds++gs)).all (·<=reachBytes)=true) (hL:laidMetH Tryz.prog Rows.policyReasonsMatchSpecRow.laid W):
  Calls Tryz.prog 4 args W fun e W'=>∃v,e=.returned v/\Rows.policyReasonsMatchSpecSpec.post enc Tryz.prog Tryz.f4 false true false false W args v W':=by
 obtain⟨p,hA⟩:=Gt hW;rw[show Tryz.f4.params=#[25,29] from rfl] at hA hval;obtain⟨v0,vs0,d0,ds0,p0,q0,hargs,rfl,rfl,h0,r0⟩:=trodAll_cons hA;obtain⟨v1,vs1,d1,ds1,p1,q1,rfl,rfl,rfl,h1,r1⟩:=trodAll_cons r0;obtain⟨rfl,rfl,rfl⟩:=trodAll_nil r1;obtain rfl:args=#[v0,v1]:=by cases args;simp_all
 have hwt:xp Tryz.prog ([25,29]++_) _:=hwt;obtain⟨w0,hwt⟩:=ms hwt;obtain⟨a0,i0,s0,k0⟩:=Cm enc W base v0 d0 p0 (hval 0 25 v0 rfl rfl) h0 w0;obtain⟨w1,hwt⟩:=ms hwt;obtain⟨a1,i1,s1,k1⟩:=Cl enc W base v1 d1 p1 (hval 1 29 v1 rfl rfl) h1 w1;have hgl:go [] (jL W):=go.nil;obtain⟨F,hF⟩:=HH a0 a1 k0 k1;refine(W4 F a0 a1 true hF (jL W) W _ (fun _ _ h=>h) hgl ⟨(dL.app (dL.one i0) (dL.one i1)).1,fun i c v hc hv=>(dL.app (dL.one i0) (dL.one i1)).2 i c v hc (by simpa using hv)⟩).mono ?_
 rintro e W' ⟨v,m',rfl,hv,hg⟩
 exact⟨v,Y,Fw (by kernel_rfl) (by kernel_rfl) Y (fun _ h=>by subst h;rfl) Y (show Tryz.prog.underlying 4=some .bool by kernel_rfl) hW hv hg⟩
theorem F7(os:Os)(args:Array Value):laidMetH Tryz.prog Rows.policyReasonsMatchSpecRow.laid ((World.doorLaid Tryz.prog 4000 os).forCall (fun _ _=>0) ⟨#[],args,[]⟩).memory:=
 laidMetH_of_parts3 (fuel:=8) (laidMet_of_run' 8 (by kernel_rfl) (by kernel_rfl)) (by kernel_rfl) (by kernel_rfl)
theorem lifted(os:Os)(started:os.Started)(H:Type)(enc:TypeId×Value->H):
  ReturnsInHanded {} Tryz.checked os 4 .any (fun w args=>(Rows.policyReasonsMatchSpecSpec.pre enc Tryz.prog Tryz.f4 Rows.policyReasonsMatchSpecRow.domain false w args/\laidMetH Tryz.prog Rows.policyReasonsMatchSpecRow.laid w)/\sizedMet enc Tryz.prog Tryz.f4 (OpenSpec.ofChange Rows.policyReasonsMatchSpecSpec) false w args)
   (Rows.policyReasonsMatchSpecSpec.post enc Tryz.prog Tryz.f4 false true false false):=by
 refine returnsInHanded_of_change_and (C:=Tryz.checked) (X:=fun w _=>laidMetH Tryz.prog Rows.policyReasonsMatchSpecRow.laid w) (fun _ _ _ hh h=>h.of_heap hh) own started (by kernel_rfl) Tryz.func4
  (ChangeSpec.witness_shaped (enc:=enc) (C:=Tryz.checked) (os:=os) (X:=fun w _=>laidMetH Tryz.prog Rows.policyReasonsMatchSpecRow.laid w) false (World.doorLaid Tryz.prog 4000 os) #[.agg #[.int .i64 0,.string ⟨#[]⟩,.slice none 0 0,.int .i64 0,.int .i64 0,.slice none 0 0],.agg #[.string ⟨#[]⟩,.string ⟨#[]⟩,.slice none 0 0,.slice none 0 0]] 8 rfl
   (World.shaped_of_RefB (by kernel_rfl) (by kernel_rfl)) (by kernel_rfl) (by kernel_rfl) (by kernel_rfl) (F7 os _)) ?_
 intro W base args ds gs before hval hW hcnd hwt hL _;exact contract H enc W base args ds gs before hval hW hwt hL
theorem Ij:Al Tryz.prog 4 Tryz.f4 Rows.policyReasonsMatchSpecSpec Rows.policyReasonsMatchSpecRow=true:=by kernel_rfl
theorem Ii:Ak Tryz.prog Rows.policyReasonsMatchSpecRow=true:=by kernel_rfl
theorem Ih:Aj Tryz.prog Tryz.f4 Rows.policyReasonsMatchSpecSpec Rows.policyReasonsMatchSpecRow=true:=by kernel_rfl
theorem Oy:Rows.PolicyReasonsMatchSpecSaid:=
 OpenClaim.holds_of_wide 4 Tryz.f4 rfl rfl rfl rfl rfl rfl rfl ⟨rfl,rfl,rfl,rfl,rfl⟩ rfl rfl rfl rfl rfl (by kernel_rfl) Tryz.func4 (Ai Ij Ii Ih)
  (of_decide_eq_true (by kernel_rfl)) (by unfold Func.isWrapper;first|(rw[if_pos (by decide +kernel)];kernel_rfl)|(rw[if_neg (by decide +kernel)];exact⟨rfl,rfl⟩))
  (fun os started H enc _=>lifted os started H enc)
theorem proved:Rows.PolicyReasonsMatchSpecCardSaid:=
 Claim7.holds_tied_plain_at .later [] [.data,.data,.data,.sentinel,.sentinel] true (true, "c967bf1a43de598d8b2392c6185dfd3e623573f59fbf8f45544c1465eaa1aa86") true
  Oy (fun _ h=>by cases h) (by kernel_rfl) (fun _ h=>by cases h) policyReasonsMatchSpec_row_tie rfl ⟨rfl,rfl⟩ (by kernel_rfl) rfl
  (fun f fn hf hfn=>by
   obtain rfl:f=4:=ah9 ((show Tryz.prog.funcNamed "provender/provenderlaw9.PolicyReasonsMatchSpec" = some 4 by kernel_rfl).symm.trans hf) |>.symm;obtain rfl:fn=Tryz.f4:=(ah9 (Tryz.func4.symm.trans hfn)).symm
   exact⟨by kernel_rfl,fun j t ht=>by
    rw[show Tryz.f4.params=#[25,29] from rfl] at ht;have hm:t∈[25,29]:=by simpa using Array.mem_of_getElem? ht
    have hall:([25,29].all fun u=>!Tryz.prog.wantsStandIn u)=true:=by kernel_rfl
    exact(show Tryz.prog.wantsStandIn t=false by simpa using ap8.1 hall t hm)⟩)
  (by kernel_rfl)
#print axioms proved
end Go.Proofs.YtelmfadihfcgnaaGreatDoor.lawPolicyReasonsMatchSpec
