/- for all policies, Print returns what is specified, and what is printed is read as it was. -/
import Derived.Test.YtppfkkkifdbnaaaGreatDoorVT9W3b
import Derived.Test.YtppfkkkifdbnaaaGreatDoorCards
import Derived.Test.YtppfkkkifdbnaaaGreatDoorTie
import Derived.LaidMore
import Derived.Lay
set_option linter.unusedSimpArgs false
set_option linter.unusedVariables false
namespace Go.Proofs.YtppfkkkifdbnaaaGreatDoor.lawPolicyTextsComeBack
open Go Go.Pv Go.ChangeShapes Go.WideShapes Go.ChangeAt Go.RowKit
set_option maxRecDepth 100000
theorem own:ownKnob Tryz.prog.godebug=none:=by kernel_rfl
theorem contract(H:Type)(enc:TypeId×Value->H)(W:World)(base:Nat)(args:Array Value)(ds gs:List (DataW H))(before:List MemPlace)
  (hval:∀(j:Nat) t v,Tryz.f3.params[j]? = some t->args[j]? = some v->Value.okWide Tryz.prog W .any base t v)
  (hW:DataW.Whole enc Tryz.prog Tryz.f3.params.toList Rows.policyTextsComeBackSpec.vars false W args.toList ds gs before) (hwt:(DataW.weightsEach Tryz.prog (Tryz.f3.params.toList++Rows.policyTextsComeBackSpec.plain.varTypes Tryz.prog) (ds++gs)).all (·<=reachBytes)=true) (hL:laidMetH Tryz.prog Rows.policyTextsComeBackRow.laid W):
  Calls Tryz.prog 3 args W fun e W'=>∃v,e=.returned v/\Rows.policyTextsComeBackSpec.post enc Tryz.prog Tryz.f3 false true false false W args v W':=by
 obtain⟨p,hA⟩:=args_nil hW
 rw[show Tryz.f3.params=#[25] from rfl] at hA hval
 obtain⟨v0,vs0,d0,ds0,p0,q0,hargs,rfl,rfl,h0,r0⟩:=trodAll_cons hA
 obtain⟨rfl,rfl,rfl⟩:=trodAll_nil r0
 obtain rfl:args=#[v0]:=by cases args;simp_all
 have hwt:wOks Tryz.prog ([25]++_) _:=hwt
 obtain⟨w0,hwt⟩:=wOks_cons hwt
 obtain⟨a0,i0,s0,k0⟩:=opensV_25 enc W base v0 d0 p0 (hval 0 25 v0 rfl rfl) h0 w0
 have hgl:GlOk gl (memOf W):=gl_of (laidMetH_iff.1 hL).1 (bn8.2 ⟨by first|exact bs9|exact bm8 _ bs9|exact bm8 _ (bm8 _ bs9),rfl⟩)
 obtain⟨F,hF⟩:=plain_3 a0 k0
 refine(W3 F a0 true hF (memOf W) W _ (fun _ _ h=>h) hgl ⟨(IRelL.one i0).1,fun i c v hc hv=>(IRelL.one i0).2 i c v hc (by simpa using hv)⟩).mono ?_
 rintro e W' ⟨v,m',rfl,hv,hg⟩
 exact⟨v,rfl,law_post (by kernel_rfl) (by kernel_rfl) rfl (fun _ h=>by subst h;rfl) rfl (show Tryz.prog.underlying 4=some .bool by kernel_rfl) hW hv hg⟩
theorem door_met(os:Os)(args:Array Value):laidMetH Tryz.prog Rows.policyTextsComeBackRow.laid ((World.doorLaid Tryz.prog 4000 os).forCall (fun _ _=>0) ⟨#[],args,[]⟩).memory:=
 laidMetH_of_parts3 (fuel:=8) (laidMet_of_run' 8 (by kernel_rfl) (by kernel_rfl)) (by kernel_rfl) (by kernel_rfl)
theorem lifted(os:Os)(started:os.Started)(H:Type)(enc:TypeId×Value->H):
  ReturnsInHanded {} Tryz.checked os 3 .any (fun w args=>(Rows.policyTextsComeBackSpec.pre enc Tryz.prog Tryz.f3 Rows.policyTextsComeBackRow.domain false w args/\laidMetH Tryz.prog Rows.policyTextsComeBackRow.laid w)/\sizedMet enc Tryz.prog Tryz.f3 (OpenSpec.ofChange Rows.policyTextsComeBackSpec) false w args)
   (Rows.policyTextsComeBackSpec.post enc Tryz.prog Tryz.f3 false true false false):=by
 refine returnsInHanded_of_change_and (C:=Tryz.checked) (X:=fun w _=>laidMetH Tryz.prog Rows.policyTextsComeBackRow.laid w) (fun _ _ _ hh h=>h.of_heap hh) own started (by kernel_rfl) Tryz.func3
  (ChangeSpec.witness_shaped (enc:=enc) (C:=Tryz.checked) (os:=os) (X:=fun w _=>laidMetH Tryz.prog Rows.policyTextsComeBackRow.laid w) false (World.doorLaid Tryz.prog 4000 os) #[.agg #[.slice none 0 0,.slice none 0 0]] 8 rfl
   (World.shaped_of_RefB (by kernel_rfl) (by kernel_rfl)) (by kernel_rfl) (by kernel_rfl) (by kernel_rfl) (door_met os _)) ?_
 intro W base args ds gs before hval hW hcnd hwt hL _
 exact contract H enc W base args ds gs before hval hW hwt hL
theorem closedA:factsA Tryz.prog 3 Tryz.f3 Rows.policyTextsComeBackSpec Rows.policyTextsComeBackRow=true:=by kernel_rfl
theorem closedB:factsB Tryz.prog Rows.policyTextsComeBackRow=true:=by kernel_rfl
theorem closedC:factsC Tryz.prog Tryz.f3 Rows.policyTextsComeBackSpec Rows.policyTextsComeBackRow=true:=by kernel_rfl
theorem said:Rows.PolicyTextsComeBackSaid:=
 OpenClaim.holds_of_wide 3 Tryz.f3 rfl rfl rfl rfl rfl rfl rfl ⟨rfl,rfl,rfl,rfl,rfl⟩ rfl rfl rfl rfl rfl (by kernel_rfl) Tryz.func3 (facts_join closedA closedB closedC)
  (of_decide_eq_true (by kernel_rfl)) (by unfold Func.isWrapper;first|(rw[if_pos (by decide +kernel)];kernel_rfl)|(rw[if_neg (by decide +kernel)];exact⟨rfl,rfl⟩))
  (fun os started H enc _=>lifted os started H enc)
theorem proved:Rows.PolicyTextsComeBackCardSaid:=
 Claim7.holds_tied_plain_at .later [] [.data,.data,.data,.sentinel,.sentinel] true (true, "5e2006e8a9c96e3604edb19295975e9240600cb14246572c555ee865e7ce801f") true
  said (fun _ h=>by cases h) (by kernel_rfl) (fun _ h=>by cases h) policyTextsComeBack_row_tie rfl ⟨rfl,rfl⟩ (by kernel_rfl) rfl
  (fun f fn hf hfn=>by
   obtain rfl:f=3:=ae8 ((show Tryz.prog.funcNamed "provender/provenderlaw9.PolicyTextsComeBack" = some 3 by kernel_rfl).symm.trans hf) |>.symm
   obtain rfl:fn=Tryz.f3:=(ae8 (Tryz.func3.symm.trans hfn)).symm
   exact⟨by kernel_rfl,fun j t ht=>by
    rw[show Tryz.f3.params=#[25] from rfl] at ht
    have hm:t∈[25]:=by simpa using Array.mem_of_getElem? ht
    have hall:([25].all fun u=>!Tryz.prog.wantsStandIn u)=true:=by kernel_rfl
    exact(show Tryz.prog.wantsStandIn t=false by simpa using al8.1 hall t hm)⟩)
  (by kernel_rfl)
#print axioms proved
end Go.Proofs.YtppfkkkifdbnaaaGreatDoor.lawPolicyTextsComeBack
