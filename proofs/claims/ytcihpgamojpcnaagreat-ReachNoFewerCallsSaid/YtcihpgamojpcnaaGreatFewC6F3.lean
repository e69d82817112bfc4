/- No fewer calls than those of the least cut part a target from the entries. -/
import Derived.Test.YtcihpgamojpcnaaGreatFewC6Sh
import Derived.Test.YtcihpgamojpcnaaGreatFewC6W3b
import Derived.Test.YtcihpgamojpcnaaGreatRows
import Derived.WalkKit
import Derived.ProofKit
import Derived.SizedLaws
import Derived.OpenShut
import Derived.JoinedCond
namespace Go.Proofs.YtcihpgamojpcnaaGreat.lawReachNoFewerCalls
open Go Go.Pv Go.ChangeShapes Go.WideShapes Go.ChangeAt Go.RowKit
set_option linter.unusedVariables false
set_option maxRecDepth 100000
theorem own:ownKnob Tryz.prog.godebug=none:=by kernel_rfl
theorem contract(H:Type)(enc:TypeId×Value->H)(W:World)(base:Nat)(args:Array Value)(ds gs:List (DataW H))(before:List MemPlace)
  (hval:∀(j:Nat) t v,Tryz.f3.params[j]? = some t->args[j]? = some v->Value.okWide Tryz.prog W .any base t v)
  (hW:DataW.Whole enc Tryz.prog Tryz.f3.params.toList Rows.reachNoFewerCallsSpec.vars false W args.toList ds gs before) (hwt:(DataW.weightsEach Tryz.prog (Tryz.f3.params.toList++Rows.reachNoFewerCallsSpec.plain.varTypes Tryz.prog) (ds++gs)).all (·<=reachBytes)=true):
  Calls Tryz.prog 3 args W fun e W'=>∃v,e=.returned v/\Rows.reachNoFewerCallsSpec.post enc Tryz.prog Tryz.f3 false true false false W args v W':=by
 obtain⟨p,hA⟩:=args_nil hW
 rw[show Tryz.f3.params=#[27,25,9,28] from rfl] at hA hval
 obtain⟨v0,vs0,d0,ds0,p0,q0,hargs,rfl,rfl,h0,r0⟩:=trodAll_cons hA
 obtain⟨v1,vs1,d1,ds1,p1,q1,rfl,rfl,rfl,h1,r1⟩:=trodAll_cons r0
 obtain⟨v2,vs2,d2,ds2,p2,q2,rfl,rfl,rfl,h2,r2⟩:=trodAll_cons r1
 obtain⟨v3,vs3,d3,ds3,p3,q3,rfl,rfl,rfl,h3,r3⟩:=trodAll_cons r2
 obtain⟨rfl,rfl,rfl⟩:=trodAll_nil r3
 obtain rfl:args=#[v0,v1,v2,v3]:=by cases args;simp_all
 have hwt:wOks Tryz.prog ([27,25,9,28]++_) _:=hwt
 obtain⟨w0,hwt⟩:=wOks_cons hwt
 obtain⟨a0,i0,s0,k0⟩:=opensV_27 enc W base v0 d0 p0 (hval 0 27 v0 rfl rfl) h0 w0
 obtain⟨w1,hwt⟩:=wOks_cons hwt
 obtain⟨a1,i1,s1,k1⟩:=opensV_25 enc W base v1 d1 p1 (hval 1 25 v1 rfl rfl) h1 w1
 obtain⟨w2,hwt⟩:=wOks_cons hwt
 obtain⟨a2,i2,s2,k2⟩:=opensV_9 enc W base v2 d2 p2 (hval 2 9 v2 rfl rfl) h2 w2
 obtain⟨w3,hwt⟩:=wOks_cons hwt
 obtain⟨a3,i3,s3,k3⟩:=opensV_28 enc W base v3 d3 p3 (hval 3 28 v3 rfl rfl) h3 w3
 obtain⟨F,hF⟩:=plain_3 a0 a1 a2 a3 k0 k1 k2 k3
 refine(W3 F a0 a1 a2 a3 true hF (memOf W) W _ (fun _ _ h=>h) GlOk.nil ⟨(IRelL.app (IRelL.one i0) (IRelL.app (IRelL.one i1) (IRelL.app (IRelL.one i2) (IRelL.one i3)))).1,fun i c v hc hv=>(IRelL.app (IRelL.one i0) (IRelL.app (IRelL.one i1) (IRelL.app (IRelL.one i2) (IRelL.one i3)))).2 i c v hc (by simpa using hv)⟩).mono ?_
 rintro e W' ⟨v,m',rfl,hv,hg⟩
 exact⟨v,rfl,law_post (by kernel_rfl) (by kernel_rfl) rfl (fun _ h=>by subst h;rfl) rfl (show Tryz.prog.underlying 4=some .bool by kernel_rfl) hW hv hg⟩
theorem lifted(os:Os)(started:os.Started)(H:Type)(enc:TypeId×Value->H):
  ReturnsInHanded {} Tryz.checked os 3 .any (Rows.reachNoFewerCallsSpec.pre6 enc Tryz.prog Tryz.f3 Rows.reachNoFewerCallsRow.domain false) (Rows.reachNoFewerCallsSpec.post enc Tryz.prog Tryz.f3 false true false false):=by
 refine returnsInHanded_of_change_sized (C:=Tryz.checked) own started (by kernel_rfl) Tryz.func3
  (ChangeSpec.witness6 (enc:=enc) (C:=Tryz.checked) false ⟨#[],#[.agg #[.slice none 0 0,.slice none 0 0,.slice none 0 0,.slice none 0 0],.slice none 0 0,.string ⟨#[]⟩,.slice none 0 0],[]⟩ 8 (by kernel_rfl) (by kernel_rfl) (by kernel_rfl) (by kernel_rfl)) ?_
 intro W base args ds gs before hval hW hcnd hwt _
 exact contract H enc W base args ds gs before hval hW hwt
theorem closedA:factsA Tryz.prog 3 Tryz.f3 Rows.reachNoFewerCallsSpec Rows.reachNoFewerCallsRow=true:=by kernel_rfl
theorem closedB:factsB Tryz.prog Rows.reachNoFewerCallsRow=true:=by kernel_rfl
theorem closedC:factsC Tryz.prog Tryz.f3 Rows.reachNoFewerCallsSpec Rows.reachNoFewerCallsRow=true:=by kernel_rfl
theorem proved:Rows.ReachNoFewerCallsSaid:=
 OpenClaim.holds_of_wide 3 Tryz.f3 rfl rfl rfl rfl rfl rfl rfl ⟨rfl,rfl,rfl,rfl,rfl⟩ rfl rfl rfl rfl rfl (by kernel_rfl) Tryz.func3 (facts_join closedA closedB closedC)
  (of_decide_eq_true (by kernel_rfl)) (by unfold Func.isWrapper;first|(rw[if_pos (by decide +kernel)];kernel_rfl)|(rw[if_neg (by decide +kernel)];exact⟨rfl,rfl⟩))
  (fun os started H enc _=>lifted os started H enc)
#print axioms proved
end Go.Proofs.YtcihpgamojpcnaaGreat.lawReachNoFewerCalls
