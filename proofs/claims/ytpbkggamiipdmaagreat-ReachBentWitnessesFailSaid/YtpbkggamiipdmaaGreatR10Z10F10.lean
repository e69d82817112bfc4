/- A witness of Find from which a hop is left out does not hold, and one from which a maker is left out holds just if the reference says so, for all graphs, ways, features and functions. -/
import Derived.Test.YtpbkggamiipdmaaGreatR10Z10Del
import Derived.Test.YtpbkggamiipdmaaGreatR10Z10W10c
import Derived.Test.YtpbkggamiipdmaaGreatRows
import Derived.WalkKit
import Derived.ProofKit
import Derived.SizedLaws
import Derived.OpenShut
import Derived.JoinedCond
namespace Go.Proofs.YtpbkggamiipdmaaGreat.lawReachBentWitnessesFail
open Go Go.Pv Go.ChangeShapes Go.WideShapes Go.ChangeAt Go.RowKit
set_option linter.unusedVariables false
set_option maxRecDepth 100000
theorem own:ownKnob Tryz.prog.godebug=none:=by kernel_rfl
theorem contract(H:Type)(enc:TypeId×Value->H)(W:World)(base:Nat)(args:Array Value)(ds gs:List (DataW H))(before:List MemPlace)
  (hval:∀(j:Nat) t v,Tryz.f10.params[j]? = some t->args[j]? = some v->Value.okWide Tryz.prog W .any base t v)
  (hW:DataW.Whole enc Tryz.prog Tryz.f10.params.toList Rows.reachBentWitnessesFailSpec.vars false W args.toList ds gs before) (hwt:(DataW.weightsEach Tryz.prog (Tryz.f10.params.toList++Rows.reachBentWitnessesFailSpec.plain.varTypes Tryz.prog) (ds++gs)).all (·<=reachBytes)=true):
  Calls Tryz.prog 10 args W fun e W'=>∃v,e=.returned v/\Rows.reachBentWitnessesFailSpec.post enc Tryz.prog Tryz.f10 false true false false W args v W':=by
 obtain⟨p,hA⟩:=w1p hW
 rw[show Tryz.f10.params=#[27,3,25,9,3,4] from rfl] at hA hval
 obtain⟨v0,vs0,d0,ds0,p0,q0,hargs,rfl,rfl,h0,r0⟩:=trodAll_cons hA
 obtain⟨v1,vs1,d1,ds1,p1,q1,rfl,rfl,rfl,h1,r1⟩:=trodAll_cons r0
 obtain⟨v2,vs2,d2,ds2,p2,q2,rfl,rfl,rfl,h2,r2⟩:=trodAll_cons r1
 obtain⟨v3,vs3,d3,ds3,p3,q3,rfl,rfl,rfl,h3,r3⟩:=trodAll_cons r2
 obtain⟨v4,vs4,d4,ds4,p4,q4,rfl,rfl,rfl,h4,r4⟩:=trodAll_cons r3
 obtain⟨v5,vs5,d5,ds5,p5,q5,rfl,rfl,rfl,h5,r5⟩:=trodAll_cons r4
 obtain⟨rfl,rfl,rfl⟩:=trodAll_nil r5
 obtain rfl:args=#[v0,v1,v2,v3,v4,v5]:=by cases args;simp_all
 have hwt:wOks Tryz.prog ([27,3,25,9,3,4]++_) _:=hwt
 obtain⟨w0,hwt⟩:=q2v hwt
 obtain⟨a0,i0,s0,k0⟩:=w1a enc W base v0 d0 p0 (hval 0 27 v0 rfl rfl) h0 w0
 obtain⟨w1,hwt⟩:=q2v hwt
 obtain⟨a1,i1,s1,k1⟩:=v8n enc W base v1 d1 p1 (hval 1 3 v1 rfl rfl) h1 w1
 obtain⟨w2,hwt⟩:=q2v hwt
 obtain⟨a2,i2,s2,k2⟩:=w2a enc W base v2 d2 p2 (hval 2 25 v2 rfl rfl) h2 w2
 obtain⟨w3,hwt⟩:=q2v hwt
 obtain⟨a3,i3,s3,k3⟩:=w5l enc W base v3 d3 p3 (hval 3 9 v3 rfl rfl) h3 w3
 obtain⟨w4,hwt⟩:=q2v hwt
 obtain⟨a4,i4,s4,k4⟩:=v8n enc W base v4 d4 p4 (hval 4 3 v4 rfl rfl) h4 w4
 obtain⟨w5,hwt⟩:=q2v hwt
 obtain⟨a5,i5,s5,k5⟩:=w6l enc W base v5 d5 p5 (hval 5 4 v5 rfl rfl) h5 w5
 obtain⟨F,hF⟩:=w7k a0 a1 a2 a3 a4 a5 k0 k1 k2 k3 k4 k5
 refine(W10 F a0 a1 a2 a3 a4 a5 true hF (v5i W) W _ (fun _ _ h=>h) v7g.nil ⟨(q0o.app (q0o.one i0) (q0o.app (q0o.one i1) (q0o.app (q0o.one i2) (q0o.app (q0o.one i3) (q0o.app (q0o.one i4) (q0o.one i5)))))).1,fun i c v hc hv=>(q0o.app (q0o.one i0) (q0o.app (q0o.one i1) (q0o.app (q0o.one i2) (q0o.app (q0o.one i3) (q0o.app (q0o.one i4) (q0o.one i5)))))).2 i c v hc (by simpa using hv)⟩).mono ?_
 rintro e W' ⟨v,m',rfl,hv,hg⟩
 exact⟨v,rfl,w7m (by kernel_rfl) (by kernel_rfl) rfl (fun _ h=>by subst h;rfl) rfl (show Tryz.prog.underlying 4=some .bool by kernel_rfl) hW hv hg⟩
theorem lifted(os:Os)(started:os.Started)(H:Type)(enc:TypeId×Value->H):
  ReturnsInHanded {} Tryz.checked os 10 .any (Rows.reachBentWitnessesFailSpec.pre6 enc Tryz.prog Tryz.f10 Rows.reachBentWitnessesFailRow.domain false) (Rows.reachBentWitnessesFailSpec.post enc Tryz.prog Tryz.f10 false true false false):=by
 refine returnsInHanded_of_change_sized (C:=Tryz.checked) own started (by kernel_rfl) Tryz.func10
  (ChangeSpec.witness6 (enc:=enc) (C:=Tryz.checked) false ⟨#[],#[.agg #[.slice none 0 0,.slice none 0 0,.slice none 0 0,.slice none 0 0],.int .i64 0,.slice none 0 0,.string ⟨#[]⟩,.int .i64 0,.bool false],[]⟩ 8 (by kernel_rfl) (by kernel_rfl) (by kernel_rfl) (by kernel_rfl)) ?_
 intro W base args ds gs before hval hW hcnd hwt _
 exact contract H enc W base args ds gs before hval hW hwt
theorem y8b:w4e Tryz.prog 10 Tryz.f10 Rows.reachBentWitnessesFailSpec Rows.reachBentWitnessesFailRow=true:=by kernel_rfl
theorem y7b:w3e Tryz.prog Rows.reachBentWitnessesFailRow=true:=by kernel_rfl
theorem y6b:w2e Tryz.prog Tryz.f10 Rows.reachBentWitnessesFailSpec Rows.reachBentWitnessesFailRow=true:=by kernel_rfl
theorem proved:Rows.ReachBentWitnessesFailSaid:=
 OpenClaim.holds_of_wide 10 Tryz.f10 rfl rfl rfl rfl rfl rfl rfl ⟨rfl,rfl,rfl,rfl,rfl⟩ rfl rfl rfl rfl rfl (by kernel_rfl) Tryz.func10 (v8t y8b y7b y6b)
  (of_decide_eq_true (by kernel_rfl)) (by unfold Func.isWrapper;first|(rw[if_pos (by decide +kernel)];kernel_rfl)|(rw[if_neg (by decide +kernel)];exact⟨rfl,rfl⟩))
  (fun os started H enc _=>lifted os started H enc)
#print axioms proved
end Go.Proofs.YtpbkggamiipdmaaGreat.lawReachBentWitnessesFail
