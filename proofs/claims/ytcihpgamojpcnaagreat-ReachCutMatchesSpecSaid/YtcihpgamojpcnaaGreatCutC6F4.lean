/- The least cut of reach agrees with the reference: without it the target is not reached, with any one of its calls it is. -/
import Derived.Test.YtcihpgamojpcnaaGreatCutC6Del
import Derived.Test.YtcihpgamojpcnaaGreatCutC6W4b
import Derived.Test.YtcihpgamojpcnaaGreatRows
import Derived.WalkKit
import Derived.ProofKit
import Derived.SizedLaws
import Derived.OpenShut
import Derived.JoinedCond
set_option linter.unusedSimpArgs false
set_option linter.unusedVariables false
namespace Go.Proofs.YtcihpgamojpcnaaGreat.lawReachCutMatchesSpec
open Go Go.Pv Go.ChangeShapes Go.WideShapes Go.ChangeAt Go.RowKit
set_option maxRecDepth 100000
theorem own:ownKnob Tryz.prog.godebug=none:=by kernel_rfl
theorem contract(H:Type)(enc:TypeId×Value->H)(W:World)(base:Nat)(args:Array Value)(ds gs:List (DataW H))(before:List MemPlace)
  (hval:∀(j:Nat) t v,Tryz.f4.params[j]? = some t->args[j]? = some v->Value.okWide Tryz.prog W .any base t v)
  (hW:DataW.Whole enc Tryz.prog Tryz.f4.params.toList Rows.reachCutMatchesSpecSpec.vars false W args.toList ds gs before) (hwt:(DataW.weightsEach Tryz.prog (Tryz.f4.params.toList++Rows.reachCutMatchesSpecSpec.plain.varTypes Tryz.prog) (ds++gs)).all (·<=reachBytes)=true):
  Calls Tryz.prog 4 args W fun e W'=>∃v,e=.returned v/\Rows.reachCutMatchesSpecSpec.post enc Tryz.prog Tryz.f4 false true false false W args v W':=by
 obtain⟨p,hA⟩:=w8o hW;rw[show Tryz.f4.params=#[27,25,9] from rfl] at hA hval;obtain⟨v0,vs0,d0,ds0,p0,q0,hargs,rfl,rfl,h0,r0⟩:=trodAll_cons hA;obtain⟨v1,vs1,d1,ds1,p1,q1,rfl,rfl,rfl,h1,r1⟩:=trodAll_cons r0;obtain⟨v2,vs2,d2,ds2,p2,q2,rfl,rfl,rfl,h2,r2⟩:=trodAll_cons r1;obtain⟨rfl,rfl,rfl⟩:=trodAll_nil r2;obtain rfl:args=#[v0,v1,v2]:=by cases args;simp_all
 have hwt:y0e Tryz.prog ([27,25,9]++_) _:=hwt;obtain⟨w0,hwt⟩:=z1n hwt;obtain⟨a0,i0,s0,k0⟩:=w4a enc W base v0 d0 p0 (hval 0 27 v0 rfl rfl) h0 w0;obtain⟨w1,hwt⟩:=z1n hwt;obtain⟨a1,i1,s1,k1⟩:=w5a enc W base v1 d1 p1 (hval 1 25 v1 rfl rfl) h1 w1;obtain⟨w2,hwt⟩:=z1n hwt;obtain⟨a2,i2,s2,k2⟩:=w0l enc W base v2 d2 p2 (hval 2 9 v2 rfl rfl) h2 w2;obtain⟨F,hF⟩:=y2a a0 a1 a2 k0 k1 k2;refine(W4 F a0 a1 a2 true hF (v0k W) W _ (fun _ _ h=>h) v5i.nil ⟨(q3y.app (q3y.one i0) (q3y.app (q3y.one i1) (q3y.one i2))).1,fun i c v hc hv=>(q3y.app (q3y.one i0) (q3y.app (q3y.one i1) (q3y.one i2))).2 i c v hc (by simpa using hv)⟩).mono ?_
 rintro e W' ⟨v,m',rfl,hv,hg⟩
 exact⟨v,rfl,w1m (by kernel_rfl) (by kernel_rfl) rfl (fun _ h=>by subst h;rfl) rfl (show Tryz.prog.underlying 4=some .bool by kernel_rfl) hW hv hg⟩
theorem lifted(os:Os)(started:os.Started)(H:Type)(enc:TypeId×Value->H):
  ReturnsInHanded {} Tryz.checked os 4 .any (Rows.reachCutMatchesSpecSpec.pre6 enc Tryz.prog Tryz.f4 Rows.reachCutMatchesSpecRow.domain false) (Rows.reachCutMatchesSpecSpec.post enc Tryz.prog Tryz.f4 false true false false):=by
 refine returnsInHanded_of_change_sized (C:=Tryz.checked) own started (by kernel_rfl) Tryz.func4
  (ChangeSpec.witness6 (enc:=enc) (C:=Tryz.checked) false ⟨#[],#[.agg #[.slice none 0 0,.slice none 0 0,.slice none 0 0,.slice none 0 0],.slice none 0 0,.string ⟨#[]⟩],[]⟩ 8 (by kernel_rfl) (by kernel_rfl) (by kernel_rfl) (by kernel_rfl)) ?_
 intro W base args ds gs before hval hW hcnd hwt _;exact contract H enc W base args ds gs before hval hW hwt
theorem y4c:w0e Tryz.prog 4 Tryz.f4 Rows.reachCutMatchesSpecSpec Rows.reachCutMatchesSpecRow=true:=by kernel_rfl
theorem y3c:w9d Tryz.prog Rows.reachCutMatchesSpecRow=true:=by kernel_rfl
theorem y2c:w8d Tryz.prog Tryz.f4 Rows.reachCutMatchesSpecSpec Rows.reachCutMatchesSpecRow=true:=by kernel_rfl
theorem proved:Rows.ReachCutMatchesSpecSaid:=
 OpenClaim.holds_of_wide 4 Tryz.f4 rfl rfl rfl rfl rfl rfl rfl ⟨rfl,rfl,rfl,rfl,rfl⟩ rfl rfl rfl rfl rfl (by kernel_rfl) Tryz.func4 (v7u y4c y3c y2c)
  (of_decide_eq_true (by kernel_rfl)) (by unfold Func.isWrapper;first|(rw[if_pos (by decide +kernel)];kernel_rfl)|(rw[if_neg (by decide +kernel)];exact⟨rfl,rfl⟩))
  (fun os started H enc _=>lifted os started H enc)
#print axioms proved
end Go.Proofs.YtcihpgamojpcnaaGreat.lawReachCutMatchesSpec
