/- For all graphs, Print returns what is specified, and Read of it is the graph. -/
import Derived.Test.YtjofofmllnpkpaaGreatDoorSR4O
import Derived.Test.YtjofofmllnpkpaaGreatDoorSEI
import Derived.Test.YtjofofmllnpkpaaGreatDoorSR4W4b
import Derived.Test.YtjofofmllnpkpaaGreatDoorSR4G
import Derived.Test.YtjofofmllnpkpaaGreatDoorRows
import Derived.WalkKit
import Derived.ProofKit
import Derived.OpenShut
import Derived.JoinedCond
import Derived.Test.YtjofofmllnpkpaaGreatDoorCards
import Derived.Test.YtjofofmllnpkpaaGreatDoorTie
import Derived.LaidMore
import Derived.Lay
import Derived.SevenTiedAt
import Derived.Stop.Joined
namespace Go.Proofs.YtjofofmllnpkpaaGreatDoor.lawReachTextsComeBack
open Go Go.Pv Go.ChangeShapes Go.WideShapes Go.ChangeAt Go.RowKit
set_option linter.unusedVariables false
set_option maxRecDepth 100000
theorem own:ownKnob Tryz.prog.godebug=none:=by kernel_rfl
theorem contract(H:Type)(enc:TypeId×Value->H)(W:World)(base:Nat)(args:Array Value)(ds gs:List (DataW H))(before:List MemPlace)
  (hval:∀(j:Nat) t v,Tryz.f4.params[j]? = some t->args[j]? = some v->Value.okWide Tryz.prog W .any base t v)
  (hW:DataW.Whole enc Tryz.prog Tryz.f4.params.toList Rows.reachTextsComeBackSpec.vars false W args.toList ds gs before) (hwt:(DataW.weightsEach Tryz.prog (Tryz.f4.params.toList++Rows.reachTextsComeBackSpec.plain.varTypes Tryz.prog) (ds++gs)).all (·<=reachBytes)=true) (hsh:W.ShapedOpen Tryz.prog):
  Calls Tryz.prog 4 args W fun e W'=>∃v,e=.returned v/\Rows.reachTextsComeBackSpec.post enc Tryz.prog Tryz.f4 false true false false W args v W':=by
 obtain⟨p,hA⟩:=args_nil hW
 rw[show Tryz.f4.params=#[27] from rfl] at hA hval
 obtain⟨v0,vs0,d0,ds0,p0,q0,hargs,rfl,rfl,h0,r0⟩:=trodAll_cons hA
 obtain⟨rfl,rfl,rfl⟩:=trodAll_nil r0
 obtain rfl:args=#[v0]:=by cases args;simp_all
 have hwt:wOks Tryz.prog ([27]++_) _:=hwt
 obtain⟨w0,hwt⟩:=wOks_cons hwt
 obtain⟨a0,i0,s0,k0⟩:=opensV_27 enc W base v0 d0 p0 (hval 0 27 v0 rfl rfl) h0 w0
 obtain⟨F,hF⟩:∃F,M4 F a0=some true:=plain_4 a0 k0
 obtain⟨mx,hgl⟩:=gl_of W hsh
 refine(W4 F a0 true hF (memOf W) W _ (fun _ _ h=>h) hgl ⟨(IRelL.one i0).1,fun i c v hc hv=>(IRelL.one i0).2 i c v hc (by simpa using hv)⟩).mono ?_
 rintro e W' ⟨v,m',rfl,hv,hg⟩
 exact⟨v,rfl,law_post (by kernel_rfl) (by kernel_rfl) rfl (fun _ h=>by subst h;rfl) rfl (show Tryz.prog.underlying 4=some .bool by kernel_rfl) hW hv hg⟩
noncomputable def wit(os:Os):World:=(World.doorLaid Tryz.prog 4000 os).layVars Tryz.prog (Rows.reachTextsComeBackRow.laid.filter fun x=>x.2.handleName?.isNone)
theorem wit_met{l:List (String×DataW Unit)}{w0:World}(args:Array Value)(hf:w0.layFits Tryz.prog l []=true)(hi:w0.layIfaces Tryz.prog l (w0.layVars Tryz.prog l)=true):
  laidMet Tryz.prog l ((w0.layVars Tryz.prog l).forCall (fun _ _=>0) ⟨#[],args,[]⟩).memory:=by
 have e1:(l.filter fun x=>(l.map (·.1)).contains x.1)=l:=List.filter_eq_self.2 fun x hx=>List.contains_iff_mem.2 (List.mem_map.2 ⟨x,hx,rfl⟩)
 have e2:(l.filter fun x=>!(l.map (·.1)).contains x.1)=[]:=List.filter_eq_nil_iff.2 fun x hx=>by rw[List.contains_iff_mem.2 (List.mem_map.2 ⟨x,hx,rfl⟩)];simp
 have h:laidMet Tryz.prog l (w0.layVars Tryz.prog l):=laidMet_layVars (w0:=w0) (l.map (·.1)) [] (by rw[e1]) (by rw[e1];exact hf) (by rw[e1];exact hi) (by rw[e2];exact LaidIn.none)
 exact h.of_heap (by simp[World.memory,World.forCall,Input.heap])
theorem door_met(os:Os)(args:Array Value):laidMetH Tryz.prog Rows.reachTextsComeBackRow.laid ((wit os).forCall (fun _ _=>0) ⟨#[],args,[]⟩).memory:=
 laidMetH_of_parts3 (fuel:=8) (wit_met args (by kernel_rfl) (by kernel_rfl)) (by kernel_rfl) (by kernel_rfl)
theorem lifted(os:Os)(started:os.Started)(H:Type)(enc:TypeId×Value->H):
  ReturnsInHanded {} Tryz.checked os 4 .any (fun w args=>(Rows.reachTextsComeBackSpec.pre enc Tryz.prog Tryz.f4 Rows.reachTextsComeBackRow.domain false w args/\laidMetH Tryz.prog Rows.reachTextsComeBackRow.laid w)/\sizedMet enc Tryz.prog Tryz.f4 (OpenSpec.ofChange Rows.reachTextsComeBackSpec) false w args)
   (Rows.reachTextsComeBackSpec.post enc Tryz.prog Tryz.f4 false true false false):=by
 refine returnsInHanded_of_calls (C:=Tryz.checked) own started (by kernel_rfl)
  (ChangeSpec.witness_shaped (enc:=enc) (C:=Tryz.checked) (os:=os) (X:=fun w _=>laidMetH Tryz.prog Rows.reachTextsComeBackRow.laid w) false (wit os) #[.agg #[.slice none 0 0,.slice none 0 0,.slice none 0 0,.slice none 0 0]] 8 (World.layVars_os _ _ _)
   (World.shaped_of_RefB (by kernel_rfl) (by kernel_rfl)) (by kernel_rfl) (by kernel_rfl) (by kernel_rfl) (door_met os _)) ?_
 intro w tape i _ hsh _ hok hpre _
 obtain⟨_,_,_,fn',hfn',_,_,_,_,hval⟩:=hok
 have e:fn'=Tryz.f4:=Option.some.inj (hfn'.symm.trans Tryz.func4)
 subst e
 obtain⟨⟨⟨ds,gs,before,hw,hc⟩,hx⟩,hz⟩:=hpre
 have hw':=DataW.Whole.of_heap (w':=w.forCall tape i) (by rfl) hw
 refine(contract H enc (w.forCall tape i) w.heap.size i.args ds gs before hval hw' (hz.weights hw) hsh).mono fun e W' ⟨v,he,hp⟩=>?_
 subst he
 exact ChangeSpec.post_blind hp
theorem closedA:factsA Tryz.prog 4 Tryz.f4 Rows.reachTextsComeBackSpec Rows.reachTextsComeBackRow=true:=by kernel_rfl
theorem closedB:factsB Tryz.prog Rows.reachTextsComeBackRow=true:=by kernel_rfl
theorem closedC:factsC Tryz.prog Tryz.f4 Rows.reachTextsComeBackSpec Rows.reachTextsComeBackRow=true:=by kernel_rfl
theorem said:Rows.ReachTextsComeBackSaid:=
 OpenClaim.holds_of_wide 4 Tryz.f4 rfl rfl rfl rfl rfl rfl rfl ⟨rfl,rfl,rfl,rfl,rfl⟩ rfl rfl rfl rfl rfl (by kernel_rfl) Tryz.func4 (facts_join closedA closedB closedC)
  (of_decide_eq_true (by kernel_rfl)) (by unfold Func.isWrapper;first|(rw[if_pos (by decide +kernel)];kernel_rfl)|(rw[if_neg (by decide +kernel)];exact⟨rfl,rfl⟩))
  (fun os started H enc _=>lifted os started H enc)
theorem proved:Rows.ReachTextsComeBackCardSaid:=
 Claim7.holds_tied_plain_at .later [] [.data,.pinned] true (true, "9829fc9a06d0605b16e46edda339a54909b3b9a3c01797af20ef760610c3a789") false
  said (fun _ h=>by cases h) (by kernel_rfl) (fun _ h=>by cases h) reachTextsComeBack_row_tie rfl ⟨rfl,rfl⟩ (by kernel_rfl) rfl
  (fun f fn hf hfn=>by
   obtain rfl:f=4:=Option.some.inj ((show Tryz.prog.funcNamed "provender/provenderlaw6.ReachTextsComeBack" = some 4 by kernel_rfl).symm.trans hf) |>.symm
   obtain rfl:fn=Tryz.f4:=(Option.some.inj (Tryz.func4.symm.trans hfn)).symm
   exact⟨by kernel_rfl,fun j t ht=>by
    rw[show Tryz.f4.params=#[27] from rfl] at ht
    have hm:t∈[27]:=by simpa using Array.mem_of_getElem? ht
    have hall:([27].all fun u=>!Tryz.prog.wantsStandIn u)=true:=by kernel_rfl
    exact(show Tryz.prog.wantsStandIn t=false by simpa using List.all_eq_true.1 hall t hm)⟩)
  (by kernel_rfl)
#print axioms proved
end Go.Proofs.YtjofofmllnpkpaaGreatDoor.lawReachTextsComeBack
