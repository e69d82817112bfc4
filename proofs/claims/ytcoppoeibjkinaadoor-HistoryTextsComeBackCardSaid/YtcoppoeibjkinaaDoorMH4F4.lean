/- For all stories, Print returns what is specified, and Read of what is printed is the story. No conditions. -/
import Derived.Test.YtcoppoeibjkinaaDoorMPvX
import Derived.Test.YtcoppoeibjkinaaDoorMH4Sh
import Derived.Test.YtcoppoeibjkinaaDoorMH4W4a
import Derived.Test.YtcoppoeibjkinaaDoorMH4G
import Derived.LaidSub
import Derived.Test.YtcoppoeibjkinaaDoorRows
import Derived.WalkKit
import Derived.ProofKit
import Derived.OpenShut
import Derived.JoinedCond
import Derived.Test.YtcoppoeibjkinaaDoorCards
import Derived.Test.YtcoppoeibjkinaaDoorTie
import Derived.LaidMore
import Derived.Lay
import Derived.SevenTiedAt
import Derived.Stop.Joined
namespace Go.Proofs.YtcoppoeibjkinaaDoor.lawHistoryTextsComeBack
open Go Go.Pv Go.ChangeShapes Go.WideShapes Go.ChangeAt Go.RowKit
set_option linter.unusedVariables false
set_option maxRecDepth 100000
theorem own : ownKnob Tryd.prog.godebug = none := by kernel_rfl
theorem contract (H : Type) (enc : TypeId × Value → H) (W : World) (base : Nat) (args : Array Value) (ds gs : List (DataW H)) (before : List MemPlace)
  (hval : ∀ (j : Nat) t v, Tryd.f4.params[j]? = some t → args[j]? = some v → Value.okWide Tryd.prog W .any base t v)
  (hW : DataW.Whole enc Tryd.prog Tryd.f4.params.toList Rows.historyTextsComeBackSpec.vars false W args.toList ds gs before) (hwt : (DataW.weightsEach Tryd.prog (Tryd.f4.params.toList ++ Rows.historyTextsComeBackSpec.plain.varTypes Tryd.prog) (ds ++ gs)).all (· ≤ reachBytes) = true) (hsh : W.ShapedOpen Tryd.prog) (hL : laidMetH Tryd.prog Rows.historyTextsComeBackRow.laid W) :
  Calls Tryd.prog 4 args W fun e W' => ∃ v, e = .returned v ∧ Rows.historyTextsComeBackSpec.post enc Tryd.prog Tryd.f4 false true false false W args v W' := by
 obtain ⟨p, hA⟩ := args_nil hW
 rw [show Tryd.f4.params = #[25] from rfl] at hA hval
 obtain ⟨v0, vs0, d0, ds0, p0, q0, hargs, rfl, rfl, h0, r0⟩ := trodAll_cons hA
 obtain ⟨rfl, rfl, rfl⟩ := trodAll_nil r0
 obtain rfl : args = #[v0] := by cases args; simp_all
 have hwt : wOks Tryd.prog ([25] ++ _) _ := hwt
 obtain ⟨w0, hwt⟩ := wOks_cons hwt
 obtain ⟨a0, i0, s0, k0⟩ := opensV_25 enc W base v0 d0 p0 (hval 0 25 v0 rfl rfl) h0 w0
 obtain ⟨F, hF⟩ : ∃ F, M4 F a0 = some true := ⟨1, plain4 a0 (okSt_of k0)⟩
 obtain ⟨mx, hgl⟩ := gl_of W hsh (laidMetH_iff.1 hL).1 (List.mem_filter.2 ⟨by first | exact List.mem_cons_self | exact List.mem_cons_of_mem _ List.mem_cons_self | exact List.mem_cons_of_mem _ (List.mem_cons_of_mem _ List.mem_cons_self), rfl⟩)
 refine (W4 F a0 true hF (memOf W) W _ (fun _ _ h => h) hgl ⟨(IRelL.one i0).1, fun i c v hc hv => (IRelL.one i0).2 i c v hc (by simpa using hv)⟩).mono ?_
 rintro e W' ⟨v, m', rfl, hv, hg⟩
 exact ⟨v, rfl, law_post (by kernel_rfl) (by kernel_rfl) rfl (fun _ h => by subst h; rfl) rfl (show Tryd.prog.underlying 4 = some .bool by kernel_rfl) hW hv hg⟩
noncomputable def wit (os : Os) : World := (World.doorLaid Tryd.prog 4000 os).layVars Tryd.prog (Rows.historyTextsComeBackRow.laid.filter fun x => x.2.handleName?.isNone)
theorem wit_met {l : List (String × DataW Unit)} {w0 : World} (args : Array Value) (hf : w0.layFits Tryd.prog l [] = true) (hi : w0.layIfaces Tryd.prog l (w0.layVars Tryd.prog l) = true) :
  laidMet Tryd.prog l ((w0.layVars Tryd.prog l).forCall (fun _ _ => 0) ⟨#[], args, []⟩).memory := by
 have e1 : (l.filter fun x => (l.map (·.1)).contains x.1) = l := List.filter_eq_self.2 fun x hx => List.contains_iff_mem.2 (List.mem_map.2 ⟨x, hx, rfl⟩)
 have e2 : (l.filter fun x => !(l.map (·.1)).contains x.1) = [] := List.filter_eq_nil_iff.2 fun x hx => by rw [List.contains_iff_mem.2 (List.mem_map.2 ⟨x, hx, rfl⟩)]; simp
 have h : laidMet Tryd.prog l (w0.layVars Tryd.prog l) := laidMet_layVars (w0 := w0) (l.map (·.1)) [] (by rw [e1]) (by rw [e1]; exact hf) (by rw [e1]; exact hi) (by rw [e2]; exact LaidIn.none)
 exact h.of_heap (by simp [World.memory, World.forCall, Input.heap])
theorem door_met (os : Os) (args : Array Value) : laidMetH Tryd.prog Rows.historyTextsComeBackRow.laid ((wit os).forCall (fun _ _ => 0) ⟨#[], args, []⟩).memory :=
 laidMetH_of_parts3 (fuel := 8) (wit_met args (by kernel_rfl) (by kernel_rfl)) (by kernel_rfl) (by kernel_rfl)
theorem lifted (os : Os) (started : os.Started) (H : Type) (enc : TypeId × Value → H) :
  ReturnsInHanded {} Tryd.checked os 4 .any (fun w args => (Rows.historyTextsComeBackSpec.pre enc Tryd.prog Tryd.f4 Rows.historyTextsComeBackRow.domain false w args ∧ laidMetH Tryd.prog Rows.historyTextsComeBackRow.laid w) ∧ sizedMet enc Tryd.prog Tryd.f4 (OpenSpec.ofChange Rows.historyTextsComeBackSpec) false w args)
   (Rows.historyTextsComeBackSpec.post enc Tryd.prog Tryd.f4 false true false false) := by
 refine returnsInHanded_of_calls (C := Tryd.checked) own started (by kernel_rfl)
  (ChangeSpec.witness_shaped (enc := enc) (C := Tryd.checked) (os := os) (X := fun w _ => laidMetH Tryd.prog Rows.historyTextsComeBackRow.laid w) false (wit os) #[.agg #[.string ⟨#[]⟩, .slice none 0 0, .slice none 0 0, .int .i64 0]] 8 (World.layVars_os _ _ _)
   (World.shaped_of_RefB (by kernel_rfl) (by kernel_rfl)) (by kernel_rfl) (by kernel_rfl) (by kernel_rfl) (door_met os _)) ?_
 intro w tape i _ hsh _ hok hpre _
 obtain ⟨_, _, _, fn', hfn', _, _, _, _, hval⟩ := hok
 have e : fn' = Tryd.f4 := Option.some.inj (hfn'.symm.trans Tryd.func4)
 subst e
 obtain ⟨⟨⟨ds, gs, before, hw, hc⟩, hx⟩, hz⟩ := hpre
 have hw' := DataW.Whole.of_heap (w' := w.forCall tape i) (by rfl) hw
 refine (contract H enc (w.forCall tape i) w.heap.size i.args ds gs before hval hw' (hz.weights hw) hsh (hx.of_heap (by rfl))).mono fun e W' ⟨v, he, hp⟩ => ?_
 subst he
 exact ChangeSpec.post_blind hp
theorem closedA : factsA Tryd.prog 4 Tryd.f4 Rows.historyTextsComeBackSpec Rows.historyTextsComeBackRow = true := by kernel_rfl
theorem closedB : factsB Tryd.prog Rows.historyTextsComeBackRow = true := by kernel_rfl
theorem closedC : factsC Tryd.prog Tryd.f4 Rows.historyTextsComeBackSpec Rows.historyTextsComeBackRow = true := by kernel_rfl
theorem said : Rows.HistoryTextsComeBackSaid :=
 OpenClaim.holds_of_wide 4 Tryd.f4 rfl rfl rfl rfl rfl rfl rfl ⟨rfl, rfl, rfl, rfl, rfl⟩ rfl rfl rfl rfl rfl (by kernel_rfl) Tryd.func4 (facts_join closedA closedB closedC)
  (of_decide_eq_true (by kernel_rfl)) (by unfold Func.isWrapper; first | (rw [if_pos (by decide +kernel)]; kernel_rfl) | (rw [if_neg (by decide +kernel)]; exact ⟨rfl, rfl⟩))
  (fun os started H enc _ => lifted os started H enc)
theorem proved : Rows.HistoryTextsComeBackCardSaid :=
 Claim7.holds_tied_plain_at .later [] [.data, .data, .data, .data, .sentinel, .sentinel, .pinned] true (true, "72bcd28d064b9e7f4288fe06f1f04055b7436dbad1ebf13c2527687aaf1c83c8") true
  said (fun _ h => by cases h) (by kernel_rfl) (fun _ h => by cases h) historyTextsComeBack_row_tie rfl ⟨rfl, rfl⟩ (by kernel_rfl) rfl
  (fun f fn hf hfn => by
   obtain rfl : f = 4 := Option.some.inj ((show Tryd.prog.funcNamed "provender/provenderlaw11.HistoryTextsComeBack" = some 4 by kernel_rfl).symm.trans hf) |>.symm
   obtain rfl : fn = Tryd.f4 := (Option.some.inj (Tryd.func4.symm.trans hfn)).symm
   exact ⟨by kernel_rfl, fun j t ht => by
    rw [show Tryd.f4.params = #[25] from rfl] at ht
    have hm : t ∈ [25] := by simpa using Array.mem_of_getElem? ht
    have hall : ([25].all fun u => !Tryd.prog.wantsStandIn u) = true := by kernel_rfl
    exact (show Tryd.prog.wantsStandIn t = false by simpa using List.all_eq_true.1 hall t hm)⟩)
  (by kernel_rfl)
#print axioms proved
end Go.Proofs.YtcoppoeibjkinaaDoor.lawHistoryTextsComeBack
