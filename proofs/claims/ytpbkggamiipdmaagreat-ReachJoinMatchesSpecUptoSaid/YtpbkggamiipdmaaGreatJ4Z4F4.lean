/- ReachJoinMatchesSpecUpto is proved: for all lists of graphs that are not too large, Join and Check of each return what the reference returns, and joined with itself a graph stays as it is. Conditions: none beyond the given statement. -/
import Derived.Test.YtpbkggamiipdmaaGreatJ4EV
import Derived.Test.YtpbkggamiipdmaaGreatJ4Z4W4b
import Derived.Test.YtpbkggamiipdmaaGreatRows
import Derived.WalkKit
import Derived.ProofKit
import Derived.SizedLaws
import Derived.OpenShut
import Derived.JoinedCond
namespace Go.Proofs.YtpbkggamiipdmaaGreat.lawReachJoinMatchesSpec
open Go Go.Pv Go.ChangeShapes Go.WideShapes Go.ChangeAt Go.RowKit
set_option linter.unusedVariables false
set_option maxRecDepth 100000
theorem own : ownKnob Tryz.prog.godebug = none := by kernel_rfl
mutual
theorem bulk_eq {H : Type} : ∀ d : DataW H, Rows.uptoBulk d = bulk d
 | .lit (.string _) => by simp [Rows.uptoBulk, bulk]
 | .lit (.int _ _) | .lit (.bool _) | .lit (.float _ _) => by simp [Rows.uptoBulk, bulk]
 | .lit .nil => by simp [Rows.uptoBulk, bulk]
 | .nil => by simp [Rows.uptoBulk, bulk]
 | .ptr d => by simp [Rows.uptoBulk, bulk, bulk_eq d]
 | .slice x y => by simp [Rows.uptoBulk, bulk, bulkAll_eq x, bulkAll_eq y]
 | .agg x => by simp [Rows.uptoBulk, bulk, bulkAll_eq x]
 | .iface _ d => by simp [Rows.uptoBulk, bulk, bulk_eq d]
 | .map es => by simp [Rows.uptoBulk, bulk, bulkEnts_eq es]
 | .held _ => by simp [Rows.uptoBulk, bulk]
theorem bulkAll_eq {H : Type} : ∀ d : List (DataW H), Rows.uptoBulkAll d = bulkAll d
 | [] => rfl
 | d :: r => by simp [Rows.uptoBulkAll, bulkAll, bulk_eq d, bulkAll_eq r]
theorem bulkEnts_eq {H : Type} : ∀ d : List (Lit × DataW H), Rows.uptoBulkEntries d = bulkEnts d
 | [] => rfl
 | d :: r => by simp [Rows.uptoBulkEntries, bulkEnts, bulkEnt_eq d, bulkEnts_eq r]
theorem bulkEnt_eq {H : Type} : ∀ d : Lit × DataW H, Rows.uptoBulkEntry d = bulkEnt d
 | (.string _, d) => by simp [Rows.uptoBulkEntry, bulkEnt, bulk_eq d]
 | (.int _ _, d) | (.bool _, d) | (.float _ _, d) | (.nil, d) => by simp [Rows.uptoBulkEntry, bulkEnt, bulk_eq d]
end
theorem contract (H : Type) (enc : TypeId × Value → H) (W : World) (base : Nat) (args : Array Value) (ds gs : List (DataW H)) (before : List MemPlace)
  (hval : ∀ (j : Nat) t v, Tryz.f4.params[j]? = some t → args[j]? = some v → Value.okWide Tryz.prog W .any base t v)
  (hW : DataW.Whole enc Tryz.prog Tryz.f4.params.toList Rows.reachJoinMatchesSpecSpec.vars false W args.toList ds gs before) (hk : Rows.uptoSmall H (ds ++ gs) = true) (hwt : (DataW.weightsEach Tryz.prog (Tryz.f4.params.toList ++ Rows.reachJoinMatchesSpecSpec.plain.varTypes Tryz.prog) (ds ++ gs)).all (· ≤ reachBytes) = true) :
  Calls Tryz.prog 4 args W fun e W' => ∃ v, e = .returned v ∧ Rows.reachJoinMatchesSpecSpec.post enc Tryz.prog Tryz.f4 false true false false W args v W' := by
 obtain ⟨p, hA⟩ := args_nil hW
 rw [show Tryz.f4.params = #[35] from rfl] at hA hval
 obtain ⟨v0, vs0, d0, ds0, p0, q0, hargs, rfl, rfl, h0, r0⟩ := trodAll_cons hA
 obtain ⟨rfl, rfl, rfl⟩ := trodAll_nil r0
 obtain rfl : args = #[v0] := by cases args; simp_all
 have hwt : wOks Tryz.prog ([35] ++ _) _ := hwt
 obtain ⟨w0, hwt⟩ := wOks_cons hwt
 obtain ⟨a0, i0, s0, k0⟩ := opensV_35 enc W base v0 d0 p0 (hval 0 35 v0 rfl rfl) h0 w0
 have hb : bulk d0 ≤ 1048576 := by
  have := of_decide_eq_true hk
  rw [bulkAll_eq] at this
  simp only [List.cons_append, bulkAll] at this
  omega
 obtain ⟨F, hF⟩ := plain_4 a0 k0 (by simp only [] at *; omega)
 refine (W4 F a0 true hF (memOf W) W _ (fun _ _ h => h) GlOk.nil ⟨(IRelL.one i0).1, fun i c v hc hv => (IRelL.one i0).2 i c v hc (by simpa using hv)⟩).mono ?_
 rintro e W' ⟨v, m', rfl, hv, hg⟩
 exact ⟨v, rfl, law_post (by kernel_rfl) (by kernel_rfl) rfl (fun _ h => by subst h; rfl) rfl (show Tryz.prog.underlying 4 = some .bool by kernel_rfl) hW hv hg⟩
theorem lifted (os : Os) (started : os.Started) (H : Type) (enc : TypeId × Value → H) (F : Stop.Interp) :
  ReturnsInHanded {} Tryz.checked os 4 .any ((Rows.OpenSpec.upto Rows.reachJoinMatchesSpecSpec).pre6 enc Tryz.prog Tryz.f4 Rows.reachJoinMatchesSpecUptoRow.domain false) (((Rows.OpenSpec.upto Rows.reachJoinMatchesSpecSpec).at F).post enc Tryz.prog Tryz.f4 false true false false) := by
 refine returnsInHanded_of_calls own started (by kernel_rfl)
  (OpenSpec.witness (enc := enc) (C := Tryz.checked) (s := Rows.OpenSpec.upto Rows.reachJoinMatchesSpecSpec) rfl false ⟨#[], #[.slice none 0 0], []⟩ 8 (by kernel_rfl) (by kernel_rfl) (by kernel_rfl) (x := ([.nil], [], [])) (by kernel_rfl) (by kernel_rfl) (by kernel_rfl)) ?_
 intro W tape i _ _ _ hok hpre _
 obtain ⟨_, _, _, fn, hfn, _, _, _, _, hval⟩ := hok
 obtain rfl : fn = Tryz.f4 := Option.some.inj (hfn.symm.trans Tryz.func4)
 obtain ⟨ds, gs, before, hw, _, hk⟩ := (OpenSpec.pre_some (s := Rows.OpenSpec.upto Rows.reachJoinMatchesSpecSpec) rfl _ _ _ _).1 hpre.1
 refine (contract H enc (W.forCall tape i) W.heap.size i.args ds gs before hval (DataW.Whole.of_heap (w' := W.forCall tape i) (by rfl) hw) hk (hpre.2.weights hw)).mono fun e W' hh => ?_
 obtain ⟨v, rfl, hp⟩ := hh
 exact ChangeSpec.post_blind hp
theorem closedA : factsA Tryz.prog 4 Tryz.f4 (Rows.OpenSpec.upto Rows.reachJoinMatchesSpecSpec).bare Rows.reachJoinMatchesSpecUptoRow = true := by kernel_rfl
theorem closedB : factsB Tryz.prog Rows.reachJoinMatchesSpecUptoRow = true := by kernel_rfl
theorem closedC : factsC Tryz.prog Tryz.f4 (Rows.OpenSpec.upto Rows.reachJoinMatchesSpecSpec).bare Rows.reachJoinMatchesSpecUptoRow = true := by kernel_rfl
theorem proved : Rows.ReachJoinMatchesSpecUptoSaid :=
 OpenClaim.holds_of_cond 4 Tryz.f4 rfl rfl rfl rfl rfl rfl rfl ⟨rfl, rfl, rfl, rfl, rfl⟩ rfl rfl rfl rfl rfl (by kernel_rfl) Tryz.func4 (facts_join closedA closedB closedC)
  (of_decide_eq_true (by kernel_rfl)) (by unfold Func.isWrapper; first | (rw [if_pos (by decide +kernel)]; kernel_rfl) | (rw [if_neg (by decide +kernel)]; exact ⟨rfl, rfl⟩))
  (fun os started H enc _ F => lifted os started H enc F)
#print axioms proved
end Go.Proofs.YtpbkggamiipdmaaGreat.lawReachJoinMatchesSpec
