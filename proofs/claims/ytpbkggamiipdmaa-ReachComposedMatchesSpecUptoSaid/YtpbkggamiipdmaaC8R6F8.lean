/- For all graphs, features and summaries that are not too large, Composed returns what is specified. -/
import Derived.Test.YtpbkggamiipdmaaC8RP8
import Derived.Test.YtpbkggamiipdmaaC8R6W8a
import Derived.Test.YtpbkggamiipdmaaRows
import Derived.WalkKit
import Derived.ProofKit
import Derived.SizedLaws
import Derived.OpenShut
import Derived.JoinedCond
namespace Go.Proofs.Ytpbkggamiipdmaa.lawReachComposedMatchesSpec
open Go Go.Pv Go.ChangeShapes Go.WideShapes Go.ChangeAt Go.RowKit
set_option linter.unusedVariables false
set_option maxRecDepth 100000
theorem own : ownKnob Try.prog.godebug = none := by kernel_rfl
mutual
theorem bulk_eq {H : Type} : ∀ d : DataW H, Rows.uptoBulk d = bulk d
 | .lit (.string _) => by simp [Rows.uptoBulk, bulk]
 | .lit (.int _ _) | .lit (.bool _) | .lit (.float _ _) => by simp [Rows.uptoBulk, bulk]
 | .lit .nil => by simp [Rows.uptoBulk, bulk]
 | .nil => by simp [Rows.uptoBulk, bulk]
 | .ptr d => by simp [Rows.uptoBulk, bulk, bulk_eq d]
 | .slice x y => by simp [Rows.uptoBulk, bulk, bulkAll_eq x, bulkAll_eq y]
 | .agg x => by simp [Rows.uptoBulk, bulk, bulkAll_eq x]
 | .iface _ d => by simp [Rows.uptoBulk, bulk, bulk_eq d]
 | .map es => by simp [Rows.uptoBulk, bulk, bulkEnts_eq es]
 | .held _ => by simp [Rows.uptoBulk, bulk]
theorem bulkAll_eq {H : Type} : ∀ d : List (DataW H), Rows.uptoBulkAll d = bulkAll d
 | [] => rfl
 | d :: r => by simp [Rows.uptoBulkAll, bulkAll, bulk_eq d, bulkAll_eq r]
theorem bulkEnts_eq {H : Type} : ∀ d : List (Lit × DataW H), Rows.uptoBulkEntries d = bulkEnts d
 | [] => rfl
 | d :: r => by simp [Rows.uptoBulkEntries, bulkEnts, bulkEnt_eq d, bulkEnts_eq r]
theorem bulkEnt_eq {H : Type} : ∀ d : Lit × DataW H, Rows.uptoBulkEntry d = bulkEnt d
 | (.string _, d) => by simp [Rows.uptoBulkEntry, bulkEnt, bulk_eq d]
 | (.int _ _, d) | (.bool _, d) | (.float _ _, d) | (.nil, d) => by simp [Rows.uptoBulkEntry, bulkEnt, bulk_eq d]
end
theorem contract (H : Type) (enc : TypeId × Value → H) (W : World) (base : Nat) (args : Array Value) (ds gs : List (DataW H)) (before : List MemPlace)
  (hval : ∀ (j : Nat) t v, Try.f8.params[j]? = some t → args[j]? = some v → Value.okWide Try.prog W .any base t v)
  (hW : DataW.Whole enc Try.prog Try.f8.params.toList Rows.reachComposedMatchesSpecSpec.vars false W args.toList ds gs before) (hk : Rows.uptoSmall H (ds ++ gs) = true) (hwt : (DataW.weightsEach Try.prog (Try.f8.params.toList ++ Rows.reachComposedMatchesSpecSpec.plain.varTypes Try.prog) (ds ++ gs)).all (· ≤ reachBytes) = true) :
  Calls Try.prog 8 args W fun e W' => ∃ v, e = .returned v ∧ Rows.reachComposedMatchesSpecSpec.post enc Try.prog Try.f8 false true false false W args v W' := by
 obtain ⟨p, hA⟩ := args_nil hW
 rw [show Try.f8.params = #[27, 25, 54] from rfl] at hA hval
 obtain ⟨v0, vs0, d0, ds0, p0, q0, hargs, rfl, rfl, h0, r0⟩ := trodAll_cons hA
 obtain ⟨v1, vs1, d1, ds1, p1, q1, rfl, rfl, rfl, h1, r1⟩ := trodAll_cons r0
 obtain ⟨v2, vs2, d2, ds2, p2, q2, rfl, rfl, rfl, h2, r2⟩ := trodAll_cons r1
 obtain ⟨rfl, rfl, rfl⟩ := trodAll_nil r2
 obtain rfl : args = #[v0, v1, v2] := by cases args; simp_all
 have hwt : wOks Try.prog ([27, 25, 54] ++ _) _ := hwt
 obtain ⟨w0, hwt⟩ := wOks_cons hwt
 obtain ⟨a0, i0, s0, k0⟩ := opensV_27 enc W base v0 d0 p0 (hval 0 27 v0 rfl rfl) h0 w0
 obtain ⟨w1, hwt⟩ := wOks_cons hwt
 obtain ⟨a1, i1, s1, k1⟩ := opensV_25 enc W base v1 d1 p1 (hval 1 25 v1 rfl rfl) h1 w1
 obtain ⟨w2, hwt⟩ := wOks_cons hwt
 obtain ⟨a2, i2, s2, k2⟩ := opensV_54 enc W base v2 d2 p2 (hval 2 54 v2 rfl rfl) h2 w2
 have hb : bulk d0 + bulk d1 + bulk d2 ≤ 1048576 := by
  have := of_decide_eq_true hk
  rw [bulkAll_eq] at this
  simp only [List.cons_append, bulkAll] at this
  omega
 obtain ⟨F, hF⟩ := plain_8 a0 a1 a2 k0 k1 k2 (by simp only [] at *; omega)
 refine (W8 F a0 a1 a2 true hF (memOf W) W _ (fun _ _ h => h) GlOk.nil ⟨(IRelL.app (IRelL.one i0) (IRelL.app (IRelL.one i1) (IRelL.one i2))).1, fun i c v hc hv => (IRelL.app (IRelL.one i0) (IRelL.app (IRelL.one i1) (IRelL.one i2))).2 i c v hc (by simpa using hv)⟩).mono ?_
 rintro e W' ⟨v, m', rfl, hv, hg⟩
 exact ⟨v, rfl, law_post (by kernel_rfl) (by kernel_rfl) rfl (fun _ h => by subst h; rfl) rfl (show Try.prog.underlying 4 = some .bool by kernel_rfl) hW hv hg⟩
theorem lifted (os : Os) (started : os.Started) (H : Type) (enc : TypeId × Value → H) (F : Stop.Interp) :
  ReturnsInHanded {} Try.checked os 8 .any ((Rows.OpenSpec.upto Rows.reachComposedMatchesSpecSpec).pre6 enc Try.prog Try.f8 Rows.reachComposedMatchesSpecUptoRow.domain false) (((Rows.OpenSpec.upto Rows.reachComposedMatchesSpecSpec).at F).post enc Try.prog Try.f8 false true false false) := by
 refine returnsInHanded_of_calls own started (by kernel_rfl)
  (OpenSpec.witness (enc := enc) (C := Try.checked) (s := Rows.OpenSpec.upto Rows.reachComposedMatchesSpecSpec) rfl false ⟨#[], #[.agg #[.slice none 0 0, .slice none 0 0, .slice none 0 0, .slice none 0 0], .slice none 0 0, .slice none 0 0], []⟩ 8 (by kernel_rfl) (by kernel_rfl) (by kernel_rfl) (x := ([.agg [.nil, .nil, .nil, .nil], .nil, .nil], [], [])) (by kernel_rfl) (by kernel_rfl) (by kernel_rfl)) ?_
 intro W tape i _ _ _ hok hpre _
 obtain ⟨_, _, _, fn, hfn, _, _, _, _, hval⟩ := hok
 obtain rfl : fn = Try.f8 := Option.some.inj (hfn.symm.trans Try.func8)
 obtain ⟨ds, gs, before, hw, _, hk⟩ := (OpenSpec.pre_some (s := Rows.OpenSpec.upto Rows.reachComposedMatchesSpecSpec) rfl _ _ _ _).1 hpre.1
 refine (contract H enc (W.forCall tape i) W.heap.size i.args ds gs before hval (DataW.Whole.of_heap (w' := W.forCall tape i) (by rfl) hw) hk (hpre.2.weights hw)).mono fun e W' hh => ?_
 obtain ⟨v, rfl, hp⟩ := hh
 exact ChangeSpec.post_blind hp
theorem closedA : factsA Try.prog 8 Try.f8 (Rows.OpenSpec.upto Rows.reachComposedMatchesSpecSpec).bare Rows.reachComposedMatchesSpecUptoRow = true := by kernel_rfl
theorem closedB : factsB Try.prog Rows.reachComposedMatchesSpecUptoRow = true := by kernel_rfl
theorem closedC : factsC Try.prog Try.f8 (Rows.OpenSpec.upto Rows.reachComposedMatchesSpecSpec).bare Rows.reachComposedMatchesSpecUptoRow = true := by kernel_rfl
theorem proved : Rows.ReachComposedMatchesSpecUptoSaid :=
 OpenClaim.holds_of_cond 8 Try.f8 rfl rfl rfl rfl rfl rfl rfl ⟨rfl, rfl, rfl, rfl, rfl⟩ rfl rfl rfl rfl rfl (by kernel_rfl) Try.func8 (facts_join closedA closedB closedC)
  (of_decide_eq_true (by kernel_rfl)) (by unfold Func.isWrapper; first | (rw [if_pos (by decide +kernel)]; kernel_rfl) | (rw [if_neg (by decide +kernel)]; exact ⟨rfl, rfl⟩))
  (fun os started H enc _ F => lifted os started H enc F)
#print axioms proved
end Go.Proofs.Ytpbkggamiipdmaa.lawReachComposedMatchesSpec
