/- For all leaves and numbers, AttestProofsHold returns true and leaves its arguments as they were; the three package-level tables that it lists are tied to the program text. -/
import Derived.Test.YtihfhmibfhkoeaaDoorHA8Pb
import Derived.Test.YtihfhmibfhkoeaaDoorHA8W10a
import Derived.Test.YtihfhmibfhkoeaaDoorRows
import Derived.WalkKit
import Derived.ProofKit
import Derived.OpenShut
import Derived.JoinedCond
import Derived.Test.YtihfhmibfhkoeaaDoorHKL
import Derived.Test.YtihfhmibfhkoeaaDoorCards
import Derived.Test.YtihfhmibfhkoeaaDoorTie
import Derived.LaidMore
import Derived.Lay
import Derived.SevenTiedAt
import Derived.Stop.Joined

namespace Go.Proofs.YtihfhmibfhkoeaaDoor.lawAttestProofsHold
open Go Go.Pv Go.ChangeShapes Go.WideShapes Go.ChangeAt Go.RowKit
set_option linter.unusedVariables false
set_option maxRecDepth 100000
theorem own : ownKnob Tryd.prog.godebug = none := by kernel_rfl
theorem contract (H : Type) (enc : TypeId × Value → H) (W : World) (base : Nat) (args : Array Value) (ds gs : List (DataW H)) (before : List MemPlace)
    (hval : ∀ (j : Nat) t v, Tryd.f10.params[j]? = some t → args[j]? = some v → Value.okWide Tryd.prog W .any base t v)
    (hW : DataW.Whole enc Tryd.prog Tryd.f10.params.toList Rows.attestProofsHoldSpec.vars false W args.toList ds gs before) (hwt : (DataW.weightsEach Tryd.prog (Tryd.f10.params.toList ++ Rows.attestProofsHoldSpec.plain.varTypes Tryd.prog) (ds ++ gs)).all (· ≤ reachBytes) = true) (hL : laidMetH Tryd.prog Rows.attestProofsHoldRow.laid W) :
    Calls Tryd.prog 10 args W fun e W' => ∃ v, e = .returned v ∧ Rows.attestProofsHoldSpec.post enc Tryd.prog Tryd.f10 false true false false W args v W' := by
  obtain ⟨p, hA⟩ := args_nil hW
  rw [show Tryd.f10.params = #[42, 3, 3, 3] from rfl] at hA hval
  obtain ⟨v0, vs0, d0, ds0, p0, q0, hargs, rfl, rfl, h0, r0⟩ := trodAll_cons hA
  obtain ⟨v1, vs1, d1, ds1, p1, q1, rfl, rfl, rfl, h1, r1⟩ := trodAll_cons r0
  obtain ⟨v2, vs2, d2, ds2, p2, q2, rfl, rfl, rfl, h2, r2⟩ := trodAll_cons r1
  obtain ⟨v3, vs3, d3, ds3, p3, q3, rfl, rfl, rfl, h3, r3⟩ := trodAll_cons r2
  obtain ⟨rfl, rfl, rfl⟩ := trodAll_nil r3
  obtain rfl : args = #[v0, v1, v2, v3] := by cases args; simp_all
  have hwt : wOks Tryd.prog ([42, 3, 3, 3] ++ _) _ := hwt
  obtain ⟨w0, hwt⟩ := wOks_cons hwt
  obtain ⟨a0, i0, s0, k0⟩ := opensV_42 enc W base v0 d0 p0 (hval 0 42 v0 rfl rfl) h0 w0
  obtain ⟨w1, hwt⟩ := wOks_cons hwt
  obtain ⟨a1, i1, s1, k1⟩ := opensV_3 enc W base v1 d1 p1 (hval 1 3 v1 rfl rfl) h1 w1
  obtain ⟨w2, hwt⟩ := wOks_cons hwt
  obtain ⟨a2, i2, s2, k2⟩ := opensV_3 enc W base v2 d2 p2 (hval 2 3 v2 rfl rfl) h2 w2
  obtain ⟨w3, hwt⟩ := wOks_cons hwt
  obtain ⟨a3, i3, s3, k3⟩ := opensV_3 enc W base v3 d3 p3 (hval 3 3 v3 rfl rfl) h3 w3
  rw [MakeChecks.laidMetH_plain _ _ _ (by kernel_rfl)] at hL
  have hgl : GlOk gl (memOf W) := (GlOk.cons (laid_tab hL (name := "internal/strconv.uint64pow10") (vals := [1, 10, 100, 1000, 10000, 100000, 1000000, 10000000, 100000000, 1000000000, 10000000000, 100000000000, 1000000000000, 10000000000000, 100000000000000, 1000000000000000, 10000000000000000, 100000000000000000, 1000000000000000000, 10000000000000000000]) (k := .u64) (g := 0) (t := 181) (n := 20) (e := 141) (by first | exact List.mem_cons_self | exact (List.mem_cons_of_mem _ List.mem_cons_self) | exact (List.mem_cons_of_mem _ (List.mem_cons_of_mem _ List.mem_cons_self))) (by kernel_rfl) (by kernel_rfl) (by kernel_rfl) (by kernel_rfl) (by kernel_rfl) (by kernel_rfl)) (GlOk.cons (laid_tab hL (name := "math/bits.deBruijn64tab") (vals := [0, 1, 56, 2, 57, 49, 28, 3, 61, 58, 42, 50, 38, 29, 17, 4, 62, 47, 59, 36, 45, 43, 51, 22, 53, 39, 33, 30, 24, 18, 12, 5, 63, 55, 48, 27, 60, 41, 37, 16, 46, 35, 44, 21, 52, 32, 23, 11, 54, 26, 40, 15, 34, 20, 31, 10, 25, 14, 19, 9, 13, 8, 7, 6]) (k := .u8) (g := 3) (t := 188) (n := 64) (e := 5) (by first | exact List.mem_cons_self | exact (List.mem_cons_of_mem _ List.mem_cons_self) | exact (List.mem_cons_of_mem _ (List.mem_cons_of_mem _ List.mem_cons_self))) (by kernel_rfl) (by kernel_rfl) (by kernel_rfl) (by kernel_rfl) (by kernel_rfl) (by kernel_rfl)) GlOk.nil))
  obtain ⟨F, hF⟩ := plain_10 a0 a1 a2 a3 k0 k1 k2 k3
  refine (W10 F a0 a1 a2 a3 true hF (memOf W) W _ (fun _ _ h => h) hgl ⟨(IRelL.app (IRelL.one i0) (IRelL.app (IRelL.one i1) (IRelL.app (IRelL.one i2) (IRelL.one i3)))).1, fun i c v hc hv => (IRelL.app (IRelL.one i0) (IRelL.app (IRelL.one i1) (IRelL.app (IRelL.one i2) (IRelL.one i3)))).2 i c v hc (by simpa using hv)⟩).mono ?_
  rintro e W' ⟨v, m', rfl, hv, hg⟩
  exact ⟨v, rfl, law_post (by kernel_rfl) (by kernel_rfl) rfl (fun _ h => by subst h; rfl) rfl (show Tryd.prog.underlying 4 = some .bool by kernel_rfl) hW hv hg⟩
theorem lifted (os : Os) (started : os.Started) (H : Type) (enc : TypeId × Value → H) :
    ReturnsInHanded {} Tryd.checked os 10 .any (fun w args => (Rows.attestProofsHoldSpec.pre enc Tryd.prog Tryd.f10 Rows.attestProofsHoldRow.domain false w args ∧ laidMetH Tryd.prog Rows.attestProofsHoldRow.laid w) ∧ sizedMet enc Tryd.prog Tryd.f10 (OpenSpec.ofChange Rows.attestProofsHoldSpec) false w args)
      (Rows.attestProofsHoldSpec.post enc Tryd.prog Tryd.f10 false true false false) := by
  refine returnsInHanded_of_change_and (C := Tryd.checked) (X := fun w _ => laidMetH Tryd.prog Rows.attestProofsHoldRow.laid w) (fun _ _ _ hh h => h.of_heap hh) own started (by kernel_rfl) Tryd.func10
    (ChangeSpec.witness_shaped (enc := enc) (C := Tryd.checked) (os := os) (X := fun w _ => laidMetH Tryd.prog Rows.attestProofsHoldRow.laid w) false (World.laidAll Tryd.prog os Rows.attestProofsHoldRow.laid) #[.slice none 0 0, .int .i64 0, .int .i64 0, .int .i64 0] 8 (World.laidAll_os _ _ _)
      (World.shaped_of_ZipB (by kernel_rfl) (by kernel_rfl)) (by kernel_rfl) (by kernel_rfl) (by kernel_rfl)
      (by rw [MakeChecks.laidMetH_plain _ _ _ (by kernel_rfl)]; exact laidMet_laidAll _ (by kernel_rfl) (by kernel_rfl))) ?_
  intro W base args ds gs before hval hW hcnd hwt hL _
  exact contract H enc W base args ds gs before hval hW hwt hL
theorem closedA : factsA Tryd.prog 10 Tryd.f10 Rows.attestProofsHoldSpec Rows.attestProofsHoldRow = true := by kernel_rfl
theorem closedB : factsB Tryd.prog Rows.attestProofsHoldRow = true := by kernel_rfl
theorem closedC : factsC Tryd.prog Tryd.f10 Rows.attestProofsHoldSpec Rows.attestProofsHoldRow = true := by kernel_rfl
theorem said : Rows.AttestProofsHoldSaid :=
  OpenClaim.holds_of_wide 10 Tryd.f10 rfl rfl rfl rfl rfl rfl rfl ⟨rfl, rfl, rfl, rfl, rfl⟩ rfl rfl rfl rfl rfl (by kernel_rfl) Tryd.func10 (facts_join closedA closedB closedC)
    (of_decide_eq_true (by kernel_rfl)) (by unfold Func.isWrapper; first | (rw [if_pos (by decide +kernel)]; kernel_rfl) | (rw [if_neg (by decide +kernel)]; exact ⟨rfl, rfl⟩))
    (fun os started H enc _ => lifted os started H enc)
theorem proved : Rows.AttestProofsHoldCardSaid :=
  Claim7.holds_tied_plain_at .later [] [.data, .data, .data] true (true, "be09ffd0da2554ac74248d92f2679061df1c3e4ed4d11b2b37316c42a469319e") false
    said (fun _ h => by cases h) (by kernel_rfl) (fun _ h => by cases h) attestProofsHold_row_tie rfl ⟨rfl, rfl⟩ (by kernel_rfl) rfl
    (fun f fn hf hfn => by
      obtain rfl : f = 10 := Option.some.inj ((show Tryd.prog.funcNamed "provender/provenderlaw8.AttestProofsHold" = some 10 by kernel_rfl).symm.trans hf) |>.symm
      obtain rfl : fn = Tryd.f10 := (Option.some.inj (Tryd.func10.symm.trans hfn)).symm
      exact ⟨by kernel_rfl, fun j t ht => by
        rw [show Tryd.f10.params = #[42, 3, 3, 3] from rfl] at ht
        have hm : t ∈ [42, 3, 3, 3] := by simpa using Array.mem_of_getElem? ht
        have hall : ([42, 3, 3, 3].all fun u => !Tryd.prog.wantsStandIn u) = true := by kernel_rfl
        exact (show Tryd.prog.wantsStandIn t = false by simpa using List.all_eq_true.1 hall t hm)⟩)
    (by kernel_rfl)
#print axioms proved
end Go.Proofs.YtihfhmibfhkoeaaDoor.lawAttestProofsHold
