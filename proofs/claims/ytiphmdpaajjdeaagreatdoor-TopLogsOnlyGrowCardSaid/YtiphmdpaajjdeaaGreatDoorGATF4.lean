/- Whatever the texts and numbers, TopLogsOnlyGrow returns true and leaves its input as it reads; the condition is that the listed tables of the library hold what the program's text gives them. -/
import Derived.Test.YtiphmdpaajjdeaaGreatDoorGATPb
import Derived.Test.YtiphmdpaajjdeaaGreatDoorGATW4a
import Derived.Test.YtiphmdpaajjdeaaGreatDoorRows
import Derived.WalkKit
import Derived.ProofKit
import Derived.OpenShut
import Derived.JoinedCond
import Derived.Test.YtiphmdpaajjdeaaGreatDoorGKL
import Derived.Test.YtiphmdpaajjdeaaGreatDoorCards
import Derived.Test.YtiphmdpaajjdeaaGreatDoorTie
import Derived.LaidMore
import Derived.Lay
import Derived.SevenTiedAt
import Derived.Stop.Joined

namespace Go.Proofs.YtiphmdpaajjdeaaGreatDoor.lawTopLogsOnlyGrow
open Go Go.Pv Go.ChangeShapes Go.WideShapes Go.ChangeAt Go.RowKit
set_option linter.unusedVariables false
set_option maxRecDepth 100000
theorem own : ownKnob Tryz.prog.godebug = none := by kernel_rfl
theorem contract (H : Type) (enc : TypeId × Value → H) (W : World) (base : Nat) (args : Array Value) (ds gs : List (DataW H)) (before : List MemPlace)
    (hval : ∀ (j : Nat) t v, Tryz.f4.params[j]? = some t → args[j]? = some v → Value.okWide Tryz.prog W .any base t v)
    (hW : DataW.Whole enc Tryz.prog Tryz.f4.params.toList Rows.topLogsOnlyGrowSpec.vars false W args.toList ds gs before) (hwt : (DataW.weightsEach Tryz.prog (Tryz.f4.params.toList ++ Rows.topLogsOnlyGrowSpec.plain.varTypes Tryz.prog) (ds ++ gs)).all (· ≤ reachBytes) = true) (hL : laidMetH Tryz.prog Rows.topLogsOnlyGrowRow.laid W) :
    Calls Tryz.prog 4 args W fun e W' => ∃ v, e = .returned v ∧ Rows.topLogsOnlyGrowSpec.post enc Tryz.prog Tryz.f4 false true false false W args v W' := by
  obtain ⟨p, hA⟩ := args_nil hW
  rw [show Tryz.f4.params = #[50, 3, 9, 3, 3] from rfl] at hA hval
  obtain ⟨v0, vs0, d0, ds0, p0, q0, hargs, rfl, rfl, h0, r0⟩ := trodAll_cons hA
  obtain ⟨v1, vs1, d1, ds1, p1, q1, rfl, rfl, rfl, h1, r1⟩ := trodAll_cons r0
  obtain ⟨v2, vs2, d2, ds2, p2, q2, rfl, rfl, rfl, h2, r2⟩ := trodAll_cons r1
  obtain ⟨v3, vs3, d3, ds3, p3, q3, rfl, rfl, rfl, h3, r3⟩ := trodAll_cons r2
  obtain ⟨v4, vs4, d4, ds4, p4, q4, rfl, rfl, rfl, h4, r4⟩ := trodAll_cons r3
  obtain ⟨rfl, rfl, rfl⟩ := trodAll_nil r4
  obtain rfl : args = #[v0, v1, v2, v3, v4] := by cases args; simp_all
  have hwt : wOks Tryz.prog ([50, 3, 9, 3, 3] ++ _) _ := hwt
  obtain ⟨w0, hwt⟩ := wOks_cons hwt
  obtain ⟨a0, i0, s0, k0⟩ := opensV_50 enc W base v0 d0 p0 (hval 0 50 v0 rfl rfl) h0 w0
  obtain ⟨w1, hwt⟩ := wOks_cons hwt
  obtain ⟨a1, i1, s1, k1⟩ := opensV_3 enc W base v1 d1 p1 (hval 1 3 v1 rfl rfl) h1 w1
  obtain ⟨w2, hwt⟩ := wOks_cons hwt
  obtain ⟨a2, i2, s2, k2⟩ := opensV_9 enc W base v2 d2 p2 (hval 2 9 v2 rfl rfl) h2 w2
  obtain ⟨w3, hwt⟩ := wOks_cons hwt
  obtain ⟨a3, i3, s3, k3⟩ := opensV_3 enc W base v3 d3 p3 (hval 3 3 v3 rfl rfl) h3 w3
  obtain ⟨w4, hwt⟩ := wOks_cons hwt
  obtain ⟨a4, i4, s4, k4⟩ := opensV_3 enc W base v4 d4 p4 (hval 4 3 v4 rfl rfl) h4 w4
  rw [MakeChecks.laidMetH_plain _ _ _ (by kernel_rfl)] at hL
  have hgl : GlOk gl (memOf W) := (GlOk.cons (laid_tab hL (name := "internal/strconv.uint64pow10") (vals := [1, 10, 100, 1000, 10000, 100000, 1000000, 10000000, 100000000, 1000000000, 10000000000, 100000000000, 1000000000000, 10000000000000, 100000000000000, 1000000000000000, 10000000000000000, 100000000000000000, 1000000000000000000, 10000000000000000000]) (k := .u64) (g := 0) (t := 203) (n := 20) (e := 151) (by first | exact List.mem_cons_self | exact (List.mem_cons_of_mem _ List.mem_cons_self) | exact (List.mem_cons_of_mem _ (List.mem_cons_of_mem _ List.mem_cons_self))) (by kernel_rfl) (by kernel_rfl) (by kernel_rfl) (by kernel_rfl) (by kernel_rfl) (by kernel_rfl)) (GlOk.cons (laid_tab hL (name := "math/bits.deBruijn64tab") (vals := [0, 1, 56, 2, 57, 49, 28, 3, 61, 58, 42, 50, 38, 29, 17, 4, 62, 47, 59, 36, 45, 43, 51, 22, 53, 39, 33, 30, 24, 18, 12, 5, 63, 55, 48, 27, 60, 41, 37, 16, 46, 35, 44, 21, 52, 32, 23, 11, 54, 26, 40, 15, 34, 20, 31, 10, 25, 14, 19, 9, 13, 8, 7, 6]) (k := .u8) (g := 3) (t := 244) (n := 64) (e := 5) (by first | exact List.mem_cons_self | exact (List.mem_cons_of_mem _ List.mem_cons_self) | exact (List.mem_cons_of_mem _ (List.mem_cons_of_mem _ List.mem_cons_self))) (by kernel_rfl) (by kernel_rfl) (by kernel_rfl) (by kernel_rfl) (by kernel_rfl) (by kernel_rfl)) GlOk.nil))
  obtain ⟨F, hF⟩ := plain_4 a0 a1 a2 a3 a4 k0 k1 k2 k3 k4
  refine (W4 F a0 a1 a2 a3 a4 true hF (memOf W) W _ (fun _ _ h => h) hgl ⟨(IRelL.app (IRelL.one i0) (IRelL.app (IRelL.one i1) (IRelL.app (IRelL.one i2) (IRelL.app (IRelL.one i3) (IRelL.one i4))))).1, fun i c v hc hv => (IRelL.app (IRelL.one i0) (IRelL.app (IRelL.one i1) (IRelL.app (IRelL.one i2) (IRelL.app (IRelL.one i3) (IRelL.one i4))))).2 i c v hc (by simpa using hv)⟩).mono ?_
  rintro e W' ⟨v, m', rfl, hv, hg⟩
  exact ⟨v, rfl, law_post (by kernel_rfl) (by kernel_rfl) rfl (fun _ h => by subst h; rfl) rfl (show Tryz.prog.underlying 4 = some .bool by kernel_rfl) hW hv hg⟩
theorem lifted (os : Os) (started : os.Started) (H : Type) (enc : TypeId × Value → H) :
    ReturnsInHanded {} Tryz.checked os 4 .any (fun w args => (Rows.topLogsOnlyGrowSpec.pre enc Tryz.prog Tryz.f4 Rows.topLogsOnlyGrowRow.domain false w args ∧ laidMetH Tryz.prog Rows.topLogsOnlyGrowRow.laid w) ∧ sizedMet enc Tryz.prog Tryz.f4 (OpenSpec.ofChange Rows.topLogsOnlyGrowSpec) false w args)
      (Rows.topLogsOnlyGrowSpec.post enc Tryz.prog Tryz.f4 false true false false) := by
  refine returnsInHanded_of_change_and (C := Tryz.checked) (X := fun w _ => laidMetH Tryz.prog Rows.topLogsOnlyGrowRow.laid w) (fun _ _ _ hh h => h.of_heap hh) own started (by kernel_rfl) Tryz.func4
    (ChangeSpec.witness_shaped (enc := enc) (C := Tryz.checked) (os := os) (X := fun w _ => laidMetH Tryz.prog Rows.topLogsOnlyGrowRow.laid w) false (World.laidAll Tryz.prog os Rows.topLogsOnlyGrowRow.laid) #[.slice none 0 0, .int .i64 0, .string ⟨#[]⟩, .int .i64 0, .int .i64 0] 8 (World.laidAll_os _ _ _)
      (World.shaped_of_ZipB (by kernel_rfl) (by kernel_rfl)) (by kernel_rfl) (by kernel_rfl) (by kernel_rfl)
      (by rw [MakeChecks.laidMetH_plain _ _ _ (by kernel_rfl)]; exact laidMet_laidAll _ (by kernel_rfl) (by kernel_rfl))) ?_
  intro W base args ds gs before hval hW hcnd hwt hL _
  exact contract H enc W base args ds gs before hval hW hwt hL
theorem closedA : factsA Tryz.prog 4 Tryz.f4 Rows.topLogsOnlyGrowSpec Rows.topLogsOnlyGrowRow = true := by kernel_rfl
theorem closedB : factsB Tryz.prog Rows.topLogsOnlyGrowRow = true := by kernel_rfl
theorem closedC : factsC Tryz.prog Tryz.f4 Rows.topLogsOnlyGrowSpec Rows.topLogsOnlyGrowRow = true := by kernel_rfl
theorem said : Rows.TopLogsOnlyGrowSaid :=
  OpenClaim.holds_of_wide 4 Tryz.f4 rfl rfl rfl rfl rfl rfl rfl ⟨rfl, rfl, rfl, rfl, rfl⟩ rfl rfl rfl rfl rfl (by kernel_rfl) Tryz.func4 (facts_join closedA closedB closedC)
    (of_decide_eq_true (by kernel_rfl)) (by unfold Func.isWrapper; first | (rw [if_pos (by decide +kernel)]; kernel_rfl) | (rw [if_neg (by decide +kernel)]; exact ⟨rfl, rfl⟩))
    (fun os started H enc _ => lifted os started H enc)
theorem proved : Rows.TopLogsOnlyGrowCardSaid :=
  Claim7.holds_tied_plain_at .later [] [.data, .data, .data, .data, .pinned, .pinned] true (true, "d04572bfc7bfab5dc20362a39d38d299a3f79b757363677db36f1e64f80654d0") true
    said (fun _ h => by cases h) (by kernel_rfl) (fun _ h => by cases h) topLogsOnlyGrow_row_tie rfl ⟨rfl, rfl⟩ (by kernel_rfl) rfl
    (fun f fn hf hfn => by
      obtain rfl : f = 4 := Option.some.inj ((show Tryz.prog.funcNamed "provender/provendertop.TopLogsOnlyGrow" = some 4 by kernel_rfl).symm.trans hf) |>.symm
      obtain rfl : fn = Tryz.f4 := (Option.some.inj (Tryz.func4.symm.trans hfn)).symm
      exact ⟨by kernel_rfl, fun j t ht => by
        rw [show Tryz.f4.params = #[50, 3, 9, 3, 3] from rfl] at ht
        have hm : t ∈ [50, 3, 9, 3, 3] := by simpa using Array.mem_of_getElem? ht
        have hall : ([50, 3, 9, 3, 3].all fun u => !Tryz.prog.wantsStandIn u) = true := by kernel_rfl
        exact (show Tryz.prog.wantsStandIn t = false by simpa using List.all_eq_true.1 hall t hm)⟩)
    (by kernel_rfl)
#print axioms proved
end Go.Proofs.YtiphmdpaajjdeaaGreatDoor.lawTopLogsOnlyGrow
