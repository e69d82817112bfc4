/- Part of the proof: HW7b. -/
import Derived.Test.YtkciogeafbbggaaJHM
import Derived.Test.YtkciogeafbbggaaJHW6a
import Derived.Test.YtkciogeafbbggaaJHW7a
import Derived.Test.YtkciogeafbbggaaJHW3a
import Derived.KernelRfl
namespace Go.Proofs.Ytkciogeafbbggaa
open Go Go.Pv
set_option linter.unusedVariables false
set_option maxRecDepth 100000
theorem W37 (F : Nat) (a1 : TRelease) (a2 : TRelease) (r : Bool) (h : M37 F a1 a2 = some r) : Pure Try.prog 37 [(V.agg (encTRelease a1)), (V.agg (encTRelease a2))] (bV r) := by
  refine pure_enter Try.func37 rfl rfl (l := [.tmp 4]) rfl rfl [(0, (V.agg (encTRelease a1))), (1, (V.agg (encTRelease a2)))] rfl (fun w0 m0 => ?_)
  unfold M37 at h
  refine sr ?_
  refine aops_box (encTRelease a1) wants_none rfl rfl rfl rfl ?_
  refine aops_box (encTRelease a2) wants_none rfl rfl rfl rfl ?_
  refine aa (bV false) rfl rfl ?_
  refine an ?_
  refine sr ?_
  refine aops_fieldAddr tF42_0 wants_none rfl rfl ?_
  refine aops_load_cell (sV a1.Version) tC9 wants_none rfl rfl rfl rfl rfl ?_
  refine aops_fieldAddr tF42_0 wants_none rfl rfl ?_
  refine aops_load_cell (sV a2.Version) tC9 wants_none rfl rfl rfl rfl rfl ?_
  refine aops_binT (.bool (a1.Version == a2.Version)) wants_none rfl rfl rfl rfl ?_
  refine am (bV (a1.Version == a2.Version)) rfl rfl ?_
  refine bsp (a1.Version == a2.Version) (fun hb3 => ?_) (fun hb3 => ?_)
  · replace h := ite_t hb3 h
    refine aops_fieldAddr tF42_1 (wants_some (c := (a1.Version == a2.Version)) (b := true) 10 rfl rfl hb3) rfl rfl ?_
    refine aops_load_cell (iV a1.Day) tC3 (wants_some (c := (a1.Version == a2.Version)) (b := true) 10 rfl rfl hb3) rfl rfl rfl rfl rfl ?_
    refine aops_fieldAddr tF42_1 (wants_some (c := (a1.Version == a2.Version)) (b := true) 10 rfl rfl hb3) rfl rfl ?_
    refine aops_load_cell (iV a2.Day) tC3 (wants_some (c := (a1.Version == a2.Version)) (b := true) 10 rfl rfl hb3) rfl rfl rfl rfl rfl ?_
    refine aops_bin (.bool (a1.Day == a2.Day)) (wants_some (c := (a1.Version == a2.Version)) (b := true) 10 rfl rfl hb3) rfl rfl rfl rfl ?_
    refine aops_pick true (cb := (a1.Version == a2.Version)) (bV (a1.Day == a2.Day)) wants_none rfl hb3 rfl rfl ?_
    refine am (bV (a1.Day == a2.Day)) rfl rfl ?_
    refine bsp (a1.Day == a2.Day) (fun hb4 => ?_) (fun hb4 => ?_)
    · replace h := ite_t hb4 h
      refine aops_fieldAddr tF42_2 (wants_some (c := (a1.Day == a2.Day)) (b := true) 17 rfl rfl hb4) rfl rfl ?_
      refine aops_load_cell (V.lst 3 (a1.Exposures.map encTExposure)) tC40 (wants_some (c := (a1.Day == a2.Day)) (b := true) 17 rfl rfl hb4) rfl rfl rfl rfl rfl ?_
      refine aops_fieldAddr tF42_2 (wants_some (c := (a1.Day == a2.Day)) (b := true) 17 rfl rfl hb4) rfl rfl ?_
      refine aops_load_cell (V.lst 3 (a2.Exposures.map encTExposure)) tC40 (wants_some (c := (a1.Day == a2.Day)) (b := true) 17 rfl rfl hb4) rfl rfl rfl rfl rfl ?_
      replace h := bind_some h
      obtain ⟨y5, hx6, h⟩ := h
      refine aops_call (bV y5) [(V.lst 3 (a1.Exposures.map encTExposure)), (V.lst 3 (a2.Exposures.map encTExposure))] fOk30 (wants_some (c := (a1.Day == a2.Day)) (b := true) 17 rfl rfl hb4) (evm_cons rfl (evm_cons rfl evm_nil)) (.cons (Imm.lst _ _) (.cons (Imm.lst _ _) .nil)) (W30 F a1.Exposures a2.Exposures y5 hx6) rfl ?_
      refine aops_pick true (cb := (a1.Day == a2.Day)) (bV y5) wants_none rfl hb4 rfl rfl ?_
      refine aa (bV y5) rfl rfl ?_
      refine an ?_
      refine awp_ret ?_
      replace h := Option.some.inj h
      subst h
      exact ⟨.inl rfl, .one (.tmp rfl (Imm.con _))⟩
    replace h := ite_f hb4 h
    refine aops_skips 5 12 17 true (c := (a1.Day == a2.Day)) (b := false) rfl rfl hb4 rfl rfl ?_
    refine aops_pick false (cb := (a1.Day == a2.Day)) (bV false) wants_none rfl hb4 rfl rfl ?_
    refine aa (bV false) rfl rfl ?_
    refine an ?_
    refine awp_ret ?_
    replace h := Option.some.inj h
    subst h
    exact ⟨.inl rfl, .one (.tmp rfl (Imm.con _))⟩
  replace h := ite_f hb3 h
  refine aops_skips 5 5 10 true (c := (a1.Version == a2.Version)) (b := false) rfl rfl hb3 rfl rfl ?_
  refine aops_pick false (cb := (a1.Version == a2.Version)) (bV false) wants_none rfl hb3 rfl rfl ?_
  refine am (bV false) rfl rfl ?_
  refine aops_skips 5 12 17 true (c := false) (b := false) rfl rfl rfl rfl rfl ?_
  refine aops_pick false (cb := false) (bV false) wants_none rfl rfl rfl rfl ?_
  refine aa (bV false) rfl rfl ?_
  refine an ?_
  refine awp_ret ?_
  replace h := Option.some.inj h
  subst h
  exact ⟨.inl rfl, .one (.tmp rfl (Imm.con _))⟩
end Go.Proofs.Ytkciogeafbbggaa
