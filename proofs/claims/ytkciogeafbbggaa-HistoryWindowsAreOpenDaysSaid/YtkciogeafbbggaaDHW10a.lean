/- Part of the proof: HW10a. -/
import Derived.Test.YtkciogeafbbggaaDHM
import Derived.Test.YtkciogeafbbggaaDHW7a
import Derived.Test.YtkciogeafbbggaaDHW8a
import Derived.Test.YtkciogeafbbggaaDHW3a
import Derived.KernelRfl
namespace Go.Proofs.Ytkciogeafbbggaa
open Go Go.Pv
set_option linter.unusedVariables false
set_option maxRecDepth 100000
theorem W44 (F : Nat) (a1 : TExposure) (a2 : List UInt8) (a3 : List UInt8) (a4 : Int) (a5 : Int) (a6 : Int) (a7 : Bool) (r : Bool) (h : M44 F a1 a2 a3 a4 a5 a6 a7 = some r) : Pure Try.prog 44 [(V.agg (encTExposure a1)), (V.iptr [(sV a2), (sV a3), (iV a4), (iV a5), (iV a6), (bV a7)] 0)] (bV r) := by
  refine pure_enter Try.func44 rfl rfl (l := [.tmp 3]) rfl rfl [(0, (V.agg (encTExposure a1))), (1, (V.iptr [(sV a2), (sV a3), (iV a4), (iV a5), (iV a6), (bV a7)] 0))] rfl (fun w0 m0 => ?_)
  unfold M44 at h
  refine sr ?_
  refine aops_box (encTExposure a1) wants_none rfl rfl rfl rfl ?_
  refine aa (bV false) rfl rfl ?_
  refine an ?_
  refine sr ?_
  refine aops_fieldAddr tF47_0 wants_none rfl rfl ?_
  refine aops_load_cell (sV a1.Advisory) tC9 wants_none rfl rfl rfl rfl rfl ?_
  refine aops_ifieldAddr tF35_0 wants_none rfl rfl ?_
  refine aops_iload_cell (sV a2) tC9 wants_none rfl rfl rfl ?_
  refine aops_binT (.bool (a1.Advisory == a2)) wants_none rfl rfl rfl rfl ?_
  refine am (bV (a1.Advisory == a2)) rfl rfl ?_
  rcases Bool.eq_false_or_eq_true (a1.Advisory == a2) with hb8 | hb8
  · replace h := ite_t hb8 h
    refine aops_fieldAddr tF47_1 (wants_some (c := (a1.Advisory == a2)) (b := true) 9 rfl rfl hb8) rfl rfl ?_
    refine aops_load_cell (sV a1.Component) tC9 (wants_some (c := (a1.Advisory == a2)) (b := true) 9 rfl rfl hb8) rfl rfl rfl rfl rfl ?_
    refine aops_ifieldAddr tF35_1 (wants_some (c := (a1.Advisory == a2)) (b := true) 9 rfl rfl hb8) rfl rfl ?_
    refine aops_iload_cell (sV a3) tC9 (wants_some (c := (a1.Advisory == a2)) (b := true) 9 rfl rfl hb8) rfl rfl rfl ?_
    refine aops_binT (.bool (a1.Component == a3)) (wants_some (c := (a1.Advisory == a2)) (b := true) 9 rfl rfl hb8) rfl rfl rfl rfl ?_
    refine aops_pick true (cb := (a1.Advisory == a2)) (bV (a1.Component == a3)) wants_none rfl hb8 rfl rfl ?_
    refine aa (bV (a1.Component == a3)) rfl rfl ?_
    refine an ?_
    refine awp_ret ?_
    obtain rfl := Option.some.inj h
    exact ⟨.inl rfl, .one (.tmp rfl (Imm.con _))⟩
  replace h := ite_f hb8 h
  refine aops_skips 5 5 9 true (c := (a1.Advisory == a2)) (b := false) rfl rfl hb8 rfl rfl ?_
  refine aops_pick false (cb := (a1.Advisory == a2)) (bV false) wants_none rfl hb8 rfl rfl ?_
  refine aa (bV false) rfl rfl ?_
  refine an ?_
  refine awp_ret ?_
  obtain rfl := Option.some.inj h
  exact ⟨.inl rfl, .one (.tmp rfl (Imm.con _))⟩
theorem W100_1 (F : Nat) (a1 : (List TExposure)) (a2 : List UInt8) (a3 : List UInt8) (a4 : Int) (a5 : Int) (a6 : Int) (a7 : Bool) (r : Int) (h : M100_1 F a1 a2 a3 a4 a5 a6 a7 = some r) : Pure Try.prog 100 [(V.lst 3 (a1.map encTExposure)), (V.fn (.func 44) [] [(V.iptr [(sV a2), (sV a3), (iV a4), (iV a5), (iV a6), (bV a7)] 0)])] (iV r) := by
  refine pure_enter Try.func100 rfl rfl (l := [.tmp 4]) rfl rfl [(0, (V.lst 3 (a1.map encTExposure))), (1, (V.fn (.func 44) [] [(V.iptr [(sV a2), (sV a3), (iV a4), (iV a5), (iV a6), (bV a7)] 0)]))] rfl (fun w0 m0 => ?_)
  unfold M100_1 at h
  refine sr ?_
  refine aa (iV 0) rfl rfl ?_
  refine an ?_
  refine sq ?_
  refine sr ?_
  refine am (V.lst 3 (a1.map encTExposure)) rfl rfl ?_
  refine aops_len (n := a1.length) tIsSl40 wants_none rfl (congrArg some (List.length_map ..)) rfl ?_
  refine am (iV 0) rfl rfl ?_
  refine an ?_
  replace h := jn_elim h
  obtain ⟨k8, hk8, h⟩ := h
  refine awp_cut (fun _ : Unit => (⟨[], [], 0⟩ : St)) (fun _ : Unit => k8 = some r) ?_ ?_
  · clear hk8
    refine awp_block ?_
    refine awp_len (A := a1) 0 rfl (fun hA17 => ?_)
    refine awp_loop_ind (fun (p : Int) => (⟨[(0, (V.lst 3 (a1.map encTExposure))), (1, (V.fn (.func 44) [] [(V.iptr [(sV a2), (sV a3), (iV a4), (iV a5), (iV a6), (bV a7)] 0)])), (7, (iV ((a1.length : Nat) : Int))), (8, (iV p))], [], 0⟩ : St)) (fun n (p : Int) => RG a1 (fun tl nn => M100_1_L1 F a2 a3 a4 a5 a6 a7 k8 tl nn = some r) n p) (fun p h => RG.zero h) (fun n ih1 p h => ?_) (a1.length + 1) 0 (RG.start h) (ghost_ren 0 (fun i => ([] : List Nat).getD i 0) _ _ (by decide) (EnvSub.get (.cons (Sub.imm (Imm.lst _ _)) (.cons (Sub.imm (Imm.fn .nil (.cons (Imm.iptr _ _) .nil))) (.cons (Sub.imm (Imm.con _)) (.cons (Sub.imm (Imm.con _)) .nil))))) (HpSub.get .nil) rfl)
    revert p
    intro n10 h
    refine awp_loop ?_
    refine sr ?_
    refine aops_bin (.bool (decide (n10 < ((a1.length : Nat) : Int)))) wants_none rfl rfl rfl rfl ?_
    refine an ?_
    refine sq ?_
    refine awp_cond (decide (n10 < ((a1.length : Nat) : Int))) rfl (fun hb11 => ?_) (fun hb11 => ?_)
    · obtain ⟨x12, tl, hx13, h, hk1⟩ := RG.t hA17 h hb11
      unfold M100_1_L1 at h
      refine awp_skip ?_
      refine sq ?_
      refine awp_block ?_
      refine sr ?_
      refine am (iV n10) rfl rfl ?_
      refine aa (iV n10) rfl rfl ?_
      refine an ?_
      refine sr ?_
      refine am (V.fn (.func 44) [] [(V.iptr [(sV a2), (sV a3), (iV a4), (iV a5), (iV a6), (bV a7)] 0)]) rfl rfl ?_
      refine am (V.lst 3 (a1.map encTExposure)) rfl rfl ?_
      refine am (iV n10) rfl rfl ?_
      refine aops_index_lst (encTExposure x12) tSl40 wants_none rfl rfl (idx_some hx13).1 (idx_map encTExposure hx13) rfl ?_
      refine aops_iload_agg (cs := (encTExposure x12)) tA47 wants_none rfl rfl rfl rfl ?_
      replace h := bind_some h
      obtain ⟨y14, hx15, h⟩ := h
      refine aops_callv (bV y14) [(V.agg (encTExposure x12)), (V.iptr [(sV a2), (sV a3), (iV a4), (iV a5), (iV a6), (bV a7)] 0)] fOk44 wants_none rfl rfl (.cons (Imm.agg (imms_encTExposure _)) (.cons (Imm.iptr _ _) .nil)) (W44 F x12 a2 a3 a4 a5 a6 a7 y14 hx15) rfl ?_
      refine an ?_
      refine awp_cond y14 rfl (fun hb16 => ?_) (fun hb16 => ?_)
      · replace h := ite_t hb16 h
        refine sr ?_
        refine am (iV n10) rfl rfl ?_
        refine aa (iV n10) rfl rfl ?_
        refine an ?_
        refine awp_ret ?_
        obtain rfl := Option.some.inj h
        exact ⟨.inl rfl, .one (.tmp rfl (Imm.con _))⟩
      replace h := ite_f hb16 h
      refine awp_skip ?_
      refine rg ?_
      refine aops_bin (.int .i64 (w64 (n10 + 1))) wants_none rfl rfl rfl rfl ?_
      refine am (iV (w64 (n10 + 1))) rfl rfl ?_
      refine an ?_
      exact awp_back (ih1 (w64 (n10 + 1)) (hk1 _ h)) (ghost_ren 0 (fun i => ([] : List Nat).getD i 0) _ _ (by decide) (EnvSub.get (.cons (Sub.imm (Imm.lst _ _)) (.cons (Sub.imm (Imm.fn .nil (.cons (Imm.iptr _ _) .nil))) (.cons (Sub.imm (Imm.con _)) (.cons (Sub.imm (Imm.con _)) .nil))))) (HpSub.get .nil) rfl)
    replace h := RG.f h hb11
    unfold M100_1_L1 at h
    refine awp_exit ?_
    exact ⟨(), h, (ghost_ren 0 (fun i => ([] : List Nat).getD i 0) _ _ (by decide) (EnvSub.get .nil) (HpSub.get .nil) rfl)⟩
  clear h
  intro _ h
  subst hk8
  refine sr ?_
  refine aa (iV (-1)) rfl rfl ?_
  refine an ?_
  refine awp_ret ?_
  obtain rfl := Option.some.inj h
  exact ⟨.inl rfl, .one (.tmp rfl (Imm.con _))⟩
theorem W43_1 (F : Nat) (a1 : (List TExposure)) (a2 : List UInt8) (a3 : List UInt8) (a4 : Int) (a5 : Int) (a6 : Int) (a7 : Bool) (r : Bool) (h : M43_1 F a1 a2 a3 a4 a5 a6 a7 = some r) : Pure Try.prog 43 [(V.lst 3 (a1.map encTExposure)), (V.fn (.func 44) [] [(V.iptr [(sV a2), (sV a3), (iV a4), (iV a5), (iV a6), (bV a7)] 0)])] (bV r) := by
  refine pure_enter Try.func43 rfl rfl (l := [.tmp 4]) rfl rfl [(0, (V.lst 3 (a1.map encTExposure))), (1, (V.fn (.func 44) [] [(V.iptr [(sV a2), (sV a3), (iV a4), (iV a5), (iV a6), (bV a7)] 0)]))] rfl (fun w0 m0 => ?_)
  unfold M43_1 at h
  refine sr ?_
  refine aa (bV false) rfl rfl ?_
  refine an ?_
  refine sr ?_
  refine am (V.lst 3 (a1.map encTExposure)) rfl rfl ?_
  refine am (V.fn (.func 44) [] [(V.iptr [(sV a2), (sV a3), (iV a4), (iV a5), (iV a6), (bV a7)] 0)]) rfl rfl ?_
  replace h := bind_some h
  obtain ⟨y8, hx9, h⟩ := h
  refine aops_call (iV y8) [(V.lst 3 (a1.map encTExposure)), (V.fn (.func 44) [] [(V.iptr [(sV a2), (sV a3), (iV a4), (iV a5), (iV a6), (bV a7)] 0)])] fOk100 wants_none (evm_cons rfl (evm_cons rfl evm_nil)) (.cons (Imm.lst _ _) (.cons (Imm.fn .nil (.cons (Imm.iptr _ _) .nil)) .nil)) (W100_1 F a1 a2 a3 a4 a5 a6 a7 y8 hx9) rfl ?_
  refine aops_bin (.bool (decide (y8 ≥ 0))) wants_none rfl rfl rfl rfl ?_
  refine aa (bV (decide (y8 ≥ 0))) rfl rfl ?_
  refine an ?_
  refine awp_ret ?_
  obtain rfl := Option.some.inj h
  exact ⟨.inl rfl, .one (.tmp rfl (Imm.con _))⟩
theorem W10 (F : Nat) (a1 : TStory) (a2 : Int) (r : Bool) (h : M10 F a1 a2 = some r) : Pure Try.prog 10 [(V.agg (encTStory a1)), (iV a2)] (bV r) := by
  refine pure_enter Try.func10 rfl rfl (l := [.tmp 4]) rfl rfl [(0, (V.agg (encTStory a1))), (1, (iV a2))] rfl (fun w0 m0 => ?_)
  unfold M10 at h
  refine sr ?_
  refine aops_box (encTStory a1) wants_none rfl rfl rfl rfl ?_
  refine aa (bV false) rfl rfl ?_
  refine an ?_
  refine sr ?_
  refine aops_load_agg (cs := (encTStory a1)) tA52 wants_none rfl rfl rfl rfl rfl rfl ?_
  refine am (iV a2) rfl rfl ?_
  replace h := bind_some h
  obtain ⟨y3, hx4, h⟩ := h
  refine aops_call (V.tup [(V.lst 3 ((y3.1).map encTExposure)), (iV (y3.2))]) [(V.agg (encTStory a1)), (iV a2)] fOk33 wants_none (evm_cons rfl (evm_cons rfl evm_nil)) (.cons (Imm.agg (imms_encTStory _)) (.cons (Imm.con _) .nil)) (W33 F a1 a2 y3 hx4) rfl ?_
  refine am (V.tup [(V.lst 3 ((y3.1).map encTExposure)), (iV (y3.2))]) rfl rfl ?_
  refine aops_extract (V.lst 3 ((y3.1).map encTExposure)) wants_none rfl rfl rfl ?_
  refine aops_extract (iV (y3.2)) wants_none rfl rfl rfl ?_
  refine aa (V.lst 3 ((y3.1).map encTExposure)) rfl rfl ?_
  refine aa (iV (y3.2)) rfl rfl ?_
  refine an ?_
  refine sr ?_
  refine aops_load_agg (cs := (encTStory a1)) tA52 wants_none rfl rfl rfl rfl rfl rfl ?_
  replace h := bind_some h
  obtain ⟨y5, hx6, h⟩ := h
  refine aops_call (V.tup [(V.lst 6 ((y5.1).map encTWindow)), (iV (y5.2))]) [(V.agg (encTStory a1))] fOk38 wants_none (evm_cons rfl evm_nil) (.cons (Imm.agg (imms_encTStory _)) .nil) (W38 F a1 y5 hx6) rfl ?_
  refine am (V.tup [(V.lst 6 ((y5.1).map encTWindow)), (iV (y5.2))]) rfl rfl ?_
  refine aops_extract (V.lst 6 ((y5.1).map encTWindow)) wants_none rfl rfl rfl ?_
  refine aops_extract (iV (y5.2)) wants_none rfl rfl rfl ?_
  refine aa (V.lst 6 ((y5.1).map encTWindow)) rfl rfl ?_
  refine aa (iV (y5.2)) rfl rfl ?_
  refine an ?_
  refine sq ?_
  refine sr ?_
  refine am (iV (y3.2)) rfl rfl ?_
  refine aops_bin (.bool ((y3.2) != 0)) wants_none rfl rfl rfl rfl ?_
  refine am (bV ((y3.2) != 0)) rfl rfl ?_
  rcases Bool.eq_false_or_eq_true ((y3.2) != 0) with hb7 | hb7
  · replace h := ite_t hb7 h
    refine aops_skips 2 2 29 false (c := ((y3.2) != 0)) (b := true) rfl rfl hb7 rfl rfl ?_
    refine aops_pick true (cb := ((y3.2) != 0)) (bV true) wants_none rfl hb7 rfl rfl ?_
    refine an ?_
    refine awp_cond_t rfl rfl ?_
    refine sr ?_
    refine aops_load_agg (cs := (encTStory a1)) tA52 wants_none rfl rfl rfl rfl rfl rfl ?_
    refine am (iV a2) rfl rfl ?_
    replace h := bind_some h
    obtain ⟨y8, hx9, h⟩ := h
    refine aops_call (V.tup [(V.lst 3 ((y8.1).map encTExposure)), (iV (y8.2))]) [(V.agg (encTStory a1)), (iV a2)] fOk34 wants_none (evm_cons rfl (evm_cons rfl evm_nil)) (.cons (Imm.agg (imms_encTStory _)) (.cons (Imm.con _) .nil)) (W34 F a1 a2 y8 hx9) rfl ?_
    refine am (V.tup [(V.lst 3 ((y8.1).map encTExposure)), (iV (y8.2))]) rfl rfl ?_
    refine aops_extract (V.lst 3 ((y8.1).map encTExposure)) wants_none rfl rfl rfl ?_
    refine aops_extract (iV (y8.2)) wants_none rfl rfl rfl ?_
    refine aa (V.lst 3 ((y8.1).map encTExposure)) rfl rfl ?_
    refine aa (iV (y8.2)) rfl rfl ?_
    refine an ?_
    refine sr ?_
    refine am (iV (y3.2)) rfl rfl ?_
    refine am (iV (y8.2)) rfl rfl ?_
    refine aops_bin (.bool ((y3.2) == (y8.2))) wants_none rfl rfl rfl rfl ?_
    refine am (bV ((y3.2) == (y8.2))) rfl rfl ?_
    rcases Bool.eq_false_or_eq_true ((y3.2) == (y8.2)) with hb10 | hb10
    · replace h := ite_t hb10 h
      replace h := bind_some h
      obtain ⟨y11, hx12, h⟩ := h
      refine aops_call (bV y11) [] fOk23 (wants_some (c := ((y3.2) == (y8.2))) (b := true) 42 rfl rfl hb10) evm_nil .nil (W23 F  y11 hx12) rfl ?_
      refine aops_pick true (cb := ((y3.2) == (y8.2))) (bV y11) wants_none rfl hb10 rfl rfl ?_
      refine aa (bV y11) rfl rfl ?_
      refine an ?_
      refine awp_ret ?_
      obtain rfl := Option.some.inj h
      exact ⟨.inl rfl, .one (.tmp rfl (Imm.con _))⟩
    replace h := ite_f hb10 h
    refine aops_skip (wants_some (c := ((y3.2) == (y8.2))) (b := false) 42 rfl rfl hb10) rfl rfl ?_
    refine aops_pick false (cb := ((y3.2) == (y8.2))) (bV false) wants_none rfl hb10 rfl rfl ?_
    refine aa (bV false) rfl rfl ?_
    refine an ?_
    refine awp_ret ?_
    obtain rfl := Option.some.inj h
    exact ⟨.inl rfl, .one (.tmp rfl (Imm.con _))⟩
  replace h := ite_f hb7 h
  refine aops_move (iV (y5.2)) (wants_some (c := ((y3.2) != 0)) (b := false) 29 rfl rfl hb7) rfl rfl ?_
  refine aops_bin (.bool ((y5.2) != 0)) (wants_some (c := ((y3.2) != 0)) (b := false) 29 rfl rfl hb7) rfl rfl rfl rfl ?_
  refine aops_pick false (cb := ((y3.2) != 0)) (bV ((y5.2) != 0)) wants_none rfl hb7 rfl rfl ?_
  refine an ?_
  refine awp_cond ((y5.2) != 0) rfl (fun hb13 => ?_) (fun hb13 => ?_)
  · replace h := ite_t hb13 h
    refine sr ?_
    refine aops_load_agg (cs := (encTStory a1)) tA52 wants_none rfl rfl rfl rfl rfl rfl ?_
    refine am (iV a2) rfl rfl ?_
    replace h := bind_some h
    obtain ⟨y14, hx15, h⟩ := h
    refine aops_call (V.tup [(V.lst 3 ((y14.1).map encTExposure)), (iV (y14.2))]) [(V.agg (encTStory a1)), (iV a2)] fOk34 wants_none (evm_cons rfl (evm_cons rfl evm_nil)) (.cons (Imm.agg (imms_encTStory _)) (.cons (Imm.con _) .nil)) (W34 F a1 a2 y14 hx15) rfl ?_
    refine am (V.tup [(V.lst 3 ((y14.1).map encTExposure)), (iV (y14.2))]) rfl rfl ?_
    refine aops_extract (V.lst 3 ((y14.1).map encTExposure)) wants_none rfl rfl rfl ?_
    refine aops_extract (iV (y14.2)) wants_none rfl rfl rfl ?_
    refine aa (V.lst 3 ((y14.1).map encTExposure)) rfl rfl ?_
    refine aa (iV (y14.2)) rfl rfl ?_
    refine an ?_
    refine sr ?_
    refine am (iV (y3.2)) rfl rfl ?_
    refine am (iV (y14.2)) rfl rfl ?_
    refine aops_bin (.bool ((y3.2) == (y14.2))) wants_none rfl rfl rfl rfl ?_
    refine am (bV ((y3.2) == (y14.2))) rfl rfl ?_
    rcases Bool.eq_false_or_eq_true ((y3.2) == (y14.2)) with hb16 | hb16
    · replace h := ite_t hb16 h
      replace h := bind_some h
      obtain ⟨y17, hx18, h⟩ := h
      refine aops_call (bV y17) [] fOk23 (wants_some (c := ((y3.2) == (y14.2))) (b := true) 42 rfl rfl hb16) evm_nil .nil (W23 F  y17 hx18) rfl ?_
      refine aops_pick true (cb := ((y3.2) == (y14.2))) (bV y17) wants_none rfl hb16 rfl rfl ?_
      refine aa (bV y17) rfl rfl ?_
      refine an ?_
      refine awp_ret ?_
      obtain rfl := Option.some.inj h
      exact ⟨.inl rfl, .one (.tmp rfl (Imm.con _))⟩
    replace h := ite_f hb16 h
    refine aops_skip (wants_some (c := ((y3.2) == (y14.2))) (b := false) 42 rfl rfl hb16) rfl rfl ?_
    refine aops_pick false (cb := ((y3.2) == (y14.2))) (bV false) wants_none rfl hb16 rfl rfl ?_
    refine aa (bV false) rfl rfl ?_
    refine an ?_
    refine awp_ret ?_
    obtain rfl := Option.some.inj h
    exact ⟨.inl rfl, .one (.tmp rfl (Imm.con _))⟩
  replace h := ite_f hb13 h
  refine awp_skip ?_
  refine sr ?_
  refine aa (iV 0) rfl rfl ?_
  refine an ?_
  refine sq ?_
  refine sr ?_
  refine am (V.lst 6 ((y5.1).map encTWindow)) rfl rfl ?_
  refine aops_len (n := (y5.1).length) tIsSl59 wants_none rfl (congrArg some (List.length_map ..)) rfl ?_
  refine am (iV 0) rfl rfl ?_
  refine an ?_
  replace h := jn_elim h
  obtain ⟨k19, hk19, h⟩ := h
  refine awp_cut (fun (p : Int) => (⟨[(5, (V.lst 3 ((y3.1).map encTExposure))), (11, (iV p))], [], 0⟩ : St)) (fun (p : Int) => k19 p = some r) ?_ ?_
  · clear hk19
    refine awp_block ?_
    refine awp_len (A := (y5.1)) 25 rfl (fun hA48 => ?_)
    refine awp_loop_ind (fun (p : Int × Int) => (⟨[(1, (iV a2)), (5, (V.lst 3 ((y3.1).map encTExposure))), (7, (V.lst 6 ((y5.1).map encTWindow))), (11, (iV (p.1))), (45, (V.lst 6 ((y5.1).map encTWindow))), (46, (iV (((y5.1).length : Nat) : Int))), (47, (iV (p.2)))], [], 0⟩ : St)) (fun n (p : Int × Int) => RG (y5.1) (fun tl nn => M10_L1 F a2 y3 y5 k19 tl nn p.1 = some r) n p.2) (fun p h => RG.zero h) (fun n ih1 p h => ?_) ((y5.1).length + 1) (0, 0) (RG.start h) (ghost_ren 0 (fun i => ([] : List Nat).getD i 0) _ _ (by decide) (EnvSub.get (.cons (Sub.imm (Imm.con _)) (.cons (Sub.imm (Imm.lst _ _)) (.cons (Sub.imm (Imm.lst _ _)) (.cons (Sub.imm (Imm.con _)) (.cons (Sub.imm (Imm.lst _ _)) (.cons (Sub.imm (Imm.con _)) (.cons (Sub.imm (Imm.con _)) .nil)))))))) (HpSub.get .nil) rfl)
    obtain ⟨n23, n24⟩ := p
    refine awp_loop ?_
    refine sr ?_
    refine aops_bin (.bool (decide (n24 < (((y5.1).length : Nat) : Int)))) wants_none rfl rfl rfl rfl ?_
    refine an ?_
    refine sq ?_
    refine awp_cond (decide (n24 < (((y5.1).length : Nat) : Int))) rfl (fun hb25 => ?_) (fun hb25 => ?_)
    · obtain ⟨x28, tl, hx29, h, hk1⟩ := RG.t hA48 h hb25
      unfold M10_L1 at h
      refine awp_skip ?_
      refine sq ?_
      replace h := jn_elim h
      obtain ⟨k26, hk26, h⟩ := h
      refine awp_cut (fun (p : Int) => (⟨[(1, (iV a2)), (5, (V.lst 3 ((y3.1).map encTExposure))), (7, (V.lst 6 ((y5.1).map encTWindow))), (11, (iV p)), (45, (V.lst 6 ((y5.1).map encTWindow))), (46, (iV (((y5.1).length : Nat) : Int))), (47, (iV n24))], [], 0⟩ : St)) (fun (p : Int) => k26 p = some r) ?_ ?_
      · clear hk26
        refine awp_block ?_
        refine sr ?_
        refine am (iV n24) rfl rfl ?_
        refine aops_index_lst (encTWindow x28) tSl59 wants_none rfl rfl (idx_some hx29).1 (idx_map encTWindow hx29) rfl ?_
        refine aops_iload_agg (cs := (encTWindow x28)) tA35 wants_none rfl rfl rfl rfl ?_
        refine aops_alloc tZ35 rfl rfl wants_none rfl ?_
        refine aa (iV n24) rfl rfl ?_
        refine aops_store (encTWindow x28) [(encTWindow x28)] tS35 wants_none rfl rfl rfl rfl rfl rfl rfl rfl ?_
        refine an ?_
        refine sq ?_
        refine sr ?_
        refine aops_fieldAddr tF35_3 wants_none rfl rfl ?_
        refine aops_load_cell (iV x28.From) tC3 wants_none rfl rfl rfl rfl rfl ?_
        refine aops_fieldAddr tF35_4 wants_none rfl rfl ?_
        refine aops_load_cell (iV x28.To) tC3 wants_none rfl rfl rfl rfl rfl ?_
        refine aops_bin (.bool (decide (x28.From ≥ x28.To))) wants_none rfl rfl rfl rfl ?_
        refine an ?_
        refine awp_cond (decide (x28.From ≥ x28.To)) rfl (fun hb30 => ?_) (fun hb30 => ?_)
        · replace h := ite_t hb30 h
          refine sr ?_
          refine aa (bV false) rfl rfl ?_
          refine an ?_
          refine awp_ret ?_
          obtain rfl := Option.some.inj h
          exact ⟨.inl rfl, .one (.tmp rfl (Imm.con _))⟩
        replace h := ite_f hb30 h
        refine awp_skip ?_
        refine sq ?_
        refine sr ?_
        refine am (V.lst 6 ((y5.1).map encTWindow)) rfl rfl ?_
        refine am (iV n24) rfl rfl ?_
        replace h := chk_some h
        obtain ⟨hc31, h⟩ := h
        refine aops_slice_lst (0) (n24.toNat) (((y5.1).take n24.toNat).map encTWindow) tSl59 wants_none rfl rfl ⟨_, (by rw [Int.toNat_of_nonneg hc31.1]; exact rfl)⟩ (Nat.zero_le _) (by simpa using hc31.2) slL_lo rfl ?_
        refine aops_len (n := ((y5.1).take n24.toNat).length) tIsSl59 wants_none rfl (congrArg some (List.length_map ..)) rfl ?_
        refine am (iV 0) rfl rfl ?_
        refine an ?_
        replace h := jn_elim h
        obtain ⟨k32, hk32, h⟩ := h
        refine awp_cut (fun _ : Unit => (⟨[(1, (iV a2)), (5, (V.lst 3 ((y3.1).map encTExposure))), (7, (V.lst 6 ((y5.1).map encTWindow))), (11, (iV n23)), (13, (V.ptr 0 6 0 0)), (45, (V.lst 6 ((y5.1).map encTWindow))), (46, (iV (((y5.1).length : Nat) : Int))), (47, (iV n24))], [(0, (Ob.arr 35 6 [(encTWindow x28)]))], 1⟩ : St)) (fun _ : Unit => k32 = some r) ?_ ?_
        · clear hk32
          refine awp_block ?_
          refine awp_len (A := ((y5.1).take n24.toNat)) 59 rfl (fun hA42 => ?_)
          refine awp_loop_ind (fun (p : Int) => (⟨[(1, (iV a2)), (5, (V.lst 3 ((y3.1).map encTExposure))), (7, (V.lst 6 ((y5.1).map encTWindow))), (11, (iV n23)), (13, (V.ptr 0 6 0 0)), (45, (V.lst 6 ((y5.1).map encTWindow))), (46, (iV (((y5.1).length : Nat) : Int))), (47, (iV n24)), (59, (V.lst 6 (((y5.1).take n24.toNat).map encTWindow))), (60, (iV ((((y5.1).take n24.toNat).length : Nat) : Int))), (61, (iV p))], [(0, (Ob.arr 35 6 [(encTWindow x28)]))], 1⟩ : St)) (fun n (p : Int) => RG ((y5.1).take n24.toNat) (fun tl nn => M10_L2 F x28 k32 tl = some r) n p) (fun p h => RG.zero h) (fun n ih2 p h => ?_) (((y5.1).take n24.toNat).length + 1) 0 (RG.start h) (ghost_ren 1 (fun i => ([0] : List Nat).getD i 0) _ _ (by decide) (EnvSub.get (.cons (Sub.imm (Imm.con _)) (.cons (Sub.imm (Imm.lst _ _)) (.cons (Sub.imm (Imm.lst _ _)) (.cons (Sub.imm (Imm.con _)) (.cons (Sub.ptr rfl rfl) (.cons (Sub.imm (Imm.lst _ _)) (.cons (Sub.imm (Imm.con _)) (.cons (Sub.imm (Imm.con _)) (.cons (Sub.imm (Imm.lst _ _)) (.cons (Sub.imm (Imm.con _)) (.cons (Sub.imm (Imm.con _)) .nil)))))))))))) (HpSub.get (.cons rfl (ObSub.box (.cons (Sub.imm (Imm.con _)) (.cons (Sub.imm (Imm.con _)) (.cons (Sub.imm (Imm.con _)) (.cons (Sub.imm (Imm.con _)) (.cons (Sub.imm (Imm.con _)) (.cons (Sub.imm (Imm.con _)) .nil))))))) .nil)) rfl)
          revert p
          intro n34 h
          refine awp_loop ?_
          refine sr ?_
          refine aops_bin (.bool (decide (n34 < ((((y5.1).take n24.toNat).length : Nat) : Int)))) wants_none rfl rfl rfl rfl ?_
          refine an ?_
          refine sq ?_
          refine awp_cond (decide (n34 < ((((y5.1).take n24.toNat).length : Nat) : Int))) rfl (fun hb35 => ?_) (fun hb35 => ?_)
          · obtain ⟨x37, tl, hx38, h, hk2⟩ := RG.t hA42 h hb35
            unfold M10_L2 at h
            refine awp_skip ?_
            refine sq ?_
            replace h := jn_elim h
            obtain ⟨k36, hk36, h⟩ := h
            refine awp_cut (fun _ : Unit => (⟨[(1, (iV a2)), (5, (V.lst 3 ((y3.1).map encTExposure))), (7, (V.lst 6 ((y5.1).map encTWindow))), (11, (iV n23)), (13, (V.ptr 0 6 0 0)), (45, (V.lst 6 ((y5.1).map encTWindow))), (46, (iV (((y5.1).length : Nat) : Int))), (47, (iV n24)), (59, (V.lst 6 (((y5.1).take n24.toNat).map encTWindow))), (60, (iV ((((y5.1).take n24.toNat).length : Nat) : Int))), (61, (iV n34))], [(0, (Ob.arr 35 6 [(encTWindow x28)]))], 1⟩ : St)) (fun _ : Unit => k36 = some r) ?_ ?_
            · clear hk36
              refine awp_block ?_
              refine sr ?_
              refine aops_index_lst (encTWindow x37) tSl59 wants_none rfl rfl (idx_some hx38).1 (idx_map encTWindow hx38) rfl ?_
              refine aops_iload_agg (cs := (encTWindow x37)) tA35 wants_none rfl rfl rfl rfl ?_
              refine aops_alloc tZ35 rfl rfl wants_none rfl ?_
              refine aops_store (encTWindow x37) [(encTWindow x37)] tS35 wants_none rfl rfl rfl rfl rfl rfl rfl rfl ?_
              refine an ?_
              refine sr ?_
              refine aops_fieldAddr tF35_0 wants_none rfl rfl ?_
              refine aops_load_cell (sV x28.Advisory) tC9 wants_none rfl rfl rfl rfl rfl ?_
              refine aops_fieldAddr tF35_0 wants_none rfl rfl ?_
              refine aops_load_cell (sV x37.Advisory) tC9 wants_none rfl rfl rfl rfl rfl ?_
              refine aops_binT (.bool (x28.Advisory == x37.Advisory)) wants_none rfl rfl rfl rfl ?_
              refine am (bV (x28.Advisory == x37.Advisory)) rfl rfl ?_
              rcases Bool.eq_false_or_eq_true (x28.Advisory == x37.Advisory) with hb39 | hb39
              · replace h := ite_t hb39 h
                refine aops_fieldAddr tF35_1 (wants_some (c := (x28.Advisory == x37.Advisory)) (b := true) 70 rfl rfl hb39) rfl rfl ?_
                refine aops_load_cell (sV x28.Component) tC9 (wants_some (c := (x28.Advisory == x37.Advisory)) (b := true) 70 rfl rfl hb39) rfl rfl rfl rfl rfl ?_
                refine aops_fieldAddr tF35_1 (wants_some (c := (x28.Advisory == x37.Advisory)) (b := true) 70 rfl rfl hb39) rfl rfl ?_
                refine aops_load_cell (sV x37.Component) tC9 (wants_some (c := (x28.Advisory == x37.Advisory)) (b := true) 70 rfl rfl hb39) rfl rfl rfl rfl rfl ?_
                refine aops_binT (.bool (x28.Component == x37.Component)) (wants_some (c := (x28.Advisory == x37.Advisory)) (b := true) 70 rfl rfl hb39) rfl rfl rfl rfl ?_
                refine aops_pick true (cb := (x28.Advisory == x37.Advisory)) (bV (x28.Component == x37.Component)) wants_none rfl hb39 rfl rfl ?_
                refine am (bV (x28.Component == x37.Component)) rfl rfl ?_
                rcases Bool.eq_false_or_eq_true (x28.Component == x37.Component) with hb40 | hb40
                · replace h := ite_t hb40 h
                  refine aops_fieldAddr tF35_3 (wants_some (c := (x28.Component == x37.Component)) (b := true) 77 rfl rfl hb40) rfl rfl ?_
                  refine aops_load_cell (iV x28.From) tC3 (wants_some (c := (x28.Component == x37.Component)) (b := true) 77 rfl rfl hb40) rfl rfl rfl rfl rfl ?_
                  refine aops_fieldAddr tF35_4 (wants_some (c := (x28.Component == x37.Component)) (b := true) 77 rfl rfl hb40) rfl rfl ?_
                  refine aops_load_cell (iV x37.To) tC3 (wants_some (c := (x28.Component == x37.Component)) (b := true) 77 rfl rfl hb40) rfl rfl rfl rfl rfl ?_
                  refine aops_bin (.bool (decide (x28.From ≤ x37.To))) (wants_some (c := (x28.Component == x37.Component)) (b := true) 77 rfl rfl hb40) rfl rfl rfl rfl ?_
                  refine aops_pick true (cb := (x28.Component == x37.Component)) (bV (decide (x28.From ≤ x37.To))) wants_none rfl hb40 rfl rfl ?_
                  refine an ?_
                  refine awp_cond (decide (x28.From ≤ x37.To)) rfl (fun hb41 => ?_) (fun hb41 => ?_)
                  · replace h := ite_t hb41 h
                    refine sr ?_
                    refine aa (bV false) rfl rfl ?_
                    refine an ?_
                    refine awp_ret ?_
                    obtain rfl := Option.some.inj h
                    exact ⟨.inl rfl, .one (.tmp rfl (Imm.con _))⟩
                  replace h := ite_f hb41 h
                  refine awp_skip ?_
                  exact ⟨(), h, (ghost_ren 1 (fun i => ([0] : List Nat).getD i 0) _ _ (by decide) (EnvSub.get (.cons (Sub.imm (Imm.con _)) (.cons (Sub.imm (Imm.lst _ _)) (.cons (Sub.imm (Imm.lst _ _)) (.cons (Sub.imm (Imm.con _)) (.cons (Sub.ptr rfl rfl) (.cons (Sub.imm (Imm.lst _ _)) (.cons (Sub.imm (Imm.con _)) (.cons (Sub.imm (Imm.con _)) (.cons (Sub.imm (Imm.lst _ _)) (.cons (Sub.imm (Imm.con _)) (.cons (Sub.imm (Imm.con _)) .nil)))))))))))) (HpSub.get (.cons rfl (ObSub.box (.cons (Sub.imm (Imm.con _)) (.cons (Sub.imm (Imm.con _)) (.cons (Sub.imm (Imm.con _)) (.cons (Sub.imm (Imm.con _)) (.cons (Sub.imm (Imm.con _)) (.cons (Sub.imm (Imm.con _)) .nil))))))) .nil)) rfl)⟩
                replace h := ite_f hb40 h
                refine aops_skips 5 12 77 true (c := (x28.Component == x37.Component)) (b := false) rfl rfl hb40 rfl rfl ?_
                refine aops_pick false (cb := (x28.Component == x37.Component)) (bV false) wants_none rfl hb40 rfl rfl ?_
                refine an ?_
                refine awp_cond_f rfl rfl ?_
                refine awp_skip ?_
                exact ⟨(), h, (ghost_ren 1 (fun i => ([0] : List Nat).getD i 0) _ _ (by decide) (EnvSub.get (.cons (Sub.imm (Imm.con _)) (.cons (Sub.imm (Imm.lst _ _)) (.cons (Sub.imm (Imm.lst _ _)) (.cons (Sub.imm (Imm.con _)) (.cons (Sub.ptr rfl rfl) (.cons (Sub.imm (Imm.lst _ _)) (.cons (Sub.imm (Imm.con _)) (.cons (Sub.imm (Imm.con _)) (.cons (Sub.imm (Imm.lst _ _)) (.cons (Sub.imm (Imm.con _)) (.cons (Sub.imm (Imm.con _)) .nil)))))))))))) (HpSub.get (.cons rfl (ObSub.box (.cons (Sub.imm (Imm.con _)) (.cons (Sub.imm (Imm.con _)) (.cons (Sub.imm (Imm.con _)) (.cons (Sub.imm (Imm.con _)) (.cons (Sub.imm (Imm.con _)) (.cons (Sub.imm (Imm.con _)) .nil))))))) .nil)) rfl)⟩
              replace h := ite_f hb39 h
              refine aops_skips 5 5 70 true (c := (x28.Advisory == x37.Advisory)) (b := false) rfl rfl hb39 rfl rfl ?_
              refine aops_pick false (cb := (x28.Advisory == x37.Advisory)) (bV false) wants_none rfl hb39 rfl rfl ?_
              refine am (bV false) rfl rfl ?_
              refine aops_skips 5 12 77 true (c := false) (b := false) rfl rfl rfl rfl rfl ?_
              refine aops_pick false (cb := false) (bV false) wants_none rfl rfl rfl rfl ?_
              refine an ?_
              refine awp_cond_f rfl rfl ?_
              refine awp_skip ?_
              exact ⟨(), h, (ghost_ren 1 (fun i => ([0] : List Nat).getD i 0) _ _ (by decide) (EnvSub.get (.cons (Sub.imm (Imm.con _)) (.cons (Sub.imm (Imm.lst _ _)) (.cons (Sub.imm (Imm.lst _ _)) (.cons (Sub.imm (Imm.con _)) (.cons (Sub.ptr rfl rfl) (.cons (Sub.imm (Imm.lst _ _)) (.cons (Sub.imm (Imm.con _)) (.cons (Sub.imm (Imm.con _)) (.cons (Sub.imm (Imm.lst _ _)) (.cons (Sub.imm (Imm.con _)) (.cons (Sub.imm (Imm.con _)) .nil)))))))))))) (HpSub.get (.cons rfl (ObSub.box (.cons (Sub.imm (Imm.con _)) (.cons (Sub.imm (Imm.con _)) (.cons (Sub.imm (Imm.con _)) (.cons (Sub.imm (Imm.con _)) (.cons (Sub.imm (Imm.con _)) (.cons (Sub.imm (Imm.con _)) .nil))))))) .nil)) rfl)⟩
            clear h
            intro _ h
            subst hk36
            refine rg ?_
            refine aops_bin (.int .i64 (w64 (n34 + 1))) wants_none rfl rfl rfl rfl ?_
            refine am (iV (w64 (n34 + 1))) rfl rfl ?_
            refine an ?_
            exact awp_back (ih2 (w64 (n34 + 1)) (hk2 _ h)) (ghost_ren 1 (fun i => ([0] : List Nat).getD i 0) _ _ (by decide) (EnvSub.get (.cons (Sub.imm (Imm.con _)) (.cons (Sub.imm (Imm.lst _ _)) (.cons (Sub.imm (Imm.lst _ _)) (.cons (Sub.imm (Imm.con _)) (.cons (Sub.ptr rfl rfl) (.cons (Sub.imm (Imm.lst _ _)) (.cons (Sub.imm (Imm.con _)) (.cons (Sub.imm (Imm.con _)) (.cons (Sub.imm (Imm.lst _ _)) (.cons (Sub.imm (Imm.con _)) (.cons (Sub.imm (Imm.con _)) .nil)))))))))))) (HpSub.get (.cons rfl (ObSub.box (.cons (Sub.imm (Imm.con _)) (.cons (Sub.imm (Imm.con _)) (.cons (Sub.imm (Imm.con _)) (.cons (Sub.imm (Imm.con _)) (.cons (Sub.imm (Imm.con _)) (.cons (Sub.imm (Imm.con _)) .nil))))))) .nil)) rfl)
          replace h := RG.f h hb35
          unfold M10_L2 at h
          refine awp_exit ?_
          exact ⟨(), h, (ghost_ren 1 (fun i => ([0] : List Nat).getD i 0) _ _ (by decide) (EnvSub.get (.cons (Sub.imm (Imm.con _)) (.cons (Sub.imm (Imm.lst _ _)) (.cons (Sub.imm (Imm.lst _ _)) (.cons (Sub.imm (Imm.con _)) (.cons (Sub.ptr rfl rfl) (.cons (Sub.imm (Imm.lst _ _)) (.cons (Sub.imm (Imm.con _)) (.cons (Sub.imm (Imm.con _)) .nil))))))))) (HpSub.get (.cons rfl (ObSub.box (.cons (Sub.imm (Imm.con _)) (.cons (Sub.imm (Imm.con _)) (.cons (Sub.imm (Imm.con _)) (.cons (Sub.imm (Imm.con _)) (.cons (Sub.imm (Imm.con _)) (.cons (Sub.imm (Imm.con _)) .nil))))))) .nil)) rfl)⟩
        clear h
        intro _ h
        subst hk32
        refine sq ?_
        refine sr ?_
        refine am (iV a2) rfl rfl ?_
        refine aops_fieldAddr tF35_3 wants_none rfl rfl ?_
        refine aops_load_cell (iV x28.From) tC3 wants_none rfl rfl rfl rfl rfl ?_
        refine aops_bin (.bool (decide (a2 < x28.From))) wants_none rfl rfl rfl rfl ?_
        refine am (bV (decide (a2 < x28.From))) rfl rfl ?_
        rcases Bool.eq_false_or_eq_true (decide (a2 < x28.From)) with hb43 | hb43
        · replace h := ite_t hb43 h
          refine aops_skips 4 4 89 false (c := (decide (a2 < x28.From))) (b := true) rfl rfl hb43 rfl rfl ?_
          refine aops_pick true (cb := (decide (a2 < x28.From))) (bV true) wants_none rfl hb43 rfl rfl ?_
          refine an ?_
          refine awp_cond_t rfl rfl ?_
          refine awp_exit ?_
          exact ⟨n23, h, (ghost_ren 0 (fun i => ([] : List Nat).getD i 0) _ _ (by decide) (EnvSub.get (.cons (Sub.imm (Imm.con _)) (.cons (Sub.imm (Imm.lst _ _)) (.cons (Sub.imm (Imm.lst _ _)) (.cons (Sub.imm (Imm.con _)) (.cons (Sub.imm (Imm.lst _ _)) (.cons (Sub.imm (Imm.con _)) (.cons (Sub.imm (Imm.con _)) .nil)))))))) (HpSub.get .nil) rfl)⟩
        replace h := ite_f hb43 h
        refine aops_move (iV a2) (wants_some (c := (decide (a2 < x28.From))) (b := false) 89 rfl rfl hb43) rfl rfl ?_
        refine aops_fieldAddr tF35_4 (wants_some (c := (decide (a2 < x28.From))) (b := false) 89 rfl rfl hb43) rfl rfl ?_
        refine aops_load_cell (iV x28.To) tC3 (wants_some (c := (decide (a2 < x28.From))) (b := false) 89 rfl rfl hb43) rfl rfl rfl rfl rfl ?_
        refine aops_bin (.bool (decide (a2 ≥ x28.To))) (wants_some (c := (decide (a2 < x28.From))) (b := false) 89 rfl rfl hb43) rfl rfl rfl rfl ?_
        refine aops_pick false (cb := (decide (a2 < x28.From))) (bV (decide (a2 ≥ x28.To))) wants_none rfl hb43 rfl rfl ?_
        refine an ?_
        refine awp_cond (decide (a2 ≥ x28.To)) rfl (fun hb44 => ?_) (fun hb44 => ?_)
        · replace h := ite_t hb44 h
          refine awp_exit ?_
          exact ⟨n23, h, (ghost_ren 0 (fun i => ([] : List Nat).getD i 0) _ _ (by decide) (EnvSub.get (.cons (Sub.imm (Imm.con _)) (.cons (Sub.imm (Imm.lst _ _)) (.cons (Sub.imm (Imm.lst _ _)) (.cons (Sub.imm (Imm.con _)) (.cons (Sub.imm (Imm.lst _ _)) (.cons (Sub.imm (Imm.con _)) (.cons (Sub.imm (Imm.con _)) .nil)))))))) (HpSub.get .nil) rfl)⟩
        replace h := ite_f hb44 h
        refine awp_skip ?_
        refine sr ?_
        refine am (iV n23) rfl rfl ?_
        refine aops_bin (.int .i64 (w64 (n23 + 1))) wants_none rfl rfl rfl rfl ?_
        refine aa (iV (w64 (n23 + 1))) rfl rfl ?_
        refine an ?_
        refine sr ?_
        refine am (V.lst 3 ((y3.1).map encTExposure)) rfl rfl ?_
        refine aops_makeFunc [(V.ptr 0 6 0 0)] wants_none (evm_cons rfl evm_nil) rfl ?_
        replace h := bind_some h
        obtain ⟨y45, hx46, h⟩ := h
        refine aops_lend_call (bV y45) [(V.lst 3 ((y3.1).map encTExposure)), (V.fn (.func 44) [] [(V.iptr (encTWindow x28) 0)])] fOk43 (ghost_frzV 0 98 (V.fn (.func 44) [] [(V.iptr (encTWindow x28) 0)]) rfl (imms_rows (.cons (imms_encTWindow _) .nil)) rfl (Sub.fnc (.cons (Sub.frzptr rfl) .nil))) (Flat.con _) wants_none (evm_cons rfl (evm_cons rfl evm_nil)) (.cons (Imm.lst _ _) (.cons (Imm.fn .nil (.cons (Imm.iptr _ _) .nil)) .nil)) (W43_1 F (y3.1) x28.Advisory x28.Component x28.Severity x28.From x28.To x28.Open y45 hx46) rfl ?_
        refine aops_not wants_none rfl rfl ?_
        refine an ?_
        refine awp_cond (!y45) rfl (fun hb47 => ?_) (fun hb47 => ?_)
        · replace h := ite_t hb47 h
          refine sr ?_
          refine aa (bV false) rfl rfl ?_
          refine an ?_
          refine awp_ret ?_
          obtain rfl := Option.some.inj h
          exact ⟨.inl rfl, .one (.tmp rfl (Imm.con _))⟩
        replace h := ite_f hb47 h
        refine awp_skip ?_
        exact ⟨(w64 (n23 + 1)), h, (ghost_ren 0 (fun i => ([] : List Nat).getD i 0) _ _ (by decide) (EnvSub.get (.cons (Sub.imm (Imm.con _)) (.cons (Sub.imm (Imm.lst _ _)) (.cons (Sub.imm (Imm.lst _ _)) (.cons (Sub.imm (Imm.con _)) (.cons (Sub.imm (Imm.lst _ _)) (.cons (Sub.imm (Imm.con _)) (.cons (Sub.imm (Imm.con _)) .nil)))))))) (HpSub.get .nil) rfl)⟩
      clear h
      intro n27 h
      subst hk26
      refine rg ?_
      refine aops_bin (.int .i64 (w64 (n24 + 1))) wants_none rfl rfl rfl rfl ?_
      refine am (iV (w64 (n24 + 1))) rfl rfl ?_
      refine an ?_
      exact awp_back (ih1 (n27, (w64 (n24 + 1))) (hk1 _ h)) (ghost_ren 0 (fun i => ([] : List Nat).getD i 0) _ _ (by decide) (EnvSub.get (.cons (Sub.imm (Imm.con _)) (.cons (Sub.imm (Imm.lst _ _)) (.cons (Sub.imm (Imm.lst _ _)) (.cons (Sub.imm (Imm.con _)) (.cons (Sub.imm (Imm.lst _ _)) (.cons (Sub.imm (Imm.con _)) (.cons (Sub.imm (Imm.con _)) .nil)))))))) (HpSub.get .nil) rfl)
    replace h := RG.f h hb25
    unfold M10_L1 at h
    refine awp_exit ?_
    exact ⟨n23, h, (ghost_ren 0 (fun i => ([] : List Nat).getD i 0) _ _ (by decide) (EnvSub.get (.cons (Sub.imm (Imm.lst _ _)) (.cons (Sub.imm (Imm.con _)) .nil))) (HpSub.get .nil) rfl)⟩
  clear h
  intro n20 h
  subst hk19
  refine sr ?_
  refine am (iV n20) rfl rfl ?_
  refine am (V.lst 3 ((y3.1).map encTExposure)) rfl rfl ?_
  refine aops_len (n := (y3.1).length) tIsSl40 wants_none rfl (congrArg some (List.length_map ..)) rfl ?_
  refine aops_bin (.bool (n20 == (((y3.1).length : Nat) : Int))) wants_none rfl rfl rfl rfl ?_
  refine am (bV (n20 == (((y3.1).length : Nat) : Int))) rfl rfl ?_
  rcases Bool.eq_false_or_eq_true (n20 == (((y3.1).length : Nat) : Int)) with hb49 | hb49
  · replace h := ite_t hb49 h
    replace h := bind_some h
    obtain ⟨y50, hx51, h⟩ := h
    refine aops_call (bV y50) [] fOk23 (wants_some (c := (n20 == (((y3.1).length : Nat) : Int))) (b := true) 106 rfl rfl hb49) evm_nil .nil (W23 F  y50 hx51) rfl ?_
    refine aops_pick true (cb := (n20 == (((y3.1).length : Nat) : Int))) (bV y50) wants_none rfl hb49 rfl rfl ?_
    refine aa (bV y50) rfl rfl ?_
    refine an ?_
    refine awp_ret ?_
    obtain rfl := Option.some.inj h
    exact ⟨.inl rfl, .one (.tmp rfl (Imm.con _))⟩
  replace h := ite_f hb49 h
  refine aops_skip (wants_some (c := (n20 == (((y3.1).length : Nat) : Int))) (b := false) 106 rfl rfl hb49) rfl rfl ?_
  refine aops_pick false (cb := (n20 == (((y3.1).length : Nat) : Int))) (bV false) wants_none rfl hb49 rfl rfl ?_
  refine aa (bV false) rfl rfl ?_
  refine an ?_
  refine awp_ret ?_
  obtain rfl := Option.some.inj h
  exact ⟨.inl rfl, .one (.tmp rfl (Imm.con _))⟩
end Go.Proofs.Ytkciogeafbbggaa
