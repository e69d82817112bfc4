/- Part of the proof: HW3a. -/
import Derived.Test.YtkciogeafbbggaaLHM
import Derived.KernelRfl
namespace Go.Proofs.Ytkciogeafbbggaa
open Go Go.Pv
set_option linter.unusedVariables false
set_option maxRecDepth 100000
theorem W78 (F : Nat) (a1 : (List Int)) (a2 : Int) (r : Int) (h : M78 F a1 a2 = some r) : Pure Try.prog 78 [(V.lst 1 (a1.map encI_i64)), (iV a2)] (iV r) := by
  refine pure_enter Try.func78 rfl rfl (l := [.tmp 4]) rfl rfl [(0, (V.lst 1 (a1.map encI_i64))), (1, (iV a2))] rfl (fun w0 m0 => ?_)
  unfold M78 at h
  refine awp_seq ?_
  refine awp_region ?_
  refine aops_assign (iV 0) wants_none rfl rfl ?_
  refine aops_nil ?_
  refine awp_seq ?_
  refine awp_seq ?_
  refine awp_region ?_
  refine aops_move (V.lst 1 (a1.map encI_i64)) wants_none rfl rfl ?_
  refine aops_len (n := a1.length) tIsSl22 wants_none rfl (congrArg some (List.length_map ..)) rfl ?_
  refine aops_move (iV 0) wants_none rfl rfl ?_
  refine aops_nil ?_
  replace h := jn_elim h
  obtain ⟨k3, hk3, h⟩ := h
  refine awp_cut (fun _ : Unit => (⟨[], [], 0⟩ : St)) (fun _ : Unit => k3 = some r) ?_ ?_
  · clear hk3
    refine awp_block ?_
    refine awp_loop_ind (fun (p : Int) => (⟨[(0, (V.lst 1 (a1.map encI_i64))), (1, (iV a2)), (7, (V.lst 1 (a1.map encI_i64))), (8, (iV ((a1.length : Nat) : Int))), (9, (iV p))], [], 0⟩ : St)) (fun n (p : Int) => M78_L1 F a1 a2 k3 n p = some r) (fun p h => by simp [M78_L1] at h) (fun n ih1 p h => ?_) F 0 h (ghost_ren 0 (fun i => ([] : List Nat).getD i 0) _ _ (by decide) (EnvSub.get (.cons (Sub.imm (Imm.lst _ _)) (.cons (Sub.imm (Imm.con _)) (.cons (Sub.imm (Imm.lst _ _)) (.cons (Sub.imm (Imm.con _)) (.cons (Sub.imm (Imm.con _)) .nil)))))) (HpSub.get .nil) rfl)
    revert p
    intro n5 h
    unfold M78_L1 at h
    refine awp_loop ?_
    refine awp_seq ?_
    refine awp_region ?_
    refine aops_bin (.bool (decide (n5 < ((a1.length : Nat) : Int)))) wants_none rfl rfl rfl rfl ?_
    refine aops_nil ?_
    refine awp_seq ?_
    refine awp_cond (decide (n5 < ((a1.length : Nat) : Int))) rfl (fun hb6 => ?_) (fun hb6 => ?_)
    · replace h := ite_t hb6 h
      refine awp_skip ?_
      refine awp_seq ?_
      refine awp_block ?_
      refine awp_seq ?_
      refine awp_region ?_
      refine aops_move (iV n5) wants_none rfl rfl ?_
      replace h := bind_some h
      obtain ⟨x7, hx8, h⟩ := h
      refine aops_index_lst [(iV x7)] tSl22 wants_none rfl rfl (idx_some hx8).1 (idx_map encI_i64 hx8) rfl ?_
      refine aops_iload_cell (iV x7) tC3 wants_none rfl rfl rfl ?_
      refine aops_assign (iV n5) wants_none rfl rfl ?_
      refine aops_assign (iV x7) wants_none rfl rfl ?_
      refine aops_nil ?_
      refine awp_block ?_
      refine awp_seq ?_
      refine awp_region ?_
      refine aops_move (iV x7) wants_none rfl rfl ?_
      refine aops_bin (.bool (decide (x7 < 0))) wants_none rfl rfl rfl rfl ?_
      refine aops_move (bV (decide (x7 < 0))) wants_none rfl rfl ?_
      rcases Bool.eq_false_or_eq_true (decide (x7 < 0)) with hb9 | hb9
      · replace h := ite_t hb9 h
        refine aops_skip (wants_some (c := (decide (x7 < 0))) (b := true) 17 rfl rfl hb9) rfl rfl ?_
        refine aops_skip (wants_some (c := (decide (x7 < 0))) (b := true) 17 rfl rfl hb9) rfl rfl ?_
        refine aops_skip (wants_some (c := (decide (x7 < 0))) (b := true) 17 rfl rfl hb9) rfl rfl ?_
        refine aops_pick true (cb := (decide (x7 < 0))) (bV true) wants_none rfl hb9 rfl rfl ?_
        refine aops_assign (bV true) wants_none rfl rfl ?_
        refine aops_nil ?_
        refine awp_cond_t rfl rfl ?_
        refine awp_seq ?_
        refine awp_region ?_
        refine aops_assign (iV 9) wants_none rfl rfl ?_
        refine aops_nil ?_
        refine awp_ret ?_
        obtain rfl := Option.some.inj h
        exact ⟨.inl rfl, .one (.tmp rfl (Imm.con _))⟩
      · replace h := ite_f hb9 h
        refine aops_move (iV x7) (wants_some (c := (decide (x7 < 0))) (b := false) 17 rfl rfl hb9) rfl rfl ?_
        refine aops_move (iV a2) (wants_some (c := (decide (x7 < 0))) (b := false) 17 rfl rfl hb9) rfl rfl ?_
        refine aops_bin (.bool (decide (x7 > a2))) (wants_some (c := (decide (x7 < 0))) (b := false) 17 rfl rfl hb9) rfl rfl rfl rfl ?_
        refine aops_pick false (cb := (decide (x7 < 0))) (bV (decide (x7 > a2))) wants_none rfl hb9 rfl rfl ?_
        refine aops_assign (bV (decide (x7 > a2))) wants_none rfl rfl ?_
        refine aops_nil ?_
        replace h := jn_elim h
        obtain ⟨k10, hk10, h⟩ := h
        refine awp_cut (fun _ : Unit => (⟨[(0, (V.lst 1 (a1.map encI_i64))), (1, (iV a2)), (7, (V.lst 1 (a1.map encI_i64))), (8, (iV ((a1.length : Nat) : Int))), (9, (iV n5)), (18, (iV x7)), (19, (iV a2)), (20, (bV (decide (x7 > a2))))], [], 0⟩ : St)) (fun _ : Unit => k10 = some r) ?_ ?_
        · clear hk10
          refine awp_cond (decide (x7 > a2)) rfl (fun hb11 => ?_) (fun hb11 => ?_)
          · replace h := ite_t hb11 h
            refine awp_seq ?_
            refine awp_region ?_
            refine aops_assign (iV 9) wants_none rfl rfl ?_
            refine aops_nil ?_
            refine awp_ret ?_
            obtain rfl := Option.some.inj h
            exact ⟨.inl rfl, .one (.tmp rfl (Imm.con _))⟩
          · replace h := ite_f hb11 h
            refine awp_seq ?_
            refine awp_region ?_
            refine aops_move (iV n5) wants_none rfl rfl ?_
            refine aops_bin (.bool (decide (n5 > 0))) wants_none rfl rfl rfl rfl ?_
            refine aops_move (bV (decide (n5 > 0))) wants_none rfl rfl ?_
            rcases Bool.eq_false_or_eq_true (decide (n5 > 0)) with hb12 | hb12
            · replace h := ite_t hb12 h
              refine aops_move (iV x7) (wants_some (c := (decide (n5 > 0))) (b := true) 25 rfl rfl hb12) rfl rfl ?_
              refine aops_move (V.lst 1 (a1.map encI_i64)) (wants_some (c := (decide (n5 > 0))) (b := true) 25 rfl rfl hb12) rfl rfl ?_
              refine aops_move (iV n5) (wants_some (c := (decide (n5 > 0))) (b := true) 25 rfl rfl hb12) rfl rfl ?_
              refine aops_bin (.int .i64 (w64 (n5 - 1))) (wants_some (c := (decide (n5 > 0))) (b := true) 25 rfl rfl hb12) rfl rfl rfl rfl ?_
              replace h := bind_some h
              obtain ⟨x13, hx14, h⟩ := h
              refine aops_index_lst [(iV x13)] tSl22 (wants_some (c := (decide (n5 > 0))) (b := true) 25 rfl rfl hb12) rfl rfl (idx_some hx14).1 (idx_map encI_i64 hx14) rfl ?_
              refine aops_iload_cell (iV x13) tC3 (wants_some (c := (decide (n5 > 0))) (b := true) 25 rfl rfl hb12) rfl rfl rfl ?_
              refine aops_bin (.bool (decide (x7 ≤ x13))) (wants_some (c := (decide (n5 > 0))) (b := true) 25 rfl rfl hb12) rfl rfl rfl rfl ?_
              refine aops_pick true (cb := (decide (n5 > 0))) (bV (decide (x7 ≤ x13))) wants_none rfl hb12 rfl rfl ?_
              refine aops_assign (bV (decide (x7 ≤ x13))) wants_none rfl rfl ?_
              refine aops_nil ?_
              refine awp_cond (decide (x7 ≤ x13)) rfl (fun hb15 => ?_) (fun hb15 => ?_)
              · replace h := ite_t hb15 h
                refine awp_seq ?_
                refine awp_region ?_
                refine aops_assign (iV 10) wants_none rfl rfl ?_
                refine aops_nil ?_
                refine awp_ret ?_
                obtain rfl := Option.some.inj h
                exact ⟨.inl rfl, .one (.tmp rfl (Imm.con _))⟩
              · replace h := ite_f hb15 h
                refine awp_skip ?_
                exact ⟨(), h, (ghost_ren 0 (fun i => ([] : List Nat).getD i 0) _ _ (by decide) (EnvSub.get (.cons (Sub.imm (Imm.lst _ _)) (.cons (Sub.imm (Imm.con _)) (.cons (Sub.imm (Imm.lst _ _)) (.cons (Sub.imm (Imm.con _)) (.cons (Sub.imm (Imm.con _)) (.cons (Sub.imm (Imm.con _)) (.cons (Sub.imm (Imm.con _)) (.cons (Sub.imm (Imm.con _)) .nil))))))))) (HpSub.get .nil) rfl)⟩
            · replace h := ite_f hb12 h
              refine aops_skip (wants_some (c := (decide (n5 > 0))) (b := false) 25 rfl rfl hb12) rfl rfl ?_
              refine aops_skip (wants_some (c := (decide (n5 > 0))) (b := false) 25 rfl rfl hb12) rfl rfl ?_
              refine aops_skip (wants_some (c := (decide (n5 > 0))) (b := false) 25 rfl rfl hb12) rfl rfl ?_
              refine aops_skip (wants_some (c := (decide (n5 > 0))) (b := false) 25 rfl rfl hb12) rfl rfl ?_
              refine aops_skip (wants_some (c := (decide (n5 > 0))) (b := false) 25 rfl rfl hb12) rfl rfl ?_
              refine aops_skip (wants_some (c := (decide (n5 > 0))) (b := false) 25 rfl rfl hb12) rfl rfl ?_
              refine aops_skip (wants_some (c := (decide (n5 > 0))) (b := false) 25 rfl rfl hb12) rfl rfl ?_
              refine aops_pick false (cb := (decide (n5 > 0))) (bV false) wants_none rfl hb12 rfl rfl ?_
              refine aops_assign (bV false) wants_none rfl rfl ?_
              refine aops_nil ?_
              refine awp_cond_f rfl rfl ?_
              refine awp_skip ?_
              exact ⟨(), h, (ghost_ren 0 (fun i => ([] : List Nat).getD i 0) _ _ (by decide) (EnvSub.get (.cons (Sub.imm (Imm.lst _ _)) (.cons (Sub.imm (Imm.con _)) (.cons (Sub.imm (Imm.lst _ _)) (.cons (Sub.imm (Imm.con _)) (.cons (Sub.imm (Imm.con _)) (.cons (Sub.imm (Imm.con _)) (.cons (Sub.imm (Imm.con _)) (.cons (Sub.imm (Imm.con _)) .nil))))))))) (HpSub.get .nil) rfl)⟩
        · clear h
          intro _ h
          subst hk10
          refine awp_region ?_
          refine aops_bin (.int .i64 (w64 (n5 + 1))) wants_none rfl rfl rfl rfl ?_
          refine aops_move (iV (w64 (n5 + 1))) wants_none rfl rfl ?_
          refine aops_nil ?_
          exact awp_back (ih1 (w64 (n5 + 1)) h) (ghost_ren 0 (fun i => ([] : List Nat).getD i 0) _ _ (by decide) (EnvSub.get (.cons (Sub.imm (Imm.lst _ _)) (.cons (Sub.imm (Imm.con _)) (.cons (Sub.imm (Imm.lst _ _)) (.cons (Sub.imm (Imm.con _)) (.cons (Sub.imm (Imm.con _)) .nil)))))) (HpSub.get .nil) rfl)
    · replace h := ite_f hb6 h
      refine awp_exit ?_
      exact ⟨(), h, (ghost_ren 0 (fun i => ([] : List Nat).getD i 0) _ _ (by decide) (EnvSub.get .nil) (HpSub.get .nil) rfl)⟩
  · clear h
    intro _ h
    subst hk3
    refine awp_seq ?_
    refine awp_region ?_
    refine aops_assign (iV 0) wants_none rfl rfl ?_
    refine aops_nil ?_
    refine awp_ret ?_
    obtain rfl := Option.some.inj h
    exact ⟨.inl rfl, .one (.tmp rfl (Imm.con _))⟩

theorem W21 (F : Nat) (a1 : TCalendar) (r : Int) (h : M21 F a1 = some r) : Pure Try.prog 21 [(V.agg [(V.lst 1 (a1.Free.map encI_i64)), (V.lst 1 (a1.Holidays.map encI_i64))])] (iV r) := by
  refine pure_enter Try.func21 rfl rfl (l := [.tmp 2]) rfl rfl [(0, (V.agg [(V.lst 1 (a1.Free.map encI_i64)), (V.lst 1 (a1.Holidays.map encI_i64))]))] rfl (fun w0 m0 => ?_)
  unfold M21 at h
  refine awp_seq ?_
  refine awp_region ?_
  refine aops_box [(V.lst 1 (a1.Free.map encI_i64)), (V.lst 1 (a1.Holidays.map encI_i64))] wants_none rfl rfl rfl rfl ?_
  refine aops_assign (iV 0) wants_none rfl rfl ?_
  refine aops_nil ?_
  refine awp_seq ?_
  refine awp_seq ?_
  refine awp_region ?_
  refine aops_fieldAddr tF24_0 wants_none rfl rfl ?_
  refine aops_load_cell (V.lst 1 (a1.Free.map encI_i64)) tC22 wants_none rfl rfl rfl rfl rfl ?_
  refine aops_len (n := a1.Free.length) tIsSl22 wants_none rfl (congrArg some (List.length_map ..)) rfl ?_
  refine aops_bin (.bool (decide (((a1.Free.length : Nat) : Int) > 6))) wants_none rfl rfl rfl rfl ?_
  refine aops_move (bV (decide (((a1.Free.length : Nat) : Int) > 6))) wants_none rfl rfl ?_
  rcases Bool.eq_false_or_eq_true (decide (((a1.Free.length : Nat) : Int) > 6)) with hb2 | hb2
  · replace h := ite_t hb2 h
    refine aops_skip (wants_some (c := (decide (((a1.Free.length : Nat) : Int) > 6))) (b := true) 8 rfl rfl hb2) rfl rfl ?_
    refine aops_skip (wants_some (c := (decide (((a1.Free.length : Nat) : Int) > 6))) (b := true) 8 rfl rfl hb2) rfl rfl ?_
    refine aops_skip (wants_some (c := (decide (((a1.Free.length : Nat) : Int) > 6))) (b := true) 8 rfl rfl hb2) rfl rfl ?_
    refine aops_skip (wants_some (c := (decide (((a1.Free.length : Nat) : Int) > 6))) (b := true) 8 rfl rfl hb2) rfl rfl ?_
    refine aops_pick true (cb := (decide (((a1.Free.length : Nat) : Int) > 6))) (bV true) wants_none rfl hb2 rfl rfl ?_
    refine aops_nil ?_
    refine awp_cond_t rfl rfl ?_
    refine awp_seq ?_
    refine awp_region ?_
    refine aops_assign (iV 3) wants_none rfl rfl ?_
    refine aops_nil ?_
    refine awp_ret ?_
    obtain rfl := Option.some.inj h
    exact ⟨.inl rfl, .one (.tmp rfl (Imm.con _))⟩
  · replace h := ite_f hb2 h
    refine aops_fieldAddr tF24_1 (wants_some (c := (decide (((a1.Free.length : Nat) : Int) > 6))) (b := false) 8 rfl rfl hb2) rfl rfl ?_
    refine aops_load_cell (V.lst 1 (a1.Holidays.map encI_i64)) tC22 (wants_some (c := (decide (((a1.Free.length : Nat) : Int) > 6))) (b := false) 8 rfl rfl hb2) rfl rfl rfl rfl rfl ?_
    refine aops_len (n := a1.Holidays.length) tIsSl22 (wants_some (c := (decide (((a1.Free.length : Nat) : Int) > 6))) (b := false) 8 rfl rfl hb2) rfl (congrArg some (List.length_map ..)) rfl ?_
    refine aops_bin (.bool (decide (((a1.Holidays.length : Nat) : Int) > 2000))) (wants_some (c := (decide (((a1.Free.length : Nat) : Int) > 6))) (b := false) 8 rfl rfl hb2) rfl rfl rfl rfl ?_
    refine aops_pick false (cb := (decide (((a1.Free.length : Nat) : Int) > 6))) (bV (decide (((a1.Holidays.length : Nat) : Int) > 2000))) wants_none rfl hb2 rfl rfl ?_
    refine aops_nil ?_
    refine awp_cond (decide (((a1.Holidays.length : Nat) : Int) > 2000)) rfl (fun hb3 => ?_) (fun hb3 => ?_)
    · replace h := ite_t hb3 h
      refine awp_seq ?_
      refine awp_region ?_
      refine aops_assign (iV 3) wants_none rfl rfl ?_
      refine aops_nil ?_
      refine awp_ret ?_
      obtain rfl := Option.some.inj h
      exact ⟨.inl rfl, .one (.tmp rfl (Imm.con _))⟩
    · replace h := ite_f hb3 h
      refine awp_skip ?_
      refine awp_seq ?_
      refine awp_seq ?_
      refine awp_region ?_
      refine aops_fieldAddr tF24_0 wants_none rfl rfl ?_
      refine aops_load_cell (V.lst 1 (a1.Free.map encI_i64)) tC22 wants_none rfl rfl rfl rfl rfl ?_
      replace h := bind_some h
      obtain ⟨y4, hx5, h⟩ := h
      refine aops_call (iV y4) [(V.lst 1 (a1.Free.map encI_i64)), (iV 6)] fOk78 wants_none (evm_cons rfl (evm_cons rfl evm_nil)) (.cons (Imm.lst _ _) (.cons (Imm.con _) .nil)) (W78 F a1.Free 6 y4 hx5) rfl ?_
      refine aops_assign (iV y4) wants_none rfl rfl ?_
      refine aops_nil ?_
      refine awp_seq ?_
      refine awp_region ?_
      refine aops_move (iV y4) wants_none rfl rfl ?_
      refine aops_bin (.bool (y4 != 0)) wants_none rfl rfl rfl rfl ?_
      refine aops_nil ?_
      refine awp_cond (y4 != 0) rfl (fun hb6 => ?_) (fun hb6 => ?_)
      · replace h := ite_t hb6 h
        refine awp_seq ?_
        refine awp_region ?_
        refine aops_move (iV y4) wants_none rfl rfl ?_
        refine aops_assign (iV y4) wants_none rfl rfl ?_
        refine aops_nil ?_
        refine awp_ret ?_
        obtain rfl := Option.some.inj h
        exact ⟨.inl rfl, .one (.tmp rfl (Imm.con _))⟩
      · replace h := ite_f hb6 h
        refine awp_skip ?_
        refine awp_seq ?_
        refine awp_region ?_
        refine aops_fieldAddr tF24_1 wants_none rfl rfl ?_
        refine aops_load_cell (V.lst 1 (a1.Holidays.map encI_i64)) tC22 wants_none rfl rfl rfl rfl rfl ?_
        replace h := bind_some h
        obtain ⟨y7, hx8, h⟩ := h
        refine aops_call (iV y7) [(V.lst 1 (a1.Holidays.map encI_i64)), (iV 1000000)] fOk78 wants_none (evm_cons rfl (evm_cons rfl evm_nil)) (.cons (Imm.lst _ _) (.cons (Imm.con _) .nil)) (W78 F a1.Holidays 1000000 y7 hx8) rfl ?_
        refine aops_assign (iV y7) wants_none rfl rfl ?_
        refine aops_nil ?_
        refine awp_ret ?_
        obtain rfl := Option.some.inj h
        exact ⟨.inl rfl, .one (.tmp rfl (Imm.con _))⟩

theorem W69 (F : Nat) (a1 : Int) (r : Bool) (h : M69 F a1 = some r) : Pure Try.prog 69 [(iV a1)] (bV r) := by
  refine pure_enter Try.func69 rfl rfl (l := [.tmp 2]) rfl rfl [(0, (iV a1))] rfl (fun w0 m0 => ?_)
  unfold M69 at h
  refine awp_seq ?_
  refine awp_region ?_
  refine aops_assign (bV false) wants_none rfl rfl ?_
  refine aops_nil ?_
  refine awp_seq ?_
  refine awp_region ?_
  refine aops_move (iV a1) wants_none rfl rfl ?_
  refine aops_bin (.bool (decide (a1 ≥ 0))) wants_none rfl rfl rfl rfl ?_
  refine aops_move (bV (decide (a1 ≥ 0))) wants_none rfl rfl ?_
  rcases Bool.eq_false_or_eq_true (decide (a1 ≥ 0)) with hb2 | hb2
  · replace h := ite_t hb2 h
    refine aops_move (iV a1) (wants_some (c := (decide (a1 ≥ 0))) (b := true) 5 rfl rfl hb2) rfl rfl ?_
    refine aops_bin (.bool (decide (a1 ≤ 1000000))) (wants_some (c := (decide (a1 ≥ 0))) (b := true) 5 rfl rfl hb2) rfl rfl rfl rfl ?_
    refine aops_pick true (cb := (decide (a1 ≥ 0))) (bV (decide (a1 ≤ 1000000))) wants_none rfl hb2 rfl rfl ?_
    refine aops_assign (bV (decide (a1 ≤ 1000000))) wants_none rfl rfl ?_
    refine aops_nil ?_
    refine awp_ret ?_
    obtain rfl := Option.some.inj h
    exact ⟨.inl rfl, .one (.tmp rfl (Imm.con _))⟩
  · replace h := ite_f hb2 h
    refine aops_skip (wants_some (c := (decide (a1 ≥ 0))) (b := false) 5 rfl rfl hb2) rfl rfl ?_
    refine aops_skip (wants_some (c := (decide (a1 ≥ 0))) (b := false) 5 rfl rfl hb2) rfl rfl ?_
    refine aops_pick false (cb := (decide (a1 ≥ 0))) (bV false) wants_none rfl hb2 rfl rfl ?_
    refine aops_assign (bV false) wants_none rfl rfl ?_
    refine aops_nil ?_
    refine awp_ret ?_
    obtain rfl := Option.some.inj h
    exact ⟨.inl rfl, .one (.tmp rfl (Imm.con _))⟩

theorem W70 (F : Nat) (a1 : TCalendar) (r : Thistory_week) (h : M70 F a1 = some r) : Pure Try.prog 70 [(V.agg [(V.lst 1 (a1.Free.map encI_i64)), (V.lst 1 (a1.Holidays.map encI_i64))])] (V.agg [(bV (r.free 0)), (bV (r.free 1)), (bV (r.free 2)), (bV (r.free 3)), (bV (r.free 4)), (bV (r.free 5)), (bV (r.free 6)), (iV r.work), (V.lst 1 (r.holidays.map encI_i64))]) := by
  refine pure_enter Try.func70 rfl rfl (l := [.cell 2 101]) rfl rfl [(0, (V.agg [(V.lst 1 (a1.Free.map encI_i64)), (V.lst 1 (a1.Holidays.map encI_i64))]))] rfl (fun w0 m0 => ?_)
  unfold M70 at h
  refine awp_seq ?_
  refine awp_region ?_
  refine aops_box [(V.lst 1 (a1.Free.map encI_i64)), (V.lst 1 (a1.Holidays.map encI_i64))] wants_none rfl rfl rfl rfl ?_
  refine aops_alloc tZ101 rfl rfl wants_none rfl ?_
  refine aops_nil ?_
  refine awp_seq ?_
  refine awp_region ?_
  refine aops_fieldAddr tF24_0 wants_none rfl rfl ?_
  refine aops_load_cell (V.lst 1 (a1.Free.map encI_i64)) tC22 wants_none rfl rfl rfl rfl rfl ?_
  refine aops_len (n := a1.Free.length) tIsSl22 wants_none rfl (congrArg some (List.length_map ..)) rfl ?_
  refine aops_bin (.int .i64 (w64 (7 - ((a1.Free.length : Nat) : Int)))) wants_none rfl rfl rfl rfl ?_
  refine aops_build [(1, (iV (w64 (7 - ((a1.Free.length : Nat) : Int)))))] [(bV false), (bV false), (bV false), (bV false), (bV false), (bV false), (bV false), (iV (w64 (7 - ((a1.Free.length : Nat) : Int)))), nV] tZ101 tPl101 rfl wants_none (evp_cons rfl evp_nil) rfl rfl ?_
  refine aops_alloc tZ101 rfl rfl wants_none rfl ?_
  refine aops_store [(bV false), (bV false), (bV false), (bV false), (bV false), (bV false), (bV false), (iV (w64 (7 - ((a1.Free.length : Nat) : Int)))), nV] [[(bV false), (bV false), (bV false), (bV false), (bV false), (bV false), (bV false), (iV (w64 (7 - ((a1.Free.length : Nat) : Int)))), nV]] tS101 wants_none rfl rfl rfl rfl rfl rfl rfl rfl ?_
  refine aops_nil ?_
  refine awp_seq ?_
  refine awp_seq ?_
  refine awp_region ?_
  refine aops_fieldAddr tF24_0 wants_none rfl rfl ?_
  refine aops_load_cell (V.lst 1 (a1.Free.map encI_i64)) tC22 wants_none rfl rfl rfl rfl rfl ?_
  refine aops_len (n := a1.Free.length) tIsSl22 wants_none rfl (congrArg some (List.length_map ..)) rfl ?_
  refine aops_move (iV 0) wants_none rfl rfl ?_
  refine aops_nil ?_
  replace h := jn_elim h
  obtain ⟨k2, hk2, h⟩ := h
  refine awp_cut (fun (p : (Nat → Bool)) => (⟨[(1, (V.ptr 0 2 0 0)), (2, (V.ptr 1 9 0 0)), (3, (V.ptr 2 9 0 0))], [(0, (Ob.arr 24 2 [[(V.lst 1 (a1.Free.map encI_i64)), (V.lst 1 (a1.Holidays.map encI_i64))]])), (1, (Ob.arr 101 9 [[(bV false), (bV false), (bV false), (bV false), (bV false), (bV false), (bV false), (iV 0), nV]])), (2, (Ob.arr 101 9 [[(bV (p 0)), (bV (p 1)), (bV (p 2)), (bV (p 3)), (bV (p 4)), (bV (p 5)), (bV (p 6)), (iV (w64 (7 - ((a1.Free.length : Nat) : Int)))), nV]]))], 3⟩ : St)) (fun (p : (Nat → Bool)) => k2 p = some r) ?_ ?_
  · clear hk2
    refine awp_block ?_
    refine awp_loop_ind (fun (p : Int × (Nat → Bool)) => (⟨[(1, (V.ptr 0 2 0 0)), (2, (V.ptr 1 9 0 0)), (3, (V.ptr 2 9 0 0)), (14, (V.lst 1 (a1.Free.map encI_i64))), (15, (iV ((a1.Free.length : Nat) : Int))), (16, (iV (p.1)))], [(0, (Ob.arr 24 2 [[(V.lst 1 (a1.Free.map encI_i64)), (V.lst 1 (a1.Holidays.map encI_i64))]])), (1, (Ob.arr 101 9 [[(bV false), (bV false), (bV false), (bV false), (bV false), (bV false), (bV false), (iV 0), nV]])), (2, (Ob.arr 101 9 [[(bV ((p.2) 0)), (bV ((p.2) 1)), (bV ((p.2) 2)), (bV ((p.2) 3)), (bV ((p.2) 4)), (bV ((p.2) 5)), (bV ((p.2) 6)), (iV (w64 (7 - ((a1.Free.length : Nat) : Int)))), nV]]))], 3⟩ : St)) (fun n (p : Int × (Nat → Bool)) => M70_L1 F a1 k2 n p.1 p.2 = some r) (fun p h => by simp [M70_L1] at h) (fun n ih1 p h => ?_) F (0, (fun _ => false)) h (ghost_ren 3 (fun i => ([0, 1, 2] : List Nat).getD i 0) _ _ (by decide) (EnvSub.get (.cons (Sub.ptr rfl rfl) (.cons (Sub.ptr rfl rfl) (.cons (Sub.ptr rfl rfl) (.cons (Sub.imm (Imm.lst _ _)) (.cons (Sub.imm (Imm.con _)) (.cons (Sub.imm (Imm.con _)) .nil))))))) (HpSub.get (.cons rfl (ObSub.box (.cons (Sub.imm (Imm.lst _ _)) (.cons (Sub.imm (Imm.lst _ _)) .nil))) (.cons rfl (ObSub.box (.cons (Sub.imm (Imm.con _)) (.cons (Sub.imm (Imm.con _)) (.cons (Sub.imm (Imm.con _)) (.cons (Sub.imm (Imm.con _)) (.cons (Sub.imm (Imm.con _)) (.cons (Sub.imm (Imm.con _)) (.cons (Sub.imm (Imm.con _)) (.cons (Sub.imm (Imm.con _)) (.cons (Sub.imm (Imm.con _)) .nil)))))))))) (.cons rfl (ObSub.box (.cons (Sub.imm (Imm.con _)) (.cons (Sub.imm (Imm.con _)) (.cons (Sub.imm (Imm.con _)) (.cons (Sub.imm (Imm.con _)) (.cons (Sub.imm (Imm.con _)) (.cons (Sub.imm (Imm.con _)) (.cons (Sub.imm (Imm.con _)) (.cons (Sub.imm (Imm.con _)) (.cons (Sub.imm (Imm.con _)) .nil)))))))))) .nil)))) rfl)
    obtain ⟨n6, f7⟩ := p
    unfold M70_L1 at h
    refine awp_loop ?_
    refine awp_seq ?_
    refine awp_region ?_
    refine aops_bin (.bool (decide (n6 < ((a1.Free.length : Nat) : Int)))) wants_none rfl rfl rfl rfl ?_
    refine aops_nil ?_
    refine awp_seq ?_
    refine awp_cond (decide (n6 < ((a1.Free.length : Nat) : Int))) rfl (fun hb8 => ?_) (fun hb8 => ?_)
    · replace h := ite_t hb8 h
      refine awp_skip ?_
      refine awp_seq ?_
      refine awp_block ?_
      refine awp_seq ?_
      refine awp_region ?_
      replace h := bind_some h
      obtain ⟨x9, hx10, h⟩ := h
      refine aops_index_lst [(iV x9)] tSl22 wants_none rfl rfl (idx_some hx10).1 (idx_map encI_i64 hx10) rfl ?_
      refine aops_iload_cell (iV x9) tC3 wants_none rfl rfl rfl ?_
      refine aops_assign (iV x9) wants_none rfl rfl ?_
      refine aops_nil ?_
      refine awp_region ?_
      refine aops_move (iV x9) wants_none rfl rfl ?_
      refine aops_fieldAddr tF101_0 wants_none rfl rfl ?_
      replace h := chk_some h
      obtain ⟨hc11, h⟩ := h
      refine aops_index_arr tArr99 wants_none rfl rfl hc11.1 hc11.2 rfl ?_
      refine aops_store [(bV true)] [[(bV ((upd f7 x9.toNat true) 0)), (bV ((upd f7 x9.toNat true) 1)), (bV ((upd f7 x9.toNat true) 2)), (bV ((upd f7 x9.toNat true) 3)), (bV ((upd f7 x9.toNat true) 4)), (bV ((upd f7 x9.toNat true) 5)), (bV ((upd f7 x9.toNat true) 6)), (iV (w64 (7 - ((a1.Free.length : Nat) : Int)))), nV]] tS4 wants_none rfl rfl rfl rfl rfl rfl (arr_ble hc11.2 (by simp)) (congrArg (fun r => [r]) (arr_set [] [(iV (w64 (7 - ((a1.Free.length : Nat) : Int)))), nV] (fun x => (bV x)) f7 true hc11.2 rfl (by simp))) ?_
      refine aops_nil ?_
      refine awp_region ?_
      refine aops_bin (.int .i64 (w64 (n6 + 1))) wants_none rfl rfl rfl rfl ?_
      refine aops_move (iV (w64 (n6 + 1))) wants_none rfl rfl ?_
      refine aops_nil ?_
      exact awp_back (ih1 ((w64 (n6 + 1)), (upd f7 x9.toNat true)) h) (ghost_ren 3 (fun i => ([0, 1, 2] : List Nat).getD i 0) _ _ (by decide) (EnvSub.get (.cons (Sub.ptr rfl rfl) (.cons (Sub.ptr rfl rfl) (.cons (Sub.ptr rfl rfl) (.cons (Sub.imm (Imm.lst _ _)) (.cons (Sub.imm (Imm.con _)) (.cons (Sub.imm (Imm.con _)) .nil))))))) (HpSub.get (.cons rfl (ObSub.box (.cons (Sub.imm (Imm.lst _ _)) (.cons (Sub.imm (Imm.lst _ _)) .nil))) (.cons rfl (ObSub.box (.cons (Sub.imm (Imm.con _)) (.cons (Sub.imm (Imm.con _)) (.cons (Sub.imm (Imm.con _)) (.cons (Sub.imm (Imm.con _)) (.cons (Sub.imm (Imm.con _)) (.cons (Sub.imm (Imm.con _)) (.cons (Sub.imm (Imm.con _)) (.cons (Sub.imm (Imm.con _)) (.cons (Sub.imm (Imm.con _)) .nil)))))))))) (.cons rfl (ObSub.box (.cons (Sub.imm (Imm.con _)) (.cons (Sub.imm (Imm.con _)) (.cons (Sub.imm (Imm.con _)) (.cons (Sub.imm (Imm.con _)) (.cons (Sub.imm (Imm.con _)) (.cons (Sub.imm (Imm.con _)) (.cons (Sub.imm (Imm.con _)) (.cons (Sub.imm (Imm.con _)) (.cons (Sub.imm (Imm.con _)) .nil)))))))))) .nil)))) rfl)
    · replace h := ite_f hb8 h
      refine awp_exit ?_
      exact ⟨f7, h, (ghost_ren 3 (fun i => ([0, 1, 2] : List Nat).getD i 0) _ _ (by decide) (EnvSub.get (.cons (Sub.ptr rfl rfl) (.cons (Sub.ptr rfl rfl) (.cons (Sub.ptr rfl rfl) .nil)))) (HpSub.get (.cons rfl (ObSub.box (.cons (Sub.imm (Imm.lst _ _)) (.cons (Sub.imm (Imm.lst _ _)) .nil))) (.cons rfl (ObSub.box (.cons (Sub.imm (Imm.con _)) (.cons (Sub.imm (Imm.con _)) (.cons (Sub.imm (Imm.con _)) (.cons (Sub.imm (Imm.con _)) (.cons (Sub.imm (Imm.con _)) (.cons (Sub.imm (Imm.con _)) (.cons (Sub.imm (Imm.con _)) (.cons (Sub.imm (Imm.con _)) (.cons (Sub.imm (Imm.con _)) .nil)))))))))) (.cons rfl (ObSub.box (.cons (Sub.imm (Imm.con _)) (.cons (Sub.imm (Imm.con _)) (.cons (Sub.imm (Imm.con _)) (.cons (Sub.imm (Imm.con _)) (.cons (Sub.imm (Imm.con _)) (.cons (Sub.imm (Imm.con _)) (.cons (Sub.imm (Imm.con _)) (.cons (Sub.imm (Imm.con _)) (.cons (Sub.imm (Imm.con _)) .nil)))))))))) .nil)))) rfl)⟩
  · clear h
    intro f3 h
    subst hk2
    refine awp_seq ?_
    refine awp_seq ?_
    refine awp_region ?_
    refine aops_fieldAddr tF24_1 wants_none rfl rfl ?_
    refine aops_load_cell (V.lst 1 (a1.Holidays.map encI_i64)) tC22 wants_none rfl rfl rfl rfl rfl ?_
    refine aops_len (n := a1.Holidays.length) tIsSl22 wants_none rfl (congrArg some (List.length_map ..)) rfl ?_
    refine aops_move (iV 0) wants_none rfl rfl ?_
    refine aops_nil ?_
    replace h := jn_elim h
    obtain ⟨k12, hk12, h⟩ := h
    refine awp_cut (fun (p : (List Int)) => (⟨[(2, (V.ptr 0 9 0 0)), (3, (V.ptr 1 9 0 0))], [(0, (Ob.arr 101 9 [[(bV false), (bV false), (bV false), (bV false), (bV false), (bV false), (bV false), (iV 0), nV]])), (1, (Ob.arr 101 9 [[(bV (f3 0)), (bV (f3 1)), (bV (f3 2)), (bV (f3 3)), (bV (f3 4)), (bV (f3 5)), (bV (f3 6)), (iV (w64 (7 - ((a1.Free.length : Nat) : Int)))), (V.own 2 p.length)]])), (2, (Ob.arr 3 1 (p.map encI_i64)))], 3⟩ : St)) (fun (p : (List Int)) => k12 p = some r) ?_ ?_
    · clear hk12
      refine awp_block ?_
      refine awp_loop_ind (fun (p : Int × (List Int)) => (⟨[(2, (V.ptr 0 9 0 0)), (3, (V.ptr 1 9 0 0)), (25, (V.lst 1 (a1.Holidays.map encI_i64))), (26, (iV ((a1.Holidays.length : Nat) : Int))), (27, (iV (p.1)))], [(0, (Ob.arr 101 9 [[(bV false), (bV false), (bV false), (bV false), (bV false), (bV false), (bV false), (iV 0), nV]])), (1, (Ob.arr 101 9 [[(bV (f3 0)), (bV (f3 1)), (bV (f3 2)), (bV (f3 3)), (bV (f3 4)), (bV (f3 5)), (bV (f3 6)), (iV (w64 (7 - ((a1.Free.length : Nat) : Int)))), (V.own 2 (p.2).length)]])), (2, (Ob.arr 3 1 ((p.2).map encI_i64)))], 3⟩ : St)) (fun n (p : Int × (List Int)) => M70_L2 F a1 f3 k12 n p.1 p.2 = some r) (fun p h => by simp [M70_L2] at h) (fun n ih2 p h => ?_) F (0, ([] : List Int)) h (Ghost.trans (ghost_nilC 2 3 1 (Ob.arr 101 9 [[(bV (f3 0)), (bV (f3 1)), (bV (f3 2)), (bV (f3 3)), (bV (f3 4)), (bV (f3 5)), (bV (f3 6)), (iV (w64 (7 - ((a1.Free.length : Nat) : Int)))), (V.own 3 0)]]) (ObSub.box (.cons Sub.keepNil (.cons Sub.keepNil (.cons Sub.keepNil (.cons Sub.keepNil (.cons Sub.keepNil (.cons Sub.keepNil (.cons Sub.keepNil (.cons Sub.keepNil (.cons Sub.mkNil .nil))))))))))) (ghost_ren 3 (fun i => ([1, 2, 3] : List Nat).getD i 0) _ _ (by decide) (EnvSub.get (.cons (Sub.ptr rfl rfl) (.cons (Sub.ptr rfl rfl) (.cons (Sub.imm (Imm.lst _ _)) (.cons (Sub.imm (Imm.con _)) (.cons (Sub.imm (Imm.con _)) .nil)))))) (HpSub.get (.cons rfl (ObSub.box (.cons (Sub.imm (Imm.con _)) (.cons (Sub.imm (Imm.con _)) (.cons (Sub.imm (Imm.con _)) (.cons (Sub.imm (Imm.con _)) (.cons (Sub.imm (Imm.con _)) (.cons (Sub.imm (Imm.con _)) (.cons (Sub.imm (Imm.con _)) (.cons (Sub.imm (Imm.con _)) (.cons (Sub.imm (Imm.con _)) .nil)))))))))) (.cons rfl (ObSub.box (.cons (Sub.imm (Imm.con _)) (.cons (Sub.imm (Imm.con _)) (.cons (Sub.imm (Imm.con _)) (.cons (Sub.imm (Imm.con _)) (.cons (Sub.imm (Imm.con _)) (.cons (Sub.imm (Imm.con _)) (.cons (Sub.imm (Imm.con _)) (.cons (Sub.imm (Imm.con _)) (.cons (Sub.ownE rfl rfl (by simp)) .nil)))))))))) (.cons rfl (ObSub.rows (rows_imm imms_encI_i64)) .nil)))) rfl))
      obtain ⟨n16, l17⟩ := p
      unfold M70_L2 at h
      refine awp_loop ?_
      refine awp_seq ?_
      refine awp_region ?_
      refine aops_bin (.bool (decide (n16 < ((a1.Holidays.length : Nat) : Int)))) wants_none rfl rfl rfl rfl ?_
      refine aops_nil ?_
      refine awp_seq ?_
      refine awp_cond (decide (n16 < ((a1.Holidays.length : Nat) : Int))) rfl (fun hb18 => ?_) (fun hb18 => ?_)
      · replace h := ite_t hb18 h
        refine awp_skip ?_
        refine awp_seq ?_
        refine awp_block ?_
        refine awp_seq ?_
        refine awp_region ?_
        replace h := bind_some h
        obtain ⟨x19, hx20, h⟩ := h
        refine aops_index_lst [(iV x19)] tSl22 wants_none rfl rfl (idx_some hx20).1 (idx_map encI_i64 hx20) rfl ?_
        refine aops_iload_cell (iV x19) tC3 wants_none rfl rfl rfl ?_
        refine aops_assign (iV x19) wants_none rfl rfl ?_
        refine aops_nil ?_
        refine awp_seq ?_
        refine awp_region ?_
        refine aops_move (iV x19) wants_none rfl rfl ?_
        refine aops_bin (.int .i64 (Int.tmod x19 7)) wants_none rfl rfl rfl rfl ?_
        refine aops_fieldAddr tF101_0 wants_none rfl rfl ?_
        replace h := chk_some h
        obtain ⟨hc21, h⟩ := h
        refine aops_index_arr tArr99 wants_none rfl rfl hc21.1 hc21.2 rfl ?_
        refine aops_load_cell (bV (f3 (Int.tmod x19 7).toNat)) tC4 wants_none rfl rfl rfl (arr_get [] [(iV (w64 (7 - ((a1.Free.length : Nat) : Int)))), (V.own 2 l17.length)] (fun i => (bV (f3 i))) hc21.2 rfl (by simp)) rfl ?_
        refine aops_not wants_none rfl rfl ?_
        refine aops_nil ?_
        replace h := jn_elim h
        obtain ⟨k22, hk22, h⟩ := h
        refine awp_cut (fun (p : (List Int)) => (⟨[(2, (V.ptr 0 9 0 0)), (3, (V.ptr 1 9 0 0)), (25, (V.lst 1 (a1.Holidays.map encI_i64))), (26, (iV ((a1.Holidays.length : Nat) : Int))), (27, (iV n16))], [(0, (Ob.arr 101 9 [[(bV false), (bV false), (bV false), (bV false), (bV false), (bV false), (bV false), (iV 0), nV]])), (1, (Ob.arr 101 9 [[(bV (f3 0)), (bV (f3 1)), (bV (f3 2)), (bV (f3 3)), (bV (f3 4)), (bV (f3 5)), (bV (f3 6)), (iV (w64 (7 - ((a1.Free.length : Nat) : Int)))), (V.own 2 p.length)]])), (2, (Ob.arr 3 1 (p.map encI_i64)))], 3⟩ : St)) (fun (p : (List Int)) => k22 p = some r) ?_ ?_
        · clear hk22
          refine awp_cond (!(f3 (Int.tmod x19 7).toNat)) rfl (fun hb24 => ?_) (fun hb24 => ?_)
          · replace h := ite_t hb24 h
            refine awp_region ?_
            refine aops_fieldAddr tF101_2 wants_none rfl rfl ?_
            refine aops_load_cell (V.own 2 l17.length) tC22 wants_none rfl rfl rfl rfl rfl ?_
            refine aops_move (iV x19) wants_none rfl rfl ?_
            refine aops_buildSlice [(0, (iV x19))] [[(iV x19)]] tEl22 tZ3 rfl rfl rfl rfl wants_none (evp_cons rfl evp_nil) rfl rfl (by simp) rfl ?_
            replace h := chk_some h
            obtain ⟨hc25, h⟩ := h
            refine aops_append [[(iV x19)]] ((l17 ++ ([x19] : List Int)).map encI_i64) tEl22 tIsSl22 rfl rfl wants_none rfl rfl (by simp) rfl (.own rfl (by simp)) (map_snoc encI_i64 l17 ([x19] : List Int)) (List.length_map ..) hc25 rfl ?_
            refine aops_fieldAddr tF101_2 wants_none rfl rfl ?_
            refine aops_store [(V.own 4 (l17 ++ ([x19] : List Int)).length)] [[(bV (f3 0)), (bV (f3 1)), (bV (f3 2)), (bV (f3 3)), (bV (f3 4)), (bV (f3 5)), (bV (f3 6)), (iV (w64 (7 - ((a1.Free.length : Nat) : Int)))), (V.own 4 (l17 ++ ([x19] : List Int)).length)]] tS22 wants_none rfl rfl rfl rfl rfl rfl rfl rfl ?_
            refine aops_nil ?_
            exact ⟨(l17 ++ ([x19] : List Int)), h, (ghost_ren 3 (fun i => ([0, 1, 4] : List Nat).getD i 0) _ _ (by decide) (EnvSub.get (.cons (Sub.ptr rfl rfl) (.cons (Sub.ptr rfl rfl) (.cons (Sub.imm (Imm.lst _ _)) (.cons (Sub.imm (Imm.con _)) (.cons (Sub.imm (Imm.con _)) .nil)))))) (HpSub.get (.cons rfl (ObSub.box (.cons (Sub.imm (Imm.con _)) (.cons (Sub.imm (Imm.con _)) (.cons (Sub.imm (Imm.con _)) (.cons (Sub.imm (Imm.con _)) (.cons (Sub.imm (Imm.con _)) (.cons (Sub.imm (Imm.con _)) (.cons (Sub.imm (Imm.con _)) (.cons (Sub.imm (Imm.con _)) (.cons (Sub.imm (Imm.con _)) .nil)))))))))) (.cons rfl (ObSub.box (.cons (Sub.imm (Imm.con _)) (.cons (Sub.imm (Imm.con _)) (.cons (Sub.imm (Imm.con _)) (.cons (Sub.imm (Imm.con _)) (.cons (Sub.imm (Imm.con _)) (.cons (Sub.imm (Imm.con _)) (.cons (Sub.imm (Imm.con _)) (.cons (Sub.imm (Imm.con _)) (.cons (Sub.own rfl rfl) .nil)))))))))) (.cons rfl (ObSub.rows (rows_imm imms_encI_i64)) .nil)))) rfl)⟩
          · replace h := ite_f hb24 h
            refine awp_skip ?_
            exact ⟨l17, h, (ghost_ren 3 (fun i => ([0, 1, 2] : List Nat).getD i 0) _ _ (by decide) (EnvSub.get (.cons (Sub.ptr rfl rfl) (.cons (Sub.ptr rfl rfl) (.cons (Sub.imm (Imm.lst _ _)) (.cons (Sub.imm (Imm.con _)) (.cons (Sub.imm (Imm.con _)) .nil)))))) (HpSub.get (.cons rfl (ObSub.box (.cons (Sub.imm (Imm.con _)) (.cons (Sub.imm (Imm.con _)) (.cons (Sub.imm (Imm.con _)) (.cons (Sub.imm (Imm.con _)) (.cons (Sub.imm (Imm.con _)) (.cons (Sub.imm (Imm.con _)) (.cons (Sub.imm (Imm.con _)) (.cons (Sub.imm (Imm.con _)) (.cons (Sub.imm (Imm.con _)) .nil)))))))))) (.cons rfl (ObSub.box (.cons (Sub.imm (Imm.con _)) (.cons (Sub.imm (Imm.con _)) (.cons (Sub.imm (Imm.con _)) (.cons (Sub.imm (Imm.con _)) (.cons (Sub.imm (Imm.con _)) (.cons (Sub.imm (Imm.con _)) (.cons (Sub.imm (Imm.con _)) (.cons (Sub.imm (Imm.con _)) (.cons (Sub.own rfl rfl) .nil)))))))))) (.cons rfl (ObSub.rows (rows_imm imms_encI_i64)) .nil)))) rfl)⟩
        · clear h
          intro l23 h
          subst hk22
          refine awp_region ?_
          refine aops_bin (.int .i64 (w64 (n16 + 1))) wants_none rfl rfl rfl rfl ?_
          refine aops_move (iV (w64 (n16 + 1))) wants_none rfl rfl ?_
          refine aops_nil ?_
          exact awp_back (ih2 ((w64 (n16 + 1)), l23) h) (ghost_ren 3 (fun i => ([0, 1, 2] : List Nat).getD i 0) _ _ (by decide) (EnvSub.get (.cons (Sub.ptr rfl rfl) (.cons (Sub.ptr rfl rfl) (.cons (Sub.imm (Imm.lst _ _)) (.cons (Sub.imm (Imm.con _)) (.cons (Sub.imm (Imm.con _)) .nil)))))) (HpSub.get (.cons rfl (ObSub.box (.cons (Sub.imm (Imm.con _)) (.cons (Sub.imm (Imm.con _)) (.cons (Sub.imm (Imm.con _)) (.cons (Sub.imm (Imm.con _)) (.cons (Sub.imm (Imm.con _)) (.cons (Sub.imm (Imm.con _)) (.cons (Sub.imm (Imm.con _)) (.cons (Sub.imm (Imm.con _)) (.cons (Sub.imm (Imm.con _)) .nil)))))))))) (.cons rfl (ObSub.box (.cons (Sub.imm (Imm.con _)) (.cons (Sub.imm (Imm.con _)) (.cons (Sub.imm (Imm.con _)) (.cons (Sub.imm (Imm.con _)) (.cons (Sub.imm (Imm.con _)) (.cons (Sub.imm (Imm.con _)) (.cons (Sub.imm (Imm.con _)) (.cons (Sub.imm (Imm.con _)) (.cons (Sub.own rfl rfl) .nil)))))))))) (.cons rfl (ObSub.rows (rows_imm imms_encI_i64)) .nil)))) rfl)
      · replace h := ite_f hb18 h
        refine awp_exit ?_
        exact ⟨l17, h, (ghost_ren 3 (fun i => ([0, 1, 2] : List Nat).getD i 0) _ _ (by decide) (EnvSub.get (.cons (Sub.ptr rfl rfl) (.cons (Sub.ptr rfl rfl) .nil))) (HpSub.get (.cons rfl (ObSub.box (.cons (Sub.imm (Imm.con _)) (.cons (Sub.imm (Imm.con _)) (.cons (Sub.imm (Imm.con _)) (.cons (Sub.imm (Imm.con _)) (.cons (Sub.imm (Imm.con _)) (.cons (Sub.imm (Imm.con _)) (.cons (Sub.imm (Imm.con _)) (.cons (Sub.imm (Imm.con _)) (.cons (Sub.imm (Imm.con _)) .nil)))))))))) (.cons rfl (ObSub.box (.cons (Sub.imm (Imm.con _)) (.cons (Sub.imm (Imm.con _)) (.cons (Sub.imm (Imm.con _)) (.cons (Sub.imm (Imm.con _)) (.cons (Sub.imm (Imm.con _)) (.cons (Sub.imm (Imm.con _)) (.cons (Sub.imm (Imm.con _)) (.cons (Sub.imm (Imm.con _)) (.cons (Sub.own rfl rfl) .nil)))))))))) (.cons rfl (ObSub.rows (rows_imm imms_encI_i64)) .nil)))) rfl)⟩
    · clear h
      intro l13 h
      subst hk12
      refine awp_seq ?_
      refine awp_region ?_
      refine aops_load_agg (cs := [(bV (f3 0)), (bV (f3 1)), (bV (f3 2)), (bV (f3 3)), (bV (f3 4)), (bV (f3 5)), (bV (f3 6)), (iV (w64 (7 - ((a1.Free.length : Nat) : Int)))), (V.own 2 l13.length)]) tA101 wants_none rfl rfl rfl rfl rfl rfl ?_
      refine aops_store [(bV (f3 0)), (bV (f3 1)), (bV (f3 2)), (bV (f3 3)), (bV (f3 4)), (bV (f3 5)), (bV (f3 6)), (iV (w64 (7 - ((a1.Free.length : Nat) : Int)))), (V.own 2 l13.length)] [[(bV (f3 0)), (bV (f3 1)), (bV (f3 2)), (bV (f3 3)), (bV (f3 4)), (bV (f3 5)), (bV (f3 6)), (iV (w64 (7 - ((a1.Free.length : Nat) : Int)))), (V.own 2 l13.length)]] tS101 wants_none rfl rfl rfl rfl rfl rfl rfl rfl ?_
      refine aops_nil ?_
      refine awp_ghost (ghost_frzC 2 0 (Ob.arr 101 9 [[(bV (f3 0)), (bV (f3 1)), (bV (f3 2)), (bV (f3 3)), (bV (f3 4)), (bV (f3 5)), (bV (f3 6)), (iV (w64 (7 - ((a1.Free.length : Nat) : Int)))), (V.lst 1 (l13.map encI_i64))]]) rfl (rows_imm imms_encI_i64) (ObSub.box (.cons Sub.keep (.cons Sub.keep (.cons Sub.keep (.cons Sub.keep (.cons Sub.keep (.cons Sub.keep (.cons Sub.keep (.cons Sub.keep (.cons (Sub.frzAll (rows := l13.map encI_i64) (List.length_map ..).symm) .nil))))))))))) ?_
      refine awp_ret ?_
      obtain rfl := Option.some.inj h
      exact ⟨.inl rfl, .one (.agg tA101 rfl rfl rfl rfl rfl (.cons (Imm.con _) (.cons (Imm.con _) (.cons (Imm.con _) (.cons (Imm.con _) (.cons (Imm.con _) (.cons (Imm.con _) (.cons (Imm.con _) (.cons (Imm.con _) (.cons (Imm.lst _ _) .nil))))))))))⟩

theorem W140 (F : Nat) (a1 : Int) (r : Bool) (h : M140 F a1 = some r) : Pure Try.prog 140 [(iV a1)] (bV r) := by
  refine pure_enter Try.func140 rfl rfl (l := [.tmp 2]) rfl rfl [(0, (iV a1))] rfl (fun w0 m0 => ?_)
  unfold M140 at h
  refine awp_seq ?_
  refine awp_region ?_
  refine aops_assign (bV false) wants_none rfl rfl ?_
  refine aops_nil ?_
  refine awp_seq ?_
  refine awp_region ?_
  refine aops_move (iV a1) wants_none rfl rfl ?_
  refine aops_move (iV a1) wants_none rfl rfl ?_
  refine aops_bin (.bool (a1 != a1)) wants_none rfl rfl rfl rfl ?_
  refine aops_assign (bV (a1 != a1)) wants_none rfl rfl ?_
  refine aops_nil ?_
  refine awp_ret ?_
  obtain rfl := Option.some.inj h
  exact ⟨.inl rfl, .one (.tmp rfl (Imm.con _))⟩

theorem W108 (F : Nat) (a1 : Int) (a2 : Int) (r : Bool) (h : M108 F a1 a2 = some r) : Pure Try.prog 108 [(iV a1), (iV a2)] (bV r) := by
  refine pure_enter Try.func108 rfl rfl (l := [.tmp 4]) rfl rfl [(0, (iV a1)), (1, (iV a2))] rfl (fun w0 m0 => ?_)
  unfold M108 at h
  refine awp_seq ?_
  refine awp_region ?_
  refine aops_assign (bV false) wants_none rfl rfl ?_
  refine aops_nil ?_
  refine awp_seq ?_
  refine awp_region ?_
  refine aops_move (iV a1) wants_none rfl rfl ?_
  replace h := bind_some h
  obtain ⟨y3, hx4, h⟩ := h
  refine aops_call (bV y3) [(iV a1)] fOk140 wants_none (evm_cons rfl evm_nil) (.cons (Imm.con _) .nil) (W140 F a1 y3 hx4) rfl ?_
  refine aops_move (bV y3) wants_none rfl rfl ?_
  rcases Bool.eq_false_or_eq_true y3 with hb5 | hb5
  · replace h := ite_t hb5 h
    refine aops_move (iV a2) (wants_some (c := y3) (b := true) 7 rfl rfl hb5) rfl rfl ?_
    replace h := bind_some h
    obtain ⟨y6, hx7, h⟩ := h
    refine aops_call (bV y6) [(iV a2)] fOk140 (wants_some (c := y3) (b := true) 7 rfl rfl hb5) (evm_cons rfl evm_nil) (.cons (Imm.con _) .nil) (W140 F a2 y6 hx7) rfl ?_
    refine aops_not (wants_some (c := y3) (b := true) 7 rfl rfl hb5) rfl rfl ?_
    refine aops_pick true (cb := y3) (bV (!y6)) wants_none rfl hb5 rfl rfl ?_
    refine aops_move (bV (!y6)) wants_none rfl rfl ?_
    rcases Bool.eq_false_or_eq_true (!y6) with hb8 | hb8
    · replace h := ite_t hb8 h
      refine aops_skip (wants_some (c := (!y6)) (b := true) 12 rfl rfl hb8) rfl rfl ?_
      refine aops_skip (wants_some (c := (!y6)) (b := true) 12 rfl rfl hb8) rfl rfl ?_
      refine aops_skip (wants_some (c := (!y6)) (b := true) 12 rfl rfl hb8) rfl rfl ?_
      refine aops_pick true (cb := (!y6)) (bV true) wants_none rfl hb8 rfl rfl ?_
      refine aops_assign (bV true) wants_none rfl rfl ?_
      refine aops_nil ?_
      refine awp_ret ?_
      obtain rfl := Option.some.inj h
      exact ⟨.inl rfl, .one (.tmp rfl (Imm.con _))⟩
    · replace h := ite_f hb8 h
      refine aops_move (iV a1) (wants_some (c := (!y6)) (b := false) 12 rfl rfl hb8) rfl rfl ?_
      refine aops_move (iV a2) (wants_some (c := (!y6)) (b := false) 12 rfl rfl hb8) rfl rfl ?_
      refine aops_bin (.bool (decide (a1 < a2))) (wants_some (c := (!y6)) (b := false) 12 rfl rfl hb8) rfl rfl rfl rfl ?_
      refine aops_pick false (cb := (!y6)) (bV (decide (a1 < a2))) wants_none rfl hb8 rfl rfl ?_
      refine aops_assign (bV (decide (a1 < a2))) wants_none rfl rfl ?_
      refine aops_nil ?_
      refine awp_ret ?_
      obtain rfl := Option.some.inj h
      exact ⟨.inl rfl, .one (.tmp rfl (Imm.con _))⟩
  · replace h := ite_f hb5 h
    refine aops_skip (wants_some (c := y3) (b := false) 7 rfl rfl hb5) rfl rfl ?_
    refine aops_skip (wants_some (c := y3) (b := false) 7 rfl rfl hb5) rfl rfl ?_
    refine aops_skip (wants_some (c := y3) (b := false) 7 rfl rfl hb5) rfl rfl ?_
    refine aops_pick false (cb := y3) (bV false) wants_none rfl hb5 rfl rfl ?_
    refine aops_move (bV false) wants_none rfl rfl ?_
    refine aops_move (iV a1) (wants_some (c := false) (b := false) 12 rfl rfl rfl) rfl rfl ?_
    refine aops_move (iV a2) (wants_some (c := false) (b := false) 12 rfl rfl rfl) rfl rfl ?_
    refine aops_bin (.bool (decide (a1 < a2))) (wants_some (c := false) (b := false) 12 rfl rfl rfl) rfl rfl rfl rfl ?_
    refine aops_pick false (cb := false) (bV (decide (a1 < a2))) wants_none rfl rfl rfl rfl ?_
    refine aops_assign (bV (decide (a1 < a2))) wants_none rfl rfl ?_
    refine aops_nil ?_
    refine awp_ret ?_
    obtain rfl := Option.some.inj h
    exact ⟨.inl rfl, .one (.tmp rfl (Imm.con _))⟩

theorem W109 (F : Nat) (a1 : Int) (r : Bool) (h : M109 F a1 = some r) : Pure Try.prog 109 [(iV a1)] (bV r) := by
  refine pure_enter Try.func109 rfl rfl (l := [.tmp 2]) rfl rfl [(0, (iV a1))] rfl (fun w0 m0 => ?_)
  unfold M109 at h
  refine awp_seq ?_
  refine awp_region ?_
  refine aops_assign (bV false) wants_none rfl rfl ?_
  refine aops_nil ?_
  refine awp_seq ?_
  refine awp_region ?_
  refine aops_move (iV a1) wants_none rfl rfl ?_
  refine aops_move (iV a1) wants_none rfl rfl ?_
  refine aops_bin (.bool (a1 != a1)) wants_none rfl rfl rfl rfl ?_
  refine aops_assign (bV (a1 != a1)) wants_none rfl rfl ?_
  refine aops_nil ?_
  refine awp_ret ?_
  obtain rfl := Option.some.inj h
  exact ⟨.inl rfl, .one (.tmp rfl (Imm.con _))⟩

theorem W53 (F : Nat) (a1 : (List Int)) (a2 : Int) (r : (Int × Bool)) (h : M53 F a1 a2 = some r) : Pure Try.prog 53 [(V.lst 1 (a1.map encI_i64)), (iV a2)] (V.tup [(iV (r.1)), (bV (r.2))]) := by
  refine pure_enter Try.func53 rfl rfl (l := [.tmp 4, .tmp 5]) rfl rfl [(0, (V.lst 1 (a1.map encI_i64))), (1, (iV a2))] rfl (fun w0 m0 => ?_)
  unfold M53 at h
  refine awp_seq ?_
  refine awp_region ?_
  refine aops_assign (iV 0) wants_none rfl rfl ?_
  refine aops_assign (bV false) wants_none rfl rfl ?_
  refine aops_nil ?_
  refine awp_seq ?_
  refine awp_region ?_
  refine aops_move (V.lst 1 (a1.map encI_i64)) wants_none rfl rfl ?_
  refine aops_len (n := a1.length) tIsSl22 wants_none rfl (congrArg some (List.length_map ..)) rfl ?_
  refine aops_assign (iV ((a1.length : Nat) : Int)) wants_none rfl rfl ?_
  refine aops_nil ?_
  refine awp_seq ?_
  refine awp_region ?_
  refine aops_move (iV ((a1.length : Nat) : Int)) wants_none rfl rfl ?_
  refine aops_assign (iV 0) wants_none rfl rfl ?_
  refine aops_assign (iV ((a1.length : Nat) : Int)) wants_none rfl rfl ?_
  refine aops_nil ?_
  refine awp_seq ?_
  replace h := jn_elim h
  obtain ⟨k3, hk3, h⟩ := h
  refine awp_cut (fun (p : Int) => (⟨[(0, (V.lst 1 (a1.map encI_i64))), (1, (iV a2)), (6, (iV ((a1.length : Nat) : Int))), (7, (iV p))], [], 0⟩ : St)) (fun (p : Int) => k3 p = some r) ?_ ?_
  · clear hk3
    refine awp_block ?_
    refine awp_loop_ind (fun (p : Int × Int) => (⟨[(0, (V.lst 1 (a1.map encI_i64))), (1, (iV a2)), (6, (iV ((a1.length : Nat) : Int))), (7, (iV (p.1))), (8, (iV (p.2)))], [], 0⟩ : St)) (fun n (p : Int × Int) => M53_L1 F a1 a2 k3 n p.1 p.2 = some r) (fun p h => by simp [M53_L1] at h) (fun n ih1 p h => ?_) F (0, ((a1.length : Nat) : Int)) h (ghost_ren 0 (fun i => ([] : List Nat).getD i 0) _ _ (by decide) (EnvSub.get (.cons (Sub.imm (Imm.lst _ _)) (.cons (Sub.imm (Imm.con _)) (.cons (Sub.imm (Imm.con _)) (.cons (Sub.imm (Imm.con _)) (.cons (Sub.imm (Imm.con _)) .nil)))))) (HpSub.get .nil) rfl)
    obtain ⟨n7, n8⟩ := p
    unfold M53_L1 at h
    refine awp_loop ?_
    refine awp_seq ?_
    refine awp_seq ?_
    refine awp_region ?_
    refine aops_move (iV n7) wants_none rfl rfl ?_
    refine aops_move (iV n8) wants_none rfl rfl ?_
    refine aops_bin (.bool (decide (n7 < n8))) wants_none rfl rfl rfl rfl ?_
    refine aops_nil ?_
    refine awp_cond (decide (n7 < n8)) rfl (fun hb9 => ?_) (fun hb9 => ?_)
    · replace h := ite_t hb9 h
      refine awp_skip ?_
      refine awp_block ?_
      refine awp_seq ?_
      refine awp_region ?_
      refine aops_move (iV n7) wants_none rfl rfl ?_
      refine aops_move (iV n8) wants_none rfl rfl ?_
      refine aops_bin (.int .i64 (w64 (n7 + n8))) wants_none rfl rfl rfl rfl ?_
      refine aops_convInt tU150 ⟨_, tU3⟩ wants_none rfl rfl ?_
      refine aops_bin (.int .u64 (Int.fdiv (IntKind.wrap .u64 (w64 (n7 + n8))) (2 ^ (min (Int.toNat 1) (IntKind.bits .u64))))) wants_none rfl rfl rfl rfl ?_
      refine aops_convInt tU3 ⟨_, tU150⟩ wants_none rfl rfl ?_
      refine aops_assign (iV (w64 (Int.fdiv (IntKind.wrap .u64 (w64 (n7 + n8))) (2 ^ (min (Int.toNat 1) (IntKind.bits .u64)))))) wants_none rfl rfl ?_
      refine aops_nil ?_
      refine awp_seq ?_
      refine awp_region ?_
      refine aops_move (V.lst 1 (a1.map encI_i64)) wants_none rfl rfl ?_
      refine aops_move (iV (w64 (Int.fdiv (IntKind.wrap .u64 (w64 (n7 + n8))) (2 ^ (min (Int.toNat 1) (IntKind.bits .u64)))))) wants_none rfl rfl ?_
      replace h := bind_some h
      obtain ⟨x10, hx11, h⟩ := h
      refine aops_index_lst [(iV x10)] tSl22 wants_none rfl rfl (idx_some hx11).1 (idx_map encI_i64 hx11) rfl ?_
      refine aops_iload_cell (iV x10) tC3 wants_none rfl rfl rfl ?_
      refine aops_move (iV a2) wants_none rfl rfl ?_
      replace h := bind_some h
      obtain ⟨y12, hx13, h⟩ := h
      refine aops_call (bV y12) [(iV x10), (iV a2)] fOk108 wants_none (evm_cons rfl (evm_cons rfl evm_nil)) (.cons (Imm.con _) (.cons (Imm.con _) .nil)) (W108 F x10 a2 y12 hx13) rfl ?_
      refine aops_nil ?_
      replace h := jn_elim h
      obtain ⟨k14, hk14, h⟩ := h
      refine awp_cut (fun (p : Int × Int) => (⟨[(0, (V.lst 1 (a1.map encI_i64))), (1, (iV a2)), (6, (iV ((a1.length : Nat) : Int))), (7, (iV (p.1))), (8, (iV (p.2)))], [], 0⟩ : St)) (fun (p : Int × Int) => k14 p.1 p.2 = some r) ?_ ?_
      · clear hk14
        refine awp_cond y12 rfl (fun hb17 => ?_) (fun hb17 => ?_)
        · replace h := ite_t hb17 h
          refine awp_region ?_
          refine aops_move (iV (w64 (Int.fdiv (IntKind.wrap .u64 (w64 (n7 + n8))) (2 ^ (min (Int.toNat 1) (IntKind.bits .u64)))))) wants_none rfl rfl ?_
          refine aops_bin (.int .i64 (w64 ((w64 (Int.fdiv (IntKind.wrap .u64 (w64 (n7 + n8))) (2 ^ (min (Int.toNat 1) (IntKind.bits .u64))))) + 1))) wants_none rfl rfl rfl rfl ?_
          refine aops_assign (iV (w64 ((w64 (Int.fdiv (IntKind.wrap .u64 (w64 (n7 + n8))) (2 ^ (min (Int.toNat 1) (IntKind.bits .u64))))) + 1))) wants_none rfl rfl ?_
          refine aops_nil ?_
          exact ⟨((w64 ((w64 (Int.fdiv (IntKind.wrap .u64 (w64 (n7 + n8))) (2 ^ (min (Int.toNat 1) (IntKind.bits .u64))))) + 1)), n8), h, (ghost_ren 0 (fun i => ([] : List Nat).getD i 0) _ _ (by decide) (EnvSub.get (.cons (Sub.imm (Imm.lst _ _)) (.cons (Sub.imm (Imm.con _)) (.cons (Sub.imm (Imm.con _)) (.cons (Sub.imm (Imm.con _)) (.cons (Sub.imm (Imm.con _)) .nil)))))) (HpSub.get .nil) rfl)⟩
        · replace h := ite_f hb17 h
          refine awp_region ?_
          refine aops_move (iV (w64 (Int.fdiv (IntKind.wrap .u64 (w64 (n7 + n8))) (2 ^ (min (Int.toNat 1) (IntKind.bits .u64)))))) wants_none rfl rfl ?_
          refine aops_assign (iV (w64 (Int.fdiv (IntKind.wrap .u64 (w64 (n7 + n8))) (2 ^ (min (Int.toNat 1) (IntKind.bits .u64)))))) wants_none rfl rfl ?_
          refine aops_nil ?_
          exact ⟨(n7, (w64 (Int.fdiv (IntKind.wrap .u64 (w64 (n7 + n8))) (2 ^ (min (Int.toNat 1) (IntKind.bits .u64)))))), h, (ghost_ren 0 (fun i => ([] : List Nat).getD i 0) _ _ (by decide) (EnvSub.get (.cons (Sub.imm (Imm.lst _ _)) (.cons (Sub.imm (Imm.con _)) (.cons (Sub.imm (Imm.con _)) (.cons (Sub.imm (Imm.con _)) (.cons (Sub.imm (Imm.con _)) .nil)))))) (HpSub.get .nil) rfl)⟩
      · clear h
        rintro ⟨n15, n16⟩ h
        subst hk14
        exact awp_back (ih1 (n15, n16) h) (ghost_ren 0 (fun i => ([] : List Nat).getD i 0) _ _ (by decide) (EnvSub.get (.cons (Sub.imm (Imm.lst _ _)) (.cons (Sub.imm (Imm.con _)) (.cons (Sub.imm (Imm.con _)) (.cons (Sub.imm (Imm.con _)) (.cons (Sub.imm (Imm.con _)) .nil)))))) (HpSub.get .nil) rfl)
    · replace h := ite_f hb9 h
      refine awp_exit ?_
      exact ⟨n7, h, (ghost_ren 0 (fun i => ([] : List Nat).getD i 0) _ _ (by decide) (EnvSub.get (.cons (Sub.imm (Imm.lst _ _)) (.cons (Sub.imm (Imm.con _)) (.cons (Sub.imm (Imm.con _)) (.cons (Sub.imm (Imm.con _)) .nil))))) (HpSub.get .nil) rfl)⟩
  · clear h
    intro n4 h
    subst hk3
    refine awp_seq ?_
    refine awp_region ?_
    refine aops_move (iV n4) wants_none rfl rfl ?_
    refine aops_move (iV n4) wants_none rfl rfl ?_
    refine aops_move (iV ((a1.length : Nat) : Int)) wants_none rfl rfl ?_
    refine aops_bin (.bool (decide (n4 < ((a1.length : Nat) : Int)))) wants_none rfl rfl rfl rfl ?_
    refine aops_move (bV (decide (n4 < ((a1.length : Nat) : Int)))) wants_none rfl rfl ?_
    rcases Bool.eq_false_or_eq_true (decide (n4 < ((a1.length : Nat) : Int))) with hb18 | hb18
    · replace h := ite_t hb18 h
      refine aops_move (V.lst 1 (a1.map encI_i64)) (wants_some (c := (decide (n4 < ((a1.length : Nat) : Int)))) (b := true) 35 rfl rfl hb18) rfl rfl ?_
      refine aops_move (iV n4) (wants_some (c := (decide (n4 < ((a1.length : Nat) : Int)))) (b := true) 35 rfl rfl hb18) rfl rfl ?_
      replace h := bind_some h
      obtain ⟨x19, hx20, h⟩ := h
      refine aops_index_lst [(iV x19)] tSl22 (wants_some (c := (decide (n4 < ((a1.length : Nat) : Int)))) (b := true) 35 rfl rfl hb18) rfl rfl (idx_some hx20).1 (idx_map encI_i64 hx20) rfl ?_
      refine aops_iload_cell (iV x19) tC3 (wants_some (c := (decide (n4 < ((a1.length : Nat) : Int)))) (b := true) 35 rfl rfl hb18) rfl rfl rfl ?_
      refine aops_move (iV a2) (wants_some (c := (decide (n4 < ((a1.length : Nat) : Int)))) (b := true) 35 rfl rfl hb18) rfl rfl ?_
      refine aops_bin (.bool (x19 == a2)) (wants_some (c := (decide (n4 < ((a1.length : Nat) : Int)))) (b := true) 35 rfl rfl hb18) rfl rfl rfl rfl ?_
      refine aops_move (bV (x19 == a2)) (wants_some (c := (decide (n4 < ((a1.length : Nat) : Int)))) (b := true) 35 rfl rfl hb18) rfl rfl ?_
      rcases Bool.eq_false_or_eq_true (x19 == a2) with hb21 | hb21
      · replace h := ite_t hb21 h
        refine aops_skip (wants_some (c := (x19 == a2)) (b := true) 42 rfl rfl hb21) rfl rfl ?_
        refine aops_skip (wants_some (c := (x19 == a2)) (b := true) 42 rfl rfl hb21) rfl rfl ?_
        refine aops_skip (wants_some (c := (x19 == a2)) (b := true) 42 rfl rfl hb21) rfl rfl ?_
        refine aops_skip (wants_some (c := (x19 == a2)) (b := true) 42 rfl rfl hb21) rfl rfl ?_
        refine aops_skip (wants_some (c := (x19 == a2)) (b := true) 42 rfl rfl hb21) rfl rfl ?_
        refine aops_skip (wants_some (c := (x19 == a2)) (b := true) 42 rfl rfl hb21) rfl rfl ?_
        refine aops_skip (wants_undef 48 rfl rfl) rfl rfl ?_
        refine aops_skip (wants_undef 48 rfl rfl) rfl rfl ?_
        refine aops_skip (wants_some (c := (x19 == a2)) (b := true) 42 rfl rfl hb21) rfl rfl ?_
        refine aops_pick true (cb := (x19 == a2)) (bV true) (wants_some (c := (decide (n4 < ((a1.length : Nat) : Int)))) (b := true) 35 rfl rfl hb18) rfl hb21 rfl rfl ?_
        refine aops_pick true (cb := (decide (n4 < ((a1.length : Nat) : Int)))) (bV true) wants_none rfl hb18 rfl rfl ?_
        refine aops_assign (iV n4) wants_none rfl rfl ?_
        refine aops_assign (bV true) wants_none rfl rfl ?_
        refine aops_nil ?_
        refine awp_ret ?_
        obtain rfl := Option.some.inj h
        exact ⟨.inl rfl, .two (.tmp rfl (Imm.con _)) (.tmp rfl (Imm.con _))⟩
      · replace h := ite_f hb21 h
        refine aops_move (V.lst 1 (a1.map encI_i64)) (wants_some (c := (x19 == a2)) (b := false) 42 rfl rfl hb21) rfl rfl ?_
        refine aops_move (iV n4) (wants_some (c := (x19 == a2)) (b := false) 42 rfl rfl hb21) rfl rfl ?_
        replace h := bind_some h
        obtain ⟨x22, hx23, h⟩ := h
        refine aops_index_lst [(iV x22)] tSl22 (wants_some (c := (x19 == a2)) (b := false) 42 rfl rfl hb21) rfl rfl (idx_some hx23).1 (idx_map encI_i64 hx23) rfl ?_
        refine aops_iload_cell (iV x22) tC3 (wants_some (c := (x19 == a2)) (b := false) 42 rfl rfl hb21) rfl rfl rfl ?_
        replace h := bind_some h
        obtain ⟨y24, hx25, h⟩ := h
        refine aops_call (bV y24) [(iV x22)] fOk109 (wants_some (c := (x19 == a2)) (b := false) 42 rfl rfl hb21) (evm_cons rfl evm_nil) (.cons (Imm.con _) .nil) (W109 F x22 y24 hx25) rfl ?_
        refine aops_move (bV y24) (wants_some (c := (x19 == a2)) (b := false) 42 rfl rfl hb21) rfl rfl ?_
        rcases Bool.eq_false_or_eq_true y24 with hb26 | hb26
        · replace h := ite_t hb26 h
          refine aops_move (iV a2) (wants_some (c := y24) (b := true) 48 rfl rfl hb26) rfl rfl ?_
          replace h := bind_some h
          obtain ⟨y27, hx28, h⟩ := h
          refine aops_call (bV y27) [(iV a2)] fOk109 (wants_some (c := y24) (b := true) 48 rfl rfl hb26) (evm_cons rfl evm_nil) (.cons (Imm.con _) .nil) (W109 F a2 y27 hx28) rfl ?_
          refine aops_pick true (cb := y24) (bV y27) (wants_some (c := (x19 == a2)) (b := false) 42 rfl rfl hb21) rfl hb26 rfl rfl ?_
          refine aops_pick false (cb := (x19 == a2)) (bV y27) (wants_some (c := (decide (n4 < ((a1.length : Nat) : Int)))) (b := true) 35 rfl rfl hb18) rfl hb21 rfl rfl ?_
          refine aops_pick true (cb := (decide (n4 < ((a1.length : Nat) : Int)))) (bV y27) wants_none rfl hb18 rfl rfl ?_
          refine aops_assign (iV n4) wants_none rfl rfl ?_
          refine aops_assign (bV y27) wants_none rfl rfl ?_
          refine aops_nil ?_
          refine awp_ret ?_
          obtain rfl := Option.some.inj h
          exact ⟨.inl rfl, .two (.tmp rfl (Imm.con _)) (.tmp rfl (Imm.con _))⟩
        · replace h := ite_f hb26 h
          refine aops_skip (wants_some (c := y24) (b := false) 48 rfl rfl hb26) rfl rfl ?_
          refine aops_skip (wants_some (c := y24) (b := false) 48 rfl rfl hb26) rfl rfl ?_
          refine aops_pick false (cb := y24) (bV false) (wants_some (c := (x19 == a2)) (b := false) 42 rfl rfl hb21) rfl hb26 rfl rfl ?_
          refine aops_pick false (cb := (x19 == a2)) (bV false) (wants_some (c := (decide (n4 < ((a1.length : Nat) : Int)))) (b := true) 35 rfl rfl hb18) rfl hb21 rfl rfl ?_
          refine aops_pick true (cb := (decide (n4 < ((a1.length : Nat) : Int)))) (bV false) wants_none rfl hb18 rfl rfl ?_
          refine aops_assign (iV n4) wants_none rfl rfl ?_
          refine aops_assign (bV false) wants_none rfl rfl ?_
          refine aops_nil ?_
          refine awp_ret ?_
          obtain rfl := Option.some.inj h
          exact ⟨.inl rfl, .two (.tmp rfl (Imm.con _)) (.tmp rfl (Imm.con _))⟩
    · replace h := ite_f hb18 h
      refine aops_skip (wants_some (c := (decide (n4 < ((a1.length : Nat) : Int)))) (b := false) 35 rfl rfl hb18) rfl rfl ?_
      refine aops_skip (wants_some (c := (decide (n4 < ((a1.length : Nat) : Int)))) (b := false) 35 rfl rfl hb18) rfl rfl ?_
      refine aops_skip (wants_some (c := (decide (n4 < ((a1.length : Nat) : Int)))) (b := false) 35 rfl rfl hb18) rfl rfl ?_
      refine aops_skip (wants_some (c := (decide (n4 < ((a1.length : Nat) : Int)))) (b := false) 35 rfl rfl hb18) rfl rfl ?_
      refine aops_skip (wants_some (c := (decide (n4 < ((a1.length : Nat) : Int)))) (b := false) 35 rfl rfl hb18) rfl rfl ?_
      refine aops_skip (wants_some (c := (decide (n4 < ((a1.length : Nat) : Int)))) (b := false) 35 rfl rfl hb18) rfl rfl ?_
      refine aops_skip (wants_some (c := (decide (n4 < ((a1.length : Nat) : Int)))) (b := false) 35 rfl rfl hb18) rfl rfl ?_
      refine aops_skip (wants_undef 42 rfl rfl) rfl rfl ?_
      refine aops_skip (wants_undef 42 rfl rfl) rfl rfl ?_
      refine aops_skip (wants_undef 42 rfl rfl) rfl rfl ?_
      refine aops_skip (wants_undef 42 rfl rfl) rfl rfl ?_
      refine aops_skip (wants_undef 42 rfl rfl) rfl rfl ?_
      refine aops_skip (wants_undef 42 rfl rfl) rfl rfl ?_
      refine aops_skip (wants_undef 48 rfl rfl) rfl rfl ?_
      refine aops_skip (wants_undef 48 rfl rfl) rfl rfl ?_
      refine aops_skip (wants_undef 42 rfl rfl) rfl rfl ?_
      refine aops_skip (wants_some (c := (decide (n4 < ((a1.length : Nat) : Int)))) (b := false) 35 rfl rfl hb18) rfl rfl ?_
      refine aops_pick false (cb := (decide (n4 < ((a1.length : Nat) : Int)))) (bV false) wants_none rfl hb18 rfl rfl ?_
      refine aops_assign (iV n4) wants_none rfl rfl ?_
      refine aops_assign (bV false) wants_none rfl rfl ?_
      refine aops_nil ?_
      refine awp_ret ?_
      obtain rfl := Option.some.inj h
      exact ⟨.inl rfl, .two (.tmp rfl (Imm.con _)) (.tmp rfl (Imm.con _))⟩

theorem W71 (F : Nat) (a1 : Thistory_week) (a2 : Int) (r : Int) (h : M71 F a1 a2 = some r) : Pure Try.prog 71 [(V.agg [(bV (a1.free 0)), (bV (a1.free 1)), (bV (a1.free 2)), (bV (a1.free 3)), (bV (a1.free 4)), (bV (a1.free 5)), (bV (a1.free 6)), (iV a1.work), (V.lst 1 (a1.holidays.map encI_i64))]), (iV a2)] (iV r) := by
  refine pure_enter Try.func71 rfl rfl (l := [.tmp 4]) rfl rfl [(0, (V.agg [(bV (a1.free 0)), (bV (a1.free 1)), (bV (a1.free 2)), (bV (a1.free 3)), (bV (a1.free 4)), (bV (a1.free 5)), (bV (a1.free 6)), (iV a1.work), (V.lst 1 (a1.holidays.map encI_i64))])), (1, (iV a2))] rfl (fun w0 m0 => ?_)
  unfold M71 at h
  refine awp_seq ?_
  refine awp_region ?_
  refine aops_box [(bV (a1.free 0)), (bV (a1.free 1)), (bV (a1.free 2)), (bV (a1.free 3)), (bV (a1.free 4)), (bV (a1.free 5)), (bV (a1.free 6)), (iV a1.work), (V.lst 1 (a1.holidays.map encI_i64))] wants_none rfl rfl rfl rfl ?_
  refine aops_assign (iV 0) wants_none rfl rfl ?_
  refine aops_nil ?_
  refine awp_seq ?_
  refine awp_region ?_
  refine aops_move (iV a2) wants_none rfl rfl ?_
  refine aops_bin (.int .i64 (w64 (Int.tdiv a2 7))) wants_none rfl rfl rfl rfl ?_
  refine aops_fieldAddr tF101_1 wants_none rfl rfl ?_
  refine aops_load_cell (iV a1.work) tC3 wants_none rfl rfl rfl rfl rfl ?_
  refine aops_bin (.int .i64 (w64 ((w64 (Int.tdiv a2 7)) * a1.work))) wants_none rfl rfl rfl rfl ?_
  refine aops_assign (iV (w64 ((w64 (Int.tdiv a2 7)) * a1.work))) wants_none rfl rfl ?_
  refine aops_nil ?_
  refine awp_seq ?_
  refine awp_seq ?_
  refine awp_region ?_
  refine aops_move (iV a2) wants_none rfl rfl ?_
  refine aops_bin (.int .i64 (Int.tmod a2 7)) wants_none rfl rfl rfl rfl ?_
  refine aops_move (iV 0) wants_none rfl rfl ?_
  refine aops_nil ?_
  replace h := jn_elim h
  obtain ⟨k3, hk3, h⟩ := h
  refine awp_cut (fun (p : Int) => (⟨[(1, (iV a2)), (2, (V.ptr 0 9 0 0)), (5, (iV p))], [(0, (Ob.arr 101 9 [[(bV (a1.free 0)), (bV (a1.free 1)), (bV (a1.free 2)), (bV (a1.free 3)), (bV (a1.free 4)), (bV (a1.free 5)), (bV (a1.free 6)), (iV a1.work), (V.lst 1 (a1.holidays.map encI_i64))]]))], 1⟩ : St)) (fun (p : Int) => k3 p = some r) ?_ ?_
  · clear hk3
    refine awp_block ?_
    refine awp_loop_ind (fun (p : Int × Int) => (⟨[(1, (iV a2)), (2, (V.ptr 0 9 0 0)), (5, (iV (p.1))), (15, (iV (Int.tmod a2 7))), (16, (iV (p.2)))], [(0, (Ob.arr 101 9 [[(bV (a1.free 0)), (bV (a1.free 1)), (bV (a1.free 2)), (bV (a1.free 3)), (bV (a1.free 4)), (bV (a1.free 5)), (bV (a1.free 6)), (iV a1.work), (V.lst 1 (a1.holidays.map encI_i64))]]))], 1⟩ : St)) (fun n (p : Int × Int) => M71_L1 F a1 a2 k3 n p.1 p.2 = some r) (fun p h => by simp [M71_L1] at h) (fun n ih1 p h => ?_) F ((w64 ((w64 (Int.tdiv a2 7)) * a1.work)), 0) h (ghost_ren 1 (fun i => ([0] : List Nat).getD i 0) _ _ (by decide) (EnvSub.get (.cons (Sub.imm (Imm.con _)) (.cons (Sub.ptr rfl rfl) (.cons (Sub.imm (Imm.con _)) (.cons (Sub.imm (Imm.con _)) (.cons (Sub.imm (Imm.con _)) .nil)))))) (HpSub.get (.cons rfl (ObSub.box (.cons (Sub.imm (Imm.con _)) (.cons (Sub.imm (Imm.con _)) (.cons (Sub.imm (Imm.con _)) (.cons (Sub.imm (Imm.con _)) (.cons (Sub.imm (Imm.con _)) (.cons (Sub.imm (Imm.con _)) (.cons (Sub.imm (Imm.con _)) (.cons (Sub.imm (Imm.con _)) (.cons (Sub.imm (Imm.lst _ _)) .nil)))))))))) .nil)) rfl)
    obtain ⟨n7, n8⟩ := p
    unfold M71_L1 at h
    refine awp_loop ?_
    refine awp_seq ?_
    refine awp_region ?_
    refine aops_bin (.bool (decide (n8 < (Int.tmod a2 7)))) wants_none rfl rfl rfl rfl ?_
    refine aops_nil ?_
    refine awp_seq ?_
    refine awp_cond (decide (n8 < (Int.tmod a2 7))) rfl (fun hb9 => ?_) (fun hb9 => ?_)
    · replace h := ite_t hb9 h
      refine awp_skip ?_
      refine awp_seq ?_
      refine awp_block ?_
      refine awp_seq ?_
      refine awp_region ?_
      refine aops_move (iV n8) wants_none rfl rfl ?_
      refine aops_assign (iV n8) wants_none rfl rfl ?_
      refine aops_nil ?_
      refine awp_seq ?_
      refine awp_region ?_
      refine aops_move (iV n8) wants_none rfl rfl ?_
      refine aops_fieldAddr tF101_0 wants_none rfl rfl ?_
      replace h := chk_some h
      obtain ⟨hc10, h⟩ := h
      refine aops_index_arr tArr99 wants_none rfl rfl hc10.1 hc10.2 rfl ?_
      refine aops_load_cell (bV (a1.free n8.toNat)) tC4 wants_none rfl rfl rfl (arr_get [] [(iV a1.work), (V.lst 1 (a1.holidays.map encI_i64))] (fun i => (bV (a1.free i))) hc10.2 rfl (by simp)) rfl ?_
      refine aops_not wants_none rfl rfl ?_
      refine aops_nil ?_
      replace h := jn_elim h
      obtain ⟨k11, hk11, h⟩ := h
      refine awp_cut (fun (p : Int) => (⟨[(1, (iV a2)), (2, (V.ptr 0 9 0 0)), (5, (iV p)), (15, (iV (Int.tmod a2 7))), (16, (iV n8))], [(0, (Ob.arr 101 9 [[(bV (a1.free 0)), (bV (a1.free 1)), (bV (a1.free 2)), (bV (a1.free 3)), (bV (a1.free 4)), (bV (a1.free 5)), (bV (a1.free 6)), (iV a1.work), (V.lst 1 (a1.holidays.map encI_i64))]]))], 1⟩ : St)) (fun (p : Int) => k11 p = some r) ?_ ?_
      · clear hk11
        refine awp_cond (!(a1.free n8.toNat)) rfl (fun hb13 => ?_) (fun hb13 => ?_)
        · replace h := ite_t hb13 h
          refine awp_region ?_
          refine aops_move (iV n7) wants_none rfl rfl ?_
          refine aops_bin (.int .i64 (w64 (n7 + 1))) wants_none rfl rfl rfl rfl ?_
          refine aops_assign (iV (w64 (n7 + 1))) wants_none rfl rfl ?_
          refine aops_nil ?_
          exact ⟨(w64 (n7 + 1)), h, (ghost_ren 1 (fun i => ([0] : List Nat).getD i 0) _ _ (by decide) (EnvSub.get (.cons (Sub.imm (Imm.con _)) (.cons (Sub.ptr rfl rfl) (.cons (Sub.imm (Imm.con _)) (.cons (Sub.imm (Imm.con _)) (.cons (Sub.imm (Imm.con _)) .nil)))))) (HpSub.get (.cons rfl (ObSub.box (.cons (Sub.imm (Imm.con _)) (.cons (Sub.imm (Imm.con _)) (.cons (Sub.imm (Imm.con _)) (.cons (Sub.imm (Imm.con _)) (.cons (Sub.imm (Imm.con _)) (.cons (Sub.imm (Imm.con _)) (.cons (Sub.imm (Imm.con _)) (.cons (Sub.imm (Imm.con _)) (.cons (Sub.imm (Imm.lst _ _)) .nil)))))))))) .nil)) rfl)⟩
        · replace h := ite_f hb13 h
          refine awp_skip ?_
          exact ⟨n7, h, (ghost_ren 1 (fun i => ([0] : List Nat).getD i 0) _ _ (by decide) (EnvSub.get (.cons (Sub.imm (Imm.con _)) (.cons (Sub.ptr rfl rfl) (.cons (Sub.imm (Imm.con _)) (.cons (Sub.imm (Imm.con _)) (.cons (Sub.imm (Imm.con _)) .nil)))))) (HpSub.get (.cons rfl (ObSub.box (.cons (Sub.imm (Imm.con _)) (.cons (Sub.imm (Imm.con _)) (.cons (Sub.imm (Imm.con _)) (.cons (Sub.imm (Imm.con _)) (.cons (Sub.imm (Imm.con _)) (.cons (Sub.imm (Imm.con _)) (.cons (Sub.imm (Imm.con _)) (.cons (Sub.imm (Imm.con _)) (.cons (Sub.imm (Imm.lst _ _)) .nil)))))))))) .nil)) rfl)⟩
      · clear h
        intro n12 h
        subst hk11
        refine awp_region ?_
        refine aops_bin (.int .i64 (w64 (n8 + 1))) wants_none rfl rfl rfl rfl ?_
        refine aops_move (iV (w64 (n8 + 1))) wants_none rfl rfl ?_
        refine aops_nil ?_
        exact awp_back (ih1 (n12, (w64 (n8 + 1))) h) (ghost_ren 1 (fun i => ([0] : List Nat).getD i 0) _ _ (by decide) (EnvSub.get (.cons (Sub.imm (Imm.con _)) (.cons (Sub.ptr rfl rfl) (.cons (Sub.imm (Imm.con _)) (.cons (Sub.imm (Imm.con _)) (.cons (Sub.imm (Imm.con _)) .nil)))))) (HpSub.get (.cons rfl (ObSub.box (.cons (Sub.imm (Imm.con _)) (.cons (Sub.imm (Imm.con _)) (.cons (Sub.imm (Imm.con _)) (.cons (Sub.imm (Imm.con _)) (.cons (Sub.imm (Imm.con _)) (.cons (Sub.imm (Imm.con _)) (.cons (Sub.imm (Imm.con _)) (.cons (Sub.imm (Imm.con _)) (.cons (Sub.imm (Imm.lst _ _)) .nil)))))))))) .nil)) rfl)
    · replace h := ite_f hb9 h
      refine awp_exit ?_
      exact ⟨n7, h, (ghost_ren 1 (fun i => ([0] : List Nat).getD i 0) _ _ (by decide) (EnvSub.get (.cons (Sub.imm (Imm.con _)) (.cons (Sub.ptr rfl rfl) (.cons (Sub.imm (Imm.con _)) .nil)))) (HpSub.get (.cons rfl (ObSub.box (.cons (Sub.imm (Imm.con _)) (.cons (Sub.imm (Imm.con _)) (.cons (Sub.imm (Imm.con _)) (.cons (Sub.imm (Imm.con _)) (.cons (Sub.imm (Imm.con _)) (.cons (Sub.imm (Imm.con _)) (.cons (Sub.imm (Imm.con _)) (.cons (Sub.imm (Imm.con _)) (.cons (Sub.imm (Imm.lst _ _)) .nil)))))))))) .nil)) rfl)⟩
  · clear h
    intro n4 h
    subst hk3
    refine awp_seq ?_
    refine awp_region ?_
    refine aops_fieldAddr tF101_2 wants_none rfl rfl ?_
    refine aops_load_cell (V.lst 1 (a1.holidays.map encI_i64)) tC22 wants_none rfl rfl rfl rfl rfl ?_
    refine aops_move (iV a2) wants_none rfl rfl ?_
    replace h := bind_some h
    obtain ⟨y14, hx15, h⟩ := h
    refine aops_call (V.tup [(iV (y14.1)), (bV (y14.2))]) [(V.lst 1 (a1.holidays.map encI_i64)), (iV a2)] fOk53 wants_none (evm_cons rfl (evm_cons rfl evm_nil)) (.cons (Imm.lst _ _) (.cons (Imm.con _) .nil)) (W53 F a1.holidays a2 y14 hx15) rfl ?_
    refine aops_move (V.tup [(iV (y14.1)), (bV (y14.2))]) wants_none rfl rfl ?_
    refine aops_extract (iV (y14.1)) wants_none rfl rfl rfl ?_
    refine aops_extract (bV (y14.2)) wants_none rfl rfl rfl ?_
    refine aops_assign (iV (y14.1)) wants_none rfl rfl ?_
    refine aops_assign (bV (y14.2)) wants_none rfl rfl ?_
    refine aops_nil ?_
    refine awp_seq ?_
    refine awp_region ?_
    refine aops_move (iV n4) wants_none rfl rfl ?_
    refine aops_move (iV (y14.1)) wants_none rfl rfl ?_
    refine aops_bin (.int .i64 (w64 (n4 - (y14.1)))) wants_none rfl rfl rfl rfl ?_
    refine aops_assign (iV (w64 (n4 - (y14.1)))) wants_none rfl rfl ?_
    refine aops_nil ?_
    refine awp_ret ?_
    obtain rfl := Option.some.inj h
    exact ⟨.inl rfl, .one (.tmp rfl (Imm.con _))⟩

theorem W15 (F : Nat) (a1 : TCalendar) (a2 : Int) (r : (Bool × Int)) (h : M15 F a1 a2 = some r) : Pure Try.prog 15 [(V.agg [(V.lst 1 (a1.Free.map encI_i64)), (V.lst 1 (a1.Holidays.map encI_i64))]), (iV a2)] (V.tup [(bV (r.1)), (iV (r.2))]) := by
  refine pure_enter Try.func15 rfl rfl (l := [.tmp 4, .tmp 5]) rfl rfl [(0, (V.agg [(V.lst 1 (a1.Free.map encI_i64)), (V.lst 1 (a1.Holidays.map encI_i64))])), (1, (iV a2))] rfl (fun w0 m0 => ?_)
  unfold M15 at h
  refine awp_seq ?_
  refine awp_region ?_
  refine aops_box [(V.lst 1 (a1.Free.map encI_i64)), (V.lst 1 (a1.Holidays.map encI_i64))] wants_none rfl rfl rfl rfl ?_
  refine aops_assign (bV false) wants_none rfl rfl ?_
  refine aops_assign (iV 0) wants_none rfl rfl ?_
  refine aops_nil ?_
  refine awp_seq ?_
  refine awp_seq ?_
  refine awp_region ?_
  refine aops_load_agg (cs := [(V.lst 1 (a1.Free.map encI_i64)), (V.lst 1 (a1.Holidays.map encI_i64))]) tA24 wants_none rfl rfl rfl rfl rfl rfl ?_
  replace h := bind_some h
  obtain ⟨y3, hx4, h⟩ := h
  refine aops_call (iV y3) [(V.agg [(V.lst 1 (a1.Free.map encI_i64)), (V.lst 1 (a1.Holidays.map encI_i64))])] fOk21 wants_none (evm_cons rfl evm_nil) (.cons (Imm.agg (.cons (Imm.lst _ _) (.cons (Imm.lst _ _) .nil))) .nil) (W21 F a1 y3 hx4) rfl ?_
  refine aops_assign (iV y3) wants_none rfl rfl ?_
  refine aops_nil ?_
  refine awp_seq ?_
  refine awp_region ?_
  refine aops_move (iV y3) wants_none rfl rfl ?_
  refine aops_bin (.bool (y3 != 0)) wants_none rfl rfl rfl rfl ?_
  refine aops_nil ?_
  refine awp_cond (y3 != 0) rfl (fun hb5 => ?_) (fun hb5 => ?_)
  · replace h := ite_t hb5 h
    refine awp_seq ?_
    refine awp_region ?_
    refine aops_move (iV y3) wants_none rfl rfl ?_
    refine aops_assign (bV false) wants_none rfl rfl ?_
    refine aops_assign (iV y3) wants_none rfl rfl ?_
    refine aops_nil ?_
    refine awp_ret ?_
    obtain rfl := Option.some.inj h
    exact ⟨.inl rfl, .two (.tmp rfl (Imm.con _)) (.tmp rfl (Imm.con _))⟩
  · replace h := ite_f hb5 h
    refine awp_skip ?_
    refine awp_seq ?_
    refine awp_seq ?_
    refine awp_region ?_
    refine aops_move (iV a2) wants_none rfl rfl ?_
    replace h := bind_some h
    obtain ⟨y6, hx7, h⟩ := h
    refine aops_call (bV y6) [(iV a2)] fOk69 wants_none (evm_cons rfl evm_nil) (.cons (Imm.con _) .nil) (W69 F a2 y6 hx7) rfl ?_
    refine aops_not wants_none rfl rfl ?_
    refine aops_nil ?_
    refine awp_cond (!y6) rfl (fun hb8 => ?_) (fun hb8 => ?_)
    · replace h := ite_t hb8 h
      refine awp_seq ?_
      refine awp_region ?_
      refine aops_assign (bV false) wants_none rfl rfl ?_
      refine aops_assign (iV 9) wants_none rfl rfl ?_
      refine aops_nil ?_
      refine awp_ret ?_
      obtain rfl := Option.some.inj h
      exact ⟨.inl rfl, .two (.tmp rfl (Imm.con _)) (.tmp rfl (Imm.con _))⟩
    · replace h := ite_f hb8 h
      refine awp_skip ?_
      refine awp_seq ?_
      refine awp_region ?_
      refine aops_load_agg (cs := [(V.lst 1 (a1.Free.map encI_i64)), (V.lst 1 (a1.Holidays.map encI_i64))]) tA24 wants_none rfl rfl rfl rfl rfl rfl ?_
      replace h := bind_some h
      obtain ⟨y9, hx10, h⟩ := h
      refine aops_call (V.agg [(bV (y9.free 0)), (bV (y9.free 1)), (bV (y9.free 2)), (bV (y9.free 3)), (bV (y9.free 4)), (bV (y9.free 5)), (bV (y9.free 6)), (iV y9.work), (V.lst 1 (y9.holidays.map encI_i64))]) [(V.agg [(V.lst 1 (a1.Free.map encI_i64)), (V.lst 1 (a1.Holidays.map encI_i64))])] fOk70 wants_none (evm_cons rfl evm_nil) (.cons (Imm.agg (.cons (Imm.lst _ _) (.cons (Imm.lst _ _) .nil))) .nil) (W70 F a1 y9 hx10) rfl ?_
      refine aops_alloc tZ101 rfl rfl wants_none rfl ?_
      refine aops_store [(bV (y9.free 0)), (bV (y9.free 1)), (bV (y9.free 2)), (bV (y9.free 3)), (bV (y9.free 4)), (bV (y9.free 5)), (bV (y9.free 6)), (iV y9.work), (V.lst 1 (y9.holidays.map encI_i64))] [[(bV (y9.free 0)), (bV (y9.free 1)), (bV (y9.free 2)), (bV (y9.free 3)), (bV (y9.free 4)), (bV (y9.free 5)), (bV (y9.free 6)), (iV y9.work), (V.lst 1 (y9.holidays.map encI_i64))]] tS101 wants_none rfl rfl rfl rfl rfl rfl rfl rfl ?_
      refine aops_nil ?_
      refine awp_seq ?_
      replace h := bind_some h
      obtain ⟨y11, hx12, h⟩ := h
      replace h := bind_some h
      obtain ⟨y13, hx14, h⟩ := h
      refine awp_any [OD.mk [(7, (V.ptr 1 9 0 0))] [(1, (Ob.arr 101 9 [[(bV (y9.free 0)), (bV (y9.free 1)), (bV (y9.free 2)), (bV (y9.free 3)), (bV (y9.free 4)), (bV (y9.free 5)), (bV (y9.free 6)), (iV y9.work), (V.lst 1 (y9.holidays.map encI_i64))]]))] [(18, (V.agg [(bV (y9.free 0)), (bV (y9.free 1)), (bV (y9.free 2)), (bV (y9.free 3)), (bV (y9.free 4)), (bV (y9.free 5)), (bV (y9.free 6)), (iV y9.work), (V.lst 1 (y9.holidays.map encI_i64))]))] [],
            OD.mk [(1, (iV a2))] [] [(19, (iV a2))] [],
            OD.mk [(19, (iV a2))] [] [(20, (iV (w64 (a2 + 1))))] [],
            OD.mk [(18, (V.agg [(bV (y9.free 0)), (bV (y9.free 1)), (bV (y9.free 2)), (bV (y9.free 3)), (bV (y9.free 4)), (bV (y9.free 5)), (bV (y9.free 6)), (iV y9.work), (V.lst 1 (y9.holidays.map encI_i64))])), (20, (iV (w64 (a2 + 1))))] [] [(21, (iV y11))] [],
            OD.mk [(7, (V.ptr 1 9 0 0))] [(1, (Ob.arr 101 9 [[(bV (y9.free 0)), (bV (y9.free 1)), (bV (y9.free 2)), (bV (y9.free 3)), (bV (y9.free 4)), (bV (y9.free 5)), (bV (y9.free 6)), (iV y9.work), (V.lst 1 (y9.holidays.map encI_i64))]]))] [(22, (V.agg [(bV (y9.free 0)), (bV (y9.free 1)), (bV (y9.free 2)), (bV (y9.free 3)), (bV (y9.free 4)), (bV (y9.free 5)), (bV (y9.free 6)), (iV y9.work), (V.lst 1 (y9.holidays.map encI_i64))]))] [],
            OD.mk [(1, (iV a2))] [] [(23, (iV a2))] [],
            OD.mk [(22, (V.agg [(bV (y9.free 0)), (bV (y9.free 1)), (bV (y9.free 2)), (bV (y9.free 3)), (bV (y9.free 4)), (bV (y9.free 5)), (bV (y9.free 6)), (iV y9.work), (V.lst 1 (y9.holidays.map encI_i64))])), (23, (iV a2))] [] [(24, (iV y13))] [],
            OD.mk [(21, (iV y11)), (24, (iV y13))] [] [(25, (bV (decide (y11 > y13))))] [],
            OD.mk [(25, (bV (decide (y11 > y13))))] [] [(4, (bV (decide (y11 > y13))))] [],
            OD.mk [] [] [(5, (iV 0))] []] mixed ⟨⟨rfl, trivial⟩, ⟨rfl, trivial⟩, ⟨⟨rfl, trivial⟩, trivial, ⟨⟨rfl, trivial⟩, trivial, ⟨⟨rfl, rfl, trivial⟩, trivial, ⟨⟨rfl, trivial⟩, ⟨rfl, trivial⟩, ⟨⟨rfl, trivial⟩, trivial, ⟨⟨rfl, rfl, trivial⟩, trivial, ⟨⟨rfl, rfl, trivial⟩, trivial, ⟨⟨rfl, trivial⟩, trivial, ⟨trivial, trivial, trivial⟩⟩⟩⟩⟩⟩⟩⟩⟩⟩ (by kernel_rfl) (.cons (fun S hn h hh => aops_load_agg (cs := [(bV (y9.free 0)), (bV (y9.free 1)), (bV (y9.free 2)), (bV (y9.free 3)), (bV (y9.free 4)), (bV (y9.free 5)), (bV (y9.free 6)), (iV y9.work), (V.lst 1 (y9.holidays.map encI_i64))]) tA101 wants_none h.1 hh.1 rfl rfl rfl rfl (aops_nil ⟨rfl, rfl⟩)) (.cons (fun S hn h hh => aops_move (iV a2) wants_none h.1 rfl (aops_nil ⟨rfl, rfl⟩)) (.cons (fun S hn h hh => aops_bin (.int .i64 (w64 (a2 + 1))) wants_none h.1 rfl rfl rfl (aops_nil ⟨rfl, rfl⟩)) (.cons (fun S hn h hh => aops_call (iV y11) [(V.agg [(bV (y9.free 0)), (bV (y9.free 1)), (bV (y9.free 2)), (bV (y9.free 3)), (bV (y9.free 4)), (bV (y9.free 5)), (bV (y9.free 6)), (iV y9.work), (V.lst 1 (y9.holidays.map encI_i64))]), (iV (w64 (a2 + 1)))] fOk71 wants_none (evm_cons h.1 (evm_cons h.2.1 evm_nil)) (.cons (Imm.agg (.cons (Imm.con _) (.cons (Imm.con _) (.cons (Imm.con _) (.cons (Imm.con _) (.cons (Imm.con _) (.cons (Imm.con _) (.cons (Imm.con _) (.cons (Imm.con _) (.cons (Imm.lst _ _) .nil)))))))))) (.cons (Imm.con _) .nil)) (W71 F y9 (w64 (a2 + 1)) y11 hx12) rfl (aops_nil ⟨rfl, rfl⟩)) (.cons (fun S hn h hh => aops_load_agg (cs := [(bV (y9.free 0)), (bV (y9.free 1)), (bV (y9.free 2)), (bV (y9.free 3)), (bV (y9.free 4)), (bV (y9.free 5)), (bV (y9.free 6)), (iV y9.work), (V.lst 1 (y9.holidays.map encI_i64))]) tA101 wants_none h.1 hh.1 rfl rfl rfl rfl (aops_nil ⟨rfl, rfl⟩)) (.cons (fun S hn h hh => aops_move (iV a2) wants_none h.1 rfl (aops_nil ⟨rfl, rfl⟩)) (.cons (fun S hn h hh => aops_call (iV y13) [(V.agg [(bV (y9.free 0)), (bV (y9.free 1)), (bV (y9.free 2)), (bV (y9.free 3)), (bV (y9.free 4)), (bV (y9.free 5)), (bV (y9.free 6)), (iV y9.work), (V.lst 1 (y9.holidays.map encI_i64))]), (iV a2)] fOk71 wants_none (evm_cons h.1 (evm_cons h.2.1 evm_nil)) (.cons (Imm.agg (.cons (Imm.con _) (.cons (Imm.con _) (.cons (Imm.con _) (.cons (Imm.con _) (.cons (Imm.con _) (.cons (Imm.con _) (.cons (Imm.con _) (.cons (Imm.con _) (.cons (Imm.lst _ _) .nil)))))))))) (.cons (Imm.con _) .nil)) (W71 F y9 a2 y13 hx14) rfl (aops_nil ⟨rfl, rfl⟩)) (.cons (fun S hn h hh => aops_bin (.bool (decide (y11 > y13))) wants_none h.1 h.2.1 rfl rfl (aops_nil ⟨rfl, rfl⟩)) (.cons (fun S hn h hh => aops_assign (bV (decide (y11 > y13))) wants_none h.1 rfl (aops_nil ⟨rfl, rfl⟩)) (.cons (fun S hn h hh => aops_assign (iV 0) wants_none rfl rfl (aops_nil ⟨rfl, rfl⟩)) .nil)))))))))) ?_
      refine awp_ret ?_
      obtain rfl := Option.some.inj h
      exact ⟨.inl rfl, .two (.tmp rfl (Imm.con _)) (.tmp rfl (Imm.con _))⟩

theorem W22 (F : Nat) (a1 : TCalendar) (r : Int) (h : M22 F a1 = some r) : Pure Try.prog 22 [(V.agg [(V.lst 1 (a1.Free.map encI_i64)), (V.lst 1 (a1.Holidays.map encI_i64))])] (iV r) := by
  refine pure_enter Try.func22 rfl rfl (l := [.tmp 2]) rfl rfl [(0, (V.agg [(V.lst 1 (a1.Free.map encI_i64)), (V.lst 1 (a1.Holidays.map encI_i64))]))] rfl (fun w0 m0 => ?_)
  unfold M22 at h
  refine awp_seq ?_
  refine awp_region ?_
  refine aops_box [(V.lst 1 (a1.Free.map encI_i64)), (V.lst 1 (a1.Holidays.map encI_i64))] wants_none rfl rfl rfl rfl ?_
  refine aops_assign (iV 0) wants_none rfl rfl ?_
  refine aops_nil ?_
  refine awp_seq ?_
  refine awp_seq ?_
  refine awp_region ?_
  refine aops_fieldAddr tF24_0 wants_none rfl rfl ?_
  refine aops_load_cell (V.lst 1 (a1.Free.map encI_i64)) tC22 wants_none rfl rfl rfl rfl rfl ?_
  refine aops_len (n := a1.Free.length) tIsSl22 wants_none rfl (congrArg some (List.length_map ..)) rfl ?_
  refine aops_bin (.bool (decide (((a1.Free.length : Nat) : Int) > 6))) wants_none rfl rfl rfl rfl ?_
  refine aops_move (bV (decide (((a1.Free.length : Nat) : Int) > 6))) wants_none rfl rfl ?_
  rcases Bool.eq_false_or_eq_true (decide (((a1.Free.length : Nat) : Int) > 6)) with hb2 | hb2
  · replace h := ite_t hb2 h
    refine aops_skip (wants_some (c := (decide (((a1.Free.length : Nat) : Int) > 6))) (b := true) 11 rfl rfl hb2) rfl rfl ?_
    refine aops_skip (wants_some (c := (decide (((a1.Free.length : Nat) : Int) > 6))) (b := true) 11 rfl rfl hb2) rfl rfl ?_
    refine aops_skip (wants_some (c := (decide (((a1.Free.length : Nat) : Int) > 6))) (b := true) 11 rfl rfl hb2) rfl rfl ?_
    refine aops_skip (wants_some (c := (decide (((a1.Free.length : Nat) : Int) > 6))) (b := true) 11 rfl rfl hb2) rfl rfl ?_
    refine aops_pick true (cb := (decide (((a1.Free.length : Nat) : Int) > 6))) (bV true) wants_none rfl hb2 rfl rfl ?_
    refine aops_nil ?_
    refine awp_cond_t rfl rfl ?_
    refine awp_seq ?_
    refine awp_region ?_
    refine aops_assign (iV 3) wants_none rfl rfl ?_
    refine aops_nil ?_
    refine awp_ret ?_
    obtain rfl := Option.some.inj h
    exact ⟨.inl rfl, .one (.tmp rfl (Imm.con _))⟩
  · replace h := ite_f hb2 h
    refine aops_fieldAddr tF24_1 (wants_some (c := (decide (((a1.Free.length : Nat) : Int) > 6))) (b := false) 11 rfl rfl hb2) rfl rfl ?_
    refine aops_load_cell (V.lst 1 (a1.Holidays.map encI_i64)) tC22 (wants_some (c := (decide (((a1.Free.length : Nat) : Int) > 6))) (b := false) 11 rfl rfl hb2) rfl rfl rfl rfl rfl ?_
    refine aops_len (n := a1.Holidays.length) tIsSl22 (wants_some (c := (decide (((a1.Free.length : Nat) : Int) > 6))) (b := false) 11 rfl rfl hb2) rfl (congrArg some (List.length_map ..)) rfl ?_
    refine aops_bin (.bool (decide (((a1.Holidays.length : Nat) : Int) > 2000))) (wants_some (c := (decide (((a1.Free.length : Nat) : Int) > 6))) (b := false) 11 rfl rfl hb2) rfl rfl rfl rfl ?_
    refine aops_pick false (cb := (decide (((a1.Free.length : Nat) : Int) > 6))) (bV (decide (((a1.Holidays.length : Nat) : Int) > 2000))) wants_none rfl hb2 rfl rfl ?_
    refine aops_nil ?_
    refine awp_cond (decide (((a1.Holidays.length : Nat) : Int) > 2000)) rfl (fun hb3 => ?_) (fun hb3 => ?_)
    · replace h := ite_t hb3 h
      refine awp_seq ?_
      refine awp_region ?_
      refine aops_assign (iV 3) wants_none rfl rfl ?_
      refine aops_nil ?_
      refine awp_ret ?_
      obtain rfl := Option.some.inj h
      exact ⟨.inl rfl, .one (.tmp rfl (Imm.con _))⟩
    · replace h := ite_f hb3 h
      refine awp_skip ?_
      refine awp_seq ?_
      refine awp_seq ?_
      refine awp_region ?_
      refine aops_fieldAddr tF24_0 wants_none rfl rfl ?_
      refine aops_load_cell (V.lst 1 (a1.Free.map encI_i64)) tC22 wants_none rfl rfl rfl rfl rfl ?_
      refine aops_len (n := a1.Free.length) tIsSl22 wants_none rfl (congrArg some (List.length_map ..)) rfl ?_
      refine aops_move (iV 0) wants_none rfl rfl ?_
      refine aops_nil ?_
      replace h := jn_elim h
      obtain ⟨k4, hk4, h⟩ := h
      refine awp_cut (fun _ : Unit => (⟨[(1, (V.ptr 0 2 0 0))], [(0, (Ob.arr 24 2 [[(V.lst 1 (a1.Free.map encI_i64)), (V.lst 1 (a1.Holidays.map encI_i64))]]))], 1⟩ : St)) (fun _ : Unit => k4 = some r) ?_ ?_
      · clear hk4
        refine awp_block ?_
        refine awp_loop_ind (fun (p : Int) => (⟨[(1, (V.ptr 0 2 0 0)), (18, (V.lst 1 (a1.Free.map encI_i64))), (19, (iV ((a1.Free.length : Nat) : Int))), (20, (iV p))], [(0, (Ob.arr 24 2 [[(V.lst 1 (a1.Free.map encI_i64)), (V.lst 1 (a1.Holidays.map encI_i64))]]))], 1⟩ : St)) (fun n (p : Int) => M22_L1 F a1 k4 n p = some r) (fun p h => by simp [M22_L1] at h) (fun n ih1 p h => ?_) F 0 h (ghost_ren 1 (fun i => ([0] : List Nat).getD i 0) _ _ (by decide) (EnvSub.get (.cons (Sub.ptr rfl rfl) (.cons (Sub.imm (Imm.lst _ _)) (.cons (Sub.imm (Imm.con _)) (.cons (Sub.imm (Imm.con _)) .nil))))) (HpSub.get (.cons rfl (ObSub.box (.cons (Sub.imm (Imm.lst _ _)) (.cons (Sub.imm (Imm.lst _ _)) .nil))) .nil)) rfl)
        revert p
        intro n6 h
        unfold M22_L1 at h
        refine awp_loop ?_
        refine awp_seq ?_
        refine awp_region ?_
        refine aops_bin (.bool (decide (n6 < ((a1.Free.length : Nat) : Int)))) wants_none rfl rfl rfl rfl ?_
        refine aops_nil ?_
        refine awp_seq ?_
        refine awp_cond (decide (n6 < ((a1.Free.length : Nat) : Int))) rfl (fun hb7 => ?_) (fun hb7 => ?_)
        · replace h := ite_t hb7 h
          refine awp_skip ?_
          refine awp_seq ?_
          replace h := jn_elim h
          obtain ⟨k8, hk8, h⟩ := h
          refine awp_cut (fun (p : Int × Bool) => (⟨[(1, (V.ptr 0 2 0 0)), (18, (V.lst 1 (a1.Free.map encI_i64))), (19, (iV ((a1.Free.length : Nat) : Int))), (20, (iV n6)), (28, (iV (p.1))), (29, (bV (p.2)))], [(0, (Ob.arr 24 2 [[(V.lst 1 (a1.Free.map encI_i64)), (V.lst 1 (a1.Holidays.map encI_i64))]]))], 1⟩ : St)) (fun (p : Int × Bool) => k8 p.1 p.2 = some r) ?_ ?_
          · clear hk8
            refine awp_block ?_
            refine awp_seq ?_
            refine awp_region ?_
            refine aops_move (iV n6) wants_none rfl rfl ?_
            replace h := bind_some h
            obtain ⟨x11, hx12, h⟩ := h
            refine aops_index_lst [(iV x11)] tSl22 wants_none rfl rfl (idx_some hx12).1 (idx_map encI_i64 hx12) rfl ?_
            refine aops_iload_cell (iV x11) tC3 wants_none rfl rfl rfl ?_
            refine aops_assign (iV n6) wants_none rfl rfl ?_
            refine aops_assign (iV x11) wants_none rfl rfl ?_
            refine aops_nil ?_
            refine awp_seq ?_
            refine awp_seq ?_
            refine awp_region ?_
            refine aops_move (iV x11) wants_none rfl rfl ?_
            refine aops_bin (.bool (decide (x11 < 0))) wants_none rfl rfl rfl rfl ?_
            refine aops_move (bV (decide (x11 < 0))) wants_none rfl rfl ?_
            rcases Bool.eq_false_or_eq_true (decide (x11 < 0)) with hb13 | hb13
            · replace h := ite_t hb13 h
              refine aops_skip (wants_some (c := (decide (x11 < 0))) (b := true) 27 rfl rfl hb13) rfl rfl ?_
              refine aops_skip (wants_some (c := (decide (x11 < 0))) (b := true) 27 rfl rfl hb13) rfl rfl ?_
              refine aops_pick true (cb := (decide (x11 < 0))) (bV true) wants_none rfl hb13 rfl rfl ?_
              refine aops_nil ?_
              refine awp_cond_t rfl rfl ?_
              refine awp_seq ?_
              refine awp_region ?_
              refine aops_assign (iV 9) wants_none rfl rfl ?_
              refine aops_nil ?_
              refine awp_ret ?_
              obtain rfl := Option.some.inj h
              exact ⟨.inl rfl, .one (.tmp rfl (Imm.con _))⟩
            · replace h := ite_f hb13 h
              refine aops_move (iV x11) (wants_some (c := (decide (x11 < 0))) (b := false) 27 rfl rfl hb13) rfl rfl ?_
              refine aops_bin (.bool (decide (x11 > 6))) (wants_some (c := (decide (x11 < 0))) (b := false) 27 rfl rfl hb13) rfl rfl rfl rfl ?_
              refine aops_pick false (cb := (decide (x11 < 0))) (bV (decide (x11 > 6))) wants_none rfl hb13 rfl rfl ?_
              refine aops_nil ?_
              refine awp_cond (decide (x11 > 6)) rfl (fun hb14 => ?_) (fun hb14 => ?_)
              · replace h := ite_t hb14 h
                refine awp_seq ?_
                refine awp_region ?_
                refine aops_assign (iV 9) wants_none rfl rfl ?_
                refine aops_nil ?_
                refine awp_ret ?_
                obtain rfl := Option.some.inj h
                exact ⟨.inl rfl, .one (.tmp rfl (Imm.con _))⟩
              · replace h := ite_f hb14 h
                refine awp_skip ?_
                refine awp_seq ?_
                refine awp_region ?_
                refine aops_move (iV n6) wants_none rfl rfl ?_
                refine aops_bin (.bool (decide (n6 > 0))) wants_none rfl rfl rfl rfl ?_
                refine aops_move (bV (decide (n6 > 0))) wants_none rfl rfl ?_
                rcases Bool.eq_false_or_eq_true (decide (n6 > 0)) with hb15 | hb15
                · replace h := ite_t hb15 h
                  refine aops_move (iV x11) (wants_some (c := (decide (n6 > 0))) (b := true) 33 rfl rfl hb15) rfl rfl ?_
                  refine aops_fieldAddr tF24_0 (wants_some (c := (decide (n6 > 0))) (b := true) 33 rfl rfl hb15) rfl rfl ?_
                  refine aops_load_cell (V.lst 1 (a1.Free.map encI_i64)) tC22 (wants_some (c := (decide (n6 > 0))) (b := true) 33 rfl rfl hb15) rfl rfl rfl rfl rfl ?_
                  refine aops_move (iV n6) (wants_some (c := (decide (n6 > 0))) (b := true) 33 rfl rfl hb15) rfl rfl ?_
                  refine aops_bin (.int .i64 (w64 (n6 - 1))) (wants_some (c := (decide (n6 > 0))) (b := true) 33 rfl rfl hb15) rfl rfl rfl rfl ?_
                  replace h := bind_some h
                  obtain ⟨x16, hx17, h⟩ := h
                  refine aops_index_lst [(iV x16)] tSl22 (wants_some (c := (decide (n6 > 0))) (b := true) 33 rfl rfl hb15) rfl rfl (idx_some hx17).1 (idx_map encI_i64 hx17) rfl ?_
                  refine aops_iload_cell (iV x16) tC3 (wants_some (c := (decide (n6 > 0))) (b := true) 33 rfl rfl hb15) rfl rfl rfl ?_
                  refine aops_bin (.bool (decide (x11 ≤ x16))) (wants_some (c := (decide (n6 > 0))) (b := true) 33 rfl rfl hb15) rfl rfl rfl rfl ?_
                  refine aops_pick true (cb := (decide (n6 > 0))) (bV (decide (x11 ≤ x16))) wants_none rfl hb15 rfl rfl ?_
                  refine aops_nil ?_
                  refine awp_cond (decide (x11 ≤ x16)) rfl (fun hb18 => ?_) (fun hb18 => ?_)
                  · replace h := ite_t hb18 h
                    refine awp_seq ?_
                    refine awp_region ?_
                    refine aops_assign (iV 10) wants_none rfl rfl ?_
                    refine aops_nil ?_
                    refine awp_ret ?_
                    obtain rfl := Option.some.inj h
                    exact ⟨.inl rfl, .one (.tmp rfl (Imm.con _))⟩
                  · replace h := ite_f hb18 h
                    refine awp_skip ?_
                    exact ⟨(x11, (decide (x11 > 6))), h, (ghost_ren 1 (fun i => ([0] : List Nat).getD i 0) _ _ (by decide) (EnvSub.get (.cons (Sub.ptr rfl rfl) (.cons (Sub.imm (Imm.lst _ _)) (.cons (Sub.imm (Imm.con _)) (.cons (Sub.imm (Imm.con _)) (.cons (Sub.imm (Imm.con _)) (.cons (Sub.imm (Imm.con _)) .nil))))))) (HpSub.get (.cons rfl (ObSub.box (.cons (Sub.imm (Imm.lst _ _)) (.cons (Sub.imm (Imm.lst _ _)) .nil))) .nil)) rfl)⟩
                · replace h := ite_f hb15 h
                  refine aops_skip (wants_some (c := (decide (n6 > 0))) (b := false) 33 rfl rfl hb15) rfl rfl ?_
                  refine aops_skip (wants_some (c := (decide (n6 > 0))) (b := false) 33 rfl rfl hb15) rfl rfl ?_
                  refine aops_skip (wants_some (c := (decide (n6 > 0))) (b := false) 33 rfl rfl hb15) rfl rfl ?_
                  refine aops_skip (wants_some (c := (decide (n6 > 0))) (b := false) 33 rfl rfl hb15) rfl rfl ?_
                  refine aops_skip (wants_some (c := (decide (n6 > 0))) (b := false) 33 rfl rfl hb15) rfl rfl ?_
                  refine aops_skip (wants_some (c := (decide (n6 > 0))) (b := false) 33 rfl rfl hb15) rfl rfl ?_
                  refine aops_skip (wants_some (c := (decide (n6 > 0))) (b := false) 33 rfl rfl hb15) rfl rfl ?_
                  refine aops_skip (wants_some (c := (decide (n6 > 0))) (b := false) 33 rfl rfl hb15) rfl rfl ?_
                  refine aops_pick false (cb := (decide (n6 > 0))) (bV false) wants_none rfl hb15 rfl rfl ?_
                  refine aops_nil ?_
                  refine awp_cond_f rfl rfl ?_
                  refine awp_skip ?_
                  exact ⟨(x11, (decide (x11 > 6))), h, (ghost_ren 1 (fun i => ([0] : List Nat).getD i 0) _ _ (by decide) (EnvSub.get (.cons (Sub.ptr rfl rfl) (.cons (Sub.imm (Imm.lst _ _)) (.cons (Sub.imm (Imm.con _)) (.cons (Sub.imm (Imm.con _)) (.cons (Sub.imm (Imm.con _)) (.cons (Sub.imm (Imm.con _)) .nil))))))) (HpSub.get (.cons rfl (ObSub.box (.cons (Sub.imm (Imm.lst _ _)) (.cons (Sub.imm (Imm.lst _ _)) .nil))) .nil)) rfl)⟩
          · clear h
            rintro ⟨n9, b10⟩ h
            subst hk8
            refine awp_region ?_
            refine aops_bin (.int .i64 (w64 (n6 + 1))) wants_none rfl rfl rfl rfl ?_
            refine aops_move (iV (w64 (n6 + 1))) wants_none rfl rfl ?_
            refine aops_nil ?_
            exact awp_back (ih1 (w64 (n6 + 1)) h) (ghost_ren 1 (fun i => ([0] : List Nat).getD i 0) _ _ (by decide) (EnvSub.get (.cons (Sub.ptr rfl rfl) (.cons (Sub.imm (Imm.lst _ _)) (.cons (Sub.imm (Imm.con _)) (.cons (Sub.imm (Imm.con _)) .nil))))) (HpSub.get (.cons rfl (ObSub.box (.cons (Sub.imm (Imm.lst _ _)) (.cons (Sub.imm (Imm.lst _ _)) .nil))) .nil)) rfl)
        · replace h := ite_f hb7 h
          refine awp_exit ?_
          exact ⟨(), h, (ghost_ren 1 (fun i => ([0] : List Nat).getD i 0) _ _ (by decide) (EnvSub.get (.cons (Sub.ptr rfl rfl) .nil)) (HpSub.get (.cons rfl (ObSub.box (.cons (Sub.imm (Imm.lst _ _)) (.cons (Sub.imm (Imm.lst _ _)) .nil))) .nil)) rfl)⟩
      · clear h
        intro _ h
        subst hk4
        refine awp_seq ?_
        refine awp_seq ?_
        refine awp_region ?_
        refine aops_fieldAddr tF24_1 wants_none rfl rfl ?_
        refine aops_load_cell (V.lst 1 (a1.Holidays.map encI_i64)) tC22 wants_none rfl rfl rfl rfl rfl ?_
        refine aops_len (n := a1.Holidays.length) tIsSl22 wants_none rfl (congrArg some (List.length_map ..)) rfl ?_
        refine aops_move (iV 0) wants_none rfl rfl ?_
        refine aops_nil ?_
        replace h := jn_elim h
        obtain ⟨k19, hk19, h⟩ := h
        refine awp_cut (fun _ : Unit => (⟨[], [], 0⟩ : St)) (fun _ : Unit => k19 = some r) ?_ ?_
        · clear hk19
          refine awp_block ?_
          refine awp_loop_ind (fun (p : Int) => (⟨[(1, (V.ptr 0 2 0 0)), (45, (V.lst 1 (a1.Holidays.map encI_i64))), (46, (iV ((a1.Holidays.length : Nat) : Int))), (47, (iV p))], [(0, (Ob.arr 24 2 [[(V.lst 1 (a1.Free.map encI_i64)), (V.lst 1 (a1.Holidays.map encI_i64))]]))], 1⟩ : St)) (fun n (p : Int) => M22_L2 F a1 k19 n p = some r) (fun p h => by simp [M22_L2] at h) (fun n ih2 p h => ?_) F 0 h (ghost_ren 1 (fun i => ([0] : List Nat).getD i 0) _ _ (by decide) (EnvSub.get (.cons (Sub.ptr rfl rfl) (.cons (Sub.imm (Imm.lst _ _)) (.cons (Sub.imm (Imm.con _)) (.cons (Sub.imm (Imm.con _)) .nil))))) (HpSub.get (.cons rfl (ObSub.box (.cons (Sub.imm (Imm.lst _ _)) (.cons (Sub.imm (Imm.lst _ _)) .nil))) .nil)) rfl)
          revert p
          intro n21 h
          unfold M22_L2 at h
          refine awp_loop ?_
          refine awp_seq ?_
          refine awp_region ?_
          refine aops_bin (.bool (decide (n21 < ((a1.Holidays.length : Nat) : Int)))) wants_none rfl rfl rfl rfl ?_
          refine aops_nil ?_
          refine awp_seq ?_
          refine awp_cond (decide (n21 < ((a1.Holidays.length : Nat) : Int))) rfl (fun hb22 => ?_) (fun hb22 => ?_)
          · replace h := ite_t hb22 h
            refine awp_skip ?_
            refine awp_seq ?_
            replace h := jn_elim h
            obtain ⟨k23, hk23, h⟩ := h
            refine awp_cut (fun (p : Int × Bool) => (⟨[(1, (V.ptr 0 2 0 0)), (45, (V.lst 1 (a1.Holidays.map encI_i64))), (46, (iV ((a1.Holidays.length : Nat) : Int))), (47, (iV n21)), (55, (iV (p.1))), (56, (bV (p.2)))], [(0, (Ob.arr 24 2 [[(V.lst 1 (a1.Free.map encI_i64)), (V.lst 1 (a1.Holidays.map encI_i64))]]))], 1⟩ : St)) (fun (p : Int × Bool) => k23 p.1 p.2 = some r) ?_ ?_
            · clear hk23
              refine awp_block ?_
              refine awp_seq ?_
              refine awp_region ?_
              refine aops_move (iV n21) wants_none rfl rfl ?_
              replace h := bind_some h
              obtain ⟨x26, hx27, h⟩ := h
              refine aops_index_lst [(iV x26)] tSl22 wants_none rfl rfl (idx_some hx27).1 (idx_map encI_i64 hx27) rfl ?_
              refine aops_iload_cell (iV x26) tC3 wants_none rfl rfl rfl ?_
              refine aops_assign (iV n21) wants_none rfl rfl ?_
              refine aops_assign (iV x26) wants_none rfl rfl ?_
              refine aops_nil ?_
              refine awp_seq ?_
              refine awp_seq ?_
              refine awp_region ?_
              refine aops_move (iV x26) wants_none rfl rfl ?_
              refine aops_bin (.bool (decide (x26 < 0))) wants_none rfl rfl rfl rfl ?_
              refine aops_move (bV (decide (x26 < 0))) wants_none rfl rfl ?_
              rcases Bool.eq_false_or_eq_true (decide (x26 < 0)) with hb28 | hb28
              · replace h := ite_t hb28 h
                refine aops_skip (wants_some (c := (decide (x26 < 0))) (b := true) 54 rfl rfl hb28) rfl rfl ?_
                refine aops_skip (wants_some (c := (decide (x26 < 0))) (b := true) 54 rfl rfl hb28) rfl rfl ?_
                refine aops_pick true (cb := (decide (x26 < 0))) (bV true) wants_none rfl hb28 rfl rfl ?_
                refine aops_nil ?_
                refine awp_cond_t rfl rfl ?_
                refine awp_seq ?_
                refine awp_region ?_
                refine aops_assign (iV 9) wants_none rfl rfl ?_
                refine aops_nil ?_
                refine awp_ret ?_
                obtain rfl := Option.some.inj h
                exact ⟨.inl rfl, .one (.tmp rfl (Imm.con _))⟩
              · replace h := ite_f hb28 h
                refine aops_move (iV x26) (wants_some (c := (decide (x26 < 0))) (b := false) 54 rfl rfl hb28) rfl rfl ?_
                refine aops_bin (.bool (decide (x26 > 1000000))) (wants_some (c := (decide (x26 < 0))) (b := false) 54 rfl rfl hb28) rfl rfl rfl rfl ?_
                refine aops_pick false (cb := (decide (x26 < 0))) (bV (decide (x26 > 1000000))) wants_none rfl hb28 rfl rfl ?_
                refine aops_nil ?_
                refine awp_cond (decide (x26 > 1000000)) rfl (fun hb29 => ?_) (fun hb29 => ?_)
                · replace h := ite_t hb29 h
                  refine awp_seq ?_
                  refine awp_region ?_
                  refine aops_assign (iV 9) wants_none rfl rfl ?_
                  refine aops_nil ?_
                  refine awp_ret ?_
                  obtain rfl := Option.some.inj h
                  exact ⟨.inl rfl, .one (.tmp rfl (Imm.con _))⟩
                · replace h := ite_f hb29 h
                  refine awp_skip ?_
                  refine awp_seq ?_
                  refine awp_region ?_
                  refine aops_move (iV n21) wants_none rfl rfl ?_
                  refine aops_bin (.bool (decide (n21 > 0))) wants_none rfl rfl rfl rfl ?_
                  refine aops_move (bV (decide (n21 > 0))) wants_none rfl rfl ?_
                  rcases Bool.eq_false_or_eq_true (decide (n21 > 0)) with hb30 | hb30
                  · replace h := ite_t hb30 h
                    refine aops_move (iV x26) (wants_some (c := (decide (n21 > 0))) (b := true) 60 rfl rfl hb30) rfl rfl ?_
                    refine aops_fieldAddr tF24_1 (wants_some (c := (decide (n21 > 0))) (b := true) 60 rfl rfl hb30) rfl rfl ?_
                    refine aops_load_cell (V.lst 1 (a1.Holidays.map encI_i64)) tC22 (wants_some (c := (decide (n21 > 0))) (b := true) 60 rfl rfl hb30) rfl rfl rfl rfl rfl ?_
                    refine aops_move (iV n21) (wants_some (c := (decide (n21 > 0))) (b := true) 60 rfl rfl hb30) rfl rfl ?_
                    refine aops_bin (.int .i64 (w64 (n21 - 1))) (wants_some (c := (decide (n21 > 0))) (b := true) 60 rfl rfl hb30) rfl rfl rfl rfl ?_
                    replace h := bind_some h
                    obtain ⟨x31, hx32, h⟩ := h
                    refine aops_index_lst [(iV x31)] tSl22 (wants_some (c := (decide (n21 > 0))) (b := true) 60 rfl rfl hb30) rfl rfl (idx_some hx32).1 (idx_map encI_i64 hx32) rfl ?_
                    refine aops_iload_cell (iV x31) tC3 (wants_some (c := (decide (n21 > 0))) (b := true) 60 rfl rfl hb30) rfl rfl rfl ?_
                    refine aops_bin (.bool (decide (x26 ≤ x31))) (wants_some (c := (decide (n21 > 0))) (b := true) 60 rfl rfl hb30) rfl rfl rfl rfl ?_
                    refine aops_pick true (cb := (decide (n21 > 0))) (bV (decide (x26 ≤ x31))) wants_none rfl hb30 rfl rfl ?_
                    refine aops_nil ?_
                    refine awp_cond (decide (x26 ≤ x31)) rfl (fun hb33 => ?_) (fun hb33 => ?_)
                    · replace h := ite_t hb33 h
                      refine awp_seq ?_
                      refine awp_region ?_
                      refine aops_assign (iV 10) wants_none rfl rfl ?_
                      refine aops_nil ?_
                      refine awp_ret ?_
                      obtain rfl := Option.some.inj h
                      exact ⟨.inl rfl, .one (.tmp rfl (Imm.con _))⟩
                    · replace h := ite_f hb33 h
                      refine awp_skip ?_
                      exact ⟨(x26, (decide (x26 > 1000000))), h, (ghost_ren 1 (fun i => ([0] : List Nat).getD i 0) _ _ (by decide) (EnvSub.get (.cons (Sub.ptr rfl rfl) (.cons (Sub.imm (Imm.lst _ _)) (.cons (Sub.imm (Imm.con _)) (.cons (Sub.imm (Imm.con _)) (.cons (Sub.imm (Imm.con _)) (.cons (Sub.imm (Imm.con _)) .nil))))))) (HpSub.get (.cons rfl (ObSub.box (.cons (Sub.imm (Imm.lst _ _)) (.cons (Sub.imm (Imm.lst _ _)) .nil))) .nil)) rfl)⟩
                  · replace h := ite_f hb30 h
                    refine aops_skip (wants_some (c := (decide (n21 > 0))) (b := false) 60 rfl rfl hb30) rfl rfl ?_
                    refine aops_skip (wants_some (c := (decide (n21 > 0))) (b := false) 60 rfl rfl hb30) rfl rfl ?_
                    refine aops_skip (wants_some (c := (decide (n21 > 0))) (b := false) 60 rfl rfl hb30) rfl rfl ?_
                    refine aops_skip (wants_some (c := (decide (n21 > 0))) (b := false) 60 rfl rfl hb30) rfl rfl ?_
                    refine aops_skip (wants_some (c := (decide (n21 > 0))) (b := false) 60 rfl rfl hb30) rfl rfl ?_
                    refine aops_skip (wants_some (c := (decide (n21 > 0))) (b := false) 60 rfl rfl hb30) rfl rfl ?_
                    refine aops_skip (wants_some (c := (decide (n21 > 0))) (b := false) 60 rfl rfl hb30) rfl rfl ?_
                    refine aops_skip (wants_some (c := (decide (n21 > 0))) (b := false) 60 rfl rfl hb30) rfl rfl ?_
                    refine aops_pick false (cb := (decide (n21 > 0))) (bV false) wants_none rfl hb30 rfl rfl ?_
                    refine aops_nil ?_
                    refine awp_cond_f rfl rfl ?_
                    refine awp_skip ?_
                    exact ⟨(x26, (decide (x26 > 1000000))), h, (ghost_ren 1 (fun i => ([0] : List Nat).getD i 0) _ _ (by decide) (EnvSub.get (.cons (Sub.ptr rfl rfl) (.cons (Sub.imm (Imm.lst _ _)) (.cons (Sub.imm (Imm.con _)) (.cons (Sub.imm (Imm.con _)) (.cons (Sub.imm (Imm.con _)) (.cons (Sub.imm (Imm.con _)) .nil))))))) (HpSub.get (.cons rfl (ObSub.box (.cons (Sub.imm (Imm.lst _ _)) (.cons (Sub.imm (Imm.lst _ _)) .nil))) .nil)) rfl)⟩
            · clear h
              rintro ⟨n24, b25⟩ h
              subst hk23
              refine awp_region ?_
              refine aops_bin (.int .i64 (w64 (n21 + 1))) wants_none rfl rfl rfl rfl ?_
              refine aops_move (iV (w64 (n21 + 1))) wants_none rfl rfl ?_
              refine aops_nil ?_
              exact awp_back (ih2 (w64 (n21 + 1)) h) (ghost_ren 1 (fun i => ([0] : List Nat).getD i 0) _ _ (by decide) (EnvSub.get (.cons (Sub.ptr rfl rfl) (.cons (Sub.imm (Imm.lst _ _)) (.cons (Sub.imm (Imm.con _)) (.cons (Sub.imm (Imm.con _)) .nil))))) (HpSub.get (.cons rfl (ObSub.box (.cons (Sub.imm (Imm.lst _ _)) (.cons (Sub.imm (Imm.lst _ _)) .nil))) .nil)) rfl)
          · replace h := ite_f hb22 h
            refine awp_exit ?_
            exact ⟨(), h, (ghost_ren 0 (fun i => ([] : List Nat).getD i 0) _ _ (by decide) (EnvSub.get .nil) (HpSub.get .nil) rfl)⟩
        · clear h
          intro _ h
          subst hk19
          refine awp_seq ?_
          refine awp_region ?_
          refine aops_assign (iV 0) wants_none rfl rfl ?_
          refine aops_nil ?_
          refine awp_ret ?_
          obtain rfl := Option.some.inj h
          exact ⟨.inl rfl, .one (.tmp rfl (Imm.con _))⟩

theorem W72 (F : Nat) (a1 : Int) (r : Bool) (h : M72 F a1 = some r) : Pure Try.prog 72 [(iV a1)] (bV r) := by
  refine pure_enter Try.func72 rfl rfl (l := [.tmp 2]) rfl rfl [(0, (iV a1))] rfl (fun w0 m0 => ?_)
  unfold M72 at h
  refine awp_seq ?_
  refine awp_region ?_
  refine aops_assign (bV false) wants_none rfl rfl ?_
  refine aops_nil ?_
  refine awp_seq ?_
  refine awp_region ?_
  refine aops_move (iV a1) wants_none rfl rfl ?_
  refine aops_bin (.bool (decide (a1 ≥ 0))) wants_none rfl rfl rfl rfl ?_
  refine aops_move (bV (decide (a1 ≥ 0))) wants_none rfl rfl ?_
  rcases Bool.eq_false_or_eq_true (decide (a1 ≥ 0)) with hb2 | hb2
  · replace h := ite_t hb2 h
    refine aops_move (iV a1) (wants_some (c := (decide (a1 ≥ 0))) (b := true) 5 rfl rfl hb2) rfl rfl ?_
    refine aops_bin (.bool (decide (a1 ≤ 1000000))) (wants_some (c := (decide (a1 ≥ 0))) (b := true) 5 rfl rfl hb2) rfl rfl rfl rfl ?_
    refine aops_pick true (cb := (decide (a1 ≥ 0))) (bV (decide (a1 ≤ 1000000))) wants_none rfl hb2 rfl rfl ?_
    refine aops_assign (bV (decide (a1 ≤ 1000000))) wants_none rfl rfl ?_
    refine aops_nil ?_
    refine awp_ret ?_
    obtain rfl := Option.some.inj h
    exact ⟨.inl rfl, .one (.tmp rfl (Imm.con _))⟩
  · replace h := ite_f hb2 h
    refine aops_skip (wants_some (c := (decide (a1 ≥ 0))) (b := false) 5 rfl rfl hb2) rfl rfl ?_
    refine aops_skip (wants_some (c := (decide (a1 ≥ 0))) (b := false) 5 rfl rfl hb2) rfl rfl ?_
    refine aops_pick false (cb := (decide (a1 ≥ 0))) (bV false) wants_none rfl hb2 rfl rfl ?_
    refine aops_assign (bV false) wants_none rfl rfl ?_
    refine aops_nil ?_
    refine awp_ret ?_
    obtain rfl := Option.some.inj h
    exact ⟨.inl rfl, .one (.tmp rfl (Imm.con _))⟩

theorem W73 (F : Nat) (a1 : TCalendar) (r : Tprovenderref11_calendar) (h : M73 F a1 = some r) : Pure Try.prog 73 [(V.agg [(V.lst 1 (a1.Free.map encI_i64)), (V.lst 1 (a1.Holidays.map encI_i64))])] (V.agg [(bV (r.free 0)), (bV (r.free 1)), (bV (r.free 2)), (bV (r.free 3)), (bV (r.free 4)), (bV (r.free 5)), (bV (r.free 6)), (V.imap (r.holidays.map encM3_4))]) := by
  refine pure_enter Try.func73 rfl rfl (l := [.cell 2 106]) rfl rfl [(0, (V.agg [(V.lst 1 (a1.Free.map encI_i64)), (V.lst 1 (a1.Holidays.map encI_i64))]))] rfl (fun w0 m0 => ?_)
  unfold M73 at h
  refine awp_seq ?_
  refine awp_region ?_
  refine aops_box [(V.lst 1 (a1.Free.map encI_i64)), (V.lst 1 (a1.Holidays.map encI_i64))] wants_none rfl rfl rfl rfl ?_
  refine aops_alloc tZ106 rfl rfl wants_none rfl ?_
  refine aops_nil ?_
  refine awp_seq ?_
  refine awp_region ?_
  refine aops_makeMap wants_none rfl ?_
  refine aops_build [(1, (V.map 2))] [(bV false), (bV false), (bV false), (bV false), (bV false), (bV false), (bV false), (V.map 2)] tZ106 tPl106 rfl wants_none (evp_cons rfl evp_nil) rfl rfl ?_
  refine aops_alloc tZ106 rfl rfl wants_none rfl ?_
  refine aops_store [(bV false), (bV false), (bV false), (bV false), (bV false), (bV false), (bV false), (V.map 2)] [[(bV false), (bV false), (bV false), (bV false), (bV false), (bV false), (bV false), (V.map 2)]] tS106 wants_none rfl rfl rfl rfl rfl rfl rfl rfl ?_
  refine aops_nil ?_
  refine awp_seq ?_
  refine awp_seq ?_
  refine awp_region ?_
  refine aops_fieldAddr tF24_0 wants_none rfl rfl ?_
  refine aops_load_cell (V.lst 1 (a1.Free.map encI_i64)) tC22 wants_none rfl rfl rfl rfl rfl ?_
  refine aops_len (n := a1.Free.length) tIsSl22 wants_none rfl (congrArg some (List.length_map ..)) rfl ?_
  refine aops_move (iV 0) wants_none rfl rfl ?_
  refine aops_nil ?_
  replace h := jn_elim h
  obtain ⟨k2, hk2, h⟩ := h
  refine awp_cut (fun (p : (Nat → Bool)) => (⟨[(1, (V.ptr 0 2 0 0)), (2, (V.ptr 1 8 0 0)), (3, (V.ptr 2 8 0 0))], [(0, (Ob.arr 24 2 [[(V.lst 1 (a1.Free.map encI_i64)), (V.lst 1 (a1.Holidays.map encI_i64))]])), (1, (Ob.arr 106 8 [[(bV false), (bV false), (bV false), (bV false), (bV false), (bV false), (bV false), (V.con (.map none))]])), (2, (Ob.arr 106 8 [[(bV (p 0)), (bV (p 1)), (bV (p 2)), (bV (p 3)), (bV (p 4)), (bV (p 5)), (bV (p 6)), (V.map 3)]])), (3, (Ob.map (([] : List (Int × Bool)).map encM3_4)))], 4⟩ : St)) (fun (p : (Nat → Bool)) => k2 p = some r) ?_ ?_
  · clear hk2
    refine awp_block ?_
    refine awp_loop_ind (fun (p : Int × (Nat → Bool)) => (⟨[(1, (V.ptr 0 2 0 0)), (2, (V.ptr 1 8 0 0)), (3, (V.ptr 2 8 0 0)), (11, (V.lst 1 (a1.Free.map encI_i64))), (12, (iV ((a1.Free.length : Nat) : Int))), (13, (iV (p.1)))], [(0, (Ob.arr 24 2 [[(V.lst 1 (a1.Free.map encI_i64)), (V.lst 1 (a1.Holidays.map encI_i64))]])), (1, (Ob.arr 106 8 [[(bV false), (bV false), (bV false), (bV false), (bV false), (bV false), (bV false), (V.con (.map none))]])), (2, (Ob.arr 106 8 [[(bV ((p.2) 0)), (bV ((p.2) 1)), (bV ((p.2) 2)), (bV ((p.2) 3)), (bV ((p.2) 4)), (bV ((p.2) 5)), (bV ((p.2) 6)), (V.map 3)]])), (3, (Ob.map (([] : List (Int × Bool)).map encM3_4)))], 4⟩ : St)) (fun n (p : Int × (Nat → Bool)) => M73_L1 F a1 k2 n p.1 p.2 = some r) (fun p h => by simp [M73_L1] at h) (fun n ih1 p h => ?_) F (0, (fun _ => false)) h (ghost_ren 4 (fun i => ([0, 1, 3, 2] : List Nat).getD i 0) _ _ (by decide) (EnvSub.get (.cons (Sub.ptr rfl rfl) (.cons (Sub.ptr rfl rfl) (.cons (Sub.ptr rfl rfl) (.cons (Sub.imm (Imm.lst _ _)) (.cons (Sub.imm (Imm.con _)) (.cons (Sub.imm (Imm.con _)) .nil))))))) (HpSub.get (.cons rfl (ObSub.box (.cons (Sub.imm (Imm.lst _ _)) (.cons (Sub.imm (Imm.lst _ _)) .nil))) (.cons rfl (ObSub.box (.cons (Sub.imm (Imm.con _)) (.cons (Sub.imm (Imm.con _)) (.cons (Sub.imm (Imm.con _)) (.cons (Sub.imm (Imm.con _)) (.cons (Sub.imm (Imm.con _)) (.cons (Sub.imm (Imm.con _)) (.cons (Sub.imm (Imm.con _)) (.cons (Sub.imm (Imm.con _)) .nil))))))))) (.cons rfl (ObSub.box (.cons (Sub.imm (Imm.con _)) (.cons (Sub.imm (Imm.con _)) (.cons (Sub.imm (Imm.con _)) (.cons (Sub.imm (Imm.con _)) (.cons (Sub.imm (Imm.con _)) (.cons (Sub.imm (Imm.con _)) (.cons (Sub.imm (Imm.con _)) (.cons (Sub.map rfl rfl) .nil))))))))) (.cons rfl (ObSub.maps encM3_4_imm) .nil))))) rfl)
    obtain ⟨n6, f7⟩ := p
    unfold M73_L1 at h
    refine awp_loop ?_
    refine awp_seq ?_
    refine awp_region ?_
    refine aops_bin (.bool (decide (n6 < ((a1.Free.length : Nat) : Int)))) wants_none rfl rfl rfl rfl ?_
    refine aops_nil ?_
    refine awp_seq ?_
    refine awp_cond (decide (n6 < ((a1.Free.length : Nat) : Int))) rfl (fun hb8 => ?_) (fun hb8 => ?_)
    · replace h := ite_t hb8 h
      refine awp_skip ?_
      refine awp_seq ?_
      refine awp_block ?_
      refine awp_seq ?_
      refine awp_region ?_
      replace h := bind_some h
      obtain ⟨x9, hx10, h⟩ := h
      refine aops_index_lst [(iV x9)] tSl22 wants_none rfl rfl (idx_some hx10).1 (idx_map encI_i64 hx10) rfl ?_
      refine aops_iload_cell (iV x9) tC3 wants_none rfl rfl rfl ?_
      refine aops_assign (iV x9) wants_none rfl rfl ?_
      refine aops_nil ?_
      refine awp_region ?_
      refine aops_move (iV x9) wants_none rfl rfl ?_
      refine aops_fieldAddr tF106_0 wants_none rfl rfl ?_
      replace h := chk_some h
      obtain ⟨hc11, h⟩ := h
      refine aops_index_arr tArr99 wants_none rfl rfl hc11.1 hc11.2 rfl ?_
      refine aops_store [(bV true)] [[(bV ((upd f7 x9.toNat true) 0)), (bV ((upd f7 x9.toNat true) 1)), (bV ((upd f7 x9.toNat true) 2)), (bV ((upd f7 x9.toNat true) 3)), (bV ((upd f7 x9.toNat true) 4)), (bV ((upd f7 x9.toNat true) 5)), (bV ((upd f7 x9.toNat true) 6)), (V.map 3)]] tS4 wants_none rfl rfl rfl rfl rfl rfl (arr_ble hc11.2 (by simp)) (congrArg (fun r => [r]) (arr_set [] [(V.map 3)] (fun x => (bV x)) f7 true hc11.2 rfl (by simp))) ?_
      refine aops_nil ?_
      refine awp_region ?_
      refine aops_bin (.int .i64 (w64 (n6 + 1))) wants_none rfl rfl rfl rfl ?_
      refine aops_move (iV (w64 (n6 + 1))) wants_none rfl rfl ?_
      refine aops_nil ?_
      exact awp_back (ih1 ((w64 (n6 + 1)), (upd f7 x9.toNat true)) h) (ghost_ren 4 (fun i => ([0, 1, 2, 3] : List Nat).getD i 0) _ _ (by decide) (EnvSub.get (.cons (Sub.ptr rfl rfl) (.cons (Sub.ptr rfl rfl) (.cons (Sub.ptr rfl rfl) (.cons (Sub.imm (Imm.lst _ _)) (.cons (Sub.imm (Imm.con _)) (.cons (Sub.imm (Imm.con _)) .nil))))))) (HpSub.get (.cons rfl (ObSub.box (.cons (Sub.imm (Imm.lst _ _)) (.cons (Sub.imm (Imm.lst _ _)) .nil))) (.cons rfl (ObSub.box (.cons (Sub.imm (Imm.con _)) (.cons (Sub.imm (Imm.con _)) (.cons (Sub.imm (Imm.con _)) (.cons (Sub.imm (Imm.con _)) (.cons (Sub.imm (Imm.con _)) (.cons (Sub.imm (Imm.con _)) (.cons (Sub.imm (Imm.con _)) (.cons (Sub.imm (Imm.con _)) .nil))))))))) (.cons rfl (ObSub.box (.cons (Sub.imm (Imm.con _)) (.cons (Sub.imm (Imm.con _)) (.cons (Sub.imm (Imm.con _)) (.cons (Sub.imm (Imm.con _)) (.cons (Sub.imm (Imm.con _)) (.cons (Sub.imm (Imm.con _)) (.cons (Sub.imm (Imm.con _)) (.cons (Sub.map rfl rfl) .nil))))))))) (.cons rfl (ObSub.maps encM3_4_imm) .nil))))) rfl)
    · replace h := ite_f hb8 h
      refine awp_exit ?_
      exact ⟨f7, h, (ghost_ren 4 (fun i => ([0, 1, 2, 3] : List Nat).getD i 0) _ _ (by decide) (EnvSub.get (.cons (Sub.ptr rfl rfl) (.cons (Sub.ptr rfl rfl) (.cons (Sub.ptr rfl rfl) .nil)))) (HpSub.get (.cons rfl (ObSub.box (.cons (Sub.imm (Imm.lst _ _)) (.cons (Sub.imm (Imm.lst _ _)) .nil))) (.cons rfl (ObSub.box (.cons (Sub.imm (Imm.con _)) (.cons (Sub.imm (Imm.con _)) (.cons (Sub.imm (Imm.con _)) (.cons (Sub.imm (Imm.con _)) (.cons (Sub.imm (Imm.con _)) (.cons (Sub.imm (Imm.con _)) (.cons (Sub.imm (Imm.con _)) (.cons (Sub.imm (Imm.con _)) .nil))))))))) (.cons rfl (ObSub.box (.cons (Sub.imm (Imm.con _)) (.cons (Sub.imm (Imm.con _)) (.cons (Sub.imm (Imm.con _)) (.cons (Sub.imm (Imm.con _)) (.cons (Sub.imm (Imm.con _)) (.cons (Sub.imm (Imm.con _)) (.cons (Sub.imm (Imm.con _)) (.cons (Sub.map rfl rfl) .nil))))))))) (.cons rfl (ObSub.maps encM3_4_imm) .nil))))) rfl)⟩
  · clear h
    intro f3 h
    subst hk2
    refine awp_seq ?_
    refine awp_seq ?_
    refine awp_region ?_
    refine aops_fieldAddr tF24_1 wants_none rfl rfl ?_
    refine aops_load_cell (V.lst 1 (a1.Holidays.map encI_i64)) tC22 wants_none rfl rfl rfl rfl rfl ?_
    refine aops_len (n := a1.Holidays.length) tIsSl22 wants_none rfl (congrArg some (List.length_map ..)) rfl ?_
    refine aops_move (iV 0) wants_none rfl rfl ?_
    refine aops_nil ?_
    replace h := jn_elim h
    obtain ⟨k12, hk12, h⟩ := h
    refine awp_cut (fun (p : (List (Int × Bool))) => (⟨[(2, (V.ptr 0 8 0 0)), (3, (V.ptr 1 8 0 0))], [(0, (Ob.arr 106 8 [[(bV false), (bV false), (bV false), (bV false), (bV false), (bV false), (bV false), (V.con (.map none))]])), (1, (Ob.arr 106 8 [[(bV (f3 0)), (bV (f3 1)), (bV (f3 2)), (bV (f3 3)), (bV (f3 4)), (bV (f3 5)), (bV (f3 6)), (V.map 2)]])), (2, (Ob.map (p.map encM3_4)))], 3⟩ : St)) (fun (p : (List (Int × Bool))) => k12 p = some r) ?_ ?_
    · clear hk12
      refine awp_block ?_
      refine awp_loop_ind (fun (p : Int × (List (Int × Bool))) => (⟨[(2, (V.ptr 0 8 0 0)), (3, (V.ptr 1 8 0 0)), (22, (V.lst 1 (a1.Holidays.map encI_i64))), (23, (iV ((a1.Holidays.length : Nat) : Int))), (24, (iV (p.1)))], [(0, (Ob.arr 106 8 [[(bV false), (bV false), (bV false), (bV false), (bV false), (bV false), (bV false), (V.con (.map none))]])), (1, (Ob.arr 106 8 [[(bV (f3 0)), (bV (f3 1)), (bV (f3 2)), (bV (f3 3)), (bV (f3 4)), (bV (f3 5)), (bV (f3 6)), (V.map 2)]])), (2, (Ob.map ((p.2).map encM3_4)))], 3⟩ : St)) (fun n (p : Int × (List (Int × Bool))) => M73_L2 F a1 k12 n p.1 p.2 = some r) (fun p h => by simp [M73_L2] at h) (fun n ih2 p h => ?_) F (0, ([] : List (Int × Bool))) h (ghost_ren 3 (fun i => ([1, 2, 3] : List Nat).getD i 0) _ _ (by decide) (EnvSub.get (.cons (Sub.ptr rfl rfl) (.cons (Sub.ptr rfl rfl) (.cons (Sub.imm (Imm.lst _ _)) (.cons (Sub.imm (Imm.con _)) (.cons (Sub.imm (Imm.con _)) .nil)))))) (HpSub.get (.cons rfl (ObSub.box (.cons (Sub.imm (Imm.con _)) (.cons (Sub.imm (Imm.con _)) (.cons (Sub.imm (Imm.con _)) (.cons (Sub.imm (Imm.con _)) (.cons (Sub.imm (Imm.con _)) (.cons (Sub.imm (Imm.con _)) (.cons (Sub.imm (Imm.con _)) (.cons (Sub.imm (Imm.con _)) .nil))))))))) (.cons rfl (ObSub.box (.cons (Sub.imm (Imm.con _)) (.cons (Sub.imm (Imm.con _)) (.cons (Sub.imm (Imm.con _)) (.cons (Sub.imm (Imm.con _)) (.cons (Sub.imm (Imm.con _)) (.cons (Sub.imm (Imm.con _)) (.cons (Sub.imm (Imm.con _)) (.cons (Sub.map rfl rfl) .nil))))))))) (.cons rfl (ObSub.maps encM3_4_imm) .nil)))) rfl)
      obtain ⟨n16, m17⟩ := p
      unfold M73_L2 at h
      refine awp_loop ?_
      refine awp_seq ?_
      refine awp_region ?_
      refine aops_bin (.bool (decide (n16 < ((a1.Holidays.length : Nat) : Int)))) wants_none rfl rfl rfl rfl ?_
      refine aops_nil ?_
      refine awp_seq ?_
      refine awp_cond (decide (n16 < ((a1.Holidays.length : Nat) : Int))) rfl (fun hb18 => ?_) (fun hb18 => ?_)
      · replace h := ite_t hb18 h
        refine awp_skip ?_
        refine awp_seq ?_
        refine awp_block ?_
        refine awp_seq ?_
        refine awp_region ?_
        replace h := bind_some h
        obtain ⟨x19, hx20, h⟩ := h
        refine aops_index_lst [(iV x19)] tSl22 wants_none rfl rfl (idx_some hx20).1 (idx_map encI_i64 hx20) rfl ?_
        refine aops_iload_cell (iV x19) tC3 wants_none rfl rfl rfl ?_
        refine aops_assign (iV x19) wants_none rfl rfl ?_
        refine aops_nil ?_
        refine awp_region ?_
        refine aops_fieldAddr tF106_1 wants_none rfl rfl ?_
        refine aops_load_cell (V.map 2) tC104 wants_none rfl rfl rfl rfl rfl ?_
        refine aops_move (iV x19) wants_none rfl rfl ?_
        refine aops_mapUpdate ((mput m17 x19 true).map encM3_4) tMap104 tKey3 wants_none rfl rfl (.con rfl) ⟨_, rfl⟩ encM3_4_good rfl (encM3_4_puts m17 x19 true) ?_
        refine aops_nil ?_
        refine awp_region ?_
        refine aops_bin (.int .i64 (w64 (n16 + 1))) wants_none rfl rfl rfl rfl ?_
        refine aops_move (iV (w64 (n16 + 1))) wants_none rfl rfl ?_
        refine aops_nil ?_
        exact awp_back (ih2 ((w64 (n16 + 1)), (mput m17 x19 true)) h) (ghost_ren 3 (fun i => ([0, 1, 2] : List Nat).getD i 0) _ _ (by decide) (EnvSub.get (.cons (Sub.ptr rfl rfl) (.cons (Sub.ptr rfl rfl) (.cons (Sub.imm (Imm.lst _ _)) (.cons (Sub.imm (Imm.con _)) (.cons (Sub.imm (Imm.con _)) .nil)))))) (HpSub.get (.cons rfl (ObSub.box (.cons (Sub.imm (Imm.con _)) (.cons (Sub.imm (Imm.con _)) (.cons (Sub.imm (Imm.con _)) (.cons (Sub.imm (Imm.con _)) (.cons (Sub.imm (Imm.con _)) (.cons (Sub.imm (Imm.con _)) (.cons (Sub.imm (Imm.con _)) (.cons (Sub.imm (Imm.con _)) .nil))))))))) (.cons rfl (ObSub.box (.cons (Sub.imm (Imm.con _)) (.cons (Sub.imm (Imm.con _)) (.cons (Sub.imm (Imm.con _)) (.cons (Sub.imm (Imm.con _)) (.cons (Sub.imm (Imm.con _)) (.cons (Sub.imm (Imm.con _)) (.cons (Sub.imm (Imm.con _)) (.cons (Sub.map rfl rfl) .nil))))))))) (.cons rfl (ObSub.maps encM3_4_imm) .nil)))) rfl)
      · replace h := ite_f hb18 h
        refine awp_exit ?_
        exact ⟨m17, h, (ghost_ren 3 (fun i => ([0, 1, 2] : List Nat).getD i 0) _ _ (by decide) (EnvSub.get (.cons (Sub.ptr rfl rfl) (.cons (Sub.ptr rfl rfl) .nil))) (HpSub.get (.cons rfl (ObSub.box (.cons (Sub.imm (Imm.con _)) (.cons (Sub.imm (Imm.con _)) (.cons (Sub.imm (Imm.con _)) (.cons (Sub.imm (Imm.con _)) (.cons (Sub.imm (Imm.con _)) (.cons (Sub.imm (Imm.con _)) (.cons (Sub.imm (Imm.con _)) (.cons (Sub.imm (Imm.con _)) .nil))))))))) (.cons rfl (ObSub.box (.cons (Sub.imm (Imm.con _)) (.cons (Sub.imm (Imm.con _)) (.cons (Sub.imm (Imm.con _)) (.cons (Sub.imm (Imm.con _)) (.cons (Sub.imm (Imm.con _)) (.cons (Sub.imm (Imm.con _)) (.cons (Sub.imm (Imm.con _)) (.cons (Sub.map rfl rfl) .nil))))))))) (.cons rfl (ObSub.maps encM3_4_imm) .nil)))) rfl)⟩
    · clear h
      intro m13 h
      subst hk12
      refine awp_seq ?_
      refine awp_region ?_
      refine aops_load_agg (cs := [(bV (f3 0)), (bV (f3 1)), (bV (f3 2)), (bV (f3 3)), (bV (f3 4)), (bV (f3 5)), (bV (f3 6)), (V.map 2)]) tA106 wants_none rfl rfl rfl rfl rfl rfl ?_
      refine aops_store [(bV (f3 0)), (bV (f3 1)), (bV (f3 2)), (bV (f3 3)), (bV (f3 4)), (bV (f3 5)), (bV (f3 6)), (V.map 2)] [[(bV (f3 0)), (bV (f3 1)), (bV (f3 2)), (bV (f3 3)), (bV (f3 4)), (bV (f3 5)), (bV (f3 6)), (V.map 2)]] tS106 wants_none rfl rfl rfl rfl rfl rfl rfl rfl ?_
      refine aops_nil ?_
      refine awp_ghost (ghost_frzMC 2 0 (Ob.arr 106 8 [[(bV (f3 0)), (bV (f3 1)), (bV (f3 2)), (bV (f3 3)), (bV (f3 4)), (bV (f3 5)), (bV (f3 6)), (V.imap (m13.map encM3_4))]]) rfl encM3_4_imm (ObSub.box (.cons Sub.keepM (.cons Sub.keepM (.cons Sub.keepM (.cons Sub.keepM (.cons Sub.keepM (.cons Sub.keepM (.cons Sub.keepM (.cons Sub.frzM .nil)))))))))) ?_
      refine awp_ret ?_
      obtain rfl := Option.some.inj h
      exact ⟨.inl rfl, .one (.agg tA106 rfl rfl rfl rfl rfl (.cons (Imm.con _) (.cons (Imm.con _) (.cons (Imm.con _) (.cons (Imm.con _) (.cons (Imm.con _) (.cons (Imm.con _) (.cons (Imm.con _) (.cons (Imm.imap _) .nil)))))))))⟩

theorem W74 (F : Nat) (a1 : Tprovenderref11_calendar) (a2 : Int) (r : Bool) (h : M74 F a1 a2 = some r) : Pure Try.prog 74 [(V.agg [(bV (a1.free 0)), (bV (a1.free 1)), (bV (a1.free 2)), (bV (a1.free 3)), (bV (a1.free 4)), (bV (a1.free 5)), (bV (a1.free 6)), (V.imap (a1.holidays.map encM3_4))]), (iV a2)] (bV r) := by
  refine pure_enter Try.func74 rfl rfl (l := [.tmp 4]) rfl rfl [(0, (V.agg [(bV (a1.free 0)), (bV (a1.free 1)), (bV (a1.free 2)), (bV (a1.free 3)), (bV (a1.free 4)), (bV (a1.free 5)), (bV (a1.free 6)), (V.imap (a1.holidays.map encM3_4))])), (1, (iV a2))] rfl (fun w0 m0 => ?_)
  unfold M74 at h
  refine awp_seq ?_
  refine awp_region ?_
  refine aops_box [(bV (a1.free 0)), (bV (a1.free 1)), (bV (a1.free 2)), (bV (a1.free 3)), (bV (a1.free 4)), (bV (a1.free 5)), (bV (a1.free 6)), (V.imap (a1.holidays.map encM3_4))] wants_none rfl rfl rfl rfl ?_
  refine aops_assign (bV false) wants_none rfl rfl ?_
  refine aops_nil ?_
  refine awp_seq ?_
  refine awp_region ?_
  refine aops_move (iV a2) wants_none rfl rfl ?_
  refine aops_bin (.int .i64 (Int.tmod a2 7)) wants_none rfl rfl rfl rfl ?_
  refine aops_fieldAddr tF106_0 wants_none rfl rfl ?_
  replace h := chk_some h
  obtain ⟨hc3, h⟩ := h
  refine aops_index_arr tArr99 wants_none rfl rfl hc3.1 hc3.2 rfl ?_
  refine aops_load_cell (bV (a1.free (Int.tmod a2 7).toNat)) tC4 wants_none rfl rfl rfl (arr_get [] [(V.imap (a1.holidays.map encM3_4))] (fun i => (bV (a1.free i))) hc3.2 rfl (by simp)) rfl ?_
  refine aops_not wants_none rfl rfl ?_
  refine aops_move (bV (!(a1.free (Int.tmod a2 7).toNat))) wants_none rfl rfl ?_
  rcases Bool.eq_false_or_eq_true (!(a1.free (Int.tmod a2 7).toNat)) with hb4 | hb4
  · replace h := ite_t hb4 h
    refine aops_fieldAddr tF106_1 (wants_some (c := (!(a1.free (Int.tmod a2 7).toNat))) (b := true) 11 rfl rfl hb4) rfl rfl ?_
    refine aops_load_cell (V.imap (a1.holidays.map encM3_4)) tC104 (wants_some (c := (!(a1.free (Int.tmod a2 7).toNat))) (b := true) 11 rfl rfl hb4) rfl rfl rfl rfl rfl ?_
    refine aops_move (iV a2) (wants_some (c := (!(a1.free (Int.tmod a2 7).toNat))) (b := true) 11 rfl rfl hb4) rfl rfl ?_
    refine aops_lookup _ (bV false) (bV ((mget a1.holidays a2).getD false)) tMap104 tKey3 tZo4 (irel_con _) (wants_some (c := (!(a1.free (Int.tmod a2 7).toNat))) (b := true) 11 rfl rfl hb4) rfl .imm (.con rfl) ⟨_, rfl⟩ encM3_4_good (encM3_4_look a1.holidays a2) (getD_map (encM3_4_val) (mget a1.holidays a2) false) rfl ?_
    refine aops_not (wants_some (c := (!(a1.free (Int.tmod a2 7).toNat))) (b := true) 11 rfl rfl hb4) rfl rfl ?_
    refine aops_pick true (cb := (!(a1.free (Int.tmod a2 7).toNat))) (bV (!((mget a1.holidays a2).getD false))) wants_none rfl hb4 rfl rfl ?_
    refine aops_assign (bV (!((mget a1.holidays a2).getD false))) wants_none rfl rfl ?_
    refine aops_nil ?_
    refine awp_ret ?_
    obtain rfl := Option.some.inj h
    exact ⟨.inl rfl, .one (.tmp rfl (Imm.con _))⟩
  · replace h := ite_f hb4 h
    refine aops_skip (wants_some (c := (!(a1.free (Int.tmod a2 7).toNat))) (b := false) 11 rfl rfl hb4) rfl rfl ?_
    refine aops_skip (wants_some (c := (!(a1.free (Int.tmod a2 7).toNat))) (b := false) 11 rfl rfl hb4) rfl rfl ?_
    refine aops_skip (wants_some (c := (!(a1.free (Int.tmod a2 7).toNat))) (b := false) 11 rfl rfl hb4) rfl rfl ?_
    refine aops_skip (wants_some (c := (!(a1.free (Int.tmod a2 7).toNat))) (b := false) 11 rfl rfl hb4) rfl rfl ?_
    refine aops_skip (wants_some (c := (!(a1.free (Int.tmod a2 7).toNat))) (b := false) 11 rfl rfl hb4) rfl rfl ?_
    refine aops_pick false (cb := (!(a1.free (Int.tmod a2 7).toNat))) (bV false) wants_none rfl hb4 rfl rfl ?_
    refine aops_assign (bV false) wants_none rfl rfl ?_
    refine aops_nil ?_
    refine awp_ret ?_
    obtain rfl := Option.some.inj h
    exact ⟨.inl rfl, .one (.tmp rfl (Imm.con _))⟩

theorem W16 (F : Nat) (a1 : TCalendar) (a2 : Int) (r : (Bool × Int)) (h : M16 F a1 a2 = some r) : Pure Try.prog 16 [(V.agg [(V.lst 1 (a1.Free.map encI_i64)), (V.lst 1 (a1.Holidays.map encI_i64))]), (iV a2)] (V.tup [(bV (r.1)), (iV (r.2))]) := by
  refine pure_enter Try.func16 rfl rfl (l := [.tmp 4, .tmp 5]) rfl rfl [(0, (V.agg [(V.lst 1 (a1.Free.map encI_i64)), (V.lst 1 (a1.Holidays.map encI_i64))])), (1, (iV a2))] rfl (fun w0 m0 => ?_)
  unfold M16 at h
  refine awp_seq ?_
  refine awp_region ?_
  refine aops_box [(V.lst 1 (a1.Free.map encI_i64)), (V.lst 1 (a1.Holidays.map encI_i64))] wants_none rfl rfl rfl rfl ?_
  refine aops_assign (bV false) wants_none rfl rfl ?_
  refine aops_assign (iV 0) wants_none rfl rfl ?_
  refine aops_nil ?_
  refine awp_seq ?_
  refine awp_seq ?_
  refine awp_region ?_
  refine aops_load_agg (cs := [(V.lst 1 (a1.Free.map encI_i64)), (V.lst 1 (a1.Holidays.map encI_i64))]) tA24 wants_none rfl rfl rfl rfl rfl rfl ?_
  replace h := bind_some h
  obtain ⟨y3, hx4, h⟩ := h
  refine aops_call (iV y3) [(V.agg [(V.lst 1 (a1.Free.map encI_i64)), (V.lst 1 (a1.Holidays.map encI_i64))])] fOk22 wants_none (evm_cons rfl evm_nil) (.cons (Imm.agg (.cons (Imm.lst _ _) (.cons (Imm.lst _ _) .nil))) .nil) (W22 F a1 y3 hx4) rfl ?_
  refine aops_assign (iV y3) wants_none rfl rfl ?_
  refine aops_nil ?_
  refine awp_seq ?_
  refine awp_region ?_
  refine aops_move (iV y3) wants_none rfl rfl ?_
  refine aops_bin (.bool (y3 != 0)) wants_none rfl rfl rfl rfl ?_
  refine aops_nil ?_
  refine awp_cond (y3 != 0) rfl (fun hb5 => ?_) (fun hb5 => ?_)
  · replace h := ite_t hb5 h
    refine awp_seq ?_
    refine awp_region ?_
    refine aops_move (iV y3) wants_none rfl rfl ?_
    refine aops_assign (bV false) wants_none rfl rfl ?_
    refine aops_assign (iV y3) wants_none rfl rfl ?_
    refine aops_nil ?_
    refine awp_ret ?_
    obtain rfl := Option.some.inj h
    exact ⟨.inl rfl, .two (.tmp rfl (Imm.con _)) (.tmp rfl (Imm.con _))⟩
  · replace h := ite_f hb5 h
    refine awp_skip ?_
    refine awp_seq ?_
    refine awp_seq ?_
    refine awp_region ?_
    refine aops_move (iV a2) wants_none rfl rfl ?_
    replace h := bind_some h
    obtain ⟨y6, hx7, h⟩ := h
    refine aops_call (bV y6) [(iV a2)] fOk72 wants_none (evm_cons rfl evm_nil) (.cons (Imm.con _) .nil) (W72 F a2 y6 hx7) rfl ?_
    refine aops_not wants_none rfl rfl ?_
    refine aops_nil ?_
    refine awp_cond (!y6) rfl (fun hb8 => ?_) (fun hb8 => ?_)
    · replace h := ite_t hb8 h
      refine awp_seq ?_
      refine awp_region ?_
      refine aops_assign (bV false) wants_none rfl rfl ?_
      refine aops_assign (iV 9) wants_none rfl rfl ?_
      refine aops_nil ?_
      refine awp_ret ?_
      obtain rfl := Option.some.inj h
      exact ⟨.inl rfl, .two (.tmp rfl (Imm.con _)) (.tmp rfl (Imm.con _))⟩
    · replace h := ite_f hb8 h
      refine awp_skip ?_
      refine awp_seq ?_
      refine awp_region ?_
      refine aops_load_agg (cs := [(V.lst 1 (a1.Free.map encI_i64)), (V.lst 1 (a1.Holidays.map encI_i64))]) tA24 wants_none rfl rfl rfl rfl rfl rfl ?_
      replace h := bind_some h
      obtain ⟨y9, hx10, h⟩ := h
      refine aops_call (V.agg [(bV (y9.free 0)), (bV (y9.free 1)), (bV (y9.free 2)), (bV (y9.free 3)), (bV (y9.free 4)), (bV (y9.free 5)), (bV (y9.free 6)), (V.imap (y9.holidays.map encM3_4))]) [(V.agg [(V.lst 1 (a1.Free.map encI_i64)), (V.lst 1 (a1.Holidays.map encI_i64))])] fOk73 wants_none (evm_cons rfl evm_nil) (.cons (Imm.agg (.cons (Imm.lst _ _) (.cons (Imm.lst _ _) .nil))) .nil) (W73 F a1 y9 hx10) rfl ?_
      refine aops_move (iV a2) wants_none rfl rfl ?_
      replace h := bind_some h
      obtain ⟨y11, hx12, h⟩ := h
      refine aops_call (bV y11) [(V.agg [(bV (y9.free 0)), (bV (y9.free 1)), (bV (y9.free 2)), (bV (y9.free 3)), (bV (y9.free 4)), (bV (y9.free 5)), (bV (y9.free 6)), (V.imap (y9.holidays.map encM3_4))]), (iV a2)] fOk74 wants_none (evm_cons rfl (evm_cons rfl evm_nil)) (.cons (Imm.agg (.cons (Imm.con _) (.cons (Imm.con _) (.cons (Imm.con _) (.cons (Imm.con _) (.cons (Imm.con _) (.cons (Imm.con _) (.cons (Imm.con _) (.cons (Imm.imap _) .nil))))))))) (.cons (Imm.con _) .nil)) (W74 F y9 a2 y11 hx12) rfl ?_
      refine aops_assign (bV y11) wants_none rfl rfl ?_
      refine aops_assign (iV 0) wants_none rfl rfl ?_
      refine aops_nil ?_
      refine awp_ret ?_
      obtain rfl := Option.some.inj h
      exact ⟨.inl rfl, .two (.tmp rfl (Imm.con _)) (.tmp rfl (Imm.con _))⟩

theorem W17 (F : Nat) (a1 : TCalendar) (a2 : Int) (a3 : Int) (r : (Int × Int)) (h : M17 F a1 a2 a3 = some r) : Pure Try.prog 17 [(V.agg [(V.lst 1 (a1.Free.map encI_i64)), (V.lst 1 (a1.Holidays.map encI_i64))]), (iV a2), (iV a3)] (V.tup [(iV (r.1)), (iV (r.2))]) := by
  refine pure_enter Try.func17 rfl rfl (l := [.tmp 6, .tmp 7]) rfl rfl [(0, (V.agg [(V.lst 1 (a1.Free.map encI_i64)), (V.lst 1 (a1.Holidays.map encI_i64))])), (1, (iV a2)), (2, (iV a3))] rfl (fun w0 m0 => ?_)
  unfold M17 at h
  refine awp_seq ?_
  refine awp_region ?_
  refine aops_box [(V.lst 1 (a1.Free.map encI_i64)), (V.lst 1 (a1.Holidays.map encI_i64))] wants_none rfl rfl rfl rfl ?_
  refine aops_assign (iV 0) wants_none rfl rfl ?_
  refine aops_assign (iV 0) wants_none rfl rfl ?_
  refine aops_nil ?_
  refine awp_seq ?_
  refine awp_seq ?_
  refine awp_region ?_
  refine aops_load_agg (cs := [(V.lst 1 (a1.Free.map encI_i64)), (V.lst 1 (a1.Holidays.map encI_i64))]) tA24 wants_none rfl rfl rfl rfl rfl rfl ?_
  replace h := bind_some h
  obtain ⟨y4, hx5, h⟩ := h
  refine aops_call (iV y4) [(V.agg [(V.lst 1 (a1.Free.map encI_i64)), (V.lst 1 (a1.Holidays.map encI_i64))])] fOk21 wants_none (evm_cons rfl evm_nil) (.cons (Imm.agg (.cons (Imm.lst _ _) (.cons (Imm.lst _ _) .nil))) .nil) (W21 F a1 y4 hx5) rfl ?_
  refine aops_assign (iV y4) wants_none rfl rfl ?_
  refine aops_nil ?_
  refine awp_seq ?_
  refine awp_region ?_
  refine aops_move (iV y4) wants_none rfl rfl ?_
  refine aops_bin (.bool (y4 != 0)) wants_none rfl rfl rfl rfl ?_
  refine aops_nil ?_
  refine awp_cond (y4 != 0) rfl (fun hb6 => ?_) (fun hb6 => ?_)
  · replace h := ite_t hb6 h
    refine awp_seq ?_
    refine awp_region ?_
    refine aops_move (iV y4) wants_none rfl rfl ?_
    refine aops_assign (iV 0) wants_none rfl rfl ?_
    refine aops_assign (iV y4) wants_none rfl rfl ?_
    refine aops_nil ?_
    refine awp_ret ?_
    obtain rfl := Option.some.inj h
    exact ⟨.inl rfl, .two (.tmp rfl (Imm.con _)) (.tmp rfl (Imm.con _))⟩
  · replace h := ite_f hb6 h
    refine awp_skip ?_
    refine awp_seq ?_
    refine awp_seq ?_
    refine awp_region ?_
    refine aops_move (iV a2) wants_none rfl rfl ?_
    replace h := bind_some h
    obtain ⟨y7, hx8, h⟩ := h
    refine aops_call (bV y7) [(iV a2)] fOk69 wants_none (evm_cons rfl evm_nil) (.cons (Imm.con _) .nil) (W69 F a2 y7 hx8) rfl ?_
    refine aops_not wants_none rfl rfl ?_
    refine aops_move (bV (!y7)) wants_none rfl rfl ?_
    rcases Bool.eq_false_or_eq_true (!y7) with hb9 | hb9
    · replace h := ite_t hb9 h
      refine aops_skip (wants_some (c := (!y7)) (b := true) 18 rfl rfl hb9) rfl rfl ?_
      refine aops_skip (wants_some (c := (!y7)) (b := true) 18 rfl rfl hb9) rfl rfl ?_
      refine aops_skip (wants_some (c := (!y7)) (b := true) 18 rfl rfl hb9) rfl rfl ?_
      refine aops_pick true (cb := (!y7)) (bV true) wants_none rfl hb9 rfl rfl ?_
      refine aops_move (bV true) wants_none rfl rfl ?_
      refine aops_skip (wants_some (c := true) (b := true) 23 rfl rfl rfl) rfl rfl ?_
      refine aops_skip (wants_some (c := true) (b := true) 23 rfl rfl rfl) rfl rfl ?_
      refine aops_skip (wants_some (c := true) (b := true) 23 rfl rfl rfl) rfl rfl ?_
      refine aops_pick true (cb := true) (bV true) wants_none rfl rfl rfl rfl ?_
      refine aops_nil ?_
      refine awp_cond_t rfl rfl ?_
      refine awp_seq ?_
      refine awp_region ?_
      refine aops_assign (iV 0) wants_none rfl rfl ?_
      refine aops_assign (iV 9) wants_none rfl rfl ?_
      refine aops_nil ?_
      refine awp_ret ?_
      obtain rfl := Option.some.inj h
      exact ⟨.inl rfl, .two (.tmp rfl (Imm.con _)) (.tmp rfl (Imm.con _))⟩
    · replace h := ite_f hb9 h
      refine aops_move (iV a3) (wants_some (c := (!y7)) (b := false) 18 rfl rfl hb9) rfl rfl ?_
      replace h := bind_some h
      obtain ⟨y10, hx11, h⟩ := h
      refine aops_call (bV y10) [(iV a3)] fOk69 (wants_some (c := (!y7)) (b := false) 18 rfl rfl hb9) (evm_cons rfl evm_nil) (.cons (Imm.con _) .nil) (W69 F a3 y10 hx11) rfl ?_
      refine aops_not (wants_some (c := (!y7)) (b := false) 18 rfl rfl hb9) rfl rfl ?_
      refine aops_pick false (cb := (!y7)) (bV (!y10)) wants_none rfl hb9 rfl rfl ?_
      refine aops_move (bV (!y10)) wants_none rfl rfl ?_
      rcases Bool.eq_false_or_eq_true (!y10) with hb12 | hb12
      · replace h := ite_t hb12 h
        refine aops_skip (wants_some (c := (!y10)) (b := true) 23 rfl rfl hb12) rfl rfl ?_
        refine aops_skip (wants_some (c := (!y10)) (b := true) 23 rfl rfl hb12) rfl rfl ?_
        refine aops_skip (wants_some (c := (!y10)) (b := true) 23 rfl rfl hb12) rfl rfl ?_
        refine aops_pick true (cb := (!y10)) (bV true) wants_none rfl hb12 rfl rfl ?_
        refine aops_nil ?_
        refine awp_cond_t rfl rfl ?_
        refine awp_seq ?_
        refine awp_region ?_
        refine aops_assign (iV 0) wants_none rfl rfl ?_
        refine aops_assign (iV 9) wants_none rfl rfl ?_
        refine aops_nil ?_
        refine awp_ret ?_
        obtain rfl := Option.some.inj h
        exact ⟨.inl rfl, .two (.tmp rfl (Imm.con _)) (.tmp rfl (Imm.con _))⟩
      · replace h := ite_f hb12 h
        refine aops_move (iV a2) (wants_some (c := (!y10)) (b := false) 23 rfl rfl hb12) rfl rfl ?_
        refine aops_move (iV a3) (wants_some (c := (!y10)) (b := false) 23 rfl rfl hb12) rfl rfl ?_
        refine aops_bin (.bool (decide (a2 > a3))) (wants_some (c := (!y10)) (b := false) 23 rfl rfl hb12) rfl rfl rfl rfl ?_
        refine aops_pick false (cb := (!y10)) (bV (decide (a2 > a3))) wants_none rfl hb12 rfl rfl ?_
        refine aops_nil ?_
        refine awp_cond (decide (a2 > a3)) rfl (fun hb13 => ?_) (fun hb13 => ?_)
        · replace h := ite_t hb13 h
          refine awp_seq ?_
          refine awp_region ?_
          refine aops_assign (iV 0) wants_none rfl rfl ?_
          refine aops_assign (iV 9) wants_none rfl rfl ?_
          refine aops_nil ?_
          refine awp_ret ?_
          obtain rfl := Option.some.inj h
          exact ⟨.inl rfl, .two (.tmp rfl (Imm.con _)) (.tmp rfl (Imm.con _))⟩
        · replace h := ite_f hb13 h
          refine awp_skip ?_
          refine awp_seq ?_
          refine awp_region ?_
          refine aops_load_agg (cs := [(V.lst 1 (a1.Free.map encI_i64)), (V.lst 1 (a1.Holidays.map encI_i64))]) tA24 wants_none rfl rfl rfl rfl rfl rfl ?_
          replace h := bind_some h
          obtain ⟨y14, hx15, h⟩ := h
          refine aops_call (V.agg [(bV (y14.free 0)), (bV (y14.free 1)), (bV (y14.free 2)), (bV (y14.free 3)), (bV (y14.free 4)), (bV (y14.free 5)), (bV (y14.free 6)), (iV y14.work), (V.lst 1 (y14.holidays.map encI_i64))]) [(V.agg [(V.lst 1 (a1.Free.map encI_i64)), (V.lst 1 (a1.Holidays.map encI_i64))])] fOk70 wants_none (evm_cons rfl evm_nil) (.cons (Imm.agg (.cons (Imm.lst _ _) (.cons (Imm.lst _ _) .nil))) .nil) (W70 F a1 y14 hx15) rfl ?_
          refine aops_alloc tZ101 rfl rfl wants_none rfl ?_
          refine aops_store [(bV (y14.free 0)), (bV (y14.free 1)), (bV (y14.free 2)), (bV (y14.free 3)), (bV (y14.free 4)), (bV (y14.free 5)), (bV (y14.free 6)), (iV y14.work), (V.lst 1 (y14.holidays.map encI_i64))] [[(bV (y14.free 0)), (bV (y14.free 1)), (bV (y14.free 2)), (bV (y14.free 3)), (bV (y14.free 4)), (bV (y14.free 5)), (bV (y14.free 6)), (iV y14.work), (V.lst 1 (y14.holidays.map encI_i64))]] tS101 wants_none rfl rfl rfl rfl rfl rfl rfl rfl ?_
          refine aops_nil ?_
          refine awp_seq ?_
          replace h := bind_some h
          obtain ⟨y16, hx17, h⟩ := h
          replace h := bind_some h
          obtain ⟨y18, hx19, h⟩ := h
          refine awp_any [OD.mk [(9, (V.ptr 1 9 0 0))] [(1, (Ob.arr 101 9 [[(bV (y14.free 0)), (bV (y14.free 1)), (bV (y14.free 2)), (bV (y14.free 3)), (bV (y14.free 4)), (bV (y14.free 5)), (bV (y14.free 6)), (iV y14.work), (V.lst 1 (y14.holidays.map encI_i64))]]))] [(30, (V.agg [(bV (y14.free 0)), (bV (y14.free 1)), (bV (y14.free 2)), (bV (y14.free 3)), (bV (y14.free 4)), (bV (y14.free 5)), (bV (y14.free 6)), (iV y14.work), (V.lst 1 (y14.holidays.map encI_i64))]))] [],
                OD.mk [(2, (iV a3))] [] [(31, (iV a3))] [],
                OD.mk [(30, (V.agg [(bV (y14.free 0)), (bV (y14.free 1)), (bV (y14.free 2)), (bV (y14.free 3)), (bV (y14.free 4)), (bV (y14.free 5)), (bV (y14.free 6)), (iV y14.work), (V.lst 1 (y14.holidays.map encI_i64))])), (31, (iV a3))] [] [(32, (iV y16))] [],
                OD.mk [(9, (V.ptr 1 9 0 0))] [(1, (Ob.arr 101 9 [[(bV (y14.free 0)), (bV (y14.free 1)), (bV (y14.free 2)), (bV (y14.free 3)), (bV (y14.free 4)), (bV (y14.free 5)), (bV (y14.free 6)), (iV y14.work), (V.lst 1 (y14.holidays.map encI_i64))]]))] [(33, (V.agg [(bV (y14.free 0)), (bV (y14.free 1)), (bV (y14.free 2)), (bV (y14.free 3)), (bV (y14.free 4)), (bV (y14.free 5)), (bV (y14.free 6)), (iV y14.work), (V.lst 1 (y14.holidays.map encI_i64))]))] [],
                OD.mk [(1, (iV a2))] [] [(34, (iV a2))] [],
                OD.mk [(33, (V.agg [(bV (y14.free 0)), (bV (y14.free 1)), (bV (y14.free 2)), (bV (y14.free 3)), (bV (y14.free 4)), (bV (y14.free 5)), (bV (y14.free 6)), (iV y14.work), (V.lst 1 (y14.holidays.map encI_i64))])), (34, (iV a2))] [] [(35, (iV y18))] [],
                OD.mk [(32, (iV y16)), (35, (iV y18))] [] [(36, (iV (w64 (y16 - y18))))] [],
                OD.mk [(36, (iV (w64 (y16 - y18))))] [] [(6, (iV (w64 (y16 - y18))))] [],
                OD.mk [] [] [(7, (iV 0))] []] mixed ⟨⟨rfl, trivial⟩, ⟨rfl, trivial⟩, ⟨⟨rfl, trivial⟩, trivial, ⟨⟨rfl, rfl, trivial⟩, trivial, ⟨⟨rfl, trivial⟩, ⟨rfl, trivial⟩, ⟨⟨rfl, trivial⟩, trivial, ⟨⟨rfl, rfl, trivial⟩, trivial, ⟨⟨rfl, rfl, trivial⟩, trivial, ⟨⟨rfl, trivial⟩, trivial, ⟨trivial, trivial, trivial⟩⟩⟩⟩⟩⟩⟩⟩⟩ (by kernel_rfl) (.cons (fun S hn h hh => aops_load_agg (cs := [(bV (y14.free 0)), (bV (y14.free 1)), (bV (y14.free 2)), (bV (y14.free 3)), (bV (y14.free 4)), (bV (y14.free 5)), (bV (y14.free 6)), (iV y14.work), (V.lst 1 (y14.holidays.map encI_i64))]) tA101 wants_none h.1 hh.1 rfl rfl rfl rfl (aops_nil ⟨rfl, rfl⟩)) (.cons (fun S hn h hh => aops_move (iV a3) wants_none h.1 rfl (aops_nil ⟨rfl, rfl⟩)) (.cons (fun S hn h hh => aops_call (iV y16) [(V.agg [(bV (y14.free 0)), (bV (y14.free 1)), (bV (y14.free 2)), (bV (y14.free 3)), (bV (y14.free 4)), (bV (y14.free 5)), (bV (y14.free 6)), (iV y14.work), (V.lst 1 (y14.holidays.map encI_i64))]), (iV a3)] fOk71 wants_none (evm_cons h.1 (evm_cons h.2.1 evm_nil)) (.cons (Imm.agg (.cons (Imm.con _) (.cons (Imm.con _) (.cons (Imm.con _) (.cons (Imm.con _) (.cons (Imm.con _) (.cons (Imm.con _) (.cons (Imm.con _) (.cons (Imm.con _) (.cons (Imm.lst _ _) .nil)))))))))) (.cons (Imm.con _) .nil)) (W71 F y14 a3 y16 hx17) rfl (aops_nil ⟨rfl, rfl⟩)) (.cons (fun S hn h hh => aops_load_agg (cs := [(bV (y14.free 0)), (bV (y14.free 1)), (bV (y14.free 2)), (bV (y14.free 3)), (bV (y14.free 4)), (bV (y14.free 5)), (bV (y14.free 6)), (iV y14.work), (V.lst 1 (y14.holidays.map encI_i64))]) tA101 wants_none h.1 hh.1 rfl rfl rfl rfl (aops_nil ⟨rfl, rfl⟩)) (.cons (fun S hn h hh => aops_move (iV a2) wants_none h.1 rfl (aops_nil ⟨rfl, rfl⟩)) (.cons (fun S hn h hh => aops_call (iV y18) [(V.agg [(bV (y14.free 0)), (bV (y14.free 1)), (bV (y14.free 2)), (bV (y14.free 3)), (bV (y14.free 4)), (bV (y14.free 5)), (bV (y14.free 6)), (iV y14.work), (V.lst 1 (y14.holidays.map encI_i64))]), (iV a2)] fOk71 wants_none (evm_cons h.1 (evm_cons h.2.1 evm_nil)) (.cons (Imm.agg (.cons (Imm.con _) (.cons (Imm.con _) (.cons (Imm.con _) (.cons (Imm.con _) (.cons (Imm.con _) (.cons (Imm.con _) (.cons (Imm.con _) (.cons (Imm.con _) (.cons (Imm.lst _ _) .nil)))))))))) (.cons (Imm.con _) .nil)) (W71 F y14 a2 y18 hx19) rfl (aops_nil ⟨rfl, rfl⟩)) (.cons (fun S hn h hh => aops_bin (.int .i64 (w64 (y16 - y18))) wants_none h.1 h.2.1 rfl rfl (aops_nil ⟨rfl, rfl⟩)) (.cons (fun S hn h hh => aops_assign (iV (w64 (y16 - y18))) wants_none h.1 rfl (aops_nil ⟨rfl, rfl⟩)) (.cons (fun S hn h hh => aops_assign (iV 0) wants_none rfl rfl (aops_nil ⟨rfl, rfl⟩)) .nil))))))))) ?_
          refine awp_ret ?_
          obtain rfl := Option.some.inj h
          exact ⟨.inl rfl, .two (.tmp rfl (Imm.con _)) (.tmp rfl (Imm.con _))⟩

theorem W75 (F : Nat) (a1 : Tprovenderref11_calendar) (a2 : Int) (a3 : Int) (r : Int) (h : M75 F a1 a2 a3 = some r) : Pure Try.prog 75 [(V.agg [(bV (a1.free 0)), (bV (a1.free 1)), (bV (a1.free 2)), (bV (a1.free 3)), (bV (a1.free 4)), (bV (a1.free 5)), (bV (a1.free 6)), (V.imap (a1.holidays.map encM3_4))]), (iV a2), (iV a3)] (iV r) := by
  refine pure_enter Try.func75 rfl rfl (l := [.tmp 6]) rfl rfl [(0, (V.agg [(bV (a1.free 0)), (bV (a1.free 1)), (bV (a1.free 2)), (bV (a1.free 3)), (bV (a1.free 4)), (bV (a1.free 5)), (bV (a1.free 6)), (V.imap (a1.holidays.map encM3_4))])), (1, (iV a2)), (2, (iV a3))] rfl (fun w0 m0 => ?_)
  unfold M75 at h
  refine awp_seq ?_
  refine awp_region ?_
  refine aops_box [(bV (a1.free 0)), (bV (a1.free 1)), (bV (a1.free 2)), (bV (a1.free 3)), (bV (a1.free 4)), (bV (a1.free 5)), (bV (a1.free 6)), (V.imap (a1.holidays.map encM3_4))] wants_none rfl rfl rfl rfl ?_
  refine aops_assign (iV 0) wants_none rfl rfl ?_
  refine aops_nil ?_
  refine awp_seq ?_
  refine awp_region ?_
  refine aops_assign (iV 0) wants_none rfl rfl ?_
  refine aops_nil ?_
  refine awp_seq ?_
  refine awp_seq ?_
  refine awp_region ?_
  refine aops_move (iV a2) wants_none rfl rfl ?_
  refine aops_assign (iV a2) wants_none rfl rfl ?_
  refine aops_nil ?_
  replace h := jn_elim h
  obtain ⟨k4, hk4, h⟩ := h
  refine awp_cut (fun (p : Int) => (⟨[(7, (iV p))], [], 0⟩ : St)) (fun (p : Int) => k4 p = some r) ?_ ?_
  · clear hk4
    refine awp_block ?_
    refine awp_loop_ind (fun (p : Int × Int) => (⟨[(2, (iV a3)), (3, (V.ptr 0 8 0 0)), (7, (iV (p.1))), (8, (iV (p.2)))], [(0, (Ob.arr 106 8 [[(bV (a1.free 0)), (bV (a1.free 1)), (bV (a1.free 2)), (bV (a1.free 3)), (bV (a1.free 4)), (bV (a1.free 5)), (bV (a1.free 6)), (V.imap (a1.holidays.map encM3_4))]]))], 1⟩ : St)) (fun n (p : Int × Int) => M75_L1 F a1 a3 k4 n p.1 p.2 = some r) (fun p h => by simp [M75_L1] at h) (fun n ih1 p h => ?_) F (0, a2) h (ghost_ren 1 (fun i => ([0] : List Nat).getD i 0) _ _ (by decide) (EnvSub.get (.cons (Sub.imm (Imm.con _)) (.cons (Sub.ptr rfl rfl) (.cons (Sub.imm (Imm.con _)) (.cons (Sub.imm (Imm.con _)) .nil))))) (HpSub.get (.cons rfl (ObSub.box (.cons (Sub.imm (Imm.con _)) (.cons (Sub.imm (Imm.con _)) (.cons (Sub.imm (Imm.con _)) (.cons (Sub.imm (Imm.con _)) (.cons (Sub.imm (Imm.con _)) (.cons (Sub.imm (Imm.con _)) (.cons (Sub.imm (Imm.con _)) (.cons (Sub.imm (Imm.imap _)) .nil))))))))) .nil)) rfl)
    obtain ⟨n8, n9⟩ := p
    unfold M75_L1 at h
    refine awp_loop ?_
    refine awp_seq ?_
    refine awp_seq ?_
    refine awp_region ?_
    refine aops_move (iV n9) wants_none rfl rfl ?_
    refine aops_move (iV a3) wants_none rfl rfl ?_
    refine aops_bin (.bool (decide (n9 < a3))) wants_none rfl rfl rfl rfl ?_
    refine aops_nil ?_
    refine awp_cond (decide (n9 < a3)) rfl (fun hb10 => ?_) (fun hb10 => ?_)
    · replace h := ite_t hb10 h
      refine awp_skip ?_
      refine awp_seq ?_
      refine awp_block ?_
      refine awp_seq ?_
      refine awp_region ?_
      refine aops_load_agg (cs := [(bV (a1.free 0)), (bV (a1.free 1)), (bV (a1.free 2)), (bV (a1.free 3)), (bV (a1.free 4)), (bV (a1.free 5)), (bV (a1.free 6)), (V.imap (a1.holidays.map encM3_4))]) tA106 wants_none rfl rfl rfl rfl rfl rfl ?_
      refine aops_move (iV n9) wants_none rfl rfl ?_
      replace h := bind_some h
      obtain ⟨y11, hx12, h⟩ := h
      refine aops_call (bV y11) [(V.agg [(bV (a1.free 0)), (bV (a1.free 1)), (bV (a1.free 2)), (bV (a1.free 3)), (bV (a1.free 4)), (bV (a1.free 5)), (bV (a1.free 6)), (V.imap (a1.holidays.map encM3_4))]), (iV n9)] fOk74 wants_none (evm_cons rfl (evm_cons rfl evm_nil)) (.cons (Imm.agg (.cons (Imm.con _) (.cons (Imm.con _) (.cons (Imm.con _) (.cons (Imm.con _) (.cons (Imm.con _) (.cons (Imm.con _) (.cons (Imm.con _) (.cons (Imm.imap _) .nil))))))))) (.cons (Imm.con _) .nil)) (W74 F a1 n9 y11 hx12) rfl ?_
      refine aops_nil ?_
      replace h := jn_elim h
      obtain ⟨k13, hk13, h⟩ := h
      refine awp_cut (fun (p : Int) => (⟨[(2, (iV a3)), (3, (V.ptr 0 8 0 0)), (7, (iV p)), (8, (iV n9))], [(0, (Ob.arr 106 8 [[(bV (a1.free 0)), (bV (a1.free 1)), (bV (a1.free 2)), (bV (a1.free 3)), (bV (a1.free 4)), (bV (a1.free 5)), (bV (a1.free 6)), (V.imap (a1.holidays.map encM3_4))]]))], 1⟩ : St)) (fun (p : Int) => k13 p = some r) ?_ ?_
      · clear hk13
        refine awp_cond y11 rfl (fun hb15 => ?_) (fun hb15 => ?_)
        · replace h := ite_t hb15 h
          refine awp_region ?_
          refine aops_move (iV n8) wants_none rfl rfl ?_
          refine aops_bin (.int .i64 (w64 (n8 + 1))) wants_none rfl rfl rfl rfl ?_
          refine aops_assign (iV (w64 (n8 + 1))) wants_none rfl rfl ?_
          refine aops_nil ?_
          exact ⟨(w64 (n8 + 1)), h, (ghost_ren 1 (fun i => ([0] : List Nat).getD i 0) _ _ (by decide) (EnvSub.get (.cons (Sub.imm (Imm.con _)) (.cons (Sub.ptr rfl rfl) (.cons (Sub.imm (Imm.con _)) (.cons (Sub.imm (Imm.con _)) .nil))))) (HpSub.get (.cons rfl (ObSub.box (.cons (Sub.imm (Imm.con _)) (.cons (Sub.imm (Imm.con _)) (.cons (Sub.imm (Imm.con _)) (.cons (Sub.imm (Imm.con _)) (.cons (Sub.imm (Imm.con _)) (.cons (Sub.imm (Imm.con _)) (.cons (Sub.imm (Imm.con _)) (.cons (Sub.imm (Imm.imap _)) .nil))))))))) .nil)) rfl)⟩
        · replace h := ite_f hb15 h
          refine awp_skip ?_
          exact ⟨n8, h, (ghost_ren 1 (fun i => ([0] : List Nat).getD i 0) _ _ (by decide) (EnvSub.get (.cons (Sub.imm (Imm.con _)) (.cons (Sub.ptr rfl rfl) (.cons (Sub.imm (Imm.con _)) (.cons (Sub.imm (Imm.con _)) .nil))))) (HpSub.get (.cons rfl (ObSub.box (.cons (Sub.imm (Imm.con _)) (.cons (Sub.imm (Imm.con _)) (.cons (Sub.imm (Imm.con _)) (.cons (Sub.imm (Imm.con _)) (.cons (Sub.imm (Imm.con _)) (.cons (Sub.imm (Imm.con _)) (.cons (Sub.imm (Imm.con _)) (.cons (Sub.imm (Imm.imap _)) .nil))))))))) .nil)) rfl)⟩
      · clear h
        intro n14 h
        subst hk13
        refine awp_region ?_
        refine aops_move (iV n9) wants_none rfl rfl ?_
        refine aops_bin (.int .i64 (w64 (n9 + 1))) wants_none rfl rfl rfl rfl ?_
        refine aops_assign (iV (w64 (n9 + 1))) wants_none rfl rfl ?_
        refine aops_nil ?_
        exact awp_back (ih1 (n14, (w64 (n9 + 1))) h) (ghost_ren 1 (fun i => ([0] : List Nat).getD i 0) _ _ (by decide) (EnvSub.get (.cons (Sub.imm (Imm.con _)) (.cons (Sub.ptr rfl rfl) (.cons (Sub.imm (Imm.con _)) (.cons (Sub.imm (Imm.con _)) .nil))))) (HpSub.get (.cons rfl (ObSub.box (.cons (Sub.imm (Imm.con _)) (.cons (Sub.imm (Imm.con _)) (.cons (Sub.imm (Imm.con _)) (.cons (Sub.imm (Imm.con _)) (.cons (Sub.imm (Imm.con _)) (.cons (Sub.imm (Imm.con _)) (.cons (Sub.imm (Imm.con _)) (.cons (Sub.imm (Imm.imap _)) .nil))))))))) .nil)) rfl)
    · replace h := ite_f hb10 h
      refine awp_exit ?_
      exact ⟨n8, h, (ghost_ren 0 (fun i => ([] : List Nat).getD i 0) _ _ (by decide) (EnvSub.get (.cons (Sub.imm (Imm.con _)) .nil)) (HpSub.get .nil) rfl)⟩
  · clear h
    intro n5 h
    subst hk4
    refine awp_seq ?_
    refine awp_region ?_
    refine aops_move (iV n5) wants_none rfl rfl ?_
    refine aops_assign (iV n5) wants_none rfl rfl ?_
    refine aops_nil ?_
    refine awp_ret ?_
    obtain rfl := Option.some.inj h
    exact ⟨.inl rfl, .one (.tmp rfl (Imm.con _))⟩

theorem W18 (F : Nat) (a1 : TCalendar) (a2 : Int) (a3 : Int) (r : (Int × Int)) (h : M18 F a1 a2 a3 = some r) : Pure Try.prog 18 [(V.agg [(V.lst 1 (a1.Free.map encI_i64)), (V.lst 1 (a1.Holidays.map encI_i64))]), (iV a2), (iV a3)] (V.tup [(iV (r.1)), (iV (r.2))]) := by
  refine pure_enter Try.func18 rfl rfl (l := [.tmp 6, .tmp 7]) rfl rfl [(0, (V.agg [(V.lst 1 (a1.Free.map encI_i64)), (V.lst 1 (a1.Holidays.map encI_i64))])), (1, (iV a2)), (2, (iV a3))] rfl (fun w0 m0 => ?_)
  unfold M18 at h
  refine awp_seq ?_
  refine awp_region ?_
  refine aops_box [(V.lst 1 (a1.Free.map encI_i64)), (V.lst 1 (a1.Holidays.map encI_i64))] wants_none rfl rfl rfl rfl ?_
  refine aops_assign (iV 0) wants_none rfl rfl ?_
  refine aops_assign (iV 0) wants_none rfl rfl ?_
  refine aops_nil ?_
  refine awp_seq ?_
  refine awp_seq ?_
  refine awp_region ?_
  refine aops_load_agg (cs := [(V.lst 1 (a1.Free.map encI_i64)), (V.lst 1 (a1.Holidays.map encI_i64))]) tA24 wants_none rfl rfl rfl rfl rfl rfl ?_
  replace h := bind_some h
  obtain ⟨y4, hx5, h⟩ := h
  refine aops_call (iV y4) [(V.agg [(V.lst 1 (a1.Free.map encI_i64)), (V.lst 1 (a1.Holidays.map encI_i64))])] fOk22 wants_none (evm_cons rfl evm_nil) (.cons (Imm.agg (.cons (Imm.lst _ _) (.cons (Imm.lst _ _) .nil))) .nil) (W22 F a1 y4 hx5) rfl ?_
  refine aops_assign (iV y4) wants_none rfl rfl ?_
  refine aops_nil ?_
  refine awp_seq ?_
  refine awp_region ?_
  refine aops_move (iV y4) wants_none rfl rfl ?_
  refine aops_bin (.bool (y4 != 0)) wants_none rfl rfl rfl rfl ?_
  refine aops_nil ?_
  refine awp_cond (y4 != 0) rfl (fun hb6 => ?_) (fun hb6 => ?_)
  · replace h := ite_t hb6 h
    refine awp_seq ?_
    refine awp_region ?_
    refine aops_move (iV y4) wants_none rfl rfl ?_
    refine aops_assign (iV 0) wants_none rfl rfl ?_
    refine aops_assign (iV y4) wants_none rfl rfl ?_
    refine aops_nil ?_
    refine awp_ret ?_
    obtain rfl := Option.some.inj h
    exact ⟨.inl rfl, .two (.tmp rfl (Imm.con _)) (.tmp rfl (Imm.con _))⟩
  · replace h := ite_f hb6 h
    refine awp_skip ?_
    refine awp_seq ?_
    refine awp_seq ?_
    refine awp_region ?_
    refine aops_move (iV a2) wants_none rfl rfl ?_
    replace h := bind_some h
    obtain ⟨y7, hx8, h⟩ := h
    refine aops_call (bV y7) [(iV a2)] fOk72 wants_none (evm_cons rfl evm_nil) (.cons (Imm.con _) .nil) (W72 F a2 y7 hx8) rfl ?_
    refine aops_not wants_none rfl rfl ?_
    refine aops_move (bV (!y7)) wants_none rfl rfl ?_
    rcases Bool.eq_false_or_eq_true (!y7) with hb9 | hb9
    · replace h := ite_t hb9 h
      refine aops_skip (wants_some (c := (!y7)) (b := true) 17 rfl rfl hb9) rfl rfl ?_
      refine aops_skip (wants_some (c := (!y7)) (b := true) 17 rfl rfl hb9) rfl rfl ?_
      refine aops_skip (wants_some (c := (!y7)) (b := true) 17 rfl rfl hb9) rfl rfl ?_
      refine aops_pick true (cb := (!y7)) (bV true) wants_none rfl hb9 rfl rfl ?_
      refine aops_move (bV true) wants_none rfl rfl ?_
      refine aops_skip (wants_some (c := true) (b := true) 22 rfl rfl rfl) rfl rfl ?_
      refine aops_skip (wants_some (c := true) (b := true) 22 rfl rfl rfl) rfl rfl ?_
      refine aops_skip (wants_some (c := true) (b := true) 22 rfl rfl rfl) rfl rfl ?_
      refine aops_pick true (cb := true) (bV true) wants_none rfl rfl rfl rfl ?_
      refine aops_nil ?_
      refine awp_cond_t rfl rfl ?_
      refine awp_seq ?_
      refine awp_region ?_
      refine aops_assign (iV 0) wants_none rfl rfl ?_
      refine aops_assign (iV 9) wants_none rfl rfl ?_
      refine aops_nil ?_
      refine awp_ret ?_
      obtain rfl := Option.some.inj h
      exact ⟨.inl rfl, .two (.tmp rfl (Imm.con _)) (.tmp rfl (Imm.con _))⟩
    · replace h := ite_f hb9 h
      refine aops_move (iV a3) (wants_some (c := (!y7)) (b := false) 17 rfl rfl hb9) rfl rfl ?_
      replace h := bind_some h
      obtain ⟨y10, hx11, h⟩ := h
      refine aops_call (bV y10) [(iV a3)] fOk72 (wants_some (c := (!y7)) (b := false) 17 rfl rfl hb9) (evm_cons rfl evm_nil) (.cons (Imm.con _) .nil) (W72 F a3 y10 hx11) rfl ?_
      refine aops_not (wants_some (c := (!y7)) (b := false) 17 rfl rfl hb9) rfl rfl ?_
      refine aops_pick false (cb := (!y7)) (bV (!y10)) wants_none rfl hb9 rfl rfl ?_
      refine aops_move (bV (!y10)) wants_none rfl rfl ?_
      rcases Bool.eq_false_or_eq_true (!y10) with hb12 | hb12
      · replace h := ite_t hb12 h
        refine aops_skip (wants_some (c := (!y10)) (b := true) 22 rfl rfl hb12) rfl rfl ?_
        refine aops_skip (wants_some (c := (!y10)) (b := true) 22 rfl rfl hb12) rfl rfl ?_
        refine aops_skip (wants_some (c := (!y10)) (b := true) 22 rfl rfl hb12) rfl rfl ?_
        refine aops_pick true (cb := (!y10)) (bV true) wants_none rfl hb12 rfl rfl ?_
        refine aops_nil ?_
        refine awp_cond_t rfl rfl ?_
        refine awp_seq ?_
        refine awp_region ?_
        refine aops_assign (iV 0) wants_none rfl rfl ?_
        refine aops_assign (iV 9) wants_none rfl rfl ?_
        refine aops_nil ?_
        refine awp_ret ?_
        obtain rfl := Option.some.inj h
        exact ⟨.inl rfl, .two (.tmp rfl (Imm.con _)) (.tmp rfl (Imm.con _))⟩
      · replace h := ite_f hb12 h
        refine aops_move (iV a2) (wants_some (c := (!y10)) (b := false) 22 rfl rfl hb12) rfl rfl ?_
        refine aops_move (iV a3) (wants_some (c := (!y10)) (b := false) 22 rfl rfl hb12) rfl rfl ?_
        refine aops_bin (.bool (decide (a2 > a3))) (wants_some (c := (!y10)) (b := false) 22 rfl rfl hb12) rfl rfl rfl rfl ?_
        refine aops_pick false (cb := (!y10)) (bV (decide (a2 > a3))) wants_none rfl hb12 rfl rfl ?_
        refine aops_nil ?_
        refine awp_cond (decide (a2 > a3)) rfl (fun hb13 => ?_) (fun hb13 => ?_)
        · replace h := ite_t hb13 h
          refine awp_seq ?_
          refine awp_region ?_
          refine aops_assign (iV 0) wants_none rfl rfl ?_
          refine aops_assign (iV 9) wants_none rfl rfl ?_
          refine aops_nil ?_
          refine awp_ret ?_
          obtain rfl := Option.some.inj h
          exact ⟨.inl rfl, .two (.tmp rfl (Imm.con _)) (.tmp rfl (Imm.con _))⟩
        · replace h := ite_f hb13 h
          refine awp_skip ?_
          refine awp_seq ?_
          refine awp_region ?_
          refine aops_load_agg (cs := [(V.lst 1 (a1.Free.map encI_i64)), (V.lst 1 (a1.Holidays.map encI_i64))]) tA24 wants_none rfl rfl rfl rfl rfl rfl ?_
          replace h := bind_some h
          obtain ⟨y14, hx15, h⟩ := h
          refine aops_call (V.agg [(bV (y14.free 0)), (bV (y14.free 1)), (bV (y14.free 2)), (bV (y14.free 3)), (bV (y14.free 4)), (bV (y14.free 5)), (bV (y14.free 6)), (V.imap (y14.holidays.map encM3_4))]) [(V.agg [(V.lst 1 (a1.Free.map encI_i64)), (V.lst 1 (a1.Holidays.map encI_i64))])] fOk73 wants_none (evm_cons rfl evm_nil) (.cons (Imm.agg (.cons (Imm.lst _ _) (.cons (Imm.lst _ _) .nil))) .nil) (W73 F a1 y14 hx15) rfl ?_
          refine aops_move (iV a2) wants_none rfl rfl ?_
          refine aops_move (iV a3) wants_none rfl rfl ?_
          replace h := bind_some h
          obtain ⟨y16, hx17, h⟩ := h
          refine aops_call (iV y16) [(V.agg [(bV (y14.free 0)), (bV (y14.free 1)), (bV (y14.free 2)), (bV (y14.free 3)), (bV (y14.free 4)), (bV (y14.free 5)), (bV (y14.free 6)), (V.imap (y14.holidays.map encM3_4))]), (iV a2), (iV a3)] fOk75 wants_none (evm_cons rfl (evm_cons rfl (evm_cons rfl evm_nil))) (.cons (Imm.agg (.cons (Imm.con _) (.cons (Imm.con _) (.cons (Imm.con _) (.cons (Imm.con _) (.cons (Imm.con _) (.cons (Imm.con _) (.cons (Imm.con _) (.cons (Imm.imap _) .nil))))))))) (.cons (Imm.con _) (.cons (Imm.con _) .nil))) (W75 F y14 a2 a3 y16 hx17) rfl ?_
          refine aops_assign (iV y16) wants_none rfl rfl ?_
          refine aops_assign (iV 0) wants_none rfl rfl ?_
          refine aops_nil ?_
          refine awp_ret ?_
          obtain rfl := Option.some.inj h
          exact ⟨.inl rfl, .two (.tmp rfl (Imm.con _)) (.tmp rfl (Imm.con _))⟩

theorem W126 (F : Nat) (a1 : Int) (a2 : Bool) (a3 : Bool) (a4 : Bool) (a5 : Bool) (a6 : Bool) (a7 : Bool) (a8 : Bool) (a9 : Int) (a10 : List Int) (a11 : Int) (a12 : Int) (r : Bool) (h : M126 F a1 a2 a3 a4 a5 a6 a7 a8 a9 a10 a11 a12 = some r) : Pure Try.prog 126 [(iV a1), (V.iptr [(bV a2), (bV a3), (bV a4), (bV a5), (bV a6), (bV a7), (bV a8), (iV a9), (V.lst 1 (a10.map encI_i64))] 0), (V.iptr [(iV a11)] 0), (V.iptr [(iV a12)] 0)] (bV r) := by
  refine pure_enter Try.func126 rfl rfl (l := [.tmp 5]) rfl rfl [(0, (iV a1)), (1, (V.iptr [(bV a2), (bV a3), (bV a4), (bV a5), (bV a6), (bV a7), (bV a8), (iV a9), (V.lst 1 (a10.map encI_i64))] 0)), (2, (V.iptr [(iV a11)] 0)), (3, (V.iptr [(iV a12)] 0))] rfl (fun w0 m0 => ?_)
  unfold M126 at h
  refine awp_seq ?_
  refine awp_region ?_
  refine aops_assign (bV false) wants_none rfl rfl ?_
  refine aops_nil ?_
  refine awp_seq ?_
  replace h := bind_some h
  obtain ⟨y13, hx14, h⟩ := h
  refine awp_any [OD.mk [(1, (V.iptr [(bV a2), (bV a3), (bV a4), (bV a5), (bV a6), (bV a7), (bV a8), (iV a9), (V.lst 1 (a10.map encI_i64))] 0))] [] [(6, (V.agg [(bV a2), (bV a3), (bV a4), (bV a5), (bV a6), (bV a7), (bV a8), (iV a9), (V.lst 1 (a10.map encI_i64))]))] [],
        OD.mk [(2, (V.iptr [(iV a11)] 0))] [] [(7, (iV a11))] [],
        OD.mk [(0, (iV a1))] [] [(8, (iV a1))] [],
        OD.mk [(7, (iV a11)), (8, (iV a1))] [] [(9, (iV (w64 (a11 + a1))))] [],
        OD.mk [(6, (V.agg [(bV a2), (bV a3), (bV a4), (bV a5), (bV a6), (bV a7), (bV a8), (iV a9), (V.lst 1 (a10.map encI_i64))])), (9, (iV (w64 (a11 + a1))))] [] [(10, (iV y13))] [],
        OD.mk [(3, (V.iptr [(iV a12)] 0))] [] [(11, (iV a12))] [],
        OD.mk [(10, (iV y13)), (11, (iV a12))] [] [(12, (bV (decide (y13 ≥ a12))))] [],
        OD.mk [(12, (bV (decide (y13 ≥ a12))))] [] [(5, (bV (decide (y13 ≥ a12))))] []] mixed ⟨⟨rfl, trivial⟩, trivial, ⟨⟨rfl, trivial⟩, trivial, ⟨⟨rfl, trivial⟩, trivial, ⟨⟨rfl, rfl, trivial⟩, trivial, ⟨⟨rfl, rfl, trivial⟩, trivial, ⟨⟨rfl, trivial⟩, trivial, ⟨⟨rfl, rfl, trivial⟩, trivial, ⟨⟨rfl, trivial⟩, trivial, trivial⟩⟩⟩⟩⟩⟩⟩⟩ (by kernel_rfl) (.cons (fun S hn h hh => aops_iload_agg (cs := [(bV a2), (bV a3), (bV a4), (bV a5), (bV a6), (bV a7), (bV a8), (iV a9), (V.lst 1 (a10.map encI_i64))]) tA101 wants_none h.1 rfl rfl rfl (aops_nil ⟨rfl, rfl⟩)) (.cons (fun S hn h hh => aops_iload_cell (iV a11) tC3 wants_none h.1 rfl rfl (aops_nil ⟨rfl, rfl⟩)) (.cons (fun S hn h hh => aops_move (iV a1) wants_none h.1 rfl (aops_nil ⟨rfl, rfl⟩)) (.cons (fun S hn h hh => aops_bin (.int .i64 (w64 (a11 + a1))) wants_none h.1 h.2.1 rfl rfl (aops_nil ⟨rfl, rfl⟩)) (.cons (fun S hn h hh => aops_call (iV y13) [(V.agg [(bV a2), (bV a3), (bV a4), (bV a5), (bV a6), (bV a7), (bV a8), (iV a9), (V.lst 1 (a10.map encI_i64))]), (iV (w64 (a11 + a1)))] fOk71 wants_none (evm_cons h.1 (evm_cons h.2.1 evm_nil)) (.cons (Imm.agg (.cons (Imm.con _) (.cons (Imm.con _) (.cons (Imm.con _) (.cons (Imm.con _) (.cons (Imm.con _) (.cons (Imm.con _) (.cons (Imm.con _) (.cons (Imm.con _) (.cons (Imm.lst _ _) .nil)))))))))) (.cons (Imm.con _) .nil)) (W71 F (Thistory_week.mk (arrOf false [a2, a3, a4, a5, a6, a7, a8]) a9 a10) (w64 (a11 + a1)) y13 hx14) rfl (aops_nil ⟨rfl, rfl⟩)) (.cons (fun S hn h hh => aops_iload_cell (iV a12) tC3 wants_none h.1 rfl rfl (aops_nil ⟨rfl, rfl⟩)) (.cons (fun S hn h hh => aops_bin (.bool (decide (y13 ≥ a12))) wants_none h.1 h.2.1 rfl rfl (aops_nil ⟨rfl, rfl⟩)) (.cons (fun S hn h hh => aops_assign (bV (decide (y13 ≥ a12))) wants_none h.1 rfl (aops_nil ⟨rfl, rfl⟩)) .nil)))))))) ?_
  refine awp_ret ?_
  obtain rfl := Option.some.inj h
  exact ⟨.inl rfl, .one (.tmp rfl (Imm.con _))⟩

theorem W125 (F : Nat) (a1 : Int) (a2 : Bool) (a3 : Bool) (a4 : Bool) (a5 : Bool) (a6 : Bool) (a7 : Bool) (a8 : Bool) (a9 : Int) (a10 : List Int) (a11 : Int) (a12 : Int) (r : Int) (h : M125 F a1 a2 a3 a4 a5 a6 a7 a8 a9 a10 a11 a12 = some r) : Pure Try.prog 125 [(iV a1), (V.fn (.func 126) [] [(V.iptr [(bV a2), (bV a3), (bV a4), (bV a5), (bV a6), (bV a7), (bV a8), (iV a9), (V.lst 1 (a10.map encI_i64))] 0), (V.iptr [(iV a11)] 0), (V.iptr [(iV a12)] 0)])] (iV r) := by
  refine pure_enter Try.func125 rfl rfl (l := [.tmp 4]) rfl rfl [(0, (iV a1)), (1, (V.fn (.func 126) [] [(V.iptr [(bV a2), (bV a3), (bV a4), (bV a5), (bV a6), (bV a7), (bV a8), (iV a9), (V.lst 1 (a10.map encI_i64))] 0), (V.iptr [(iV a11)] 0), (V.iptr [(iV a12)] 0)]))] rfl (fun w0 m0 => ?_)
  unfold M125 at h
  refine awp_seq ?_
  refine awp_region ?_
  refine aops_assign (iV 0) wants_none rfl rfl ?_
  refine aops_nil ?_
  refine awp_seq ?_
  refine awp_region ?_
  refine aops_move (iV a1) wants_none rfl rfl ?_
  refine aops_assign (iV 0) wants_none rfl rfl ?_
  refine aops_assign (iV a1) wants_none rfl rfl ?_
  refine aops_nil ?_
  refine awp_seq ?_
  replace h := jn_elim h
  obtain ⟨k13, hk13, h⟩ := h
  refine awp_cut (fun (p : Int) => (⟨[(5, (iV p))], [], 0⟩ : St)) (fun (p : Int) => k13 p = some r) ?_ ?_
  · clear hk13
    refine awp_block ?_
    refine awp_loop_ind (fun (p : Int × Int) => (⟨[(1, (V.fn (.func 126) [] [(V.iptr [(bV a2), (bV a3), (bV a4), (bV a5), (bV a6), (bV a7), (bV a8), (iV a9), (V.lst 1 (a10.map encI_i64))] 0), (V.iptr [(iV a11)] 0), (V.iptr [(iV a12)] 0)])), (5, (iV (p.1))), (6, (iV (p.2)))], [], 0⟩ : St)) (fun n (p : Int × Int) => M125_L1 F a2 a3 a4 a5 a6 a7 a8 a9 a10 a11 a12 k13 n p.1 p.2 = some r) (fun p h => by simp [M125_L1] at h) (fun n ih1 p h => ?_) F (0, a1) h (ghost_ren 0 (fun i => ([] : List Nat).getD i 0) _ _ (by decide) (EnvSub.get (.cons (Sub.imm (Imm.fn .nil (.cons (Imm.iptr _ _) (.cons (Imm.iptr _ _) (.cons (Imm.iptr _ _) .nil))))) (.cons (Sub.imm (Imm.con _)) (.cons (Sub.imm (Imm.con _)) .nil)))) (HpSub.get .nil) rfl)
    obtain ⟨n17, n18⟩ := p
    unfold M125_L1 at h
    refine awp_loop ?_
    refine awp_seq ?_
    refine awp_seq ?_
    refine awp_region ?_
    refine aops_move (iV n17) wants_none rfl rfl ?_
    refine aops_move (iV n18) wants_none rfl rfl ?_
    refine aops_bin (.bool (decide (n17 < n18))) wants_none rfl rfl rfl rfl ?_
    refine aops_nil ?_
    refine awp_cond (decide (n17 < n18)) rfl (fun hb19 => ?_) (fun hb19 => ?_)
    · replace h := ite_t hb19 h
      refine awp_skip ?_
      refine awp_block ?_
      refine awp_seq ?_
      refine awp_region ?_
      refine aops_move (iV n17) wants_none rfl rfl ?_
      refine aops_move (iV n18) wants_none rfl rfl ?_
      refine aops_bin (.int .i64 (w64 (n17 + n18))) wants_none rfl rfl rfl rfl ?_
      refine aops_convInt tU150 ⟨_, tU3⟩ wants_none rfl rfl ?_
      refine aops_bin (.int .u64 (Int.fdiv (IntKind.wrap .u64 (w64 (n17 + n18))) (2 ^ (min (Int.toNat 1) (IntKind.bits .u64))))) wants_none rfl rfl rfl rfl ?_
      refine aops_convInt tU3 ⟨_, tU150⟩ wants_none rfl rfl ?_
      refine aops_assign (iV (w64 (Int.fdiv (IntKind.wrap .u64 (w64 (n17 + n18))) (2 ^ (min (Int.toNat 1) (IntKind.bits .u64)))))) wants_none rfl rfl ?_
      refine aops_nil ?_
      refine awp_seq ?_
      refine awp_region ?_
      refine aops_move (V.fn (.func 126) [] [(V.iptr [(bV a2), (bV a3), (bV a4), (bV a5), (bV a6), (bV a7), (bV a8), (iV a9), (V.lst 1 (a10.map encI_i64))] 0), (V.iptr [(iV a11)] 0), (V.iptr [(iV a12)] 0)]) wants_none rfl rfl ?_
      refine aops_move (iV (w64 (Int.fdiv (IntKind.wrap .u64 (w64 (n17 + n18))) (2 ^ (min (Int.toNat 1) (IntKind.bits .u64)))))) wants_none rfl rfl ?_
      replace h := bind_some h
      obtain ⟨y20, hx21, h⟩ := h
      refine aops_callv (bV y20) [(iV (w64 (Int.fdiv (IntKind.wrap .u64 (w64 (n17 + n18))) (2 ^ (min (Int.toNat 1) (IntKind.bits .u64)))))), (V.iptr [(bV a2), (bV a3), (bV a4), (bV a5), (bV a6), (bV a7), (bV a8), (iV a9), (V.lst 1 (a10.map encI_i64))] 0), (V.iptr [(iV a11)] 0), (V.iptr [(iV a12)] 0)] fOk126 wants_none rfl rfl (.cons (Imm.con _) (.cons (Imm.iptr _ _) (.cons (Imm.iptr _ _) (.cons (Imm.iptr _ _) .nil)))) (W126 F (w64 (Int.fdiv (IntKind.wrap .u64 (w64 (n17 + n18))) (2 ^ (min (Int.toNat 1) (IntKind.bits .u64))))) a2 a3 a4 a5 a6 a7 a8 a9 a10 a11 a12 y20 hx21) rfl ?_
      refine aops_not wants_none rfl rfl ?_
      refine aops_nil ?_
      replace h := jn_elim h
      obtain ⟨k22, hk22, h⟩ := h
      refine awp_cut (fun (p : Int × Int) => (⟨[(1, (V.fn (.func 126) [] [(V.iptr [(bV a2), (bV a3), (bV a4), (bV a5), (bV a6), (bV a7), (bV a8), (iV a9), (V.lst 1 (a10.map encI_i64))] 0), (V.iptr [(iV a11)] 0), (V.iptr [(iV a12)] 0)])), (5, (iV (p.1))), (6, (iV (p.2)))], [], 0⟩ : St)) (fun (p : Int × Int) => k22 p.1 p.2 = some r) ?_ ?_
      · clear hk22
        refine awp_cond (!y20) rfl (fun hb25 => ?_) (fun hb25 => ?_)
        · replace h := ite_t hb25 h
          refine awp_region ?_
          refine aops_move (iV (w64 (Int.fdiv (IntKind.wrap .u64 (w64 (n17 + n18))) (2 ^ (min (Int.toNat 1) (IntKind.bits .u64)))))) wants_none rfl rfl ?_
          refine aops_bin (.int .i64 (w64 ((w64 (Int.fdiv (IntKind.wrap .u64 (w64 (n17 + n18))) (2 ^ (min (Int.toNat 1) (IntKind.bits .u64))))) + 1))) wants_none rfl rfl rfl rfl ?_
          refine aops_assign (iV (w64 ((w64 (Int.fdiv (IntKind.wrap .u64 (w64 (n17 + n18))) (2 ^ (min (Int.toNat 1) (IntKind.bits .u64))))) + 1))) wants_none rfl rfl ?_
          refine aops_nil ?_
          exact ⟨((w64 ((w64 (Int.fdiv (IntKind.wrap .u64 (w64 (n17 + n18))) (2 ^ (min (Int.toNat 1) (IntKind.bits .u64))))) + 1)), n18), h, (ghost_ren 0 (fun i => ([] : List Nat).getD i 0) _ _ (by decide) (EnvSub.get (.cons (Sub.imm (Imm.fn .nil (.cons (Imm.iptr _ _) (.cons (Imm.iptr _ _) (.cons (Imm.iptr _ _) .nil))))) (.cons (Sub.imm (Imm.con _)) (.cons (Sub.imm (Imm.con _)) .nil)))) (HpSub.get .nil) rfl)⟩
        · replace h := ite_f hb25 h
          refine awp_region ?_
          refine aops_move (iV (w64 (Int.fdiv (IntKind.wrap .u64 (w64 (n17 + n18))) (2 ^ (min (Int.toNat 1) (IntKind.bits .u64)))))) wants_none rfl rfl ?_
          refine aops_assign (iV (w64 (Int.fdiv (IntKind.wrap .u64 (w64 (n17 + n18))) (2 ^ (min (Int.toNat 1) (IntKind.bits .u64)))))) wants_none rfl rfl ?_
          refine aops_nil ?_
          exact ⟨(n17, (w64 (Int.fdiv (IntKind.wrap .u64 (w64 (n17 + n18))) (2 ^ (min (Int.toNat 1) (IntKind.bits .u64)))))), h, (ghost_ren 0 (fun i => ([] : List Nat).getD i 0) _ _ (by decide) (EnvSub.get (.cons (Sub.imm (Imm.fn .nil (.cons (Imm.iptr _ _) (.cons (Imm.iptr _ _) (.cons (Imm.iptr _ _) .nil))))) (.cons (Sub.imm (Imm.con _)) (.cons (Sub.imm (Imm.con _)) .nil)))) (HpSub.get .nil) rfl)⟩
      · clear h
        rintro ⟨n23, n24⟩ h
        subst hk22
        exact awp_back (ih1 (n23, n24) h) (ghost_ren 0 (fun i => ([] : List Nat).getD i 0) _ _ (by decide) (EnvSub.get (.cons (Sub.imm (Imm.fn .nil (.cons (Imm.iptr _ _) (.cons (Imm.iptr _ _) (.cons (Imm.iptr _ _) .nil))))) (.cons (Sub.imm (Imm.con _)) (.cons (Sub.imm (Imm.con _)) .nil)))) (HpSub.get .nil) rfl)
    · replace h := ite_f hb19 h
      refine awp_exit ?_
      exact ⟨n17, h, (ghost_ren 0 (fun i => ([] : List Nat).getD i 0) _ _ (by decide) (EnvSub.get (.cons (Sub.imm (Imm.con _)) .nil)) (HpSub.get .nil) rfl)⟩
  · clear h
    intro n14 h
    subst hk13
    refine awp_seq ?_
    refine awp_region ?_
    refine aops_move (iV n14) wants_none rfl rfl ?_
    refine aops_assign (iV n14) wants_none rfl rfl ?_
    refine aops_nil ?_
    refine awp_ret ?_
    obtain rfl := Option.some.inj h
    exact ⟨.inl rfl, .one (.tmp rfl (Imm.con _))⟩

theorem W76 (F : Nat) (a1 : Thistory_week) (a2 : Int) (a3 : Int) (r : (Int × Bool)) (h : M76 F a1 a2 a3 = some r) : Pure Try.prog 76 [(V.agg [(bV (a1.free 0)), (bV (a1.free 1)), (bV (a1.free 2)), (bV (a1.free 3)), (bV (a1.free 4)), (bV (a1.free 5)), (bV (a1.free 6)), (iV a1.work), (V.lst 1 (a1.holidays.map encI_i64))]), (iV a2), (iV a3)] (V.tup [(iV (r.1)), (bV (r.2))]) := by
  refine pure_enter Try.func76 rfl rfl (l := [.tmp 6, .tmp 7]) rfl rfl [(0, (V.agg [(bV (a1.free 0)), (bV (a1.free 1)), (bV (a1.free 2)), (bV (a1.free 3)), (bV (a1.free 4)), (bV (a1.free 5)), (bV (a1.free 6)), (iV a1.work), (V.lst 1 (a1.holidays.map encI_i64))])), (1, (iV a2)), (2, (iV a3))] rfl (fun w0 m0 => ?_)
  unfold M76 at h
  refine awp_seq ?_
  refine awp_region ?_
  refine aops_box [(bV (a1.free 0)), (bV (a1.free 1)), (bV (a1.free 2)), (bV (a1.free 3)), (bV (a1.free 4)), (bV (a1.free 5)), (bV (a1.free 6)), (iV a1.work), (V.lst 1 (a1.holidays.map encI_i64))] wants_none rfl rfl rfl rfl ?_
  refine aops_box [(iV a2)] wants_none rfl rfl rfl rfl ?_
  refine aops_assign (iV 0) wants_none rfl rfl ?_
  refine aops_assign (bV false) wants_none rfl rfl ?_
  refine aops_nil ?_
  refine awp_seq ?_
  refine awp_region ?_
  refine aops_load_agg (cs := [(bV (a1.free 0)), (bV (a1.free 1)), (bV (a1.free 2)), (bV (a1.free 3)), (bV (a1.free 4)), (bV (a1.free 5)), (bV (a1.free 6)), (iV a1.work), (V.lst 1 (a1.holidays.map encI_i64))]) tA101 wants_none rfl rfl rfl rfl rfl rfl ?_
  refine aops_load_cell (iV a2) tC3 wants_none rfl rfl rfl rfl rfl ?_
  replace h := bind_some h
  obtain ⟨y4, hx5, h⟩ := h
  refine aops_call (iV y4) [(V.agg [(bV (a1.free 0)), (bV (a1.free 1)), (bV (a1.free 2)), (bV (a1.free 3)), (bV (a1.free 4)), (bV (a1.free 5)), (bV (a1.free 6)), (iV a1.work), (V.lst 1 (a1.holidays.map encI_i64))]), (iV a2)] fOk71 wants_none (evm_cons rfl (evm_cons rfl evm_nil)) (.cons (Imm.agg (.cons (Imm.con _) (.cons (Imm.con _) (.cons (Imm.con _) (.cons (Imm.con _) (.cons (Imm.con _) (.cons (Imm.con _) (.cons (Imm.con _) (.cons (Imm.con _) (.cons (Imm.lst _ _) .nil)))))))))) (.cons (Imm.con _) .nil)) (W71 F a1 a2 y4 hx5) rfl ?_
  refine aops_move (iV a3) wants_none rfl rfl ?_
  refine aops_bin (.int .i64 (w64 (y4 + a3))) wants_none rfl rfl rfl rfl ?_
  refine aops_alloc tZ3 rfl rfl wants_none rfl ?_
  refine aops_store [(iV (w64 (y4 + a3)))] [[(iV (w64 (y4 + a3)))]] tS3 wants_none rfl rfl rfl rfl rfl rfl rfl rfl ?_
  refine aops_nil ?_
  refine awp_seq ?_
  replace h := bind_some h
  obtain ⟨y6, hx7, h⟩ := h
  refine awp_any [OD.mk [(4, (V.ptr 1 1 0 0))] [(1, (Ob.arr 3 1 [[(iV a2)]]))] [(15, (iV a2))] [],
        OD.mk [(4, (V.ptr 1 1 0 0))] [(1, (Ob.arr 3 1 [[(iV a2)]]))] [(16, (iV a2))] [],
        OD.mk [(16, (iV a2))] [] [(17, (iV (w64 (1000001 - a2))))] [],
        OD.mk [(3, (V.ptr 0 9 0 0)), (4, (V.ptr 1 1 0 0)), (8, (V.ptr 2 1 0 0))] [] [(18, (V.fn (.func 126) [] [(V.ptr 0 9 0 0), (V.ptr 1 1 0 0), (V.ptr 2 1 0 0)]))] [],
        OD.mk [(17, (iV (w64 (1000001 - a2)))), (18, (V.fn (.func 126) [] [(V.ptr 0 9 0 0), (V.ptr 1 1 0 0), (V.ptr 2 1 0 0)]))] [(0, (Ob.arr 101 9 [[(bV (a1.free 0)), (bV (a1.free 1)), (bV (a1.free 2)), (bV (a1.free 3)), (bV (a1.free 4)), (bV (a1.free 5)), (bV (a1.free 6)), (iV a1.work), (V.lst 1 (a1.holidays.map encI_i64))]])), (1, (Ob.arr 3 1 [[(iV a2)]])), (2, (Ob.arr 3 1 [[(iV (w64 (y4 + a3)))]]))] [(19, (iV y6))] [],
        OD.mk [(15, (iV a2)), (19, (iV y6))] [] [(20, (iV (w64 (a2 + y6))))] [],
        OD.mk [(20, (iV (w64 (a2 + y6))))] [] [(9, (iV (w64 (a2 + y6))))] []] mixed ⟨⟨rfl, trivial⟩, ⟨rfl, trivial⟩, ⟨⟨rfl, trivial⟩, ⟨rfl, trivial⟩, ⟨⟨rfl, trivial⟩, trivial, ⟨⟨rfl, rfl, rfl, trivial⟩, trivial, ⟨⟨rfl, rfl, trivial⟩, ⟨rfl, rfl, rfl, trivial⟩, ⟨⟨rfl, rfl, trivial⟩, trivial, ⟨⟨rfl, trivial⟩, trivial, trivial⟩⟩⟩⟩⟩⟩⟩ (by kernel_rfl) (.cons (fun S hn h hh => aops_load_cell (iV a2) tC3 wants_none h.1 hh.1 rfl rfl rfl (aops_nil ⟨rfl, rfl⟩)) (.cons (fun S hn h hh => aops_load_cell (iV a2) tC3 wants_none h.1 hh.1 rfl rfl rfl (aops_nil ⟨rfl, rfl⟩)) (.cons (fun S hn h hh => aops_bin (.int .i64 (w64 (1000001 - a2))) wants_none rfl h.1 rfl rfl (aops_nil ⟨rfl, rfl⟩)) (.cons (fun S hn h hh => aops_makeFunc [(V.ptr 0 9 0 0), (V.ptr 1 1 0 0), (V.ptr 2 1 0 0)] wants_none (evm_cons h.1 (evm_cons h.2.1 (evm_cons h.2.2.1 evm_nil))) rfl (aops_nil ⟨rfl, rfl⟩)) (.cons (fun S hn h hh => aops_lend_call (iV y6) [(iV (w64 (1000001 - a2))), (V.fn (.func 126) [] [(V.iptr [(bV (a1.free 0)), (bV (a1.free 1)), (bV (a1.free 2)), (bV (a1.free 3)), (bV (a1.free 4)), (bV (a1.free 5)), (bV (a1.free 6)), (iV a1.work), (V.lst 1 (a1.holidays.map encI_i64))] 0), (V.iptr [(iV a2)] 0), (V.iptr [(iV (w64 (y4 + a3)))] 0)])] fOk125 (Ghost.trans (ghost_frzV 0 18 (V.fn (.func 126) [] [(V.iptr [(bV (a1.free 0)), (bV (a1.free 1)), (bV (a1.free 2)), (bV (a1.free 3)), (bV (a1.free 4)), (bV (a1.free 5)), (bV (a1.free 6)), (iV a1.work), (V.lst 1 (a1.holidays.map encI_i64))] 0), (V.ptr 1 1 0 0), (V.ptr 2 1 0 0)]) hh.1 (imms_rows (.cons (.cons (Imm.con _) (.cons (Imm.con _) (.cons (Imm.con _) (.cons (Imm.con _) (.cons (Imm.con _) (.cons (Imm.con _) (.cons (Imm.con _) (.cons (Imm.con _) (.cons (Imm.lst _ _) .nil))))))))) .nil)) h.2.1 (Sub.fnc (.cons (Sub.frzptr rfl) (.cons Sub.keep (.cons Sub.keep .nil))))) (Ghost.trans (ghost_frzV 1 18 (V.fn (.func 126) [] [(V.iptr [(bV (a1.free 0)), (bV (a1.free 1)), (bV (a1.free 2)), (bV (a1.free 3)), (bV (a1.free 4)), (bV (a1.free 5)), (bV (a1.free 6)), (iV a1.work), (V.lst 1 (a1.holidays.map encI_i64))] 0), (V.iptr [(iV a2)] 0), (V.ptr 2 1 0 0)]) hh.2.1 (imms_rows (.cons (.cons (Imm.con _) .nil) .nil)) rfl (Sub.fnc (.cons Sub.keep (.cons (Sub.frzptr rfl) (.cons Sub.keep .nil))))) (ghost_frzV 2 18 (V.fn (.func 126) [] [(V.iptr [(bV (a1.free 0)), (bV (a1.free 1)), (bV (a1.free 2)), (bV (a1.free 3)), (bV (a1.free 4)), (bV (a1.free 5)), (bV (a1.free 6)), (iV a1.work), (V.lst 1 (a1.holidays.map encI_i64))] 0), (V.iptr [(iV a2)] 0), (V.iptr [(iV (w64 (y4 + a3)))] 0)]) hh.2.2.1 (imms_rows (.cons (.cons (Imm.con _) .nil) .nil)) rfl (Sub.fnc (.cons Sub.keep (.cons Sub.keep (.cons (Sub.frzptr rfl) .nil))))))) (Flat.con _) wants_none (evm_cons h.1 (evm_cons rfl evm_nil)) (.cons (Imm.con _) (.cons (Imm.fn .nil (.cons (Imm.iptr _ _) (.cons (Imm.iptr _ _) (.cons (Imm.iptr _ _) .nil)))) .nil)) (W125 F (w64 (1000001 - a2)) (a1.free 0) (a1.free 1) (a1.free 2) (a1.free 3) (a1.free 4) (a1.free 5) (a1.free 6) a1.work a1.holidays a2 (w64 (y4 + a3)) y6 hx7) rfl (aops_nil ⟨rfl, rfl⟩)) (.cons (fun S hn h hh => aops_bin (.int .i64 (w64 (a2 + y6))) wants_none h.1 h.2.1 rfl rfl (aops_nil ⟨rfl, rfl⟩)) (.cons (fun S hn h hh => aops_assign (iV (w64 (a2 + y6))) wants_none h.1 rfl (aops_nil ⟨rfl, rfl⟩)) .nil))))))) ?_
  refine awp_seq ?_
  refine awp_region ?_
  refine aops_move (iV (w64 (a2 + y6))) wants_none rfl rfl ?_
  refine aops_move (iV (w64 (a2 + y6))) wants_none rfl rfl ?_
  refine aops_bin (.bool (decide ((w64 (a2 + y6)) ≤ 1000000))) wants_none rfl rfl rfl rfl ?_
  refine aops_assign (iV (w64 (a2 + y6))) wants_none rfl rfl ?_
  refine aops_assign (bV (decide ((w64 (a2 + y6)) ≤ 1000000))) wants_none rfl rfl ?_
  refine aops_nil ?_
  refine awp_ret ?_
  obtain rfl := Option.some.inj h
  exact ⟨.inl rfl, .two (.tmp rfl (Imm.con _)) (.tmp rfl (Imm.con _))⟩

theorem W19 (F : Nat) (a1 : TCalendar) (a2 : Int) (a3 : Int) (r : (Int × Int)) (h : M19 F a1 a2 a3 = some r) : Pure Try.prog 19 [(V.agg [(V.lst 1 (a1.Free.map encI_i64)), (V.lst 1 (a1.Holidays.map encI_i64))]), (iV a2), (iV a3)] (V.tup [(iV (r.1)), (iV (r.2))]) := by
  refine pure_enter Try.func19 rfl rfl (l := [.tmp 6, .tmp 7]) rfl rfl [(0, (V.agg [(V.lst 1 (a1.Free.map encI_i64)), (V.lst 1 (a1.Holidays.map encI_i64))])), (1, (iV a2)), (2, (iV a3))] rfl (fun w0 m0 => ?_)
  unfold M19 at h
  refine awp_seq ?_
  refine awp_region ?_
  refine aops_box [(V.lst 1 (a1.Free.map encI_i64)), (V.lst 1 (a1.Holidays.map encI_i64))] wants_none rfl rfl rfl rfl ?_
  refine aops_assign (iV 0) wants_none rfl rfl ?_
  refine aops_assign (iV 0) wants_none rfl rfl ?_
  refine aops_nil ?_
  refine awp_seq ?_
  refine awp_seq ?_
  refine awp_region ?_
  refine aops_load_agg (cs := [(V.lst 1 (a1.Free.map encI_i64)), (V.lst 1 (a1.Holidays.map encI_i64))]) tA24 wants_none rfl rfl rfl rfl rfl rfl ?_
  replace h := bind_some h
  obtain ⟨y4, hx5, h⟩ := h
  refine aops_call (iV y4) [(V.agg [(V.lst 1 (a1.Free.map encI_i64)), (V.lst 1 (a1.Holidays.map encI_i64))])] fOk21 wants_none (evm_cons rfl evm_nil) (.cons (Imm.agg (.cons (Imm.lst _ _) (.cons (Imm.lst _ _) .nil))) .nil) (W21 F a1 y4 hx5) rfl ?_
  refine aops_assign (iV y4) wants_none rfl rfl ?_
  refine aops_nil ?_
  refine awp_seq ?_
  refine awp_region ?_
  refine aops_move (iV y4) wants_none rfl rfl ?_
  refine aops_bin (.bool (y4 != 0)) wants_none rfl rfl rfl rfl ?_
  refine aops_nil ?_
  refine awp_cond (y4 != 0) rfl (fun hb6 => ?_) (fun hb6 => ?_)
  · replace h := ite_t hb6 h
    refine awp_seq ?_
    refine awp_region ?_
    refine aops_move (iV y4) wants_none rfl rfl ?_
    refine aops_assign (iV 0) wants_none rfl rfl ?_
    refine aops_assign (iV y4) wants_none rfl rfl ?_
    refine aops_nil ?_
    refine awp_ret ?_
    obtain rfl := Option.some.inj h
    exact ⟨.inl rfl, .two (.tmp rfl (Imm.con _)) (.tmp rfl (Imm.con _))⟩
  · replace h := ite_f hb6 h
    refine awp_skip ?_
    refine awp_seq ?_
    refine awp_seq ?_
    refine awp_region ?_
    refine aops_move (iV a2) wants_none rfl rfl ?_
    replace h := bind_some h
    obtain ⟨y7, hx8, h⟩ := h
    refine aops_call (bV y7) [(iV a2)] fOk69 wants_none (evm_cons rfl evm_nil) (.cons (Imm.con _) .nil) (W69 F a2 y7 hx8) rfl ?_
    refine aops_not wants_none rfl rfl ?_
    refine aops_move (bV (!y7)) wants_none rfl rfl ?_
    rcases Bool.eq_false_or_eq_true (!y7) with hb9 | hb9
    · replace h := ite_t hb9 h
      refine aops_skip (wants_some (c := (!y7)) (b := true) 19 rfl rfl hb9) rfl rfl ?_
      refine aops_skip (wants_some (c := (!y7)) (b := true) 19 rfl rfl hb9) rfl rfl ?_
      refine aops_skip (wants_some (c := (!y7)) (b := true) 19 rfl rfl hb9) rfl rfl ?_
      refine aops_pick true (cb := (!y7)) (bV true) wants_none rfl hb9 rfl rfl ?_
      refine aops_nil ?_
      refine awp_cond_t rfl rfl ?_
      refine awp_seq ?_
      refine awp_region ?_
      refine aops_assign (iV 0) wants_none rfl rfl ?_
      refine aops_assign (iV 9) wants_none rfl rfl ?_
      refine aops_nil ?_
      refine awp_ret ?_
      obtain rfl := Option.some.inj h
      exact ⟨.inl rfl, .two (.tmp rfl (Imm.con _)) (.tmp rfl (Imm.con _))⟩
    · replace h := ite_f hb9 h
      refine aops_move (iV a3) (wants_some (c := (!y7)) (b := false) 19 rfl rfl hb9) rfl rfl ?_
      replace h := bind_some h
      obtain ⟨y10, hx11, h⟩ := h
      refine aops_call (bV y10) [(iV a3)] fOk69 (wants_some (c := (!y7)) (b := false) 19 rfl rfl hb9) (evm_cons rfl evm_nil) (.cons (Imm.con _) .nil) (W69 F a3 y10 hx11) rfl ?_
      refine aops_not (wants_some (c := (!y7)) (b := false) 19 rfl rfl hb9) rfl rfl ?_
      refine aops_pick false (cb := (!y7)) (bV (!y10)) wants_none rfl hb9 rfl rfl ?_
      refine aops_nil ?_
      refine awp_cond (!y10) rfl (fun hb12 => ?_) (fun hb12 => ?_)
      · replace h := ite_t hb12 h
        refine awp_seq ?_
        refine awp_region ?_
        refine aops_assign (iV 0) wants_none rfl rfl ?_
        refine aops_assign (iV 9) wants_none rfl rfl ?_
        refine aops_nil ?_
        refine awp_ret ?_
        obtain rfl := Option.some.inj h
        exact ⟨.inl rfl, .two (.tmp rfl (Imm.con _)) (.tmp rfl (Imm.con _))⟩
      · replace h := ite_f hb12 h
        refine awp_skip ?_
        refine awp_seq ?_
        refine awp_region ?_
        refine aops_load_agg (cs := [(V.lst 1 (a1.Free.map encI_i64)), (V.lst 1 (a1.Holidays.map encI_i64))]) tA24 wants_none rfl rfl rfl rfl rfl rfl ?_
        replace h := bind_some h
        obtain ⟨y13, hx14, h⟩ := h
        refine aops_call (V.agg [(bV (y13.free 0)), (bV (y13.free 1)), (bV (y13.free 2)), (bV (y13.free 3)), (bV (y13.free 4)), (bV (y13.free 5)), (bV (y13.free 6)), (iV y13.work), (V.lst 1 (y13.holidays.map encI_i64))]) [(V.agg [(V.lst 1 (a1.Free.map encI_i64)), (V.lst 1 (a1.Holidays.map encI_i64))])] fOk70 wants_none (evm_cons rfl evm_nil) (.cons (Imm.agg (.cons (Imm.lst _ _) (.cons (Imm.lst _ _) .nil))) .nil) (W70 F a1 y13 hx14) rfl ?_
        refine aops_move (iV a2) wants_none rfl rfl ?_
        refine aops_move (iV a3) wants_none rfl rfl ?_
        replace h := bind_some h
        obtain ⟨y15, hx16, h⟩ := h
        refine aops_call (V.tup [(iV (y15.1)), (bV (y15.2))]) [(V.agg [(bV (y13.free 0)), (bV (y13.free 1)), (bV (y13.free 2)), (bV (y13.free 3)), (bV (y13.free 4)), (bV (y13.free 5)), (bV (y13.free 6)), (iV y13.work), (V.lst 1 (y13.holidays.map encI_i64))]), (iV a2), (iV a3)] fOk76 wants_none (evm_cons rfl (evm_cons rfl (evm_cons rfl evm_nil))) (.cons (Imm.agg (.cons (Imm.con _) (.cons (Imm.con _) (.cons (Imm.con _) (.cons (Imm.con _) (.cons (Imm.con _) (.cons (Imm.con _) (.cons (Imm.con _) (.cons (Imm.con _) (.cons (Imm.lst _ _) .nil)))))))))) (.cons (Imm.con _) (.cons (Imm.con _) .nil))) (W76 F y13 a2 a3 y15 hx16) rfl ?_
        refine aops_move (V.tup [(iV (y15.1)), (bV (y15.2))]) wants_none rfl rfl ?_
        refine aops_extract (iV (y15.1)) wants_none rfl rfl rfl ?_
        refine aops_extract (bV (y15.2)) wants_none rfl rfl rfl ?_
        refine aops_assign (iV (y15.1)) wants_none rfl rfl ?_
        refine aops_assign (bV (y15.2)) wants_none rfl rfl ?_
        refine aops_nil ?_
        refine awp_seq ?_
        refine awp_seq ?_
        refine awp_region ?_
        refine aops_move (bV (y15.2)) wants_none rfl rfl ?_
        refine aops_not wants_none rfl rfl ?_
        refine aops_nil ?_
        refine awp_cond (!(y15.2)) rfl (fun hb17 => ?_) (fun hb17 => ?_)
        · replace h := ite_t hb17 h
          refine awp_seq ?_
          refine awp_region ?_
          refine aops_assign (iV 0) wants_none rfl rfl ?_
          refine aops_assign (iV 3) wants_none rfl rfl ?_
          refine aops_nil ?_
          refine awp_ret ?_
          obtain rfl := Option.some.inj h
          exact ⟨.inl rfl, .two (.tmp rfl (Imm.con _)) (.tmp rfl (Imm.con _))⟩
        · replace h := ite_f hb17 h
          refine awp_skip ?_
          refine awp_seq ?_
          refine awp_region ?_
          refine aops_move (iV (y15.1)) wants_none rfl rfl ?_
          refine aops_assign (iV (y15.1)) wants_none rfl rfl ?_
          refine aops_assign (iV 0) wants_none rfl rfl ?_
          refine aops_nil ?_
          refine awp_ret ?_
          obtain rfl := Option.some.inj h
          exact ⟨.inl rfl, .two (.tmp rfl (Imm.con _)) (.tmp rfl (Imm.con _))⟩

theorem W77 (F : Nat) (a1 : Tprovenderref11_calendar) (a2 : Int) (a3 : Int) (r : (Int × Bool)) (h : M77 F a1 a2 a3 = some r) : Pure Try.prog 77 [(V.agg [(bV (a1.free 0)), (bV (a1.free 1)), (bV (a1.free 2)), (bV (a1.free 3)), (bV (a1.free 4)), (bV (a1.free 5)), (bV (a1.free 6)), (V.imap (a1.holidays.map encM3_4))]), (iV a2), (iV a3)] (V.tup [(iV (r.1)), (bV (r.2))]) := by
  refine pure_enter Try.func77 rfl rfl (l := [.tmp 6, .tmp 7]) rfl rfl [(0, (V.agg [(bV (a1.free 0)), (bV (a1.free 1)), (bV (a1.free 2)), (bV (a1.free 3)), (bV (a1.free 4)), (bV (a1.free 5)), (bV (a1.free 6)), (V.imap (a1.holidays.map encM3_4))])), (1, (iV a2)), (2, (iV a3))] rfl (fun w0 m0 => ?_)
  unfold M77 at h
  refine awp_seq ?_
  refine awp_region ?_
  refine aops_box [(bV (a1.free 0)), (bV (a1.free 1)), (bV (a1.free 2)), (bV (a1.free 3)), (bV (a1.free 4)), (bV (a1.free 5)), (bV (a1.free 6)), (V.imap (a1.holidays.map encM3_4))] wants_none rfl rfl rfl rfl ?_
  refine aops_assign (iV 0) wants_none rfl rfl ?_
  refine aops_assign (bV false) wants_none rfl rfl ?_
  refine aops_nil ?_
  refine awp_seq ?_
  refine awp_region ?_
  refine aops_move (iV a2) wants_none rfl rfl ?_
  refine aops_assign (iV a2) wants_none rfl rfl ?_
  refine aops_nil ?_
  refine awp_seq ?_
  replace h := jn_elim h
  obtain ⟨k4, hk4, h⟩ := h
  refine awp_cut (fun (p : Int × Int) => (⟨[(2, (iV (p.1))), (8, (iV (p.2)))], [], 0⟩ : St)) (fun (p : Int × Int) => k4 p.1 p.2 = some r) ?_ ?_
  · clear hk4
    refine awp_block ?_
    refine awp_loop_ind (fun (p : Int × Int) => (⟨[(2, (iV (p.1))), (3, (V.ptr 0 8 0 0)), (8, (iV (p.2)))], [(0, (Ob.arr 106 8 [[(bV (a1.free 0)), (bV (a1.free 1)), (bV (a1.free 2)), (bV (a1.free 3)), (bV (a1.free 4)), (bV (a1.free 5)), (bV (a1.free 6)), (V.imap (a1.holidays.map encM3_4))]]))], 1⟩ : St)) (fun n (p : Int × Int) => M77_L1 F a1 k4 n p.1 p.2 = some r) (fun p h => by simp [M77_L1] at h) (fun n ih1 p h => ?_) F (a3, a2) h (ghost_ren 1 (fun i => ([0] : List Nat).getD i 0) _ _ (by decide) (EnvSub.get (.cons (Sub.imm (Imm.con _)) (.cons (Sub.ptr rfl rfl) (.cons (Sub.imm (Imm.con _)) .nil)))) (HpSub.get (.cons rfl (ObSub.box (.cons (Sub.imm (Imm.con _)) (.cons (Sub.imm (Imm.con _)) (.cons (Sub.imm (Imm.con _)) (.cons (Sub.imm (Imm.con _)) (.cons (Sub.imm (Imm.con _)) (.cons (Sub.imm (Imm.con _)) (.cons (Sub.imm (Imm.con _)) (.cons (Sub.imm (Imm.imap _)) .nil))))))))) .nil)) rfl)
    obtain ⟨n9, n10⟩ := p
    unfold M77_L1 at h
    refine awp_loop ?_
    refine awp_seq ?_
    refine awp_seq ?_
    refine awp_region ?_
    refine aops_move (iV n9) wants_none rfl rfl ?_
    refine aops_bin (.bool (decide (n9 > 0))) wants_none rfl rfl rfl rfl ?_
    refine aops_move (bV (decide (n9 > 0))) wants_none rfl rfl ?_
    rcases Bool.eq_false_or_eq_true (decide (n9 > 0)) with hb11 | hb11
    · replace h := ite_t hb11 h
      refine aops_move (iV n10) (wants_some (c := (decide (n9 > 0))) (b := true) 12 rfl rfl hb11) rfl rfl ?_
      refine aops_bin (.bool (decide (n10 ≤ 1000000))) (wants_some (c := (decide (n9 > 0))) (b := true) 12 rfl rfl hb11) rfl rfl rfl rfl ?_
      refine aops_pick true (cb := (decide (n9 > 0))) (bV (decide (n10 ≤ 1000000))) wants_none rfl hb11 rfl rfl ?_
      refine aops_nil ?_
      refine awp_cond (decide (n10 ≤ 1000000)) rfl (fun hb12 => ?_) (fun hb12 => ?_)
      · replace h := ite_t hb12 h
        refine awp_skip ?_
        refine awp_block ?_
        refine awp_seq ?_
        refine awp_seq ?_
        refine awp_region ?_
        refine aops_load_agg (cs := [(bV (a1.free 0)), (bV (a1.free 1)), (bV (a1.free 2)), (bV (a1.free 3)), (bV (a1.free 4)), (bV (a1.free 5)), (bV (a1.free 6)), (V.imap (a1.holidays.map encM3_4))]) tA106 wants_none rfl rfl rfl rfl rfl rfl ?_
        refine aops_move (iV n10) wants_none rfl rfl ?_
        replace h := bind_some h
        obtain ⟨y13, hx14, h⟩ := h
        refine aops_call (bV y13) [(V.agg [(bV (a1.free 0)), (bV (a1.free 1)), (bV (a1.free 2)), (bV (a1.free 3)), (bV (a1.free 4)), (bV (a1.free 5)), (bV (a1.free 6)), (V.imap (a1.holidays.map encM3_4))]), (iV n10)] fOk74 wants_none (evm_cons rfl (evm_cons rfl evm_nil)) (.cons (Imm.agg (.cons (Imm.con _) (.cons (Imm.con _) (.cons (Imm.con _) (.cons (Imm.con _) (.cons (Imm.con _) (.cons (Imm.con _) (.cons (Imm.con _) (.cons (Imm.imap _) .nil))))))))) (.cons (Imm.con _) .nil)) (W74 F a1 n10 y13 hx14) rfl ?_
        refine aops_nil ?_
        replace h := jn_elim h
        obtain ⟨k15, hk15, h⟩ := h
        refine awp_cut (fun (p : Int) => (⟨[(2, (iV p)), (3, (V.ptr 0 8 0 0)), (8, (iV n10)), (13, (iV n10)), (14, (bV (decide (n10 ≤ 1000000))))], [(0, (Ob.arr 106 8 [[(bV (a1.free 0)), (bV (a1.free 1)), (bV (a1.free 2)), (bV (a1.free 3)), (bV (a1.free 4)), (bV (a1.free 5)), (bV (a1.free 6)), (V.imap (a1.holidays.map encM3_4))]]))], 1⟩ : St)) (fun (p : Int) => k15 p = some r) ?_ ?_
        · clear hk15
          refine awp_cond y13 rfl (fun hb17 => ?_) (fun hb17 => ?_)
          · replace h := ite_t hb17 h
            refine awp_region ?_
            refine aops_move (iV n9) wants_none rfl rfl ?_
            refine aops_bin (.int .i64 (w64 (n9 - 1))) wants_none rfl rfl rfl rfl ?_
            refine aops_assign (iV (w64 (n9 - 1))) wants_none rfl rfl ?_
            refine aops_nil ?_
            exact ⟨(w64 (n9 - 1)), h, (ghost_ren 1 (fun i => ([0] : List Nat).getD i 0) _ _ (by decide) (EnvSub.get (.cons (Sub.imm (Imm.con _)) (.cons (Sub.ptr rfl rfl) (.cons (Sub.imm (Imm.con _)) (.cons (Sub.imm (Imm.con _)) (.cons (Sub.imm (Imm.con _)) .nil)))))) (HpSub.get (.cons rfl (ObSub.box (.cons (Sub.imm (Imm.con _)) (.cons (Sub.imm (Imm.con _)) (.cons (Sub.imm (Imm.con _)) (.cons (Sub.imm (Imm.con _)) (.cons (Sub.imm (Imm.con _)) (.cons (Sub.imm (Imm.con _)) (.cons (Sub.imm (Imm.con _)) (.cons (Sub.imm (Imm.imap _)) .nil))))))))) .nil)) rfl)⟩
          · replace h := ite_f hb17 h
            refine awp_skip ?_
            exact ⟨n9, h, (ghost_ren 1 (fun i => ([0] : List Nat).getD i 0) _ _ (by decide) (EnvSub.get (.cons (Sub.imm (Imm.con _)) (.cons (Sub.ptr rfl rfl) (.cons (Sub.imm (Imm.con _)) (.cons (Sub.imm (Imm.con _)) (.cons (Sub.imm (Imm.con _)) .nil)))))) (HpSub.get (.cons rfl (ObSub.box (.cons (Sub.imm (Imm.con _)) (.cons (Sub.imm (Imm.con _)) (.cons (Sub.imm (Imm.con _)) (.cons (Sub.imm (Imm.con _)) (.cons (Sub.imm (Imm.con _)) (.cons (Sub.imm (Imm.con _)) (.cons (Sub.imm (Imm.con _)) (.cons (Sub.imm (Imm.imap _)) .nil))))))))) .nil)) rfl)⟩
        · clear h
          intro n16 h
          subst hk15
          refine awp_region ?_
          refine aops_move (iV n10) wants_none rfl rfl ?_
          refine aops_bin (.int .i64 (w64 (n10 + 1))) wants_none rfl rfl rfl rfl ?_
          refine aops_assign (iV (w64 (n10 + 1))) wants_none rfl rfl ?_
          refine aops_nil ?_
          exact awp_back (ih1 (n16, (w64 (n10 + 1))) h) (ghost_ren 1 (fun i => ([0] : List Nat).getD i 0) _ _ (by decide) (EnvSub.get (.cons (Sub.imm (Imm.con _)) (.cons (Sub.ptr rfl rfl) (.cons (Sub.imm (Imm.con _)) .nil)))) (HpSub.get (.cons rfl (ObSub.box (.cons (Sub.imm (Imm.con _)) (.cons (Sub.imm (Imm.con _)) (.cons (Sub.imm (Imm.con _)) (.cons (Sub.imm (Imm.con _)) (.cons (Sub.imm (Imm.con _)) (.cons (Sub.imm (Imm.con _)) (.cons (Sub.imm (Imm.con _)) (.cons (Sub.imm (Imm.imap _)) .nil))))))))) .nil)) rfl)
      · replace h := ite_f hb12 h
        refine awp_exit ?_
        exact ⟨(n9, n10), h, (ghost_ren 0 (fun i => ([] : List Nat).getD i 0) _ _ (by decide) (EnvSub.get (.cons (Sub.imm (Imm.con _)) (.cons (Sub.imm (Imm.con _)) .nil))) (HpSub.get .nil) rfl)⟩
    · replace h := ite_f hb11 h
      refine aops_skip (wants_some (c := (decide (n9 > 0))) (b := false) 12 rfl rfl hb11) rfl rfl ?_
      refine aops_skip (wants_some (c := (decide (n9 > 0))) (b := false) 12 rfl rfl hb11) rfl rfl ?_
      refine aops_pick false (cb := (decide (n9 > 0))) (bV false) wants_none rfl hb11 rfl rfl ?_
      refine aops_nil ?_
      refine awp_cond_f rfl rfl ?_
      refine awp_exit ?_
      exact ⟨(n9, n10), h, (ghost_ren 0 (fun i => ([] : List Nat).getD i 0) _ _ (by decide) (EnvSub.get (.cons (Sub.imm (Imm.con _)) (.cons (Sub.imm (Imm.con _)) .nil))) (HpSub.get .nil) rfl)⟩
  · clear h
    rintro ⟨n5, n6⟩ h
    subst hk4
    refine awp_seq ?_
    refine awp_region ?_
    refine aops_move (iV n6) wants_none rfl rfl ?_
    refine aops_move (iV n5) wants_none rfl rfl ?_
    refine aops_bin (.bool (n5 == 0)) wants_none rfl rfl rfl rfl ?_
    refine aops_move (bV (n5 == 0)) wants_none rfl rfl ?_
    rcases Bool.eq_false_or_eq_true (n5 == 0) with hb18 | hb18
    · replace h := ite_t hb18 h
      refine aops_move (iV n6) (wants_some (c := (n5 == 0)) (b := true) 26 rfl rfl hb18) rfl rfl ?_
      refine aops_bin (.bool (decide (n6 ≤ 1000000))) (wants_some (c := (n5 == 0)) (b := true) 26 rfl rfl hb18) rfl rfl rfl rfl ?_
      refine aops_pick true (cb := (n5 == 0)) (bV (decide (n6 ≤ 1000000))) wants_none rfl hb18 rfl rfl ?_
      refine aops_assign (iV n6) wants_none rfl rfl ?_
      refine aops_assign (bV (decide (n6 ≤ 1000000))) wants_none rfl rfl ?_
      refine aops_nil ?_
      refine awp_ret ?_
      obtain rfl := Option.some.inj h
      exact ⟨.inl rfl, .two (.tmp rfl (Imm.con _)) (.tmp rfl (Imm.con _))⟩
    · replace h := ite_f hb18 h
      refine aops_skip (wants_some (c := (n5 == 0)) (b := false) 26 rfl rfl hb18) rfl rfl ?_
      refine aops_skip (wants_some (c := (n5 == 0)) (b := false) 26 rfl rfl hb18) rfl rfl ?_
      refine aops_pick false (cb := (n5 == 0)) (bV false) wants_none rfl hb18 rfl rfl ?_
      refine aops_assign (iV n6) wants_none rfl rfl ?_
      refine aops_assign (bV false) wants_none rfl rfl ?_
      refine aops_nil ?_
      refine awp_ret ?_
      obtain rfl := Option.some.inj h
      exact ⟨.inl rfl, .two (.tmp rfl (Imm.con _)) (.tmp rfl (Imm.con _))⟩

theorem W20 (F : Nat) (a1 : TCalendar) (a2 : Int) (a3 : Int) (r : (Int × Int)) (h : M20 F a1 a2 a3 = some r) : Pure Try.prog 20 [(V.agg [(V.lst 1 (a1.Free.map encI_i64)), (V.lst 1 (a1.Holidays.map encI_i64))]), (iV a2), (iV a3)] (V.tup [(iV (r.1)), (iV (r.2))]) := by
  refine pure_enter Try.func20 rfl rfl (l := [.tmp 6, .tmp 7]) rfl rfl [(0, (V.agg [(V.lst 1 (a1.Free.map encI_i64)), (V.lst 1 (a1.Holidays.map encI_i64))])), (1, (iV a2)), (2, (iV a3))] rfl (fun w0 m0 => ?_)
  unfold M20 at h
  refine awp_seq ?_
  refine awp_region ?_
  refine aops_box [(V.lst 1 (a1.Free.map encI_i64)), (V.lst 1 (a1.Holidays.map encI_i64))] wants_none rfl rfl rfl rfl ?_
  refine aops_assign (iV 0) wants_none rfl rfl ?_
  refine aops_assign (iV 0) wants_none rfl rfl ?_
  refine aops_nil ?_
  refine awp_seq ?_
  refine awp_seq ?_
  refine awp_region ?_
  refine aops_load_agg (cs := [(V.lst 1 (a1.Free.map encI_i64)), (V.lst 1 (a1.Holidays.map encI_i64))]) tA24 wants_none rfl rfl rfl rfl rfl rfl ?_
  replace h := bind_some h
  obtain ⟨y4, hx5, h⟩ := h
  refine aops_call (iV y4) [(V.agg [(V.lst 1 (a1.Free.map encI_i64)), (V.lst 1 (a1.Holidays.map encI_i64))])] fOk22 wants_none (evm_cons rfl evm_nil) (.cons (Imm.agg (.cons (Imm.lst _ _) (.cons (Imm.lst _ _) .nil))) .nil) (W22 F a1 y4 hx5) rfl ?_
  refine aops_assign (iV y4) wants_none rfl rfl ?_
  refine aops_nil ?_
  refine awp_seq ?_
  refine awp_region ?_
  refine aops_move (iV y4) wants_none rfl rfl ?_
  refine aops_bin (.bool (y4 != 0)) wants_none rfl rfl rfl rfl ?_
  refine aops_nil ?_
  refine awp_cond (y4 != 0) rfl (fun hb6 => ?_) (fun hb6 => ?_)
  · replace h := ite_t hb6 h
    refine awp_seq ?_
    refine awp_region ?_
    refine aops_move (iV y4) wants_none rfl rfl ?_
    refine aops_assign (iV 0) wants_none rfl rfl ?_
    refine aops_assign (iV y4) wants_none rfl rfl ?_
    refine aops_nil ?_
    refine awp_ret ?_
    obtain rfl := Option.some.inj h
    exact ⟨.inl rfl, .two (.tmp rfl (Imm.con _)) (.tmp rfl (Imm.con _))⟩
  · replace h := ite_f hb6 h
    refine awp_skip ?_
    refine awp_seq ?_
    refine awp_seq ?_
    refine awp_region ?_
    refine aops_move (iV a2) wants_none rfl rfl ?_
    replace h := bind_some h
    obtain ⟨y7, hx8, h⟩ := h
    refine aops_call (bV y7) [(iV a2)] fOk72 wants_none (evm_cons rfl evm_nil) (.cons (Imm.con _) .nil) (W72 F a2 y7 hx8) rfl ?_
    refine aops_not wants_none rfl rfl ?_
    refine aops_move (bV (!y7)) wants_none rfl rfl ?_
    rcases Bool.eq_false_or_eq_true (!y7) with hb9 | hb9
    · replace h := ite_t hb9 h
      refine aops_skip (wants_some (c := (!y7)) (b := true) 19 rfl rfl hb9) rfl rfl ?_
      refine aops_skip (wants_some (c := (!y7)) (b := true) 19 rfl rfl hb9) rfl rfl ?_
      refine aops_skip (wants_some (c := (!y7)) (b := true) 19 rfl rfl hb9) rfl rfl ?_
      refine aops_pick true (cb := (!y7)) (bV true) wants_none rfl hb9 rfl rfl ?_
      refine aops_nil ?_
      refine awp_cond_t rfl rfl ?_
      refine awp_seq ?_
      refine awp_region ?_
      refine aops_assign (iV 0) wants_none rfl rfl ?_
      refine aops_assign (iV 9) wants_none rfl rfl ?_
      refine aops_nil ?_
      refine awp_ret ?_
      obtain rfl := Option.some.inj h
      exact ⟨.inl rfl, .two (.tmp rfl (Imm.con _)) (.tmp rfl (Imm.con _))⟩
    · replace h := ite_f hb9 h
      refine aops_move (iV a3) (wants_some (c := (!y7)) (b := false) 19 rfl rfl hb9) rfl rfl ?_
      replace h := bind_some h
      obtain ⟨y10, hx11, h⟩ := h
      refine aops_call (bV y10) [(iV a3)] fOk72 (wants_some (c := (!y7)) (b := false) 19 rfl rfl hb9) (evm_cons rfl evm_nil) (.cons (Imm.con _) .nil) (W72 F a3 y10 hx11) rfl ?_
      refine aops_not (wants_some (c := (!y7)) (b := false) 19 rfl rfl hb9) rfl rfl ?_
      refine aops_pick false (cb := (!y7)) (bV (!y10)) wants_none rfl hb9 rfl rfl ?_
      refine aops_nil ?_
      refine awp_cond (!y10) rfl (fun hb12 => ?_) (fun hb12 => ?_)
      · replace h := ite_t hb12 h
        refine awp_seq ?_
        refine awp_region ?_
        refine aops_assign (iV 0) wants_none rfl rfl ?_
        refine aops_assign (iV 9) wants_none rfl rfl ?_
        refine aops_nil ?_
        refine awp_ret ?_
        obtain rfl := Option.some.inj h
        exact ⟨.inl rfl, .two (.tmp rfl (Imm.con _)) (.tmp rfl (Imm.con _))⟩
      · replace h := ite_f hb12 h
        refine awp_skip ?_
        refine awp_seq ?_
        refine awp_region ?_
        refine aops_load_agg (cs := [(V.lst 1 (a1.Free.map encI_i64)), (V.lst 1 (a1.Holidays.map encI_i64))]) tA24 wants_none rfl rfl rfl rfl rfl rfl ?_
        replace h := bind_some h
        obtain ⟨y13, hx14, h⟩ := h
        refine aops_call (V.agg [(bV (y13.free 0)), (bV (y13.free 1)), (bV (y13.free 2)), (bV (y13.free 3)), (bV (y13.free 4)), (bV (y13.free 5)), (bV (y13.free 6)), (V.imap (y13.holidays.map encM3_4))]) [(V.agg [(V.lst 1 (a1.Free.map encI_i64)), (V.lst 1 (a1.Holidays.map encI_i64))])] fOk73 wants_none (evm_cons rfl evm_nil) (.cons (Imm.agg (.cons (Imm.lst _ _) (.cons (Imm.lst _ _) .nil))) .nil) (W73 F a1 y13 hx14) rfl ?_
        refine aops_move (iV a2) wants_none rfl rfl ?_
        refine aops_move (iV a3) wants_none rfl rfl ?_
        replace h := bind_some h
        obtain ⟨y15, hx16, h⟩ := h
        refine aops_call (V.tup [(iV (y15.1)), (bV (y15.2))]) [(V.agg [(bV (y13.free 0)), (bV (y13.free 1)), (bV (y13.free 2)), (bV (y13.free 3)), (bV (y13.free 4)), (bV (y13.free 5)), (bV (y13.free 6)), (V.imap (y13.holidays.map encM3_4))]), (iV a2), (iV a3)] fOk77 wants_none (evm_cons rfl (evm_cons rfl (evm_cons rfl evm_nil))) (.cons (Imm.agg (.cons (Imm.con _) (.cons (Imm.con _) (.cons (Imm.con _) (.cons (Imm.con _) (.cons (Imm.con _) (.cons (Imm.con _) (.cons (Imm.con _) (.cons (Imm.imap _) .nil))))))))) (.cons (Imm.con _) (.cons (Imm.con _) .nil))) (W77 F y13 a2 a3 y15 hx16) rfl ?_
        refine aops_move (V.tup [(iV (y15.1)), (bV (y15.2))]) wants_none rfl rfl ?_
        refine aops_extract (iV (y15.1)) wants_none rfl rfl rfl ?_
        refine aops_extract (bV (y15.2)) wants_none rfl rfl rfl ?_
        refine aops_assign (iV (y15.1)) wants_none rfl rfl ?_
        refine aops_assign (bV (y15.2)) wants_none rfl rfl ?_
        refine aops_nil ?_
        refine awp_seq ?_
        refine awp_seq ?_
        refine awp_region ?_
        refine aops_move (bV (y15.2)) wants_none rfl rfl ?_
        refine aops_not wants_none rfl rfl ?_
        refine aops_nil ?_
        refine awp_cond (!(y15.2)) rfl (fun hb17 => ?_) (fun hb17 => ?_)
        · replace h := ite_t hb17 h
          refine awp_seq ?_
          refine awp_region ?_
          refine aops_assign (iV 0) wants_none rfl rfl ?_
          refine aops_assign (iV 3) wants_none rfl rfl ?_
          refine aops_nil ?_
          refine awp_ret ?_
          obtain rfl := Option.some.inj h
          exact ⟨.inl rfl, .two (.tmp rfl (Imm.con _)) (.tmp rfl (Imm.con _))⟩
        · replace h := ite_f hb17 h
          refine awp_skip ?_
          refine awp_seq ?_
          refine awp_region ?_
          refine aops_move (iV (y15.1)) wants_none rfl rfl ?_
          refine aops_assign (iV (y15.1)) wants_none rfl rfl ?_
          refine aops_assign (iV 0) wants_none rfl rfl ?_
          refine aops_nil ?_
          refine awp_ret ?_
          obtain rfl := Option.some.inj h
          exact ⟨.inl rfl, .two (.tmp rfl (Imm.con _)) (.tmp rfl (Imm.con _))⟩

theorem W23 (F : Nat) (r : Bool) (h : M23 F  = some r) : Pure Try.prog 23 [] (bV r) := by
  refine pure_enter Try.func23 rfl rfl (l := [.tmp 0]) rfl rfl [] rfl (fun w0 m0 => ?_)
  unfold M23 at h
  refine awp_seq ?_
  refine awp_region ?_
  refine aops_assign (bV false) wants_none rfl rfl ?_
  refine aops_nil ?_
  refine awp_seq ?_
  refine awp_region ?_
  refine aops_buildSlice [(0, (iV 5)), (1, (iV 6))] [[(iV 5)], [(iV 6)]] tEl22 tZ3 rfl rfl rfl rfl wants_none (evp_cons rfl (evp_cons rfl evp_nil)) rfl rfl (by simp) rfl ?_
  refine aops_build [(0, (V.own 0 2))] [(V.own 0 2), nV] tZ24 tPl24 rfl wants_none (evp_cons rfl evp_nil) rfl rfl ?_
  replace h := bind_some h
  obtain ⟨y1, hx2, h⟩ := h
  refine aops_lend_call (V.tup [(iV (y1.1)), (iV (y1.2))]) [(V.agg [(V.lst 1 (([5, 6] : List Int).map encI_i64)), (V.lst 1 (([] : List Int).map encI_i64))]), (iV 0), (iV 14)] fOk17 (Ghost.trans (ghost_frzV 0 5 (V.agg [(V.lst 1 (([5, 6] : List Int).map encI_i64)), nV]) rfl (imms_rows (.cons (.cons (Imm.con _) .nil) (.cons (.cons (Imm.con _) .nil) .nil))) rfl (Sub.agg (.cons (Sub.frzAll (rows := ([5, 6] : List Int).map encI_i64) rfl) (.cons Sub.keep .nil)))) (ghost_tell 5 (V.agg [(V.lst 1 (([5, 6] : List Int).map encI_i64)), (V.lst 1 (([] : List Int).map encI_i64))]) rfl (Sub.agg (.cons Sub.keepI (.cons (Sub.nil _) .nil))))) (Flat.tup (by simp)) wants_none (evm_cons rfl (evm_cons rfl (evm_cons rfl evm_nil))) (.cons (Imm.agg (.cons (Imm.lst _ _) (.cons (Imm.lst _ _) .nil))) (.cons (Imm.con _) (.cons (Imm.con _) .nil))) (W17 F (TCalendar.mk ([5, 6] : List Int) ([] : List Int)) 0 14 y1 hx2) rfl ?_
  refine aops_move (V.tup [(iV (y1.1)), (iV (y1.2))]) wants_none rfl rfl ?_
  refine aops_extract (iV (y1.1)) wants_none rfl rfl rfl ?_
  refine aops_extract (iV (y1.2)) wants_none rfl rfl rfl ?_
  refine aops_assign (iV (y1.1)) wants_none rfl rfl ?_
  refine aops_assign (iV (y1.2)) wants_none rfl rfl ?_
  refine aops_nil ?_
  refine awp_seq ?_
  refine awp_region ?_
  refine aops_move (iV (y1.1)) wants_none rfl rfl ?_
  refine aops_bin (.bool ((y1.1) == 10)) wants_none rfl rfl rfl rfl ?_
  refine aops_move (bV ((y1.1) == 10)) wants_none rfl rfl ?_
  rcases Bool.eq_false_or_eq_true ((y1.1) == 10) with hb3 | hb3
  · replace h := ite_t hb3 h
    refine aops_move (iV (y1.2)) (wants_some (c := ((y1.1) == 10)) (b := true) 11 rfl rfl hb3) rfl rfl ?_
    refine aops_bin (.bool ((y1.2) == 0)) (wants_some (c := ((y1.1) == 10)) (b := true) 11 rfl rfl hb3) rfl rfl rfl rfl ?_
    refine aops_pick true (cb := ((y1.1) == 10)) (bV ((y1.2) == 0)) wants_none rfl hb3 rfl rfl ?_
    refine aops_assign (bV ((y1.2) == 0)) wants_none rfl rfl ?_
    refine aops_nil ?_
    refine awp_ret ?_
    obtain rfl := Option.some.inj h
    exact ⟨.inl rfl, .one (.tmp rfl (Imm.con _))⟩
  · replace h := ite_f hb3 h
    refine aops_skip (wants_some (c := ((y1.1) == 10)) (b := false) 11 rfl rfl hb3) rfl rfl ?_
    refine aops_skip (wants_some (c := ((y1.1) == 10)) (b := false) 11 rfl rfl hb3) rfl rfl ?_
    refine aops_pick false (cb := ((y1.1) == 10)) (bV false) wants_none rfl hb3 rfl rfl ?_
    refine aops_assign (bV false) wants_none rfl rfl ?_
    refine aops_nil ?_
    refine awp_ret ?_
    obtain rfl := Option.some.inj h
    exact ⟨.inl rfl, .one (.tmp rfl (Imm.con _))⟩

end Go.Proofs.Ytkciogeafbbggaa
