/- Part of the proof: HW3a. -/
import Derived.Test.YtkciogeafbbggaaJHM
import Derived.KernelRfl
namespace Go.Proofs.Ytkciogeafbbggaa
open Go Go.Pv
set_option linter.unusedVariables false
set_option maxRecDepth 100000
theorem W78 (F : Nat) (a1 : (List Int)) (a2 : Int) (r : Int) (h : M78 F a1 a2 = some r) : Pure Try.prog 78 [(V.lst 1 (a1.map encI_i64)), (iV a2)] (iV r) := by
  refine pure_enter Try.func78 rfl rfl (l := [.tmp 4]) rfl rfl [(0, (V.lst 1 (a1.map encI_i64))), (1, (iV a2))] rfl (fun w0 m0 => ?_)
  unfold M78 at h
  refine sr ?_
  refine aa (iV 0) rfl rfl ?_
  refine an ?_
  refine sq ?_
  refine sr ?_
  refine am (V.lst 1 (a1.map encI_i64)) rfl rfl ?_
  refine aops_len (n := a1.length) tIsSl22 wants_none rfl (congrArg some (List.length_map ..)) rfl ?_
  refine am (iV 0) rfl rfl ?_
  refine an ?_
  replace h := jn_elim h
  obtain ⟨k3, hk3, h⟩ := h
  refine awp_cut (fun _ : Unit => (⟨[], [], 0⟩ : St)) (fun _ : Unit => k3 = some r) ?_ ?_
  · clear hk3
    refine awp_block ?_
    refine awp_loop_ind (fun (p : Int) => (⟨[(0, (V.lst 1 (a1.map encI_i64))), (1, (iV a2)), (7, (V.lst 1 (a1.map encI_i64))), (8, (iV ((a1.length : Nat) : Int))), (9, (iV p))], [], 0⟩ : St)) (fun n (p : Int) => M78_L1 F a1 a2 k3 n p = some r) (fun p h => by simp [M78_L1] at h) (fun n ih1 p h => ?_) F 0 h (ghost_ren 0 (fun i => ([] : List Nat).getD i 0) _ _ (by decide) (EnvSub.get (.cons (Sub.imm (Imm.lst _ _)) (.cons (Sub.imm (Imm.con _)) (.cons (Sub.imm (Imm.lst _ _)) (.cons (Sub.imm (Imm.con _)) (.cons (Sub.imm (Imm.con _)) .nil)))))) (HpSub.get .nil) rfl)
    revert p
    intro n5 h
    unfold M78_L1 at h
    refine awp_loop ?_
    refine sr ?_
    refine aops_bin (.bool (decide (n5 < ((a1.length : Nat) : Int)))) wants_none rfl rfl rfl rfl ?_
    refine an ?_
    refine sq ?_
    refine awp_cond (decide (n5 < ((a1.length : Nat) : Int))) rfl (fun hb6 => ?_) (fun hb6 => ?_)
    · replace h := ite_t hb6 h
      refine awp_skip ?_
      refine sq ?_
      refine awp_block ?_
      refine sr ?_
      refine am (iV n5) rfl rfl ?_
      replace h := bind_some h
      obtain ⟨x7, hx8, h⟩ := h
      refine aops_index_lst [(iV x7)] tSl22 wants_none rfl rfl (idx_some hx8).1 (idx_map encI_i64 hx8) rfl ?_
      refine aops_iload_cell (iV x7) tC3 wants_none rfl rfl rfl ?_
      refine aa (iV n5) rfl rfl ?_
      refine aa (iV x7) rfl rfl ?_
      refine an ?_
      refine awp_block ?_
      refine sr ?_
      refine am (iV x7) rfl rfl ?_
      refine aops_bin (.bool (decide (x7 < 0))) wants_none rfl rfl rfl rfl ?_
      refine am (bV (decide (x7 < 0))) rfl rfl ?_
      refine bsp (decide (x7 < 0)) (fun hb9 => ?_) (fun hb9 => ?_)
      · replace h := ite_t hb9 h
        refine aops_skips 3 2 17 false (c := (decide (x7 < 0))) (b := true) rfl rfl hb9 rfl rfl ?_
        refine aops_pick true (cb := (decide (x7 < 0))) (bV true) wants_none rfl hb9 rfl rfl ?_
        refine aa (bV true) rfl rfl ?_
        refine an ?_
        refine awp_cond_t rfl rfl ?_
        refine sr ?_
        refine aa (iV 9) rfl rfl ?_
        refine an ?_
        refine awp_ret ?_
        replace h := Option.some.inj h
        subst h
        exact ⟨.inl rfl, .one (.tmp rfl (Imm.con _))⟩
      replace h := ite_f hb9 h
      refine aops_move (iV x7) (wants_some (c := (decide (x7 < 0))) (b := false) 17 rfl rfl hb9) rfl rfl ?_
      refine aops_move (iV a2) (wants_some (c := (decide (x7 < 0))) (b := false) 17 rfl rfl hb9) rfl rfl ?_
      refine aops_bin (.bool (decide (x7 > a2))) (wants_some (c := (decide (x7 < 0))) (b := false) 17 rfl rfl hb9) rfl rfl rfl rfl ?_
      refine aops_pick false (cb := (decide (x7 < 0))) (bV (decide (x7 > a2))) wants_none rfl hb9 rfl rfl ?_
      refine aa (bV (decide (x7 > a2))) rfl rfl ?_
      refine an ?_
      replace h := jn_elim h
      obtain ⟨k10, hk10, h⟩ := h
      refine awp_cut (fun _ : Unit => (⟨[(0, (V.lst 1 (a1.map encI_i64))), (1, (iV a2)), (7, (V.lst 1 (a1.map encI_i64))), (8, (iV ((a1.length : Nat) : Int))), (9, (iV n5)), (18, (iV x7)), (19, (iV a2)), (20, (bV (decide (x7 > a2))))], [], 0⟩ : St)) (fun _ : Unit => k10 = some r) ?_ ?_
      · clear hk10
        refine awp_cond (decide (x7 > a2)) rfl (fun hb11 => ?_) (fun hb11 => ?_)
        · replace h := ite_t hb11 h
          refine sr ?_
          refine aa (iV 9) rfl rfl ?_
          refine an ?_
          refine awp_ret ?_
          replace h := Option.some.inj h
          subst h
          exact ⟨.inl rfl, .one (.tmp rfl (Imm.con _))⟩
        replace h := ite_f hb11 h
        refine sr ?_
        refine am (iV n5) rfl rfl ?_
        refine aops_bin (.bool (decide (n5 > 0))) wants_none rfl rfl rfl rfl ?_
        refine am (bV (decide (n5 > 0))) rfl rfl ?_
        refine bsp (decide (n5 > 0)) (fun hb12 => ?_) (fun hb12 => ?_)
        · replace h := ite_t hb12 h
          refine aops_move (iV x7) (wants_some (c := (decide (n5 > 0))) (b := true) 25 rfl rfl hb12) rfl rfl ?_
          refine aops_move (V.lst 1 (a1.map encI_i64)) (wants_some (c := (decide (n5 > 0))) (b := true) 25 rfl rfl hb12) rfl rfl ?_
          refine aops_move (iV n5) (wants_some (c := (decide (n5 > 0))) (b := true) 25 rfl rfl hb12) rfl rfl ?_
          refine aops_bin (.int .i64 (w64 (n5 - 1))) (wants_some (c := (decide (n5 > 0))) (b := true) 25 rfl rfl hb12) rfl rfl rfl rfl ?_
          replace h := bind_some h
          obtain ⟨x13, hx14, h⟩ := h
          refine aops_index_lst [(iV x13)] tSl22 (wants_some (c := (decide (n5 > 0))) (b := true) 25 rfl rfl hb12) rfl rfl (idx_some hx14).1 (idx_map encI_i64 hx14) rfl ?_
          refine aops_iload_cell (iV x13) tC3 (wants_some (c := (decide (n5 > 0))) (b := true) 25 rfl rfl hb12) rfl rfl rfl ?_
          refine aops_bin (.bool (decide (x7 ≤ x13))) (wants_some (c := (decide (n5 > 0))) (b := true) 25 rfl rfl hb12) rfl rfl rfl rfl ?_
          refine aops_pick true (cb := (decide (n5 > 0))) (bV (decide (x7 ≤ x13))) wants_none rfl hb12 rfl rfl ?_
          refine aa (bV (decide (x7 ≤ x13))) rfl rfl ?_
          refine an ?_
          refine awp_cond (decide (x7 ≤ x13)) rfl (fun hb15 => ?_) (fun hb15 => ?_)
          · replace h := ite_t hb15 h
            refine sr ?_
            refine aa (iV 10) rfl rfl ?_
            refine an ?_
            refine awp_ret ?_
            replace h := Option.some.inj h
            subst h
            exact ⟨.inl rfl, .one (.tmp rfl (Imm.con _))⟩
          replace h := ite_f hb15 h
          refine awp_skip ?_
          exact ⟨(), h, (ghost_ren 0 (fun i => ([] : List Nat).getD i 0) _ _ (by decide) (EnvSub.get (.cons (Sub.imm (Imm.lst _ _)) (.cons (Sub.imm (Imm.con _)) (.cons (Sub.imm (Imm.lst _ _)) (.cons (Sub.imm (Imm.con _)) (.cons (Sub.imm (Imm.con _)) (.cons (Sub.imm (Imm.con _)) (.cons (Sub.imm (Imm.con _)) (.cons (Sub.imm (Imm.con _)) .nil))))))))) (HpSub.get .nil) rfl)⟩
        replace h := ite_f hb12 h
        refine aops_skips 7 2 25 true (c := (decide (n5 > 0))) (b := false) rfl rfl hb12 rfl rfl ?_
        refine aops_pick false (cb := (decide (n5 > 0))) (bV false) wants_none rfl hb12 rfl rfl ?_
        refine aa (bV false) rfl rfl ?_
        refine an ?_
        refine awp_cond_f rfl rfl ?_
        refine awp_skip ?_
        exact ⟨(), h, (ghost_ren 0 (fun i => ([] : List Nat).getD i 0) _ _ (by decide) (EnvSub.get (.cons (Sub.imm (Imm.lst _ _)) (.cons (Sub.imm (Imm.con _)) (.cons (Sub.imm (Imm.lst _ _)) (.cons (Sub.imm (Imm.con _)) (.cons (Sub.imm (Imm.con _)) (.cons (Sub.imm (Imm.con _)) (.cons (Sub.imm (Imm.con _)) (.cons (Sub.imm (Imm.con _)) .nil))))))))) (HpSub.get .nil) rfl)⟩
      clear h
      intro _ h
      subst hk10
      refine rg ?_
      refine aops_bin (.int .i64 (w64 (n5 + 1))) wants_none rfl rfl rfl rfl ?_
      refine am (iV (w64 (n5 + 1))) rfl rfl ?_
      refine an ?_
      exact awp_back (ih1 (w64 (n5 + 1)) h) (ghost_ren 0 (fun i => ([] : List Nat).getD i 0) _ _ (by decide) (EnvSub.get (.cons (Sub.imm (Imm.lst _ _)) (.cons (Sub.imm (Imm.con _)) (.cons (Sub.imm (Imm.lst _ _)) (.cons (Sub.imm (Imm.con _)) (.cons (Sub.imm (Imm.con _)) .nil)))))) (HpSub.get .nil) rfl)
    replace h := ite_f hb6 h
    refine awp_exit ?_
    exact ⟨(), h, (ghost_ren 0 (fun i => ([] : List Nat).getD i 0) _ _ (by decide) (EnvSub.get .nil) (HpSub.get .nil) rfl)⟩
  clear h
  intro _ h
  subst hk3
  refine sr ?_
  refine aa (iV 0) rfl rfl ?_
  refine an ?_
  refine awp_ret ?_
  replace h := Option.some.inj h
  subst h
  exact ⟨.inl rfl, .one (.tmp rfl (Imm.con _))⟩
theorem W21 (F : Nat) (a1 : TCalendar) (r : Int) (h : M21 F a1 = some r) : Pure Try.prog 21 [(V.agg (encTCalendar a1))] (iV r) := by
  refine pure_enter Try.func21 rfl rfl (l := [.tmp 2]) rfl rfl [(0, (V.agg (encTCalendar a1)))] rfl (fun w0 m0 => ?_)
  unfold M21 at h
  refine sr ?_
  refine aops_box (encTCalendar a1) wants_none rfl rfl rfl rfl ?_
  refine aa (iV 0) rfl rfl ?_
  refine an ?_
  refine sq ?_
  refine sr ?_
  refine aops_fieldAddr tF24_0 wants_none rfl rfl ?_
  refine aops_load_cell (V.lst 1 (a1.Free.map encI_i64)) tC22 wants_none rfl rfl rfl rfl rfl ?_
  refine aops_len (n := a1.Free.length) tIsSl22 wants_none rfl (congrArg some (List.length_map ..)) rfl ?_
  refine aops_bin (.bool (decide (((a1.Free.length : Nat) : Int) > 6))) wants_none rfl rfl rfl rfl ?_
  refine am (bV (decide (((a1.Free.length : Nat) : Int) > 6))) rfl rfl ?_
  refine bsp (decide (((a1.Free.length : Nat) : Int) > 6)) (fun hb2 => ?_) (fun hb2 => ?_)
  · replace h := ite_t hb2 h
    refine aops_skips 4 4 8 false (c := (decide (((a1.Free.length : Nat) : Int) > 6))) (b := true) rfl rfl hb2 rfl rfl ?_
    refine aops_pick true (cb := (decide (((a1.Free.length : Nat) : Int) > 6))) (bV true) wants_none rfl hb2 rfl rfl ?_
    refine an ?_
    refine awp_cond_t rfl rfl ?_
    refine sr ?_
    refine aa (iV 3) rfl rfl ?_
    refine an ?_
    refine awp_ret ?_
    replace h := Option.some.inj h
    subst h
    exact ⟨.inl rfl, .one (.tmp rfl (Imm.con _))⟩
  replace h := ite_f hb2 h
  refine aops_fieldAddr tF24_1 (wants_some (c := (decide (((a1.Free.length : Nat) : Int) > 6))) (b := false) 8 rfl rfl hb2) rfl rfl ?_
  refine aops_load_cell (V.lst 1 (a1.Holidays.map encI_i64)) tC22 (wants_some (c := (decide (((a1.Free.length : Nat) : Int) > 6))) (b := false) 8 rfl rfl hb2) rfl rfl rfl rfl rfl ?_
  refine aops_len (n := a1.Holidays.length) tIsSl22 (wants_some (c := (decide (((a1.Free.length : Nat) : Int) > 6))) (b := false) 8 rfl rfl hb2) rfl (congrArg some (List.length_map ..)) rfl ?_
  refine aops_bin (.bool (decide (((a1.Holidays.length : Nat) : Int) > 2000))) (wants_some (c := (decide (((a1.Free.length : Nat) : Int) > 6))) (b := false) 8 rfl rfl hb2) rfl rfl rfl rfl ?_
  refine aops_pick false (cb := (decide (((a1.Free.length : Nat) : Int) > 6))) (bV (decide (((a1.Holidays.length : Nat) : Int) > 2000))) wants_none rfl hb2 rfl rfl ?_
  refine an ?_
  refine awp_cond (decide (((a1.Holidays.length : Nat) : Int) > 2000)) rfl (fun hb3 => ?_) (fun hb3 => ?_)
  · replace h := ite_t hb3 h
    refine sr ?_
    refine aa (iV 3) rfl rfl ?_
    refine an ?_
    refine awp_ret ?_
    replace h := Option.some.inj h
    subst h
    exact ⟨.inl rfl, .one (.tmp rfl (Imm.con _))⟩
  replace h := ite_f hb3 h
  refine awp_skip ?_
  refine sq ?_
  refine sr ?_
  refine aops_fieldAddr tF24_0 wants_none rfl rfl ?_
  refine aops_load_cell (V.lst 1 (a1.Free.map encI_i64)) tC22 wants_none rfl rfl rfl rfl rfl ?_
  replace h := bind_some h
  obtain ⟨y4, hx5, h⟩ := h
  refine aops_call (iV y4) [(V.lst 1 (a1.Free.map encI_i64)), (iV 6)] fOk78 wants_none (evm_cons rfl (evm_cons rfl evm_nil)) (.cons (Imm.lst _ _) (.cons (Imm.con _) .nil)) (W78 F a1.Free 6 y4 hx5) rfl ?_
  refine aa (iV y4) rfl rfl ?_
  refine an ?_
  refine sr ?_
  refine am (iV y4) rfl rfl ?_
  refine aops_bin (.bool (y4 != 0)) wants_none rfl rfl rfl rfl ?_
  refine an ?_
  refine awp_cond (y4 != 0) rfl (fun hb6 => ?_) (fun hb6 => ?_)
  · replace h := ite_t hb6 h
    refine sr ?_
    refine am (iV y4) rfl rfl ?_
    refine aa (iV y4) rfl rfl ?_
    refine an ?_
    refine awp_ret ?_
    replace h := Option.some.inj h
    subst h
    exact ⟨.inl rfl, .one (.tmp rfl (Imm.con _))⟩
  replace h := ite_f hb6 h
  refine awp_skip ?_
  refine sr ?_
  refine aops_fieldAddr tF24_1 wants_none rfl rfl ?_
  refine aops_load_cell (V.lst 1 (a1.Holidays.map encI_i64)) tC22 wants_none rfl rfl rfl rfl rfl ?_
  replace h := bind_some h
  obtain ⟨y7, hx8, h⟩ := h
  refine aops_call (iV y7) [(V.lst 1 (a1.Holidays.map encI_i64)), (iV 1000000)] fOk78 wants_none (evm_cons rfl (evm_cons rfl evm_nil)) (.cons (Imm.lst _ _) (.cons (Imm.con _) .nil)) (W78 F a1.Holidays 1000000 y7 hx8) rfl ?_
  refine aa (iV y7) rfl rfl ?_
  refine an ?_
  refine awp_ret ?_
  replace h := Option.some.inj h
  subst h
  exact ⟨.inl rfl, .one (.tmp rfl (Imm.con _))⟩
theorem W69 (F : Nat) (a1 : Int) (r : Bool) (h : M69 F a1 = some r) : Pure Try.prog 69 [(iV a1)] (bV r) := by
  refine pure_enter Try.func69 rfl rfl (l := [.tmp 2]) rfl rfl [(0, (iV a1))] rfl (fun w0 m0 => ?_)
  unfold M69 at h
  refine sr ?_
  refine aa (bV false) rfl rfl ?_
  refine an ?_
  refine sr ?_
  refine am (iV a1) rfl rfl ?_
  refine aops_bin (.bool (decide (a1 ≥ 0))) wants_none rfl rfl rfl rfl ?_
  refine am (bV (decide (a1 ≥ 0))) rfl rfl ?_
  refine bsp (decide (a1 ≥ 0)) (fun hb2 => ?_) (fun hb2 => ?_)
  · replace h := ite_t hb2 h
    refine aops_move (iV a1) (wants_some (c := (decide (a1 ≥ 0))) (b := true) 5 rfl rfl hb2) rfl rfl ?_
    refine aops_bin (.bool (decide (a1 ≤ 1000000))) (wants_some (c := (decide (a1 ≥ 0))) (b := true) 5 rfl rfl hb2) rfl rfl rfl rfl ?_
    refine aops_pick true (cb := (decide (a1 ≥ 0))) (bV (decide (a1 ≤ 1000000))) wants_none rfl hb2 rfl rfl ?_
    refine aa (bV (decide (a1 ≤ 1000000))) rfl rfl ?_
    refine an ?_
    refine awp_ret ?_
    replace h := Option.some.inj h
    subst h
    exact ⟨.inl rfl, .one (.tmp rfl (Imm.con _))⟩
  replace h := ite_f hb2 h
  refine aops_skips 2 2 5 true (c := (decide (a1 ≥ 0))) (b := false) rfl rfl hb2 rfl rfl ?_
  refine aops_pick false (cb := (decide (a1 ≥ 0))) (bV false) wants_none rfl hb2 rfl rfl ?_
  refine aa (bV false) rfl rfl ?_
  refine an ?_
  refine awp_ret ?_
  replace h := Option.some.inj h
  subst h
  exact ⟨.inl rfl, .one (.tmp rfl (Imm.con _))⟩
theorem W70 (F : Nat) (a1 : TCalendar) (r : Thistory_week) (h : M70 F a1 = some r) : Pure Try.prog 70 [(V.agg (encTCalendar a1))] (V.agg [(bV (r.free 0)), (bV (r.free 1)), (bV (r.free 2)), (bV (r.free 3)), (bV (r.free 4)), (bV (r.free 5)), (bV (r.free 6)), (iV r.work), (V.lst 1 (r.holidays.map encI_i64))]) := by
  refine pure_enter Try.func70 rfl rfl (l := [.cell 2 101]) rfl rfl [(0, (V.agg (encTCalendar a1)))] rfl (fun w0 m0 => ?_)
  unfold M70 at h
  refine sr ?_
  refine aops_box (encTCalendar a1) wants_none rfl rfl rfl rfl ?_
  refine aops_alloc tZ101 rfl rfl wants_none rfl ?_
  refine an ?_
  refine sr ?_
  refine aops_fieldAddr tF24_0 wants_none rfl rfl ?_
  refine aops_load_cell (V.lst 1 (a1.Free.map encI_i64)) tC22 wants_none rfl rfl rfl rfl rfl ?_
  refine aops_len (n := a1.Free.length) tIsSl22 wants_none rfl (congrArg some (List.length_map ..)) rfl ?_
  refine aops_bin (.int .i64 (w64 (7 - ((a1.Free.length : Nat) : Int)))) wants_none rfl rfl rfl rfl ?_
  refine aops_build [(1, (iV (w64 (7 - ((a1.Free.length : Nat) : Int)))))] [(bV false), (bV false), (bV false), (bV false), (bV false), (bV false), (bV false), (iV (w64 (7 - ((a1.Free.length : Nat) : Int)))), nV] tZ101 tPl101 rfl wants_none (evp_cons rfl evp_nil) rfl rfl ?_
  refine aops_alloc tZ101 rfl rfl wants_none rfl ?_
  refine aops_store [(bV false), (bV false), (bV false), (bV false), (bV false), (bV false), (bV false), (iV (w64 (7 - ((a1.Free.length : Nat) : Int)))), nV] [[(bV false), (bV false), (bV false), (bV false), (bV false), (bV false), (bV false), (iV (w64 (7 - ((a1.Free.length : Nat) : Int)))), nV]] tS101 wants_none rfl rfl rfl rfl rfl rfl rfl rfl ?_
  refine an ?_
  refine sq ?_
  refine sr ?_
  refine aops_fieldAddr tF24_0 wants_none rfl rfl ?_
  refine aops_load_cell (V.lst 1 (a1.Free.map encI_i64)) tC22 wants_none rfl rfl rfl rfl rfl ?_
  refine aops_len (n := a1.Free.length) tIsSl22 wants_none rfl (congrArg some (List.length_map ..)) rfl ?_
  refine am (iV 0) rfl rfl ?_
  refine an ?_
  replace h := jn_elim h
  obtain ⟨k2, hk2, h⟩ := h
  refine awp_cut (fun (p : (Nat → Bool)) => (⟨[(1, (V.ptr 0 2 0 0)), (2, (V.ptr 1 9 0 0)), (3, (V.ptr 2 9 0 0))], [(0, (Ob.arr 24 2 [(encTCalendar a1)])), (1, (Ob.arr 101 9 [[(bV false), (bV false), (bV false), (bV false), (bV false), (bV false), (bV false), (iV 0), nV]])), (2, (Ob.arr 101 9 [[(bV (p 0)), (bV (p 1)), (bV (p 2)), (bV (p 3)), (bV (p 4)), (bV (p 5)), (bV (p 6)), (iV (w64 (7 - ((a1.Free.length : Nat) : Int)))), nV]]))], 3⟩ : St)) (fun (p : (Nat → Bool)) => k2 p = some r) ?_ ?_
  · clear hk2
    refine awp_block ?_
    refine awp_loop_ind (fun (p : Int × (Nat → Bool)) => (⟨[(1, (V.ptr 0 2 0 0)), (2, (V.ptr 1 9 0 0)), (3, (V.ptr 2 9 0 0)), (14, (V.lst 1 (a1.Free.map encI_i64))), (15, (iV ((a1.Free.length : Nat) : Int))), (16, (iV (p.1)))], [(0, (Ob.arr 24 2 [(encTCalendar a1)])), (1, (Ob.arr 101 9 [[(bV false), (bV false), (bV false), (bV false), (bV false), (bV false), (bV false), (iV 0), nV]])), (2, (Ob.arr 101 9 [[(bV ((p.2) 0)), (bV ((p.2) 1)), (bV ((p.2) 2)), (bV ((p.2) 3)), (bV ((p.2) 4)), (bV ((p.2) 5)), (bV ((p.2) 6)), (iV (w64 (7 - ((a1.Free.length : Nat) : Int)))), nV]]))], 3⟩ : St)) (fun n (p : Int × (Nat → Bool)) => M70_L1 F a1 k2 n p.1 p.2 = some r) (fun p h => by simp [M70_L1] at h) (fun n ih1 p h => ?_) F (0, (fun _ => false)) h (ghost_ren 3 (fun i => ([0, 1, 2] : List Nat).getD i 0) _ _ (by decide) (EnvSub.get (.cons (Sub.ptr rfl rfl) (.cons (Sub.ptr rfl rfl) (.cons (Sub.ptr rfl rfl) (.cons (Sub.imm (Imm.lst _ _)) (.cons (Sub.imm (Imm.con _)) (.cons (Sub.imm (Imm.con _)) .nil))))))) (HpSub.get (.cons rfl (ObSub.box (.cons (Sub.imm (Imm.lst _ _)) (.cons (Sub.imm (Imm.lst _ _)) .nil))) (.cons rfl (ObSub.box (.cons (Sub.imm (Imm.con _)) (.cons (Sub.imm (Imm.con _)) (.cons (Sub.imm (Imm.con _)) (.cons (Sub.imm (Imm.con _)) (.cons (Sub.imm (Imm.con _)) (.cons (Sub.imm (Imm.con _)) (.cons (Sub.imm (Imm.con _)) (.cons (Sub.imm (Imm.con _)) (.cons (Sub.imm (Imm.con _)) .nil)))))))))) (.cons rfl (ObSub.box (.cons (Sub.imm (Imm.con _)) (.cons (Sub.imm (Imm.con _)) (.cons (Sub.imm (Imm.con _)) (.cons (Sub.imm (Imm.con _)) (.cons (Sub.imm (Imm.con _)) (.cons (Sub.imm (Imm.con _)) (.cons (Sub.imm (Imm.con _)) (.cons (Sub.imm (Imm.con _)) (.cons (Sub.imm (Imm.con _)) .nil)))))))))) .nil)))) rfl)
    obtain ⟨n6, f7⟩ := p
    unfold M70_L1 at h
    refine awp_loop ?_
    refine sr ?_
    refine aops_bin (.bool (decide (n6 < ((a1.Free.length : Nat) : Int)))) wants_none rfl rfl rfl rfl ?_
    refine an ?_
    refine sq ?_
    refine awp_cond (decide (n6 < ((a1.Free.length : Nat) : Int))) rfl (fun hb8 => ?_) (fun hb8 => ?_)
    · replace h := ite_t hb8 h
      refine awp_skip ?_
      refine sq ?_
      refine awp_block ?_
      refine sr ?_
      replace h := bind_some h
      obtain ⟨x9, hx10, h⟩ := h
      refine aops_index_lst [(iV x9)] tSl22 wants_none rfl rfl (idx_some hx10).1 (idx_map encI_i64 hx10) rfl ?_
      refine aops_iload_cell (iV x9) tC3 wants_none rfl rfl rfl ?_
      refine aa (iV x9) rfl rfl ?_
      refine an ?_
      refine rg ?_
      refine am (iV x9) rfl rfl ?_
      refine aops_fieldAddr tF101_0 wants_none rfl rfl ?_
      replace h := chk_some h
      obtain ⟨hc11, h⟩ := h
      refine aops_index_arr tArr99 wants_none rfl rfl hc11.1 hc11.2 rfl ?_
      refine aops_store [(bV true)] [[(bV ((upd f7 x9.toNat true) 0)), (bV ((upd f7 x9.toNat true) 1)), (bV ((upd f7 x9.toNat true) 2)), (bV ((upd f7 x9.toNat true) 3)), (bV ((upd f7 x9.toNat true) 4)), (bV ((upd f7 x9.toNat true) 5)), (bV ((upd f7 x9.toNat true) 6)), (iV (w64 (7 - ((a1.Free.length : Nat) : Int)))), nV]] tS4 wants_none rfl rfl rfl rfl rfl rfl (arr_ble hc11.2 (by simp)) (congrArg (fun r => [r]) (arr_set [] [(iV (w64 (7 - ((a1.Free.length : Nat) : Int)))), nV] (fun x => (bV x)) f7 true hc11.2 rfl (by simp))) ?_
      refine an ?_
      refine rg ?_
      refine aops_bin (.int .i64 (w64 (n6 + 1))) wants_none rfl rfl rfl rfl ?_
      refine am (iV (w64 (n6 + 1))) rfl rfl ?_
      refine an ?_
      exact awp_back (ih1 ((w64 (n6 + 1)), (upd f7 x9.toNat true)) h) (ghost_ren 3 (fun i => ([0, 1, 2] : List Nat).getD i 0) _ _ (by decide) (EnvSub.get (.cons (Sub.ptr rfl rfl) (.cons (Sub.ptr rfl rfl) (.cons (Sub.ptr rfl rfl) (.cons (Sub.imm (Imm.lst _ _)) (.cons (Sub.imm (Imm.con _)) (.cons (Sub.imm (Imm.con _)) .nil))))))) (HpSub.get (.cons rfl (ObSub.box (.cons (Sub.imm (Imm.lst _ _)) (.cons (Sub.imm (Imm.lst _ _)) .nil))) (.cons rfl (ObSub.box (.cons (Sub.imm (Imm.con _)) (.cons (Sub.imm (Imm.con _)) (.cons (Sub.imm (Imm.con _)) (.cons (Sub.imm (Imm.con _)) (.cons (Sub.imm (Imm.con _)) (.cons (Sub.imm (Imm.con _)) (.cons (Sub.imm (Imm.con _)) (.cons (Sub.imm (Imm.con _)) (.cons (Sub.imm (Imm.con _)) .nil)))))))))) (.cons rfl (ObSub.box (.cons (Sub.imm (Imm.con _)) (.cons (Sub.imm (Imm.con _)) (.cons (Sub.imm (Imm.con _)) (.cons (Sub.imm (Imm.con _)) (.cons (Sub.imm (Imm.con _)) (.cons (Sub.imm (Imm.con _)) (.cons (Sub.imm (Imm.con _)) (.cons (Sub.imm (Imm.con _)) (.cons (Sub.imm (Imm.con _)) .nil)))))))))) .nil)))) rfl)
    replace h := ite_f hb8 h
    refine awp_exit ?_
    exact ⟨f7, h, (ghost_ren 3 (fun i => ([0, 1, 2] : List Nat).getD i 0) _ _ (by decide) (EnvSub.get (.cons (Sub.ptr rfl rfl) (.cons (Sub.ptr rfl rfl) (.cons (Sub.ptr rfl rfl) .nil)))) (HpSub.get (.cons rfl (ObSub.box (.cons (Sub.imm (Imm.lst _ _)) (.cons (Sub.imm (Imm.lst _ _)) .nil))) (.cons rfl (ObSub.box (.cons (Sub.imm (Imm.con _)) (.cons (Sub.imm (Imm.con _)) (.cons (Sub.imm (Imm.con _)) (.cons (Sub.imm (Imm.con _)) (.cons (Sub.imm (Imm.con _)) (.cons (Sub.imm (Imm.con _)) (.cons (Sub.imm (Imm.con _)) (.cons (Sub.imm (Imm.con _)) (.cons (Sub.imm (Imm.con _)) .nil)))))))))) (.cons rfl (ObSub.box (.cons (Sub.imm (Imm.con _)) (.cons (Sub.imm (Imm.con _)) (.cons (Sub.imm (Imm.con _)) (.cons (Sub.imm (Imm.con _)) (.cons (Sub.imm (Imm.con _)) (.cons (Sub.imm (Imm.con _)) (.cons (Sub.imm (Imm.con _)) (.cons (Sub.imm (Imm.con _)) (.cons (Sub.imm (Imm.con _)) .nil)))))))))) .nil)))) rfl)⟩
  clear h
  intro f3 h
  subst hk2
  refine sq ?_
  refine sr ?_
  refine aops_fieldAddr tF24_1 wants_none rfl rfl ?_
  refine aops_load_cell (V.lst 1 (a1.Holidays.map encI_i64)) tC22 wants_none rfl rfl rfl rfl rfl ?_
  refine aops_len (n := a1.Holidays.length) tIsSl22 wants_none rfl (congrArg some (List.length_map ..)) rfl ?_
  refine am (iV 0) rfl rfl ?_
  refine an ?_
  replace h := jn_elim h
  obtain ⟨k12, hk12, h⟩ := h
  refine awp_cut (fun (p : (List Int)) => (⟨[(2, (V.ptr 0 9 0 0)), (3, (V.ptr 1 9 0 0))], [(0, (Ob.arr 101 9 [[(bV false), (bV false), (bV false), (bV false), (bV false), (bV false), (bV false), (iV 0), nV]])), (1, (Ob.arr 101 9 [[(bV (f3 0)), (bV (f3 1)), (bV (f3 2)), (bV (f3 3)), (bV (f3 4)), (bV (f3 5)), (bV (f3 6)), (iV (w64 (7 - ((a1.Free.length : Nat) : Int)))), (V.own 2 p.length)]])), (2, (Ob.arr 3 1 (p.map encI_i64)))], 3⟩ : St)) (fun (p : (List Int)) => k12 p = some r) ?_ ?_
  · clear hk12
    refine awp_block ?_
    refine awp_loop_ind (fun (p : Int × (List Int)) => (⟨[(2, (V.ptr 0 9 0 0)), (3, (V.ptr 1 9 0 0)), (25, (V.lst 1 (a1.Holidays.map encI_i64))), (26, (iV ((a1.Holidays.length : Nat) : Int))), (27, (iV (p.1)))], [(0, (Ob.arr 101 9 [[(bV false), (bV false), (bV false), (bV false), (bV false), (bV false), (bV false), (iV 0), nV]])), (1, (Ob.arr 101 9 [[(bV (f3 0)), (bV (f3 1)), (bV (f3 2)), (bV (f3 3)), (bV (f3 4)), (bV (f3 5)), (bV (f3 6)), (iV (w64 (7 - ((a1.Free.length : Nat) : Int)))), (V.own 2 (p.2).length)]])), (2, (Ob.arr 3 1 ((p.2).map encI_i64)))], 3⟩ : St)) (fun n (p : Int × (List Int)) => M70_L2 F a1 f3 k12 n p.1 p.2 = some r) (fun p h => by simp [M70_L2] at h) (fun n ih2 p h => ?_) F (0, ([] : List Int)) h (Ghost.trans (ghost_nilC 2 3 1 (Ob.arr 101 9 [[(bV (f3 0)), (bV (f3 1)), (bV (f3 2)), (bV (f3 3)), (bV (f3 4)), (bV (f3 5)), (bV (f3 6)), (iV (w64 (7 - ((a1.Free.length : Nat) : Int)))), (V.own 3 0)]]) (ObSub.box (.cons Sub.keepNil (.cons Sub.keepNil (.cons Sub.keepNil (.cons Sub.keepNil (.cons Sub.keepNil (.cons Sub.keepNil (.cons Sub.keepNil (.cons Sub.keepNil (.cons Sub.mkNil .nil))))))))))) (ghost_ren 3 (fun i => ([1, 2, 3] : List Nat).getD i 0) _ _ (by decide) (EnvSub.get (.cons (Sub.ptr rfl rfl) (.cons (Sub.ptr rfl rfl) (.cons (Sub.imm (Imm.lst _ _)) (.cons (Sub.imm (Imm.con _)) (.cons (Sub.imm (Imm.con _)) .nil)))))) (HpSub.get (.cons rfl (ObSub.box (.cons (Sub.imm (Imm.con _)) (.cons (Sub.imm (Imm.con _)) (.cons (Sub.imm (Imm.con _)) (.cons (Sub.imm (Imm.con _)) (.cons (Sub.imm (Imm.con _)) (.cons (Sub.imm (Imm.con _)) (.cons (Sub.imm (Imm.con _)) (.cons (Sub.imm (Imm.con _)) (.cons (Sub.imm (Imm.con _)) .nil)))))))))) (.cons rfl (ObSub.box (.cons (Sub.imm (Imm.con _)) (.cons (Sub.imm (Imm.con _)) (.cons (Sub.imm (Imm.con _)) (.cons (Sub.imm (Imm.con _)) (.cons (Sub.imm (Imm.con _)) (.cons (Sub.imm (Imm.con _)) (.cons (Sub.imm (Imm.con _)) (.cons (Sub.imm (Imm.con _)) (.cons (Sub.ownE rfl rfl (by simp)) .nil)))))))))) (.cons rfl (ObSub.rows (rows_imm imms_encI_i64)) .nil)))) rfl))
    obtain ⟨n16, l17⟩ := p
    unfold M70_L2 at h
    refine awp_loop ?_
    refine sr ?_
    refine aops_bin (.bool (decide (n16 < ((a1.Holidays.length : Nat) : Int)))) wants_none rfl rfl rfl rfl ?_
    refine an ?_
    refine sq ?_
    refine awp_cond (decide (n16 < ((a1.Holidays.length : Nat) : Int))) rfl (fun hb18 => ?_) (fun hb18 => ?_)
    · replace h := ite_t hb18 h
      refine awp_skip ?_
      refine sq ?_
      refine awp_block ?_
      refine sr ?_
      replace h := bind_some h
      obtain ⟨x19, hx20, h⟩ := h
      refine aops_index_lst [(iV x19)] tSl22 wants_none rfl rfl (idx_some hx20).1 (idx_map encI_i64 hx20) rfl ?_
      refine aops_iload_cell (iV x19) tC3 wants_none rfl rfl rfl ?_
      refine aa (iV x19) rfl rfl ?_
      refine an ?_
      refine sr ?_
      refine am (iV x19) rfl rfl ?_
      refine aops_bin (.int .i64 (Int.tmod x19 7)) wants_none rfl rfl rfl rfl ?_
      refine aops_fieldAddr tF101_0 wants_none rfl rfl ?_
      replace h := chk_some h
      obtain ⟨hc21, h⟩ := h
      refine aops_index_arr tArr99 wants_none rfl rfl hc21.1 hc21.2 rfl ?_
      refine aops_load_cell (bV (f3 (Int.tmod x19 7).toNat)) tC4 wants_none rfl rfl rfl (arr_get [] [(iV (w64 (7 - ((a1.Free.length : Nat) : Int)))), (V.own 2 l17.length)] (fun i => (bV (f3 i))) hc21.2 rfl (by simp)) rfl ?_
      refine aops_not wants_none rfl rfl ?_
      refine an ?_
      replace h := jn_elim h
      obtain ⟨k22, hk22, h⟩ := h
      refine awp_cut (fun (p : (List Int)) => (⟨[(2, (V.ptr 0 9 0 0)), (3, (V.ptr 1 9 0 0)), (25, (V.lst 1 (a1.Holidays.map encI_i64))), (26, (iV ((a1.Holidays.length : Nat) : Int))), (27, (iV n16))], [(0, (Ob.arr 101 9 [[(bV false), (bV false), (bV false), (bV false), (bV false), (bV false), (bV false), (iV 0), nV]])), (1, (Ob.arr 101 9 [[(bV (f3 0)), (bV (f3 1)), (bV (f3 2)), (bV (f3 3)), (bV (f3 4)), (bV (f3 5)), (bV (f3 6)), (iV (w64 (7 - ((a1.Free.length : Nat) : Int)))), (V.own 2 p.length)]])), (2, (Ob.arr 3 1 (p.map encI_i64)))], 3⟩ : St)) (fun (p : (List Int)) => k22 p = some r) ?_ ?_
      · clear hk22
        refine awp_cond (!(f3 (Int.tmod x19 7).toNat)) rfl (fun hb24 => ?_) (fun hb24 => ?_)
        · replace h := ite_t hb24 h
          refine rg ?_
          refine aops_fieldAddr tF101_2 wants_none rfl rfl ?_
          refine aops_load_cell (V.own 2 l17.length) tC22 wants_none rfl rfl rfl rfl rfl ?_
          refine am (iV x19) rfl rfl ?_
          refine aops_buildSlice [(0, (iV x19))] [[(iV x19)]] tEl22 tZ3 rfl rfl rfl rfl wants_none (evp_cons rfl evp_nil) rfl rfl (by simp) rfl ?_
          replace h := chk_some h
          obtain ⟨hc25, h⟩ := h
          refine aops_append [[(iV x19)]] ((l17 ++ ([x19] : List Int)).map encI_i64) tEl22 tIsSl22 rfl rfl wants_none rfl rfl (by simp) rfl (.own rfl (by simp)) (map_snoc encI_i64 l17 ([x19] : List Int)) (List.length_map ..) hc25 rfl ?_
          refine aops_fieldAddr tF101_2 wants_none rfl rfl ?_
          refine aops_store [(V.own 4 (l17 ++ ([x19] : List Int)).length)] [[(bV (f3 0)), (bV (f3 1)), (bV (f3 2)), (bV (f3 3)), (bV (f3 4)), (bV (f3 5)), (bV (f3 6)), (iV (w64 (7 - ((a1.Free.length : Nat) : Int)))), (V.own 4 (l17 ++ ([x19] : List Int)).length)]] tS22 wants_none rfl rfl rfl rfl rfl rfl rfl rfl ?_
          refine an ?_
          exact ⟨(l17 ++ ([x19] : List Int)), h, (ghost_ren 3 (fun i => ([0, 1, 4] : List Nat).getD i 0) _ _ (by decide) (EnvSub.get (.cons (Sub.ptr rfl rfl) (.cons (Sub.ptr rfl rfl) (.cons (Sub.imm (Imm.lst _ _)) (.cons (Sub.imm (Imm.con _)) (.cons (Sub.imm (Imm.con _)) .nil)))))) (HpSub.get (.cons rfl (ObSub.box (.cons (Sub.imm (Imm.con _)) (.cons (Sub.imm (Imm.con _)) (.cons (Sub.imm (Imm.con _)) (.cons (Sub.imm (Imm.con _)) (.cons (Sub.imm (Imm.con _)) (.cons (Sub.imm (Imm.con _)) (.cons (Sub.imm (Imm.con _)) (.cons (Sub.imm (Imm.con _)) (.cons (Sub.imm (Imm.con _)) .nil)))))))))) (.cons rfl (ObSub.box (.cons (Sub.imm (Imm.con _)) (.cons (Sub.imm (Imm.con _)) (.cons (Sub.imm (Imm.con _)) (.cons (Sub.imm (Imm.con _)) (.cons (Sub.imm (Imm.con _)) (.cons (Sub.imm (Imm.con _)) (.cons (Sub.imm (Imm.con _)) (.cons (Sub.imm (Imm.con _)) (.cons (Sub.own rfl rfl) .nil)))))))))) (.cons rfl (ObSub.rows (rows_imm imms_encI_i64)) .nil)))) rfl)⟩
        replace h := ite_f hb24 h
        refine awp_skip ?_
        exact ⟨l17, h, (ghost_ren 3 (fun i => ([0, 1, 2] : List Nat).getD i 0) _ _ (by decide) (EnvSub.get (.cons (Sub.ptr rfl rfl) (.cons (Sub.ptr rfl rfl) (.cons (Sub.imm (Imm.lst _ _)) (.cons (Sub.imm (Imm.con _)) (.cons (Sub.imm (Imm.con _)) .nil)))))) (HpSub.get (.cons rfl (ObSub.box (.cons (Sub.imm (Imm.con _)) (.cons (Sub.imm (Imm.con _)) (.cons (Sub.imm (Imm.con _)) (.cons (Sub.imm (Imm.con _)) (.cons (Sub.imm (Imm.con _)) (.cons (Sub.imm (Imm.con _)) (.cons (Sub.imm (Imm.con _)) (.cons (Sub.imm (Imm.con _)) (.cons (Sub.imm (Imm.con _)) .nil)))))))))) (.cons rfl (ObSub.box (.cons (Sub.imm (Imm.con _)) (.cons (Sub.imm (Imm.con _)) (.cons (Sub.imm (Imm.con _)) (.cons (Sub.imm (Imm.con _)) (.cons (Sub.imm (Imm.con _)) (.cons (Sub.imm (Imm.con _)) (.cons (Sub.imm (Imm.con _)) (.cons (Sub.imm (Imm.con _)) (.cons (Sub.own rfl rfl) .nil)))))))))) (.cons rfl (ObSub.rows (rows_imm imms_encI_i64)) .nil)))) rfl)⟩
      clear h
      intro l23 h
      subst hk22
      refine rg ?_
      refine aops_bin (.int .i64 (w64 (n16 + 1))) wants_none rfl rfl rfl rfl ?_
      refine am (iV (w64 (n16 + 1))) rfl rfl ?_
      refine an ?_
      exact awp_back (ih2 ((w64 (n16 + 1)), l23) h) (ghost_ren 3 (fun i => ([0, 1, 2] : List Nat).getD i 0) _ _ (by decide) (EnvSub.get (.cons (Sub.ptr rfl rfl) (.cons (Sub.ptr rfl rfl) (.cons (Sub.imm (Imm.lst _ _)) (.cons (Sub.imm (Imm.con _)) (.cons (Sub.imm (Imm.con _)) .nil)))))) (HpSub.get (.cons rfl (ObSub.box (.cons (Sub.imm (Imm.con _)) (.cons (Sub.imm (Imm.con _)) (.cons (Sub.imm (Imm.con _)) (.cons (Sub.imm (Imm.con _)) (.cons (Sub.imm (Imm.con _)) (.cons (Sub.imm (Imm.con _)) (.cons (Sub.imm (Imm.con _)) (.cons (Sub.imm (Imm.con _)) (.cons (Sub.imm (Imm.con _)) .nil)))))))))) (.cons rfl (ObSub.box (.cons (Sub.imm (Imm.con _)) (.cons (Sub.imm (Imm.con _)) (.cons (Sub.imm (Imm.con _)) (.cons (Sub.imm (Imm.con _)) (.cons (Sub.imm (Imm.con _)) (.cons (Sub.imm (Imm.con _)) (.cons (Sub.imm (Imm.con _)) (.cons (Sub.imm (Imm.con _)) (.cons (Sub.own rfl rfl) .nil)))))))))) (.cons rfl (ObSub.rows (rows_imm imms_encI_i64)) .nil)))) rfl)
    replace h := ite_f hb18 h
    refine awp_exit ?_
    exact ⟨l17, h, (ghost_ren 3 (fun i => ([0, 1, 2] : List Nat).getD i 0) _ _ (by decide) (EnvSub.get (.cons (Sub.ptr rfl rfl) (.cons (Sub.ptr rfl rfl) .nil))) (HpSub.get (.cons rfl (ObSub.box (.cons (Sub.imm (Imm.con _)) (.cons (Sub.imm (Imm.con _)) (.cons (Sub.imm (Imm.con _)) (.cons (Sub.imm (Imm.con _)) (.cons (Sub.imm (Imm.con _)) (.cons (Sub.imm (Imm.con _)) (.cons (Sub.imm (Imm.con _)) (.cons (Sub.imm (Imm.con _)) (.cons (Sub.imm (Imm.con _)) .nil)))))))))) (.cons rfl (ObSub.box (.cons (Sub.imm (Imm.con _)) (.cons (Sub.imm (Imm.con _)) (.cons (Sub.imm (Imm.con _)) (.cons (Sub.imm (Imm.con _)) (.cons (Sub.imm (Imm.con _)) (.cons (Sub.imm (Imm.con _)) (.cons (Sub.imm (Imm.con _)) (.cons (Sub.imm (Imm.con _)) (.cons (Sub.own rfl rfl) .nil)))))))))) (.cons rfl (ObSub.rows (rows_imm imms_encI_i64)) .nil)))) rfl)⟩
  clear h
  intro l13 h
  subst hk12
  refine sr ?_
  refine aops_load_agg (cs := [(bV (f3 0)), (bV (f3 1)), (bV (f3 2)), (bV (f3 3)), (bV (f3 4)), (bV (f3 5)), (bV (f3 6)), (iV (w64 (7 - ((a1.Free.length : Nat) : Int)))), (V.own 2 l13.length)]) tA101 wants_none rfl rfl rfl rfl rfl rfl ?_
  refine aops_store [(bV (f3 0)), (bV (f3 1)), (bV (f3 2)), (bV (f3 3)), (bV (f3 4)), (bV (f3 5)), (bV (f3 6)), (iV (w64 (7 - ((a1.Free.length : Nat) : Int)))), (V.own 2 l13.length)] [[(bV (f3 0)), (bV (f3 1)), (bV (f3 2)), (bV (f3 3)), (bV (f3 4)), (bV (f3 5)), (bV (f3 6)), (iV (w64 (7 - ((a1.Free.length : Nat) : Int)))), (V.own 2 l13.length)]] tS101 wants_none rfl rfl rfl rfl rfl rfl rfl rfl ?_
  refine an ?_
  refine awp_ghost (ghost_frzC 2 0 (Ob.arr 101 9 [[(bV (f3 0)), (bV (f3 1)), (bV (f3 2)), (bV (f3 3)), (bV (f3 4)), (bV (f3 5)), (bV (f3 6)), (iV (w64 (7 - ((a1.Free.length : Nat) : Int)))), (V.lst 1 (l13.map encI_i64))]]) rfl (rows_imm imms_encI_i64) (ObSub.box (.cons Sub.keep (.cons Sub.keep (.cons Sub.keep (.cons Sub.keep (.cons Sub.keep (.cons Sub.keep (.cons Sub.keep (.cons Sub.keep (.cons (Sub.frzAll (rows := l13.map encI_i64) (List.length_map ..).symm) .nil))))))))))) ?_
  refine awp_ret ?_
  replace h := Option.some.inj h
  subst h
  exact ⟨.inl rfl, .one (.agg tA101 rfl rfl rfl rfl rfl (.cons (Imm.con _) (.cons (Imm.con _) (.cons (Imm.con _) (.cons (Imm.con _) (.cons (Imm.con _) (.cons (Imm.con _) (.cons (Imm.con _) (.cons (Imm.con _) (.cons (Imm.lst _ _) .nil))))))))))⟩
theorem W140 (F : Nat) (a1 : Int) (r : Bool) (h : M140 F a1 = some r) : Pure Try.prog 140 [(iV a1)] (bV r) := by
  refine pure_enter Try.func140 rfl rfl (l := [.tmp 2]) rfl rfl [(0, (iV a1))] rfl (fun w0 m0 => ?_)
  unfold M140 at h
  refine sr ?_
  refine aa (bV false) rfl rfl ?_
  refine an ?_
  refine sr ?_
  refine am (iV a1) rfl rfl ?_
  refine am (iV a1) rfl rfl ?_
  refine aops_bin (.bool (a1 != a1)) wants_none rfl rfl rfl rfl ?_
  refine aa (bV (a1 != a1)) rfl rfl ?_
  refine an ?_
  refine awp_ret ?_
  replace h := Option.some.inj h
  subst h
  exact ⟨.inl rfl, .one (.tmp rfl (Imm.con _))⟩
theorem W108 (F : Nat) (a1 : Int) (a2 : Int) (r : Bool) (h : M108 F a1 a2 = some r) : Pure Try.prog 108 [(iV a1), (iV a2)] (bV r) := by
  refine pure_enter Try.func108 rfl rfl (l := [.tmp 4]) rfl rfl [(0, (iV a1)), (1, (iV a2))] rfl (fun w0 m0 => ?_)
  unfold M108 at h
  refine sr ?_
  refine aa (bV false) rfl rfl ?_
  refine an ?_
  refine sr ?_
  refine am (iV a1) rfl rfl ?_
  replace h := bind_some h
  obtain ⟨y3, hx4, h⟩ := h
  refine aops_call (bV y3) [(iV a1)] fOk140 wants_none (evm_cons rfl evm_nil) (.cons (Imm.con _) .nil) (W140 F a1 y3 hx4) rfl ?_
  refine am (bV y3) rfl rfl ?_
  refine bsp y3 (fun hb5 => ?_) (fun hb5 => ?_)
  · replace h := ite_t hb5 h
    refine aops_move (iV a2) (wants_some (c := y3) (b := true) 7 rfl rfl hb5) rfl rfl ?_
    replace h := bind_some h
    obtain ⟨y6, hx7, h⟩ := h
    refine aops_call (bV y6) [(iV a2)] fOk140 (wants_some (c := y3) (b := true) 7 rfl rfl hb5) (evm_cons rfl evm_nil) (.cons (Imm.con _) .nil) (W140 F a2 y6 hx7) rfl ?_
    refine aops_not (wants_some (c := y3) (b := true) 7 rfl rfl hb5) rfl rfl ?_
    refine aops_pick true (cb := y3) (bV (!y6)) wants_none rfl hb5 rfl rfl ?_
    refine am (bV (!y6)) rfl rfl ?_
    refine bsp (!y6) (fun hb8 => ?_) (fun hb8 => ?_)
    · replace h := ite_t hb8 h
      refine aops_skips 3 7 12 false (c := (!y6)) (b := true) rfl rfl hb8 rfl rfl ?_
      refine aops_pick true (cb := (!y6)) (bV true) wants_none rfl hb8 rfl rfl ?_
      refine aa (bV true) rfl rfl ?_
      refine an ?_
      refine awp_ret ?_
      replace h := Option.some.inj h
      subst h
      exact ⟨.inl rfl, .one (.tmp rfl (Imm.con _))⟩
    replace h := ite_f hb8 h
    refine aops_move (iV a1) (wants_some (c := (!y6)) (b := false) 12 rfl rfl hb8) rfl rfl ?_
    refine aops_move (iV a2) (wants_some (c := (!y6)) (b := false) 12 rfl rfl hb8) rfl rfl ?_
    refine aops_bin (.bool (decide (a1 < a2))) (wants_some (c := (!y6)) (b := false) 12 rfl rfl hb8) rfl rfl rfl rfl ?_
    refine aops_pick false (cb := (!y6)) (bV (decide (a1 < a2))) wants_none rfl hb8 rfl rfl ?_
    refine aa (bV (decide (a1 < a2))) rfl rfl ?_
    refine an ?_
    refine awp_ret ?_
    replace h := Option.some.inj h
    subst h
    exact ⟨.inl rfl, .one (.tmp rfl (Imm.con _))⟩
  replace h := ite_f hb5 h
  refine aops_skips 3 2 7 true (c := y3) (b := false) rfl rfl hb5 rfl rfl ?_
  refine aops_pick false (cb := y3) (bV false) wants_none rfl hb5 rfl rfl ?_
  refine am (bV false) rfl rfl ?_
  refine aops_move (iV a1) (wants_some (c := false) (b := false) 12 rfl rfl rfl) rfl rfl ?_
  refine aops_move (iV a2) (wants_some (c := false) (b := false) 12 rfl rfl rfl) rfl rfl ?_
  refine aops_bin (.bool (decide (a1 < a2))) (wants_some (c := false) (b := false) 12 rfl rfl rfl) rfl rfl rfl rfl ?_
  refine aops_pick false (cb := false) (bV (decide (a1 < a2))) wants_none rfl rfl rfl rfl ?_
  refine aa (bV (decide (a1 < a2))) rfl rfl ?_
  refine an ?_
  refine awp_ret ?_
  replace h := Option.some.inj h
  subst h
  exact ⟨.inl rfl, .one (.tmp rfl (Imm.con _))⟩
theorem W109 (F : Nat) (a1 : Int) (r : Bool) (h : M109 F a1 = some r) : Pure Try.prog 109 [(iV a1)] (bV r) := by
  refine pure_enter Try.func109 rfl rfl (l := [.tmp 2]) rfl rfl [(0, (iV a1))] rfl (fun w0 m0 => ?_)
  unfold M109 at h
  refine sr ?_
  refine aa (bV false) rfl rfl ?_
  refine an ?_
  refine sr ?_
  refine am (iV a1) rfl rfl ?_
  refine am (iV a1) rfl rfl ?_
  refine aops_bin (.bool (a1 != a1)) wants_none rfl rfl rfl rfl ?_
  refine aa (bV (a1 != a1)) rfl rfl ?_
  refine an ?_
  refine awp_ret ?_
  replace h := Option.some.inj h
  subst h
  exact ⟨.inl rfl, .one (.tmp rfl (Imm.con _))⟩
theorem W53 (F : Nat) (a1 : (List Int)) (a2 : Int) (r : (Int × Bool)) (h : M53 F a1 a2 = some r) : Pure Try.prog 53 [(V.lst 1 (a1.map encI_i64)), (iV a2)] (V.tup [(iV (r.1)), (bV (r.2))]) := by
  refine pure_enter Try.func53 rfl rfl (l := [.tmp 4, .tmp 5]) rfl rfl [(0, (V.lst 1 (a1.map encI_i64))), (1, (iV a2))] rfl (fun w0 m0 => ?_)
  unfold M53 at h
  refine sr ?_
  refine aa (iV 0) rfl rfl ?_
  refine aa (bV false) rfl rfl ?_
  refine an ?_
  refine sr ?_
  refine am (V.lst 1 (a1.map encI_i64)) rfl rfl ?_
  refine aops_len (n := a1.length) tIsSl22 wants_none rfl (congrArg some (List.length_map ..)) rfl ?_
  refine aa (iV ((a1.length : Nat) : Int)) rfl rfl ?_
  refine an ?_
  refine sr ?_
  refine am (iV ((a1.length : Nat) : Int)) rfl rfl ?_
  refine aa (iV 0) rfl rfl ?_
  refine aa (iV ((a1.length : Nat) : Int)) rfl rfl ?_
  refine an ?_
  refine sq ?_
  replace h := jn_elim h
  obtain ⟨k3, hk3, h⟩ := h
  refine awp_cut (fun (p : Int) => (⟨[(0, (V.lst 1 (a1.map encI_i64))), (1, (iV a2)), (6, (iV ((a1.length : Nat) : Int))), (7, (iV p))], [], 0⟩ : St)) (fun (p : Int) => k3 p = some r) ?_ ?_
  · clear hk3
    refine awp_block ?_
    refine awp_loop_ind (fun (p : Int × Int) => (⟨[(0, (V.lst 1 (a1.map encI_i64))), (1, (iV a2)), (6, (iV ((a1.length : Nat) : Int))), (7, (iV (p.1))), (8, (iV (p.2)))], [], 0⟩ : St)) (fun n (p : Int × Int) => M53_L1 F a1 a2 k3 n p.1 p.2 = some r) (fun p h => by simp [M53_L1] at h) (fun n ih1 p h => ?_) F (0, ((a1.length : Nat) : Int)) h (ghost_ren 0 (fun i => ([] : List Nat).getD i 0) _ _ (by decide) (EnvSub.get (.cons (Sub.imm (Imm.lst _ _)) (.cons (Sub.imm (Imm.con _)) (.cons (Sub.imm (Imm.con _)) (.cons (Sub.imm (Imm.con _)) (.cons (Sub.imm (Imm.con _)) .nil)))))) (HpSub.get .nil) rfl)
    obtain ⟨n7, n8⟩ := p
    unfold M53_L1 at h
    refine awp_loop ?_
    refine sq ?_
    refine sr ?_
    refine am (iV n7) rfl rfl ?_
    refine am (iV n8) rfl rfl ?_
    refine aops_bin (.bool (decide (n7 < n8))) wants_none rfl rfl rfl rfl ?_
    refine an ?_
    refine awp_cond (decide (n7 < n8)) rfl (fun hb9 => ?_) (fun hb9 => ?_)
    · replace h := ite_t hb9 h
      refine awp_skip ?_
      refine awp_block ?_
      refine sr ?_
      refine am (iV n7) rfl rfl ?_
      refine am (iV n8) rfl rfl ?_
      refine aops_bin (.int .i64 (w64 (n7 + n8))) wants_none rfl rfl rfl rfl ?_
      refine aops_convInt tU150 ⟨_, tU3⟩ wants_none rfl rfl ?_
      refine aops_bin (.int .u64 (Int.fdiv (IntKind.wrap .u64 (w64 (n7 + n8))) (2 ^ (min (Int.toNat 1) (IntKind.bits .u64))))) wants_none rfl rfl rfl rfl ?_
      refine aops_convInt tU3 ⟨_, tU150⟩ wants_none rfl rfl ?_
      refine aa (iV (w64 (Int.fdiv (IntKind.wrap .u64 (w64 (n7 + n8))) (2 ^ (min (Int.toNat 1) (IntKind.bits .u64)))))) rfl rfl ?_
      refine an ?_
      refine sr ?_
      refine am (V.lst 1 (a1.map encI_i64)) rfl rfl ?_
      refine am (iV (w64 (Int.fdiv (IntKind.wrap .u64 (w64 (n7 + n8))) (2 ^ (min (Int.toNat 1) (IntKind.bits .u64)))))) rfl rfl ?_
      replace h := bind_some h
      obtain ⟨x10, hx11, h⟩ := h
      refine aops_index_lst [(iV x10)] tSl22 wants_none rfl rfl (idx_some hx11).1 (idx_map encI_i64 hx11) rfl ?_
      refine aops_iload_cell (iV x10) tC3 wants_none rfl rfl rfl ?_
      refine am (iV a2) rfl rfl ?_
      replace h := bind_some h
      obtain ⟨y12, hx13, h⟩ := h
      refine aops_call (bV y12) [(iV x10), (iV a2)] fOk108 wants_none (evm_cons rfl (evm_cons rfl evm_nil)) (.cons (Imm.con _) (.cons (Imm.con _) .nil)) (W108 F x10 a2 y12 hx13) rfl ?_
      refine an ?_
      replace h := jn_elim h
      obtain ⟨k14, hk14, h⟩ := h
      refine awp_cut (fun (p : Int × Int) => (⟨[(0, (V.lst 1 (a1.map encI_i64))), (1, (iV a2)), (6, (iV ((a1.length : Nat) : Int))), (7, (iV (p.1))), (8, (iV (p.2)))], [], 0⟩ : St)) (fun (p : Int × Int) => k14 p.1 p.2 = some r) ?_ ?_
      · clear hk14
        refine awp_cond y12 rfl (fun hb17 => ?_) (fun hb17 => ?_)
        · replace h := ite_t hb17 h
          refine rg ?_
          refine am (iV (w64 (Int.fdiv (IntKind.wrap .u64 (w64 (n7 + n8))) (2 ^ (min (Int.toNat 1) (IntKind.bits .u64)))))) rfl rfl ?_
          refine aops_bin (.int .i64 (w64 ((w64 (Int.fdiv (IntKind.wrap .u64 (w64 (n7 + n8))) (2 ^ (min (Int.toNat 1) (IntKind.bits .u64))))) + 1))) wants_none rfl rfl rfl rfl ?_
          refine aa (iV (w64 ((w64 (Int.fdiv (IntKind.wrap .u64 (w64 (n7 + n8))) (2 ^ (min (Int.toNat 1) (IntKind.bits .u64))))) + 1))) rfl rfl ?_
          refine an ?_
          exact ⟨((w64 ((w64 (Int.fdiv (IntKind.wrap .u64 (w64 (n7 + n8))) (2 ^ (min (Int.toNat 1) (IntKind.bits .u64))))) + 1)), n8), h, (ghost_ren 0 (fun i => ([] : List Nat).getD i 0) _ _ (by decide) (EnvSub.get (.cons (Sub.imm (Imm.lst _ _)) (.cons (Sub.imm (Imm.con _)) (.cons (Sub.imm (Imm.con _)) (.cons (Sub.imm (Imm.con _)) (.cons (Sub.imm (Imm.con _)) .nil)))))) (HpSub.get .nil) rfl)⟩
        replace h := ite_f hb17 h
        refine rg ?_
        refine am (iV (w64 (Int.fdiv (IntKind.wrap .u64 (w64 (n7 + n8))) (2 ^ (min (Int.toNat 1) (IntKind.bits .u64)))))) rfl rfl ?_
        refine aa (iV (w64 (Int.fdiv (IntKind.wrap .u64 (w64 (n7 + n8))) (2 ^ (min (Int.toNat 1) (IntKind.bits .u64)))))) rfl rfl ?_
        refine an ?_
        exact ⟨(n7, (w64 (Int.fdiv (IntKind.wrap .u64 (w64 (n7 + n8))) (2 ^ (min (Int.toNat 1) (IntKind.bits .u64)))))), h, (ghost_ren 0 (fun i => ([] : List Nat).getD i 0) _ _ (by decide) (EnvSub.get (.cons (Sub.imm (Imm.lst _ _)) (.cons (Sub.imm (Imm.con _)) (.cons (Sub.imm (Imm.con _)) (.cons (Sub.imm (Imm.con _)) (.cons (Sub.imm (Imm.con _)) .nil)))))) (HpSub.get .nil) rfl)⟩
      clear h
      rintro ⟨n15, n16⟩ h
      subst hk14
      exact awp_back (ih1 (n15, n16) h) (ghost_ren 0 (fun i => ([] : List Nat).getD i 0) _ _ (by decide) (EnvSub.get (.cons (Sub.imm (Imm.lst _ _)) (.cons (Sub.imm (Imm.con _)) (.cons (Sub.imm (Imm.con _)) (.cons (Sub.imm (Imm.con _)) (.cons (Sub.imm (Imm.con _)) .nil)))))) (HpSub.get .nil) rfl)
    replace h := ite_f hb9 h
    refine awp_exit ?_
    exact ⟨n7, h, (ghost_ren 0 (fun i => ([] : List Nat).getD i 0) _ _ (by decide) (EnvSub.get (.cons (Sub.imm (Imm.lst _ _)) (.cons (Sub.imm (Imm.con _)) (.cons (Sub.imm (Imm.con _)) (.cons (Sub.imm (Imm.con _)) .nil))))) (HpSub.get .nil) rfl)⟩
  clear h
  intro n4 h
  subst hk3
  refine sr ?_
  refine am (iV n4) rfl rfl ?_
  refine am (iV n4) rfl rfl ?_
  refine am (iV ((a1.length : Nat) : Int)) rfl rfl ?_
  refine aops_bin (.bool (decide (n4 < ((a1.length : Nat) : Int)))) wants_none rfl rfl rfl rfl ?_
  refine am (bV (decide (n4 < ((a1.length : Nat) : Int)))) rfl rfl ?_
  refine bsp (decide (n4 < ((a1.length : Nat) : Int))) (fun hb18 => ?_) (fun hb18 => ?_)
  · replace h := ite_t hb18 h
    refine aops_move (V.lst 1 (a1.map encI_i64)) (wants_some (c := (decide (n4 < ((a1.length : Nat) : Int)))) (b := true) 35 rfl rfl hb18) rfl rfl ?_
    refine aops_move (iV n4) (wants_some (c := (decide (n4 < ((a1.length : Nat) : Int)))) (b := true) 35 rfl rfl hb18) rfl rfl ?_
    replace h := bind_some h
    obtain ⟨x19, hx20, h⟩ := h
    refine aops_index_lst [(iV x19)] tSl22 (wants_some (c := (decide (n4 < ((a1.length : Nat) : Int)))) (b := true) 35 rfl rfl hb18) rfl rfl (idx_some hx20).1 (idx_map encI_i64 hx20) rfl ?_
    refine aops_iload_cell (iV x19) tC3 (wants_some (c := (decide (n4 < ((a1.length : Nat) : Int)))) (b := true) 35 rfl rfl hb18) rfl rfl rfl ?_
    refine aops_move (iV a2) (wants_some (c := (decide (n4 < ((a1.length : Nat) : Int)))) (b := true) 35 rfl rfl hb18) rfl rfl ?_
    refine aops_bin (.bool (x19 == a2)) (wants_some (c := (decide (n4 < ((a1.length : Nat) : Int)))) (b := true) 35 rfl rfl hb18) rfl rfl rfl rfl ?_
    refine aops_move (bV (x19 == a2)) (wants_some (c := (decide (n4 < ((a1.length : Nat) : Int)))) (b := true) 35 rfl rfl hb18) rfl rfl ?_
    refine bsp (x19 == a2) (fun hb21 => ?_) (fun hb21 => ?_)
    · replace h := ite_t hb21 h
      refine aops_skips 6 11 42 false (c := (x19 == a2)) (b := true) rfl rfl hb21 rfl rfl ?_
      refine aops_skip (wants_undef 48 rfl rfl) rfl rfl ?_
      refine aops_skip (wants_undef 48 rfl rfl) rfl rfl ?_
      refine aops_skip (wants_some (c := (x19 == a2)) (b := true) 42 rfl rfl hb21) rfl rfl ?_
      refine aops_pick true (cb := (x19 == a2)) (bV true) (wants_some (c := (decide (n4 < ((a1.length : Nat) : Int)))) (b := true) 35 rfl rfl hb18) rfl hb21 rfl rfl ?_
      refine aops_pick true (cb := (decide (n4 < ((a1.length : Nat) : Int)))) (bV true) wants_none rfl hb18 rfl rfl ?_
      refine aa (iV n4) rfl rfl ?_
      refine aa (bV true) rfl rfl ?_
      refine an ?_
      refine awp_ret ?_
      replace h := Option.some.inj h
      subst h
      exact ⟨.inl rfl, .two (.tmp rfl (Imm.con _)) (.tmp rfl (Imm.con _))⟩
    replace h := ite_f hb21 h
    refine aops_move (V.lst 1 (a1.map encI_i64)) (wants_some (c := (x19 == a2)) (b := false) 42 rfl rfl hb21) rfl rfl ?_
    refine aops_move (iV n4) (wants_some (c := (x19 == a2)) (b := false) 42 rfl rfl hb21) rfl rfl ?_
    replace h := bind_some h
    obtain ⟨x22, hx23, h⟩ := h
    refine aops_index_lst [(iV x22)] tSl22 (wants_some (c := (x19 == a2)) (b := false) 42 rfl rfl hb21) rfl rfl (idx_some hx23).1 (idx_map encI_i64 hx23) rfl ?_
    refine aops_iload_cell (iV x22) tC3 (wants_some (c := (x19 == a2)) (b := false) 42 rfl rfl hb21) rfl rfl rfl ?_
    replace h := bind_some h
    obtain ⟨y24, hx25, h⟩ := h
    refine aops_call (bV y24) [(iV x22)] fOk109 (wants_some (c := (x19 == a2)) (b := false) 42 rfl rfl hb21) (evm_cons rfl evm_nil) (.cons (Imm.con _) .nil) (W109 F x22 y24 hx25) rfl ?_
    refine aops_move (bV y24) (wants_some (c := (x19 == a2)) (b := false) 42 rfl rfl hb21) rfl rfl ?_
    refine bsp y24 (fun hb26 => ?_) (fun hb26 => ?_)
    · replace h := ite_t hb26 h
      refine aops_move (iV a2) (wants_some (c := y24) (b := true) 48 rfl rfl hb26) rfl rfl ?_
      replace h := bind_some h
      obtain ⟨y27, hx28, h⟩ := h
      refine aops_call (bV y27) [(iV a2)] fOk109 (wants_some (c := y24) (b := true) 48 rfl rfl hb26) (evm_cons rfl evm_nil) (.cons (Imm.con _) .nil) (W109 F a2 y27 hx28) rfl ?_
      refine aops_pick true (cb := y24) (bV y27) (wants_some (c := (x19 == a2)) (b := false) 42 rfl rfl hb21) rfl hb26 rfl rfl ?_
      refine aops_pick false (cb := (x19 == a2)) (bV y27) (wants_some (c := (decide (n4 < ((a1.length : Nat) : Int)))) (b := true) 35 rfl rfl hb18) rfl hb21 rfl rfl ?_
      refine aops_pick true (cb := (decide (n4 < ((a1.length : Nat) : Int)))) (bV y27) wants_none rfl hb18 rfl rfl ?_
      refine aa (iV n4) rfl rfl ?_
      refine aa (bV y27) rfl rfl ?_
      refine an ?_
      refine awp_ret ?_
      replace h := Option.some.inj h
      subst h
      exact ⟨.inl rfl, .two (.tmp rfl (Imm.con _)) (.tmp rfl (Imm.con _))⟩
    replace h := ite_f hb26 h
    refine aops_skips 2 17 48 true (c := y24) (b := false) rfl rfl hb26 rfl rfl ?_
    refine aops_pick false (cb := y24) (bV false) (wants_some (c := (x19 == a2)) (b := false) 42 rfl rfl hb21) rfl hb26 rfl rfl ?_
    refine aops_pick false (cb := (x19 == a2)) (bV false) (wants_some (c := (decide (n4 < ((a1.length : Nat) : Int)))) (b := true) 35 rfl rfl hb18) rfl hb21 rfl rfl ?_
    refine aops_pick true (cb := (decide (n4 < ((a1.length : Nat) : Int)))) (bV false) wants_none rfl hb18 rfl rfl ?_
    refine aa (iV n4) rfl rfl ?_
    refine aa (bV false) rfl rfl ?_
    refine an ?_
    refine awp_ret ?_
    replace h := Option.some.inj h
    subst h
    exact ⟨.inl rfl, .two (.tmp rfl (Imm.con _)) (.tmp rfl (Imm.con _))⟩
  replace h := ite_f hb18 h
  refine aops_skips 7 4 35 true (c := (decide (n4 < ((a1.length : Nat) : Int)))) (b := false) rfl rfl hb18 rfl rfl ?_
  refine aops_skip (wants_undef 42 rfl rfl) rfl rfl ?_
  refine aops_skip (wants_undef 42 rfl rfl) rfl rfl ?_
  refine aops_skip (wants_undef 42 rfl rfl) rfl rfl ?_
  refine aops_skip (wants_undef 42 rfl rfl) rfl rfl ?_
  refine aops_skip (wants_undef 42 rfl rfl) rfl rfl ?_
  refine aops_skip (wants_undef 42 rfl rfl) rfl rfl ?_
  refine aops_skip (wants_undef 48 rfl rfl) rfl rfl ?_
  refine aops_skip (wants_undef 48 rfl rfl) rfl rfl ?_
  refine aops_skip (wants_undef 42 rfl rfl) rfl rfl ?_
  refine aops_skip (wants_some (c := (decide (n4 < ((a1.length : Nat) : Int)))) (b := false) 35 rfl rfl hb18) rfl rfl ?_
  refine aops_pick false (cb := (decide (n4 < ((a1.length : Nat) : Int)))) (bV false) wants_none rfl hb18 rfl rfl ?_
  refine aa (iV n4) rfl rfl ?_
  refine aa (bV false) rfl rfl ?_
  refine an ?_
  refine awp_ret ?_
  replace h := Option.some.inj h
  subst h
  exact ⟨.inl rfl, .two (.tmp rfl (Imm.con _)) (.tmp rfl (Imm.con _))⟩
theorem W71 (F : Nat) (a1 : Thistory_week) (a2 : Int) (r : Int) (h : M71 F a1 a2 = some r) : Pure Try.prog 71 [(V.agg [(bV (a1.free 0)), (bV (a1.free 1)), (bV (a1.free 2)), (bV (a1.free 3)), (bV (a1.free 4)), (bV (a1.free 5)), (bV (a1.free 6)), (iV a1.work), (V.lst 1 (a1.holidays.map encI_i64))]), (iV a2)] (iV r) := by
  refine pure_enter Try.func71 rfl rfl (l := [.tmp 4]) rfl rfl [(0, (V.agg [(bV (a1.free 0)), (bV (a1.free 1)), (bV (a1.free 2)), (bV (a1.free 3)), (bV (a1.free 4)), (bV (a1.free 5)), (bV (a1.free 6)), (iV a1.work), (V.lst 1 (a1.holidays.map encI_i64))])), (1, (iV a2))] rfl (fun w0 m0 => ?_)
  unfold M71 at h
  refine sr ?_
  refine aops_box [(bV (a1.free 0)), (bV (a1.free 1)), (bV (a1.free 2)), (bV (a1.free 3)), (bV (a1.free 4)), (bV (a1.free 5)), (bV (a1.free 6)), (iV a1.work), (V.lst 1 (a1.holidays.map encI_i64))] wants_none rfl rfl rfl rfl ?_
  refine aa (iV 0) rfl rfl ?_
  refine an ?_
  refine sr ?_
  refine am (iV a2) rfl rfl ?_
  refine aops_bin (.int .i64 (w64 (Int.tdiv a2 7))) wants_none rfl rfl rfl rfl ?_
  refine aops_fieldAddr tF101_1 wants_none rfl rfl ?_
  refine aops_load_cell (iV a1.work) tC3 wants_none rfl rfl rfl rfl rfl ?_
  refine aops_bin (.int .i64 (w64 ((w64 (Int.tdiv a2 7)) * a1.work))) wants_none rfl rfl rfl rfl ?_
  refine aa (iV (w64 ((w64 (Int.tdiv a2 7)) * a1.work))) rfl rfl ?_
  refine an ?_
  refine sq ?_
  refine sr ?_
  refine am (iV a2) rfl rfl ?_
  refine aops_bin (.int .i64 (Int.tmod a2 7)) wants_none rfl rfl rfl rfl ?_
  refine am (iV 0) rfl rfl ?_
  refine an ?_
  replace h := jn_elim h
  obtain ⟨k3, hk3, h⟩ := h
  refine awp_cut (fun (p : Int) => (⟨[(1, (iV a2)), (2, (V.ptr 0 9 0 0)), (5, (iV p))], [(0, (Ob.arr 101 9 [[(bV (a1.free 0)), (bV (a1.free 1)), (bV (a1.free 2)), (bV (a1.free 3)), (bV (a1.free 4)), (bV (a1.free 5)), (bV (a1.free 6)), (iV a1.work), (V.lst 1 (a1.holidays.map encI_i64))]]))], 1⟩ : St)) (fun (p : Int) => k3 p = some r) ?_ ?_
  · clear hk3
    refine awp_block ?_
    refine awp_loop_ind (fun (p : Int × Int) => (⟨[(1, (iV a2)), (2, (V.ptr 0 9 0 0)), (5, (iV (p.1))), (15, (iV (Int.tmod a2 7))), (16, (iV (p.2)))], [(0, (Ob.arr 101 9 [[(bV (a1.free 0)), (bV (a1.free 1)), (bV (a1.free 2)), (bV (a1.free 3)), (bV (a1.free 4)), (bV (a1.free 5)), (bV (a1.free 6)), (iV a1.work), (V.lst 1 (a1.holidays.map encI_i64))]]))], 1⟩ : St)) (fun n (p : Int × Int) => M71_L1 F a1 a2 k3 n p.1 p.2 = some r) (fun p h => by simp [M71_L1] at h) (fun n ih1 p h => ?_) F ((w64 ((w64 (Int.tdiv a2 7)) * a1.work)), 0) h (ghost_ren 1 (fun i => ([0] : List Nat).getD i 0) _ _ (by decide) (EnvSub.get (.cons (Sub.imm (Imm.con _)) (.cons (Sub.ptr rfl rfl) (.cons (Sub.imm (Imm.con _)) (.cons (Sub.imm (Imm.con _)) (.cons (Sub.imm (Imm.con _)) .nil)))))) (HpSub.get (.cons rfl (ObSub.box (.cons (Sub.imm (Imm.con _)) (.cons (Sub.imm (Imm.con _)) (.cons (Sub.imm (Imm.con _)) (.cons (Sub.imm (Imm.con _)) (.cons (Sub.imm (Imm.con _)) (.cons (Sub.imm (Imm.con _)) (.cons (Sub.imm (Imm.con _)) (.cons (Sub.imm (Imm.con _)) (.cons (Sub.imm (Imm.lst _ _)) .nil)))))))))) .nil)) rfl)
    obtain ⟨n7, n8⟩ := p
    unfold M71_L1 at h
    refine awp_loop ?_
    refine sr ?_
    refine aops_bin (.bool (decide (n8 < (Int.tmod a2 7)))) wants_none rfl rfl rfl rfl ?_
    refine an ?_
    refine sq ?_
    refine awp_cond (decide (n8 < (Int.tmod a2 7))) rfl (fun hb9 => ?_) (fun hb9 => ?_)
    · replace h := ite_t hb9 h
      refine awp_skip ?_
      refine sq ?_
      refine awp_block ?_
      refine sr ?_
      refine am (iV n8) rfl rfl ?_
      refine aa (iV n8) rfl rfl ?_
      refine an ?_
      refine sr ?_
      refine am (iV n8) rfl rfl ?_
      refine aops_fieldAddr tF101_0 wants_none rfl rfl ?_
      replace h := chk_some h
      obtain ⟨hc10, h⟩ := h
      refine aops_index_arr tArr99 wants_none rfl rfl hc10.1 hc10.2 rfl ?_
      refine aops_load_cell (bV (a1.free n8.toNat)) tC4 wants_none rfl rfl rfl (arr_get [] [(iV a1.work), (V.lst 1 (a1.holidays.map encI_i64))] (fun i => (bV (a1.free i))) hc10.2 rfl (by simp)) rfl ?_
      refine aops_not wants_none rfl rfl ?_
      refine an ?_
      replace h := jn_elim h
      obtain ⟨k11, hk11, h⟩ := h
      refine awp_cut (fun (p : Int) => (⟨[(1, (iV a2)), (2, (V.ptr 0 9 0 0)), (5, (iV p)), (15, (iV (Int.tmod a2 7))), (16, (iV n8))], [(0, (Ob.arr 101 9 [[(bV (a1.free 0)), (bV (a1.free 1)), (bV (a1.free 2)), (bV (a1.free 3)), (bV (a1.free 4)), (bV (a1.free 5)), (bV (a1.free 6)), (iV a1.work), (V.lst 1 (a1.holidays.map encI_i64))]]))], 1⟩ : St)) (fun (p : Int) => k11 p = some r) ?_ ?_
      · clear hk11
        refine awp_cond (!(a1.free n8.toNat)) rfl (fun hb13 => ?_) (fun hb13 => ?_)
        · replace h := ite_t hb13 h
          refine rg ?_
          refine am (iV n7) rfl rfl ?_
          refine aops_bin (.int .i64 (w64 (n7 + 1))) wants_none rfl rfl rfl rfl ?_
          refine aa (iV (w64 (n7 + 1))) rfl rfl ?_
          refine an ?_
          exact ⟨(w64 (n7 + 1)), h, (ghost_ren 1 (fun i => ([0] : List Nat).getD i 0) _ _ (by decide) (EnvSub.get (.cons (Sub.imm (Imm.con _)) (.cons (Sub.ptr rfl rfl) (.cons (Sub.imm (Imm.con _)) (.cons (Sub.imm (Imm.con _)) (.cons (Sub.imm (Imm.con _)) .nil)))))) (HpSub.get (.cons rfl (ObSub.box (.cons (Sub.imm (Imm.con _)) (.cons (Sub.imm (Imm.con _)) (.cons (Sub.imm (Imm.con _)) (.cons (Sub.imm (Imm.con _)) (.cons (Sub.imm (Imm.con _)) (.cons (Sub.imm (Imm.con _)) (.cons (Sub.imm (Imm.con _)) (.cons (Sub.imm (Imm.con _)) (.cons (Sub.imm (Imm.lst _ _)) .nil)))))))))) .nil)) rfl)⟩
        replace h := ite_f hb13 h
        refine awp_skip ?_
        exact ⟨n7, h, (ghost_ren 1 (fun i => ([0] : List Nat).getD i 0) _ _ (by decide) (EnvSub.get (.cons (Sub.imm (Imm.con _)) (.cons (Sub.ptr rfl rfl) (.cons (Sub.imm (Imm.con _)) (.cons (Sub.imm (Imm.con _)) (.cons (Sub.imm (Imm.con _)) .nil)))))) (HpSub.get (.cons rfl (ObSub.box (.cons (Sub.imm (Imm.con _)) (.cons (Sub.imm (Imm.con _)) (.cons (Sub.imm (Imm.con _)) (.cons (Sub.imm (Imm.con _)) (.cons (Sub.imm (Imm.con _)) (.cons (Sub.imm (Imm.con _)) (.cons (Sub.imm (Imm.con _)) (.cons (Sub.imm (Imm.con _)) (.cons (Sub.imm (Imm.lst _ _)) .nil)))))))))) .nil)) rfl)⟩
      clear h
      intro n12 h
      subst hk11
      refine rg ?_
      refine aops_bin (.int .i64 (w64 (n8 + 1))) wants_none rfl rfl rfl rfl ?_
      refine am (iV (w64 (n8 + 1))) rfl rfl ?_
      refine an ?_
      exact awp_back (ih1 (n12, (w64 (n8 + 1))) h) (ghost_ren 1 (fun i => ([0] : List Nat).getD i 0) _ _ (by decide) (EnvSub.get (.cons (Sub.imm (Imm.con _)) (.cons (Sub.ptr rfl rfl) (.cons (Sub.imm (Imm.con _)) (.cons (Sub.imm (Imm.con _)) (.cons (Sub.imm (Imm.con _)) .nil)))))) (HpSub.get (.cons rfl (ObSub.box (.cons (Sub.imm (Imm.con _)) (.cons (Sub.imm (Imm.con _)) (.cons (Sub.imm (Imm.con _)) (.cons (Sub.imm (Imm.con _)) (.cons (Sub.imm (Imm.con _)) (.cons (Sub.imm (Imm.con _)) (.cons (Sub.imm (Imm.con _)) (.cons (Sub.imm (Imm.con _)) (.cons (Sub.imm (Imm.lst _ _)) .nil)))))))))) .nil)) rfl)
    replace h := ite_f hb9 h
    refine awp_exit ?_
    exact ⟨n7, h, (ghost_ren 1 (fun i => ([0] : List Nat).getD i 0) _ _ (by decide) (EnvSub.get (.cons (Sub.imm (Imm.con _)) (.cons (Sub.ptr rfl rfl) (.cons (Sub.imm (Imm.con _)) .nil)))) (HpSub.get (.cons rfl (ObSub.box (.cons (Sub.imm (Imm.con _)) (.cons (Sub.imm (Imm.con _)) (.cons (Sub.imm (Imm.con _)) (.cons (Sub.imm (Imm.con _)) (.cons (Sub.imm (Imm.con _)) (.cons (Sub.imm (Imm.con _)) (.cons (Sub.imm (Imm.con _)) (.cons (Sub.imm (Imm.con _)) (.cons (Sub.imm (Imm.lst _ _)) .nil)))))))))) .nil)) rfl)⟩
  clear h
  intro n4 h
  subst hk3
  refine sr ?_
  refine aops_fieldAddr tF101_2 wants_none rfl rfl ?_
  refine aops_load_cell (V.lst 1 (a1.holidays.map encI_i64)) tC22 wants_none rfl rfl rfl rfl rfl ?_
  refine am (iV a2) rfl rfl ?_
  replace h := bind_some h
  obtain ⟨y14, hx15, h⟩ := h
  refine aops_call (V.tup [(iV (y14.1)), (bV (y14.2))]) [(V.lst 1 (a1.holidays.map encI_i64)), (iV a2)] fOk53 wants_none (evm_cons rfl (evm_cons rfl evm_nil)) (.cons (Imm.lst _ _) (.cons (Imm.con _) .nil)) (W53 F a1.holidays a2 y14 hx15) rfl ?_
  refine am (V.tup [(iV (y14.1)), (bV (y14.2))]) rfl rfl ?_
  refine aops_extract (iV (y14.1)) wants_none rfl rfl rfl ?_
  refine aops_extract (bV (y14.2)) wants_none rfl rfl rfl ?_
  refine aa (iV (y14.1)) rfl rfl ?_
  refine aa (bV (y14.2)) rfl rfl ?_
  refine an ?_
  refine sr ?_
  refine am (iV n4) rfl rfl ?_
  refine am (iV (y14.1)) rfl rfl ?_
  refine aops_bin (.int .i64 (w64 (n4 - (y14.1)))) wants_none rfl rfl rfl rfl ?_
  refine aa (iV (w64 (n4 - (y14.1)))) rfl rfl ?_
  refine an ?_
  refine awp_ret ?_
  replace h := Option.some.inj h
  subst h
  exact ⟨.inl rfl, .one (.tmp rfl (Imm.con _))⟩
theorem W72 (F : Nat) (a1 : Int) (r : Bool) (h : M72 F a1 = some r) : Pure Try.prog 72 [(iV a1)] (bV r) := by
  refine pure_enter Try.func72 rfl rfl (l := [.tmp 2]) rfl rfl [(0, (iV a1))] rfl (fun w0 m0 => ?_)
  unfold M72 at h
  refine sr ?_
  refine aa (bV false) rfl rfl ?_
  refine an ?_
  refine sr ?_
  refine am (iV a1) rfl rfl ?_
  refine aops_bin (.bool (decide (a1 ≥ 0))) wants_none rfl rfl rfl rfl ?_
  refine am (bV (decide (a1 ≥ 0))) rfl rfl ?_
  refine bsp (decide (a1 ≥ 0)) (fun hb2 => ?_) (fun hb2 => ?_)
  · replace h := ite_t hb2 h
    refine aops_move (iV a1) (wants_some (c := (decide (a1 ≥ 0))) (b := true) 5 rfl rfl hb2) rfl rfl ?_
    refine aops_bin (.bool (decide (a1 ≤ 1000000))) (wants_some (c := (decide (a1 ≥ 0))) (b := true) 5 rfl rfl hb2) rfl rfl rfl rfl ?_
    refine aops_pick true (cb := (decide (a1 ≥ 0))) (bV (decide (a1 ≤ 1000000))) wants_none rfl hb2 rfl rfl ?_
    refine aa (bV (decide (a1 ≤ 1000000))) rfl rfl ?_
    refine an ?_
    refine awp_ret ?_
    replace h := Option.some.inj h
    subst h
    exact ⟨.inl rfl, .one (.tmp rfl (Imm.con _))⟩
  replace h := ite_f hb2 h
  refine aops_skips 2 2 5 true (c := (decide (a1 ≥ 0))) (b := false) rfl rfl hb2 rfl rfl ?_
  refine aops_pick false (cb := (decide (a1 ≥ 0))) (bV false) wants_none rfl hb2 rfl rfl ?_
  refine aa (bV false) rfl rfl ?_
  refine an ?_
  refine awp_ret ?_
  replace h := Option.some.inj h
  subst h
  exact ⟨.inl rfl, .one (.tmp rfl (Imm.con _))⟩
theorem W17 (F : Nat) (a1 : TCalendar) (a2 : Int) (a3 : Int) (r : (Int × Int)) (h : M17 F a1 a2 a3 = some r) : Pure Try.prog 17 [(V.agg (encTCalendar a1)), (iV a2), (iV a3)] (V.tup [(iV (r.1)), (iV (r.2))]) := by
  refine pure_enter Try.func17 rfl rfl (l := [.tmp 6, .tmp 7]) rfl rfl [(0, (V.agg (encTCalendar a1))), (1, (iV a2)), (2, (iV a3))] rfl (fun w0 m0 => ?_)
  unfold M17 at h
  refine sr ?_
  refine aops_box (encTCalendar a1) wants_none rfl rfl rfl rfl ?_
  refine aa (iV 0) rfl rfl ?_
  refine aa (iV 0) rfl rfl ?_
  refine an ?_
  refine sq ?_
  refine sr ?_
  refine aops_load_agg (cs := (encTCalendar a1)) tA24 wants_none rfl rfl rfl rfl rfl rfl ?_
  replace h := bind_some h
  obtain ⟨y4, hx5, h⟩ := h
  refine aops_call (iV y4) [(V.agg (encTCalendar a1))] fOk21 wants_none (evm_cons rfl evm_nil) (.cons (Imm.agg (imms_encTCalendar _)) .nil) (W21 F a1 y4 hx5) rfl ?_
  refine aa (iV y4) rfl rfl ?_
  refine an ?_
  refine sr ?_
  refine am (iV y4) rfl rfl ?_
  refine aops_bin (.bool (y4 != 0)) wants_none rfl rfl rfl rfl ?_
  refine an ?_
  refine awp_cond (y4 != 0) rfl (fun hb6 => ?_) (fun hb6 => ?_)
  · replace h := ite_t hb6 h
    refine sr ?_
    refine am (iV y4) rfl rfl ?_
    refine aa (iV 0) rfl rfl ?_
    refine aa (iV y4) rfl rfl ?_
    refine an ?_
    refine awp_ret ?_
    replace h := Option.some.inj h
    subst h
    exact ⟨.inl rfl, .two (.tmp rfl (Imm.con _)) (.tmp rfl (Imm.con _))⟩
  replace h := ite_f hb6 h
  refine awp_skip ?_
  refine sq ?_
  refine sr ?_
  refine am (iV a2) rfl rfl ?_
  replace h := bind_some h
  obtain ⟨y7, hx8, h⟩ := h
  refine aops_call (bV y7) [(iV a2)] fOk69 wants_none (evm_cons rfl evm_nil) (.cons (Imm.con _) .nil) (W69 F a2 y7 hx8) rfl ?_
  refine aops_not wants_none rfl rfl ?_
  refine am (bV (!y7)) rfl rfl ?_
  refine bsp (!y7) (fun hb9 => ?_) (fun hb9 => ?_)
  · replace h := ite_t hb9 h
    refine aops_skips 3 3 18 false (c := (!y7)) (b := true) rfl rfl hb9 rfl rfl ?_
    refine aops_pick true (cb := (!y7)) (bV true) wants_none rfl hb9 rfl rfl ?_
    refine am (bV true) rfl rfl ?_
    refine aops_skips 3 8 23 false (c := true) (b := true) rfl rfl rfl rfl rfl ?_
    refine aops_pick true (cb := true) (bV true) wants_none rfl rfl rfl rfl ?_
    refine an ?_
    refine awp_cond_t rfl rfl ?_
    refine sr ?_
    refine aa (iV 0) rfl rfl ?_
    refine aa (iV 9) rfl rfl ?_
    refine an ?_
    refine awp_ret ?_
    replace h := Option.some.inj h
    subst h
    exact ⟨.inl rfl, .two (.tmp rfl (Imm.con _)) (.tmp rfl (Imm.con _))⟩
  replace h := ite_f hb9 h
  refine aops_move (iV a3) (wants_some (c := (!y7)) (b := false) 18 rfl rfl hb9) rfl rfl ?_
  replace h := bind_some h
  obtain ⟨y10, hx11, h⟩ := h
  refine aops_call (bV y10) [(iV a3)] fOk69 (wants_some (c := (!y7)) (b := false) 18 rfl rfl hb9) (evm_cons rfl evm_nil) (.cons (Imm.con _) .nil) (W69 F a3 y10 hx11) rfl ?_
  refine aops_not (wants_some (c := (!y7)) (b := false) 18 rfl rfl hb9) rfl rfl ?_
  refine aops_pick false (cb := (!y7)) (bV (!y10)) wants_none rfl hb9 rfl rfl ?_
  refine am (bV (!y10)) rfl rfl ?_
  refine bsp (!y10) (fun hb12 => ?_) (fun hb12 => ?_)
  · replace h := ite_t hb12 h
    refine aops_skips 3 8 23 false (c := (!y10)) (b := true) rfl rfl hb12 rfl rfl ?_
    refine aops_pick true (cb := (!y10)) (bV true) wants_none rfl hb12 rfl rfl ?_
    refine an ?_
    refine awp_cond_t rfl rfl ?_
    refine sr ?_
    refine aa (iV 0) rfl rfl ?_
    refine aa (iV 9) rfl rfl ?_
    refine an ?_
    refine awp_ret ?_
    replace h := Option.some.inj h
    subst h
    exact ⟨.inl rfl, .two (.tmp rfl (Imm.con _)) (.tmp rfl (Imm.con _))⟩
  replace h := ite_f hb12 h
  refine aops_move (iV a2) (wants_some (c := (!y10)) (b := false) 23 rfl rfl hb12) rfl rfl ?_
  refine aops_move (iV a3) (wants_some (c := (!y10)) (b := false) 23 rfl rfl hb12) rfl rfl ?_
  refine aops_bin (.bool (decide (a2 > a3))) (wants_some (c := (!y10)) (b := false) 23 rfl rfl hb12) rfl rfl rfl rfl ?_
  refine aops_pick false (cb := (!y10)) (bV (decide (a2 > a3))) wants_none rfl hb12 rfl rfl ?_
  refine an ?_
  refine awp_cond (decide (a2 > a3)) rfl (fun hb13 => ?_) (fun hb13 => ?_)
  · replace h := ite_t hb13 h
    refine sr ?_
    refine aa (iV 0) rfl rfl ?_
    refine aa (iV 9) rfl rfl ?_
    refine an ?_
    refine awp_ret ?_
    replace h := Option.some.inj h
    subst h
    exact ⟨.inl rfl, .two (.tmp rfl (Imm.con _)) (.tmp rfl (Imm.con _))⟩
  replace h := ite_f hb13 h
  refine awp_skip ?_
  refine sr ?_
  refine aops_load_agg (cs := (encTCalendar a1)) tA24 wants_none rfl rfl rfl rfl rfl rfl ?_
  replace h := bind_some h
  obtain ⟨y14, hx15, h⟩ := h
  refine aops_call (V.agg [(bV (y14.free 0)), (bV (y14.free 1)), (bV (y14.free 2)), (bV (y14.free 3)), (bV (y14.free 4)), (bV (y14.free 5)), (bV (y14.free 6)), (iV y14.work), (V.lst 1 (y14.holidays.map encI_i64))]) [(V.agg (encTCalendar a1))] fOk70 wants_none (evm_cons rfl evm_nil) (.cons (Imm.agg (imms_encTCalendar _)) .nil) (W70 F a1 y14 hx15) rfl ?_
  refine aops_alloc tZ101 rfl rfl wants_none rfl ?_
  refine aops_store [(bV (y14.free 0)), (bV (y14.free 1)), (bV (y14.free 2)), (bV (y14.free 3)), (bV (y14.free 4)), (bV (y14.free 5)), (bV (y14.free 6)), (iV y14.work), (V.lst 1 (y14.holidays.map encI_i64))] [[(bV (y14.free 0)), (bV (y14.free 1)), (bV (y14.free 2)), (bV (y14.free 3)), (bV (y14.free 4)), (bV (y14.free 5)), (bV (y14.free 6)), (iV y14.work), (V.lst 1 (y14.holidays.map encI_i64))]] tS101 wants_none rfl rfl rfl rfl rfl rfl rfl rfl ?_
  refine an ?_
  refine sq ?_
  replace h := bind_some h
  obtain ⟨y16, hx17, h⟩ := h
  replace h := bind_some h
  obtain ⟨y18, hx19, h⟩ := h
  refine awp_any [OD.mk [(9, (V.ptr 1 9 0 0))] [(1, (Ob.arr 101 9 [[(bV (y14.free 0)), (bV (y14.free 1)), (bV (y14.free 2)), (bV (y14.free 3)), (bV (y14.free 4)), (bV (y14.free 5)), (bV (y14.free 6)), (iV y14.work), (V.lst 1 (y14.holidays.map encI_i64))]]))] [(30, (V.agg [(bV (y14.free 0)), (bV (y14.free 1)), (bV (y14.free 2)), (bV (y14.free 3)), (bV (y14.free 4)), (bV (y14.free 5)), (bV (y14.free 6)), (iV y14.work), (V.lst 1 (y14.holidays.map encI_i64))]))] [],
        OD.mk [(2, (iV a3))] [] [(31, (iV a3))] [],
        OD.mk [(30, (V.agg [(bV (y14.free 0)), (bV (y14.free 1)), (bV (y14.free 2)), (bV (y14.free 3)), (bV (y14.free 4)), (bV (y14.free 5)), (bV (y14.free 6)), (iV y14.work), (V.lst 1 (y14.holidays.map encI_i64))])), (31, (iV a3))] [] [(32, (iV y16))] [],
        OD.mk [(9, (V.ptr 1 9 0 0))] [(1, (Ob.arr 101 9 [[(bV (y14.free 0)), (bV (y14.free 1)), (bV (y14.free 2)), (bV (y14.free 3)), (bV (y14.free 4)), (bV (y14.free 5)), (bV (y14.free 6)), (iV y14.work), (V.lst 1 (y14.holidays.map encI_i64))]]))] [(33, (V.agg [(bV (y14.free 0)), (bV (y14.free 1)), (bV (y14.free 2)), (bV (y14.free 3)), (bV (y14.free 4)), (bV (y14.free 5)), (bV (y14.free 6)), (iV y14.work), (V.lst 1 (y14.holidays.map encI_i64))]))] [],
        OD.mk [(1, (iV a2))] [] [(34, (iV a2))] [],
        OD.mk [(33, (V.agg [(bV (y14.free 0)), (bV (y14.free 1)), (bV (y14.free 2)), (bV (y14.free 3)), (bV (y14.free 4)), (bV (y14.free 5)), (bV (y14.free 6)), (iV y14.work), (V.lst 1 (y14.holidays.map encI_i64))])), (34, (iV a2))] [] [(35, (iV y18))] [],
        OD.mk [(32, (iV y16)), (35, (iV y18))] [] [(36, (iV (w64 (y16 - y18))))] [],
        OD.mk [(36, (iV (w64 (y16 - y18))))] [] [(6, (iV (w64 (y16 - y18))))] [],
        OD.mk [] [] [(7, (iV 0))] []] mixed ⟨⟨rfl, trivial⟩, ⟨rfl, trivial⟩, ⟨⟨rfl, trivial⟩, trivial, ⟨⟨rfl, rfl, trivial⟩, trivial, ⟨⟨rfl, trivial⟩, ⟨rfl, trivial⟩, ⟨⟨rfl, trivial⟩, trivial, ⟨⟨rfl, rfl, trivial⟩, trivial, ⟨⟨rfl, rfl, trivial⟩, trivial, ⟨⟨rfl, trivial⟩, trivial, ⟨trivial, trivial, trivial⟩⟩⟩⟩⟩⟩⟩⟩⟩ (by kernel_rfl) (.cons (fun S hn h hh => aops_load_agg (cs := [(bV (y14.free 0)), (bV (y14.free 1)), (bV (y14.free 2)), (bV (y14.free 3)), (bV (y14.free 4)), (bV (y14.free 5)), (bV (y14.free 6)), (iV y14.work), (V.lst 1 (y14.holidays.map encI_i64))]) tA101 wants_none h.1 hh.1 rfl rfl rfl rfl (an ⟨rfl, rfl⟩)) (.cons (fun S hn h hh => aops_move (iV a3) wants_none h.1 rfl (an ⟨rfl, rfl⟩)) (.cons (fun S hn h hh => aops_call (iV y16) [(V.agg [(bV (y14.free 0)), (bV (y14.free 1)), (bV (y14.free 2)), (bV (y14.free 3)), (bV (y14.free 4)), (bV (y14.free 5)), (bV (y14.free 6)), (iV y14.work), (V.lst 1 (y14.holidays.map encI_i64))]), (iV a3)] fOk71 wants_none (evm_cons h.1 (evm_cons h.2.1 evm_nil)) (.cons (Imm.agg (.cons (Imm.con _) (.cons (Imm.con _) (.cons (Imm.con _) (.cons (Imm.con _) (.cons (Imm.con _) (.cons (Imm.con _) (.cons (Imm.con _) (.cons (Imm.con _) (.cons (Imm.lst _ _) .nil)))))))))) (.cons (Imm.con _) .nil)) (W71 F y14 a3 y16 hx17) rfl (an ⟨rfl, rfl⟩)) (.cons (fun S hn h hh => aops_load_agg (cs := [(bV (y14.free 0)), (bV (y14.free 1)), (bV (y14.free 2)), (bV (y14.free 3)), (bV (y14.free 4)), (bV (y14.free 5)), (bV (y14.free 6)), (iV y14.work), (V.lst 1 (y14.holidays.map encI_i64))]) tA101 wants_none h.1 hh.1 rfl rfl rfl rfl (an ⟨rfl, rfl⟩)) (.cons (fun S hn h hh => aops_move (iV a2) wants_none h.1 rfl (an ⟨rfl, rfl⟩)) (.cons (fun S hn h hh => aops_call (iV y18) [(V.agg [(bV (y14.free 0)), (bV (y14.free 1)), (bV (y14.free 2)), (bV (y14.free 3)), (bV (y14.free 4)), (bV (y14.free 5)), (bV (y14.free 6)), (iV y14.work), (V.lst 1 (y14.holidays.map encI_i64))]), (iV a2)] fOk71 wants_none (evm_cons h.1 (evm_cons h.2.1 evm_nil)) (.cons (Imm.agg (.cons (Imm.con _) (.cons (Imm.con _) (.cons (Imm.con _) (.cons (Imm.con _) (.cons (Imm.con _) (.cons (Imm.con _) (.cons (Imm.con _) (.cons (Imm.con _) (.cons (Imm.lst _ _) .nil)))))))))) (.cons (Imm.con _) .nil)) (W71 F y14 a2 y18 hx19) rfl (an ⟨rfl, rfl⟩)) (.cons (fun S hn h hh => aops_bin (.int .i64 (w64 (y16 - y18))) wants_none h.1 h.2.1 rfl rfl (an ⟨rfl, rfl⟩)) (.cons (fun S hn h hh => aops_assign (iV (w64 (y16 - y18))) wants_none h.1 rfl (an ⟨rfl, rfl⟩)) (.cons (fun S hn h hh => aops_assign (iV 0) wants_none rfl rfl (an ⟨rfl, rfl⟩)) .nil))))))))) ?_
  refine awp_ret ?_
  replace h := Option.some.inj h
  subst h
  exact ⟨.inl rfl, .two (.tmp rfl (Imm.con _)) (.tmp rfl (Imm.con _))⟩
theorem W23 (F : Nat) (r : Bool) (h : M23 F  = some r) : Pure Try.prog 23 [] (bV r) := by
  refine pure_enter Try.func23 rfl rfl (l := [.tmp 0]) rfl rfl [] rfl (fun w0 m0 => ?_)
  unfold M23 at h
  refine sr ?_
  refine aa (bV false) rfl rfl ?_
  refine an ?_
  refine sr ?_
  refine aops_buildSlice [(0, (iV 5)), (1, (iV 6))] [[(iV 5)], [(iV 6)]] tEl22 tZ3 rfl rfl rfl rfl wants_none (evp_cons rfl (evp_cons rfl evp_nil)) rfl rfl (by simp) rfl ?_
  refine aops_build [(0, (V.own 0 2))] [(V.own 0 2), nV] tZ24 tPl24 rfl wants_none (evp_cons rfl evp_nil) rfl rfl ?_
  replace h := bind_some h
  obtain ⟨y1, hx2, h⟩ := h
  refine aops_lend_call (V.tup [(iV (y1.1)), (iV (y1.2))]) [(V.agg [(V.lst 1 (([5, 6] : List Int).map encI_i64)), (V.lst 1 (([] : List Int).map encI_i64))]), (iV 0), (iV 14)] fOk17 (Ghost.trans (ghost_frzV 0 5 (V.agg [(V.lst 1 (([5, 6] : List Int).map encI_i64)), nV]) rfl (imms_rows (.cons (.cons (Imm.con _) .nil) (.cons (.cons (Imm.con _) .nil) .nil))) rfl (Sub.agg (.cons (Sub.frzAll (rows := ([5, 6] : List Int).map encI_i64) rfl) (.cons Sub.keep .nil)))) (ghost_tell 5 (V.agg [(V.lst 1 (([5, 6] : List Int).map encI_i64)), (V.lst 1 (([] : List Int).map encI_i64))]) rfl (Sub.agg (.cons Sub.keepI (.cons (Sub.nil _) .nil))))) (Flat.tup (by simp)) wants_none (evm_cons rfl (evm_cons rfl (evm_cons rfl evm_nil))) (.cons (Imm.agg (.cons (Imm.lst _ _) (.cons (Imm.lst _ _) .nil))) (.cons (Imm.con _) (.cons (Imm.con _) .nil))) (W17 F (TCalendar.mk ([5, 6] : List Int) ([] : List Int)) 0 14 y1 hx2) rfl ?_
  refine am (V.tup [(iV (y1.1)), (iV (y1.2))]) rfl rfl ?_
  refine aops_extract (iV (y1.1)) wants_none rfl rfl rfl ?_
  refine aops_extract (iV (y1.2)) wants_none rfl rfl rfl ?_
  refine aa (iV (y1.1)) rfl rfl ?_
  refine aa (iV (y1.2)) rfl rfl ?_
  refine an ?_
  refine sr ?_
  refine am (iV (y1.1)) rfl rfl ?_
  refine aops_bin (.bool ((y1.1) == 10)) wants_none rfl rfl rfl rfl ?_
  refine am (bV ((y1.1) == 10)) rfl rfl ?_
  refine bsp ((y1.1) == 10) (fun hb3 => ?_) (fun hb3 => ?_)
  · replace h := ite_t hb3 h
    refine aops_move (iV (y1.2)) (wants_some (c := ((y1.1) == 10)) (b := true) 11 rfl rfl hb3) rfl rfl ?_
    refine aops_bin (.bool ((y1.2) == 0)) (wants_some (c := ((y1.1) == 10)) (b := true) 11 rfl rfl hb3) rfl rfl rfl rfl ?_
    refine aops_pick true (cb := ((y1.1) == 10)) (bV ((y1.2) == 0)) wants_none rfl hb3 rfl rfl ?_
    refine aa (bV ((y1.2) == 0)) rfl rfl ?_
    refine an ?_
    refine awp_ret ?_
    replace h := Option.some.inj h
    subst h
    exact ⟨.inl rfl, .one (.tmp rfl (Imm.con _))⟩
  replace h := ite_f hb3 h
  refine aops_skips 2 2 11 true (c := ((y1.1) == 10)) (b := false) rfl rfl hb3 rfl rfl ?_
  refine aops_pick false (cb := ((y1.1) == 10)) (bV false) wants_none rfl hb3 rfl rfl ?_
  refine aa (bV false) rfl rfl ?_
  refine an ?_
  refine awp_ret ?_
  replace h := Option.some.inj h
  subst h
  exact ⟨.inl rfl, .one (.tmp rfl (Imm.con _))⟩
end Go.Proofs.Ytkciogeafbbggaa
