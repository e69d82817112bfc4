/- Part of the proof: HW4a. -/
import Derived.Test.YtkciogeafbbggaaLHM
import Derived.Test.YtkciogeafbbggaaLHW3a
import Derived.KernelRfl
namespace Go.Proofs.Ytkciogeafbbggaa
open Go Go.Pv
set_option linter.unusedVariables false
set_option maxRecDepth 100000
theorem W4 (F : Nat) (a1 : TCalendar) (a2 : Int) (a3 : Int) (a4 : Int) (r : Bool) (h : M4 F a1 a2 a3 a4 = some r) : Pure Try.prog 4 [(V.agg [(V.lst 1 (a1.Free.map encI_i64)), (V.lst 1 (a1.Holidays.map encI_i64))]), (iV a2), (iV a3), (iV a4)] (bV r) := by
  refine pure_enter Try.func4 rfl rfl (l := [.tmp 8]) rfl rfl [(0, (V.agg [(V.lst 1 (a1.Free.map encI_i64)), (V.lst 1 (a1.Holidays.map encI_i64))])), (1, (iV a2)), (2, (iV a3)), (3, (iV a4))] rfl (fun w0 m0 => ?_)
  unfold M4 at h
  refine awp_seq ?_
  refine awp_region ?_
  refine aops_box [(V.lst 1 (a1.Free.map encI_i64)), (V.lst 1 (a1.Holidays.map encI_i64))] wants_none rfl rfl rfl rfl ?_
  refine aops_assign (bV false) wants_none rfl rfl ?_
  refine aops_nil ?_
  refine awp_seq ?_
  refine awp_region ?_
  refine aops_load_agg (cs := [(V.lst 1 (a1.Free.map encI_i64)), (V.lst 1 (a1.Holidays.map encI_i64))]) tA24 wants_none rfl rfl rfl rfl rfl rfl ?_
  refine aops_move (iV a2) wants_none rfl rfl ?_
  refine aops_move (iV a3) wants_none rfl rfl ?_
  replace h := bind_some h
  obtain ⟨y5, hx6, h⟩ := h
  refine aops_call (V.tup [(iV (y5.1)), (iV (y5.2))]) [(V.agg [(V.lst 1 (a1.Free.map encI_i64)), (V.lst 1 (a1.Holidays.map encI_i64))]), (iV a2), (iV a3)] fOk19 wants_none (evm_cons rfl (evm_cons rfl (evm_cons rfl evm_nil))) (.cons (Imm.agg (.cons (Imm.lst _ _) (.cons (Imm.lst _ _) .nil))) (.cons (Imm.con _) (.cons (Imm.con _) .nil))) (W19 F a1 a2 a3 y5 hx6) rfl ?_
  refine aops_move (V.tup [(iV (y5.1)), (iV (y5.2))]) wants_none rfl rfl ?_
  refine aops_extract (iV (y5.1)) wants_none rfl rfl rfl ?_
  refine aops_extract (iV (y5.2)) wants_none rfl rfl rfl ?_
  refine aops_assign (iV (y5.1)) wants_none rfl rfl ?_
  refine aops_assign (iV (y5.2)) wants_none rfl rfl ?_
  refine aops_nil ?_
  refine awp_seq ?_
  refine awp_seq ?_
  refine awp_region ?_
  refine aops_move (iV (y5.2)) wants_none rfl rfl ?_
  refine aops_bin (.bool ((y5.2) != 0)) wants_none rfl rfl rfl rfl ?_
  refine aops_nil ?_
  refine awp_cond ((y5.2) != 0) rfl (fun hb7 => ?_) (fun hb7 => ?_)
  · replace h := ite_t hb7 h
    refine awp_seq ?_
    refine awp_region ?_
    refine aops_load_agg (cs := [(V.lst 1 (a1.Free.map encI_i64)), (V.lst 1 (a1.Holidays.map encI_i64))]) tA24 wants_none rfl rfl rfl rfl rfl rfl ?_
    refine aops_move (iV a2) wants_none rfl rfl ?_
    refine aops_move (iV a3) wants_none rfl rfl ?_
    replace h := bind_some h
    obtain ⟨y8, hx9, h⟩ := h
    refine aops_call (V.tup [(iV (y8.1)), (iV (y8.2))]) [(V.agg [(V.lst 1 (a1.Free.map encI_i64)), (V.lst 1 (a1.Holidays.map encI_i64))]), (iV a2), (iV a3)] fOk20 wants_none (evm_cons rfl (evm_cons rfl (evm_cons rfl evm_nil))) (.cons (Imm.agg (.cons (Imm.lst _ _) (.cons (Imm.lst _ _) .nil))) (.cons (Imm.con _) (.cons (Imm.con _) .nil))) (W20 F a1 a2 a3 y8 hx9) rfl ?_
    refine aops_move (V.tup [(iV (y8.1)), (iV (y8.2))]) wants_none rfl rfl ?_
    refine aops_extract (iV (y8.1)) wants_none rfl rfl rfl ?_
    refine aops_extract (iV (y8.2)) wants_none rfl rfl rfl ?_
    refine aops_assign (iV (y8.1)) wants_none rfl rfl ?_
    refine aops_assign (iV (y8.2)) wants_none rfl rfl ?_
    refine aops_nil ?_
    refine awp_seq ?_
    refine awp_region ?_
    refine aops_move (iV (y5.2)) wants_none rfl rfl ?_
    refine aops_move (iV (y8.2)) wants_none rfl rfl ?_
    refine aops_bin (.bool ((y5.2) == (y8.2))) wants_none rfl rfl rfl rfl ?_
    refine aops_move (bV ((y5.2) == (y8.2))) wants_none rfl rfl ?_
    rcases Bool.eq_false_or_eq_true ((y5.2) == (y8.2)) with hb10 | hb10
    · replace h := ite_t hb10 h
      replace h := bind_some h
      obtain ⟨y11, hx12, h⟩ := h
      refine aops_call (bV y11) [] fOk23 (wants_some (c := ((y5.2) == (y8.2))) (b := true) 40 rfl rfl hb10) evm_nil .nil (W23 F  y11 hx12) rfl ?_
      refine aops_pick true (cb := ((y5.2) == (y8.2))) (bV y11) wants_none rfl hb10 rfl rfl ?_
      refine aops_assign (bV y11) wants_none rfl rfl ?_
      refine aops_nil ?_
      refine awp_ret ?_
      obtain rfl := Option.some.inj h
      exact ⟨.inl rfl, .one (.tmp rfl (Imm.con _))⟩
    · replace h := ite_f hb10 h
      refine aops_skip (wants_some (c := ((y5.2) == (y8.2))) (b := false) 40 rfl rfl hb10) rfl rfl ?_
      refine aops_pick false (cb := ((y5.2) == (y8.2))) (bV false) wants_none rfl hb10 rfl rfl ?_
      refine aops_assign (bV false) wants_none rfl rfl ?_
      refine aops_nil ?_
      refine awp_ret ?_
      obtain rfl := Option.some.inj h
      exact ⟨.inl rfl, .one (.tmp rfl (Imm.con _))⟩
  · replace h := ite_f hb7 h
    refine awp_skip ?_
    refine awp_seq ?_
    refine awp_region ?_
    refine aops_load_agg (cs := [(V.lst 1 (a1.Free.map encI_i64)), (V.lst 1 (a1.Holidays.map encI_i64))]) tA24 wants_none rfl rfl rfl rfl rfl rfl ?_
    refine aops_move (iV a2) wants_none rfl rfl ?_
    refine aops_move (iV (y5.1)) wants_none rfl rfl ?_
    replace h := bind_some h
    obtain ⟨y13, hx14, h⟩ := h
    refine aops_call (V.tup [(iV (y13.1)), (iV (y13.2))]) [(V.agg [(V.lst 1 (a1.Free.map encI_i64)), (V.lst 1 (a1.Holidays.map encI_i64))]), (iV a2), (iV (y5.1))] fOk17 wants_none (evm_cons rfl (evm_cons rfl (evm_cons rfl evm_nil))) (.cons (Imm.agg (.cons (Imm.lst _ _) (.cons (Imm.lst _ _) .nil))) (.cons (Imm.con _) (.cons (Imm.con _) .nil))) (W17 F a1 a2 (y5.1) y13 hx14) rfl ?_
    refine aops_move (V.tup [(iV (y13.1)), (iV (y13.2))]) wants_none rfl rfl ?_
    refine aops_extract (iV (y13.1)) wants_none rfl rfl rfl ?_
    refine aops_extract (iV (y13.2)) wants_none rfl rfl rfl ?_
    refine aops_assign (iV (y13.1)) wants_none rfl rfl ?_
    refine aops_assign (iV (y13.2)) wants_none rfl rfl ?_
    refine aops_nil ?_
    refine awp_seq ?_
    refine awp_seq ?_
    refine awp_region ?_
    refine aops_move (iV (y13.2)) wants_none rfl rfl ?_
    refine aops_bin (.bool ((y13.2) != 0)) wants_none rfl rfl rfl rfl ?_
    refine aops_move (bV ((y13.2) != 0)) wants_none rfl rfl ?_
    rcases Bool.eq_false_or_eq_true ((y13.2) != 0) with hb15 | hb15
    · replace h := ite_t hb15 h
      refine aops_skip (wants_some (c := ((y13.2) != 0)) (b := true) 52 rfl rfl hb15) rfl rfl ?_
      refine aops_skip (wants_some (c := ((y13.2) != 0)) (b := true) 52 rfl rfl hb15) rfl rfl ?_
      refine aops_skip (wants_some (c := ((y13.2) != 0)) (b := true) 52 rfl rfl hb15) rfl rfl ?_
      refine aops_pick true (cb := ((y13.2) != 0)) (bV true) wants_none rfl hb15 rfl rfl ?_
      refine aops_move (bV true) wants_none rfl rfl ?_
      refine aops_skip (wants_some (c := true) (b := true) 57 rfl rfl rfl) rfl rfl ?_
      refine aops_skip (wants_some (c := true) (b := true) 57 rfl rfl rfl) rfl rfl ?_
      refine aops_skip (wants_some (c := true) (b := true) 57 rfl rfl rfl) rfl rfl ?_
      refine aops_skip (wants_undef 60 rfl rfl) rfl rfl ?_
      refine aops_skip (wants_undef 60 rfl rfl) rfl rfl ?_
      refine aops_skip (wants_undef 60 rfl rfl) rfl rfl ?_
      refine aops_skip (wants_some (c := true) (b := true) 57 rfl rfl rfl) rfl rfl ?_
      refine aops_pick true (cb := true) (bV true) wants_none rfl rfl rfl rfl ?_
      refine aops_nil ?_
      refine awp_cond_t rfl rfl ?_
      refine awp_seq ?_
      refine awp_region ?_
      refine aops_assign (bV false) wants_none rfl rfl ?_
      refine aops_nil ?_
      refine awp_ret ?_
      obtain rfl := Option.some.inj h
      exact ⟨.inl rfl, .one (.tmp rfl (Imm.con _))⟩
    · replace h := ite_f hb15 h
      refine aops_move (iV (y13.1)) (wants_some (c := ((y13.2) != 0)) (b := false) 52 rfl rfl hb15) rfl rfl ?_
      refine aops_move (iV a3) (wants_some (c := ((y13.2) != 0)) (b := false) 52 rfl rfl hb15) rfl rfl ?_
      refine aops_bin (.bool ((y13.1) != a3)) (wants_some (c := ((y13.2) != 0)) (b := false) 52 rfl rfl hb15) rfl rfl rfl rfl ?_
      refine aops_pick false (cb := ((y13.2) != 0)) (bV ((y13.1) != a3)) wants_none rfl hb15 rfl rfl ?_
      refine aops_move (bV ((y13.1) != a3)) wants_none rfl rfl ?_
      rcases Bool.eq_false_or_eq_true ((y13.1) != a3) with hb16 | hb16
      · replace h := ite_t hb16 h
        refine aops_skip (wants_some (c := ((y13.1) != a3)) (b := true) 57 rfl rfl hb16) rfl rfl ?_
        refine aops_skip (wants_some (c := ((y13.1) != a3)) (b := true) 57 rfl rfl hb16) rfl rfl ?_
        refine aops_skip (wants_some (c := ((y13.1) != a3)) (b := true) 57 rfl rfl hb16) rfl rfl ?_
        refine aops_skip (wants_undef 60 rfl rfl) rfl rfl ?_
        refine aops_skip (wants_undef 60 rfl rfl) rfl rfl ?_
        refine aops_skip (wants_undef 60 rfl rfl) rfl rfl ?_
        refine aops_skip (wants_some (c := ((y13.1) != a3)) (b := true) 57 rfl rfl hb16) rfl rfl ?_
        refine aops_pick true (cb := ((y13.1) != a3)) (bV true) wants_none rfl hb16 rfl rfl ?_
        refine aops_nil ?_
        refine awp_cond_t rfl rfl ?_
        refine awp_seq ?_
        refine awp_region ?_
        refine aops_assign (bV false) wants_none rfl rfl ?_
        refine aops_nil ?_
        refine awp_ret ?_
        obtain rfl := Option.some.inj h
        exact ⟨.inl rfl, .one (.tmp rfl (Imm.con _))⟩
      · replace h := ite_f hb16 h
        refine aops_move (iV a3) (wants_some (c := ((y13.1) != a3)) (b := false) 57 rfl rfl hb16) rfl rfl ?_
        refine aops_bin (.bool (a3 == 0)) (wants_some (c := ((y13.1) != a3)) (b := false) 57 rfl rfl hb16) rfl rfl rfl rfl ?_
        refine aops_move (bV (a3 == 0)) (wants_some (c := ((y13.1) != a3)) (b := false) 57 rfl rfl hb16) rfl rfl ?_
        rcases Bool.eq_false_or_eq_true (a3 == 0) with hb17 | hb17
        · replace h := ite_t hb17 h
          refine aops_move (iV (y5.1)) (wants_some (c := (a3 == 0)) (b := true) 60 rfl rfl hb17) rfl rfl ?_
          refine aops_move (iV a2) (wants_some (c := (a3 == 0)) (b := true) 60 rfl rfl hb17) rfl rfl ?_
          refine aops_bin (.bool ((y5.1) != a2)) (wants_some (c := (a3 == 0)) (b := true) 60 rfl rfl hb17) rfl rfl rfl rfl ?_
          refine aops_pick true (cb := (a3 == 0)) (bV ((y5.1) != a2)) (wants_some (c := ((y13.1) != a3)) (b := false) 57 rfl rfl hb16) rfl hb17 rfl rfl ?_
          refine aops_pick false (cb := ((y13.1) != a3)) (bV ((y5.1) != a2)) wants_none rfl hb16 rfl rfl ?_
          refine aops_nil ?_
          refine awp_cond ((y5.1) != a2) rfl (fun hb18 => ?_) (fun hb18 => ?_)
          · replace h := ite_t hb18 h
            refine awp_seq ?_
            refine awp_region ?_
            refine aops_assign (bV false) wants_none rfl rfl ?_
            refine aops_nil ?_
            refine awp_ret ?_
            obtain rfl := Option.some.inj h
            exact ⟨.inl rfl, .one (.tmp rfl (Imm.con _))⟩
          · replace h := ite_f hb18 h
            refine awp_skip ?_
            refine awp_seq ?_
            refine awp_seq ?_
            refine awp_region ?_
            refine aops_move (iV a3) wants_none rfl rfl ?_
            refine aops_bin (.bool (decide (a3 > 0))) wants_none rfl rfl rfl rfl ?_
            refine aops_nil ?_
            replace h := jn_elim h
            obtain ⟨k19, hk19, h⟩ := h
            refine awp_cut (fun _ : Unit => (⟨[(1, (iV a2)), (2, (iV a3)), (3, (iV a4)), (4, (V.ptr 0 2 0 0)), (9, (iV (y5.1)))], [(0, (Ob.arr 24 2 [[(V.lst 1 (a1.Free.map encI_i64)), (V.lst 1 (a1.Holidays.map encI_i64))]]))], 1⟩ : St)) (fun _ : Unit => k19 = some r) ?_ ?_
            · clear hk19
              refine awp_cond (decide (a3 > 0)) rfl (fun hb20 => ?_) (fun hb20 => ?_)
              · replace h := ite_t hb20 h
                refine awp_seq ?_
                refine awp_region ?_
                refine aops_load_agg (cs := [(V.lst 1 (a1.Free.map encI_i64)), (V.lst 1 (a1.Holidays.map encI_i64))]) tA24 wants_none rfl rfl rfl rfl rfl rfl ?_
                refine aops_move (iV (y5.1)) wants_none rfl rfl ?_
                refine aops_bin (.int .i64 (w64 ((y5.1) - 1))) wants_none rfl rfl rfl rfl ?_
                replace h := bind_some h
                obtain ⟨y21, hx22, h⟩ := h
                refine aops_call (V.tup [(bV (y21.1)), (iV (y21.2))]) [(V.agg [(V.lst 1 (a1.Free.map encI_i64)), (V.lst 1 (a1.Holidays.map encI_i64))]), (iV (w64 ((y5.1) - 1)))] fOk15 wants_none (evm_cons rfl (evm_cons rfl evm_nil)) (.cons (Imm.agg (.cons (Imm.lst _ _) (.cons (Imm.lst _ _) .nil))) (.cons (Imm.con _) .nil)) (W15 F a1 (w64 ((y5.1) - 1)) y21 hx22) rfl ?_
                refine aops_move (V.tup [(bV (y21.1)), (iV (y21.2))]) wants_none rfl rfl ?_
                refine aops_extract (bV (y21.1)) wants_none rfl rfl rfl ?_
                refine aops_extract (iV (y21.2)) wants_none rfl rfl rfl ?_
                refine aops_assign (bV (y21.1)) wants_none rfl rfl ?_
                refine aops_assign (iV (y21.2)) wants_none rfl rfl ?_
                refine aops_nil ?_
                refine awp_seq ?_
                refine awp_region ?_
                refine aops_move (iV (y21.2)) wants_none rfl rfl ?_
                refine aops_bin (.bool ((y21.2) != 0)) wants_none rfl rfl rfl rfl ?_
                refine aops_move (bV ((y21.2) != 0)) wants_none rfl rfl ?_
                rcases Bool.eq_false_or_eq_true ((y21.2) != 0) with hb23 | hb23
                · replace h := ite_t hb23 h
                  refine aops_skip (wants_some (c := ((y21.2) != 0)) (b := true) 77 rfl rfl hb23) rfl rfl ?_
                  refine aops_skip (wants_some (c := ((y21.2) != 0)) (b := true) 77 rfl rfl hb23) rfl rfl ?_
                  refine aops_pick true (cb := ((y21.2) != 0)) (bV true) wants_none rfl hb23 rfl rfl ?_
                  refine aops_nil ?_
                  refine awp_cond_t rfl rfl ?_
                  refine awp_seq ?_
                  refine awp_region ?_
                  refine aops_assign (bV false) wants_none rfl rfl ?_
                  refine aops_nil ?_
                  refine awp_ret ?_
                  obtain rfl := Option.some.inj h
                  exact ⟨.inl rfl, .one (.tmp rfl (Imm.con _))⟩
                · replace h := ite_f hb23 h
                  refine aops_move (bV (y21.1)) (wants_some (c := ((y21.2) != 0)) (b := false) 77 rfl rfl hb23) rfl rfl ?_
                  refine aops_not (wants_some (c := ((y21.2) != 0)) (b := false) 77 rfl rfl hb23) rfl rfl ?_
                  refine aops_pick false (cb := ((y21.2) != 0)) (bV (!(y21.1))) wants_none rfl hb23 rfl rfl ?_
                  refine aops_nil ?_
                  refine awp_cond (!(y21.1)) rfl (fun hb24 => ?_) (fun hb24 => ?_)
                  · replace h := ite_t hb24 h
                    refine awp_seq ?_
                    refine awp_region ?_
                    refine aops_assign (bV false) wants_none rfl rfl ?_
                    refine aops_nil ?_
                    refine awp_ret ?_
                    obtain rfl := Option.some.inj h
                    exact ⟨.inl rfl, .one (.tmp rfl (Imm.con _))⟩
                  · replace h := ite_f hb24 h
                    refine awp_skip ?_
                    exact ⟨(), h, (ghost_ren 1 (fun i => ([0] : List Nat).getD i 0) _ _ (by decide) (EnvSub.get (.cons (Sub.imm (Imm.con _)) (.cons (Sub.imm (Imm.con _)) (.cons (Sub.imm (Imm.con _)) (.cons (Sub.ptr rfl rfl) (.cons (Sub.imm (Imm.con _)) .nil)))))) (HpSub.get (.cons rfl (ObSub.box (.cons (Sub.imm (Imm.lst _ _)) (.cons (Sub.imm (Imm.lst _ _)) .nil))) .nil)))⟩
              · replace h := ite_f hb20 h
                refine awp_skip ?_
                exact ⟨(), h, (ghost_ren 1 (fun i => ([0] : List Nat).getD i 0) _ _ (by decide) (EnvSub.get (.cons (Sub.imm (Imm.con _)) (.cons (Sub.imm (Imm.con _)) (.cons (Sub.imm (Imm.con _)) (.cons (Sub.ptr rfl rfl) (.cons (Sub.imm (Imm.con _)) .nil)))))) (HpSub.get (.cons rfl (ObSub.box (.cons (Sub.imm (Imm.lst _ _)) (.cons (Sub.imm (Imm.lst _ _)) .nil))) .nil)))⟩
            · clear h
              intro _ h
              subst hk19
              refine awp_seq ?_
              refine awp_seq ?_
              refine awp_region ?_
              refine aops_move (iV a4) wants_none rfl rfl ?_
              refine aops_move (iV a2) wants_none rfl rfl ?_
              refine aops_bin (.bool (decide (a4 < a2))) wants_none rfl rfl rfl rfl ?_
              refine aops_move (bV (decide (a4 < a2))) wants_none rfl rfl ?_
              rcases Bool.eq_false_or_eq_true (decide (a4 < a2)) with hb25 | hb25
              · replace h := ite_t hb25 h
                refine aops_skip (wants_some (c := (decide (a4 < a2))) (b := true) 84 rfl rfl hb25) rfl rfl ?_
                refine aops_skip (wants_some (c := (decide (a4 < a2))) (b := true) 84 rfl rfl hb25) rfl rfl ?_
                refine aops_skip (wants_some (c := (decide (a4 < a2))) (b := true) 84 rfl rfl hb25) rfl rfl ?_
                refine aops_pick true (cb := (decide (a4 < a2))) (bV true) wants_none rfl hb25 rfl rfl ?_
                refine aops_nil ?_
                refine awp_cond_t rfl rfl ?_
                refine awp_seq ?_
                refine awp_region ?_
                replace h := bind_some h
                obtain ⟨y26, hx27, h⟩ := h
                refine aops_call (bV y26) [] fOk23 wants_none evm_nil .nil (W23 F  y26 hx27) rfl ?_
                refine aops_assign (bV y26) wants_none rfl rfl ?_
                refine aops_nil ?_
                refine awp_ret ?_
                obtain rfl := Option.some.inj h
                exact ⟨.inl rfl, .one (.tmp rfl (Imm.con _))⟩
              · replace h := ite_f hb25 h
                refine aops_move (iV a4) (wants_some (c := (decide (a4 < a2))) (b := false) 84 rfl rfl hb25) rfl rfl ?_
                refine aops_move (iV (y5.1)) (wants_some (c := (decide (a4 < a2))) (b := false) 84 rfl rfl hb25) rfl rfl ?_
                refine aops_bin (.bool (decide (a4 > (y5.1)))) (wants_some (c := (decide (a4 < a2))) (b := false) 84 rfl rfl hb25) rfl rfl rfl rfl ?_
                refine aops_pick false (cb := (decide (a4 < a2))) (bV (decide (a4 > (y5.1)))) wants_none rfl hb25 rfl rfl ?_
                refine aops_nil ?_
                refine awp_cond (decide (a4 > (y5.1))) rfl (fun hb28 => ?_) (fun hb28 => ?_)
                · replace h := ite_t hb28 h
                  refine awp_seq ?_
                  refine awp_region ?_
                  replace h := bind_some h
                  obtain ⟨y29, hx30, h⟩ := h
                  refine aops_call (bV y29) [] fOk23 wants_none evm_nil .nil (W23 F  y29 hx30) rfl ?_
                  refine aops_assign (bV y29) wants_none rfl rfl ?_
                  refine aops_nil ?_
                  refine awp_ret ?_
                  obtain rfl := Option.some.inj h
                  exact ⟨.inl rfl, .one (.tmp rfl (Imm.con _))⟩
                · replace h := ite_f hb28 h
                  refine awp_skip ?_
                  refine awp_seq ?_
                  refine awp_region ?_
                  refine aops_load_agg (cs := [(V.lst 1 (a1.Free.map encI_i64)), (V.lst 1 (a1.Holidays.map encI_i64))]) tA24 wants_none rfl rfl rfl rfl rfl rfl ?_
                  refine aops_move (iV a2) wants_none rfl rfl ?_
                  refine aops_move (iV a4) wants_none rfl rfl ?_
                  replace h := bind_some h
                  obtain ⟨y31, hx32, h⟩ := h
                  refine aops_call (V.tup [(iV (y31.1)), (iV (y31.2))]) [(V.agg [(V.lst 1 (a1.Free.map encI_i64)), (V.lst 1 (a1.Holidays.map encI_i64))]), (iV a2), (iV a4)] fOk17 wants_none (evm_cons rfl (evm_cons rfl (evm_cons rfl evm_nil))) (.cons (Imm.agg (.cons (Imm.lst _ _) (.cons (Imm.lst _ _) .nil))) (.cons (Imm.con _) (.cons (Imm.con _) .nil))) (W17 F a1 a2 a4 y31 hx32) rfl ?_
                  refine aops_move (V.tup [(iV (y31.1)), (iV (y31.2))]) wants_none rfl rfl ?_
                  refine aops_extract (iV (y31.1)) wants_none rfl rfl rfl ?_
                  refine aops_extract (iV (y31.2)) wants_none rfl rfl rfl ?_
                  refine aops_assign (iV (y31.1)) wants_none rfl rfl ?_
                  refine aops_assign (iV (y31.2)) wants_none rfl rfl ?_
                  refine aops_nil ?_
                  refine awp_seq ?_
                  refine awp_region ?_
                  refine aops_load_agg (cs := [(V.lst 1 (a1.Free.map encI_i64)), (V.lst 1 (a1.Holidays.map encI_i64))]) tA24 wants_none rfl rfl rfl rfl rfl rfl ?_
                  refine aops_move (iV a4) wants_none rfl rfl ?_
                  refine aops_move (iV (y5.1)) wants_none rfl rfl ?_
                  replace h := bind_some h
                  obtain ⟨y33, hx34, h⟩ := h
                  refine aops_call (V.tup [(iV (y33.1)), (iV (y33.2))]) [(V.agg [(V.lst 1 (a1.Free.map encI_i64)), (V.lst 1 (a1.Holidays.map encI_i64))]), (iV a4), (iV (y5.1))] fOk17 wants_none (evm_cons rfl (evm_cons rfl (evm_cons rfl evm_nil))) (.cons (Imm.agg (.cons (Imm.lst _ _) (.cons (Imm.lst _ _) .nil))) (.cons (Imm.con _) (.cons (Imm.con _) .nil))) (W17 F a1 a4 (y5.1) y33 hx34) rfl ?_
                  refine aops_move (V.tup [(iV (y33.1)), (iV (y33.2))]) wants_none rfl rfl ?_
                  refine aops_extract (iV (y33.1)) wants_none rfl rfl rfl ?_
                  refine aops_extract (iV (y33.2)) wants_none rfl rfl rfl ?_
                  refine aops_assign (iV (y33.1)) wants_none rfl rfl ?_
                  refine aops_assign (iV (y33.2)) wants_none rfl rfl ?_
                  refine aops_nil ?_
                  refine awp_seq ?_
                  refine awp_region ?_
                  refine aops_move (iV (y31.2)) wants_none rfl rfl ?_
                  refine aops_bin (.bool ((y31.2) == 0)) wants_none rfl rfl rfl rfl ?_
                  refine aops_move (bV ((y31.2) == 0)) wants_none rfl rfl ?_
                  rcases Bool.eq_false_or_eq_true ((y31.2) == 0) with hb35 | hb35
                  · replace h := ite_t hb35 h
                    refine aops_move (iV (y33.2)) (wants_some (c := ((y31.2) == 0)) (b := true) 106 rfl rfl hb35) rfl rfl ?_
                    refine aops_bin (.bool ((y33.2) == 0)) (wants_some (c := ((y31.2) == 0)) (b := true) 106 rfl rfl hb35) rfl rfl rfl rfl ?_
                    refine aops_pick true (cb := ((y31.2) == 0)) (bV ((y33.2) == 0)) wants_none rfl hb35 rfl rfl ?_
                    refine aops_move (bV ((y33.2) == 0)) wants_none rfl rfl ?_
                    rcases Bool.eq_false_or_eq_true ((y33.2) == 0) with hb36 | hb36
                    · replace h := ite_t hb36 h
                      refine aops_move (iV (y31.1)) (wants_some (c := ((y33.2) == 0)) (b := true) 110 rfl rfl hb36) rfl rfl ?_
                      refine aops_move (iV (y33.1)) (wants_some (c := ((y33.2) == 0)) (b := true) 110 rfl rfl hb36) rfl rfl ?_
                      refine aops_bin (.int .i64 (w64 ((y31.1) + (y33.1)))) (wants_some (c := ((y33.2) == 0)) (b := true) 110 rfl rfl hb36) rfl rfl rfl rfl ?_
                      refine aops_move (iV a3) (wants_some (c := ((y33.2) == 0)) (b := true) 110 rfl rfl hb36) rfl rfl ?_
                      refine aops_bin (.bool ((w64 ((y31.1) + (y33.1))) == a3)) (wants_some (c := ((y33.2) == 0)) (b := true) 110 rfl rfl hb36) rfl rfl rfl rfl ?_
                      refine aops_pick true (cb := ((y33.2) == 0)) (bV ((w64 ((y31.1) + (y33.1))) == a3)) wants_none rfl hb36 rfl rfl ?_
                      refine aops_move (bV ((w64 ((y31.1) + (y33.1))) == a3)) wants_none rfl rfl ?_
                      rcases Bool.eq_false_or_eq_true ((w64 ((y31.1) + (y33.1))) == a3) with hb37 | hb37
                      · replace h := ite_t hb37 h
                        replace h := bind_some h
                        obtain ⟨y38, hx39, h⟩ := h
                        refine aops_call (bV y38) [] fOk23 (wants_some (c := ((w64 ((y31.1) + (y33.1))) == a3)) (b := true) 117 rfl rfl hb37) evm_nil .nil (W23 F  y38 hx39) rfl ?_
                        refine aops_pick true (cb := ((w64 ((y31.1) + (y33.1))) == a3)) (bV y38) wants_none rfl hb37 rfl rfl ?_
                        refine aops_assign (bV y38) wants_none rfl rfl ?_
                        refine aops_nil ?_
                        refine awp_ret ?_
                        obtain rfl := Option.some.inj h
                        exact ⟨.inl rfl, .one (.tmp rfl (Imm.con _))⟩
                      · replace h := ite_f hb37 h
                        refine aops_skip (wants_some (c := ((w64 ((y31.1) + (y33.1))) == a3)) (b := false) 117 rfl rfl hb37) rfl rfl ?_
                        refine aops_pick false (cb := ((w64 ((y31.1) + (y33.1))) == a3)) (bV false) wants_none rfl hb37 rfl rfl ?_
                        refine aops_assign (bV false) wants_none rfl rfl ?_
                        refine aops_nil ?_
                        refine awp_ret ?_
                        obtain rfl := Option.some.inj h
                        exact ⟨.inl rfl, .one (.tmp rfl (Imm.con _))⟩
                    · replace h := ite_f hb36 h
                      refine aops_skip (wants_some (c := ((y33.2) == 0)) (b := false) 110 rfl rfl hb36) rfl rfl ?_
                      refine aops_skip (wants_some (c := ((y33.2) == 0)) (b := false) 110 rfl rfl hb36) rfl rfl ?_
                      refine aops_skip (wants_some (c := ((y33.2) == 0)) (b := false) 110 rfl rfl hb36) rfl rfl ?_
                      refine aops_skip (wants_some (c := ((y33.2) == 0)) (b := false) 110 rfl rfl hb36) rfl rfl ?_
                      refine aops_skip (wants_some (c := ((y33.2) == 0)) (b := false) 110 rfl rfl hb36) rfl rfl ?_
                      refine aops_pick false (cb := ((y33.2) == 0)) (bV false) wants_none rfl hb36 rfl rfl ?_
                      refine aops_move (bV false) wants_none rfl rfl ?_
                      refine aops_skip (wants_some (c := false) (b := false) 117 rfl rfl rfl) rfl rfl ?_
                      refine aops_pick false (cb := false) (bV false) wants_none rfl rfl rfl rfl ?_
                      refine aops_assign (bV false) wants_none rfl rfl ?_
                      refine aops_nil ?_
                      refine awp_ret ?_
                      obtain rfl := Option.some.inj h
                      exact ⟨.inl rfl, .one (.tmp rfl (Imm.con _))⟩
                  · replace h := ite_f hb35 h
                    refine aops_skip (wants_some (c := ((y31.2) == 0)) (b := false) 106 rfl rfl hb35) rfl rfl ?_
                    refine aops_skip (wants_some (c := ((y31.2) == 0)) (b := false) 106 rfl rfl hb35) rfl rfl ?_
                    refine aops_pick false (cb := ((y31.2) == 0)) (bV false) wants_none rfl hb35 rfl rfl ?_
                    refine aops_move (bV false) wants_none rfl rfl ?_
                    refine aops_skip (wants_some (c := false) (b := false) 110 rfl rfl rfl) rfl rfl ?_
                    refine aops_skip (wants_some (c := false) (b := false) 110 rfl rfl rfl) rfl rfl ?_
                    refine aops_skip (wants_some (c := false) (b := false) 110 rfl rfl rfl) rfl rfl ?_
                    refine aops_skip (wants_some (c := false) (b := false) 110 rfl rfl rfl) rfl rfl ?_
                    refine aops_skip (wants_some (c := false) (b := false) 110 rfl rfl rfl) rfl rfl ?_
                    refine aops_pick false (cb := false) (bV false) wants_none rfl rfl rfl rfl ?_
                    refine aops_move (bV false) wants_none rfl rfl ?_
                    refine aops_skip (wants_some (c := false) (b := false) 117 rfl rfl rfl) rfl rfl ?_
                    refine aops_pick false (cb := false) (bV false) wants_none rfl rfl rfl rfl ?_
                    refine aops_assign (bV false) wants_none rfl rfl ?_
                    refine aops_nil ?_
                    refine awp_ret ?_
                    obtain rfl := Option.some.inj h
                    exact ⟨.inl rfl, .one (.tmp rfl (Imm.con _))⟩
        · replace h := ite_f hb17 h
          refine aops_skip (wants_some (c := (a3 == 0)) (b := false) 60 rfl rfl hb17) rfl rfl ?_
          refine aops_skip (wants_some (c := (a3 == 0)) (b := false) 60 rfl rfl hb17) rfl rfl ?_
          refine aops_skip (wants_some (c := (a3 == 0)) (b := false) 60 rfl rfl hb17) rfl rfl ?_
          refine aops_pick false (cb := (a3 == 0)) (bV false) (wants_some (c := ((y13.1) != a3)) (b := false) 57 rfl rfl hb16) rfl hb17 rfl rfl ?_
          refine aops_pick false (cb := ((y13.1) != a3)) (bV false) wants_none rfl hb16 rfl rfl ?_
          refine aops_nil ?_
          refine awp_cond_f rfl rfl ?_
          refine awp_skip ?_
          refine awp_seq ?_
          refine awp_seq ?_
          refine awp_region ?_
          refine aops_move (iV a3) wants_none rfl rfl ?_
          refine aops_bin (.bool (decide (a3 > 0))) wants_none rfl rfl rfl rfl ?_
          refine aops_nil ?_
          replace h := jn_elim h
          obtain ⟨k40, hk40, h⟩ := h
          refine awp_cut (fun _ : Unit => (⟨[(1, (iV a2)), (2, (iV a3)), (3, (iV a4)), (4, (V.ptr 0 2 0 0)), (9, (iV (y5.1)))], [(0, (Ob.arr 24 2 [[(V.lst 1 (a1.Free.map encI_i64)), (V.lst 1 (a1.Holidays.map encI_i64))]]))], 1⟩ : St)) (fun _ : Unit => k40 = some r) ?_ ?_
          · clear hk40
            refine awp_cond (decide (a3 > 0)) rfl (fun hb41 => ?_) (fun hb41 => ?_)
            · replace h := ite_t hb41 h
              refine awp_seq ?_
              refine awp_region ?_
              refine aops_load_agg (cs := [(V.lst 1 (a1.Free.map encI_i64)), (V.lst 1 (a1.Holidays.map encI_i64))]) tA24 wants_none rfl rfl rfl rfl rfl rfl ?_
              refine aops_move (iV (y5.1)) wants_none rfl rfl ?_
              refine aops_bin (.int .i64 (w64 ((y5.1) - 1))) wants_none rfl rfl rfl rfl ?_
              replace h := bind_some h
              obtain ⟨y42, hx43, h⟩ := h
              refine aops_call (V.tup [(bV (y42.1)), (iV (y42.2))]) [(V.agg [(V.lst 1 (a1.Free.map encI_i64)), (V.lst 1 (a1.Holidays.map encI_i64))]), (iV (w64 ((y5.1) - 1)))] fOk15 wants_none (evm_cons rfl (evm_cons rfl evm_nil)) (.cons (Imm.agg (.cons (Imm.lst _ _) (.cons (Imm.lst _ _) .nil))) (.cons (Imm.con _) .nil)) (W15 F a1 (w64 ((y5.1) - 1)) y42 hx43) rfl ?_
              refine aops_move (V.tup [(bV (y42.1)), (iV (y42.2))]) wants_none rfl rfl ?_
              refine aops_extract (bV (y42.1)) wants_none rfl rfl rfl ?_
              refine aops_extract (iV (y42.2)) wants_none rfl rfl rfl ?_
              refine aops_assign (bV (y42.1)) wants_none rfl rfl ?_
              refine aops_assign (iV (y42.2)) wants_none rfl rfl ?_
              refine aops_nil ?_
              refine awp_seq ?_
              refine awp_region ?_
              refine aops_move (iV (y42.2)) wants_none rfl rfl ?_
              refine aops_bin (.bool ((y42.2) != 0)) wants_none rfl rfl rfl rfl ?_
              refine aops_move (bV ((y42.2) != 0)) wants_none rfl rfl ?_
              rcases Bool.eq_false_or_eq_true ((y42.2) != 0) with hb44 | hb44
              · replace h := ite_t hb44 h
                refine aops_skip (wants_some (c := ((y42.2) != 0)) (b := true) 77 rfl rfl hb44) rfl rfl ?_
                refine aops_skip (wants_some (c := ((y42.2) != 0)) (b := true) 77 rfl rfl hb44) rfl rfl ?_
                refine aops_pick true (cb := ((y42.2) != 0)) (bV true) wants_none rfl hb44 rfl rfl ?_
                refine aops_nil ?_
                refine awp_cond_t rfl rfl ?_
                refine awp_seq ?_
                refine awp_region ?_
                refine aops_assign (bV false) wants_none rfl rfl ?_
                refine aops_nil ?_
                refine awp_ret ?_
                obtain rfl := Option.some.inj h
                exact ⟨.inl rfl, .one (.tmp rfl (Imm.con _))⟩
              · replace h := ite_f hb44 h
                refine aops_move (bV (y42.1)) (wants_some (c := ((y42.2) != 0)) (b := false) 77 rfl rfl hb44) rfl rfl ?_
                refine aops_not (wants_some (c := ((y42.2) != 0)) (b := false) 77 rfl rfl hb44) rfl rfl ?_
                refine aops_pick false (cb := ((y42.2) != 0)) (bV (!(y42.1))) wants_none rfl hb44 rfl rfl ?_
                refine aops_nil ?_
                refine awp_cond (!(y42.1)) rfl (fun hb45 => ?_) (fun hb45 => ?_)
                · replace h := ite_t hb45 h
                  refine awp_seq ?_
                  refine awp_region ?_
                  refine aops_assign (bV false) wants_none rfl rfl ?_
                  refine aops_nil ?_
                  refine awp_ret ?_
                  obtain rfl := Option.some.inj h
                  exact ⟨.inl rfl, .one (.tmp rfl (Imm.con _))⟩
                · replace h := ite_f hb45 h
                  refine awp_skip ?_
                  exact ⟨(), h, (ghost_ren 1 (fun i => ([0] : List Nat).getD i 0) _ _ (by decide) (EnvSub.get (.cons (Sub.imm (Imm.con _)) (.cons (Sub.imm (Imm.con _)) (.cons (Sub.imm (Imm.con _)) (.cons (Sub.ptr rfl rfl) (.cons (Sub.imm (Imm.con _)) .nil)))))) (HpSub.get (.cons rfl (ObSub.box (.cons (Sub.imm (Imm.lst _ _)) (.cons (Sub.imm (Imm.lst _ _)) .nil))) .nil)))⟩
            · replace h := ite_f hb41 h
              refine awp_skip ?_
              exact ⟨(), h, (ghost_ren 1 (fun i => ([0] : List Nat).getD i 0) _ _ (by decide) (EnvSub.get (.cons (Sub.imm (Imm.con _)) (.cons (Sub.imm (Imm.con _)) (.cons (Sub.imm (Imm.con _)) (.cons (Sub.ptr rfl rfl) (.cons (Sub.imm (Imm.con _)) .nil)))))) (HpSub.get (.cons rfl (ObSub.box (.cons (Sub.imm (Imm.lst _ _)) (.cons (Sub.imm (Imm.lst _ _)) .nil))) .nil)))⟩
          · clear h
            intro _ h
            subst hk40
            refine awp_seq ?_
            refine awp_seq ?_
            refine awp_region ?_
            refine aops_move (iV a4) wants_none rfl rfl ?_
            refine aops_move (iV a2) wants_none rfl rfl ?_
            refine aops_bin (.bool (decide (a4 < a2))) wants_none rfl rfl rfl rfl ?_
            refine aops_move (bV (decide (a4 < a2))) wants_none rfl rfl ?_
            rcases Bool.eq_false_or_eq_true (decide (a4 < a2)) with hb46 | hb46
            · replace h := ite_t hb46 h
              refine aops_skip (wants_some (c := (decide (a4 < a2))) (b := true) 84 rfl rfl hb46) rfl rfl ?_
              refine aops_skip (wants_some (c := (decide (a4 < a2))) (b := true) 84 rfl rfl hb46) rfl rfl ?_
              refine aops_skip (wants_some (c := (decide (a4 < a2))) (b := true) 84 rfl rfl hb46) rfl rfl ?_
              refine aops_pick true (cb := (decide (a4 < a2))) (bV true) wants_none rfl hb46 rfl rfl ?_
              refine aops_nil ?_
              refine awp_cond_t rfl rfl ?_
              refine awp_seq ?_
              refine awp_region ?_
              replace h := bind_some h
              obtain ⟨y47, hx48, h⟩ := h
              refine aops_call (bV y47) [] fOk23 wants_none evm_nil .nil (W23 F  y47 hx48) rfl ?_
              refine aops_assign (bV y47) wants_none rfl rfl ?_
              refine aops_nil ?_
              refine awp_ret ?_
              obtain rfl := Option.some.inj h
              exact ⟨.inl rfl, .one (.tmp rfl (Imm.con _))⟩
            · replace h := ite_f hb46 h
              refine aops_move (iV a4) (wants_some (c := (decide (a4 < a2))) (b := false) 84 rfl rfl hb46) rfl rfl ?_
              refine aops_move (iV (y5.1)) (wants_some (c := (decide (a4 < a2))) (b := false) 84 rfl rfl hb46) rfl rfl ?_
              refine aops_bin (.bool (decide (a4 > (y5.1)))) (wants_some (c := (decide (a4 < a2))) (b := false) 84 rfl rfl hb46) rfl rfl rfl rfl ?_
              refine aops_pick false (cb := (decide (a4 < a2))) (bV (decide (a4 > (y5.1)))) wants_none rfl hb46 rfl rfl ?_
              refine aops_nil ?_
              refine awp_cond (decide (a4 > (y5.1))) rfl (fun hb49 => ?_) (fun hb49 => ?_)
              · replace h := ite_t hb49 h
                refine awp_seq ?_
                refine awp_region ?_
                replace h := bind_some h
                obtain ⟨y50, hx51, h⟩ := h
                refine aops_call (bV y50) [] fOk23 wants_none evm_nil .nil (W23 F  y50 hx51) rfl ?_
                refine aops_assign (bV y50) wants_none rfl rfl ?_
                refine aops_nil ?_
                refine awp_ret ?_
                obtain rfl := Option.some.inj h
                exact ⟨.inl rfl, .one (.tmp rfl (Imm.con _))⟩
              · replace h := ite_f hb49 h
                refine awp_skip ?_
                refine awp_seq ?_
                refine awp_region ?_
                refine aops_load_agg (cs := [(V.lst 1 (a1.Free.map encI_i64)), (V.lst 1 (a1.Holidays.map encI_i64))]) tA24 wants_none rfl rfl rfl rfl rfl rfl ?_
                refine aops_move (iV a2) wants_none rfl rfl ?_
                refine aops_move (iV a4) wants_none rfl rfl ?_
                replace h := bind_some h
                obtain ⟨y52, hx53, h⟩ := h
                refine aops_call (V.tup [(iV (y52.1)), (iV (y52.2))]) [(V.agg [(V.lst 1 (a1.Free.map encI_i64)), (V.lst 1 (a1.Holidays.map encI_i64))]), (iV a2), (iV a4)] fOk17 wants_none (evm_cons rfl (evm_cons rfl (evm_cons rfl evm_nil))) (.cons (Imm.agg (.cons (Imm.lst _ _) (.cons (Imm.lst _ _) .nil))) (.cons (Imm.con _) (.cons (Imm.con _) .nil))) (W17 F a1 a2 a4 y52 hx53) rfl ?_
                refine aops_move (V.tup [(iV (y52.1)), (iV (y52.2))]) wants_none rfl rfl ?_
                refine aops_extract (iV (y52.1)) wants_none rfl rfl rfl ?_
                refine aops_extract (iV (y52.2)) wants_none rfl rfl rfl ?_
                refine aops_assign (iV (y52.1)) wants_none rfl rfl ?_
                refine aops_assign (iV (y52.2)) wants_none rfl rfl ?_
                refine aops_nil ?_
                refine awp_seq ?_
                refine awp_region ?_
                refine aops_load_agg (cs := [(V.lst 1 (a1.Free.map encI_i64)), (V.lst 1 (a1.Holidays.map encI_i64))]) tA24 wants_none rfl rfl rfl rfl rfl rfl ?_
                refine aops_move (iV a4) wants_none rfl rfl ?_
                refine aops_move (iV (y5.1)) wants_none rfl rfl ?_
                replace h := bind_some h
                obtain ⟨y54, hx55, h⟩ := h
                refine aops_call (V.tup [(iV (y54.1)), (iV (y54.2))]) [(V.agg [(V.lst 1 (a1.Free.map encI_i64)), (V.lst 1 (a1.Holidays.map encI_i64))]), (iV a4), (iV (y5.1))] fOk17 wants_none (evm_cons rfl (evm_cons rfl (evm_cons rfl evm_nil))) (.cons (Imm.agg (.cons (Imm.lst _ _) (.cons (Imm.lst _ _) .nil))) (.cons (Imm.con _) (.cons (Imm.con _) .nil))) (W17 F a1 a4 (y5.1) y54 hx55) rfl ?_
                refine aops_move (V.tup [(iV (y54.1)), (iV (y54.2))]) wants_none rfl rfl ?_
                refine aops_extract (iV (y54.1)) wants_none rfl rfl rfl ?_
                refine aops_extract (iV (y54.2)) wants_none rfl rfl rfl ?_
                refine aops_assign (iV (y54.1)) wants_none rfl rfl ?_
                refine aops_assign (iV (y54.2)) wants_none rfl rfl ?_
                refine aops_nil ?_
                refine awp_seq ?_
                refine awp_region ?_
                refine aops_move (iV (y52.2)) wants_none rfl rfl ?_
                refine aops_bin (.bool ((y52.2) == 0)) wants_none rfl rfl rfl rfl ?_
                refine aops_move (bV ((y52.2) == 0)) wants_none rfl rfl ?_
                rcases Bool.eq_false_or_eq_true ((y52.2) == 0) with hb56 | hb56
                · replace h := ite_t hb56 h
                  refine aops_move (iV (y54.2)) (wants_some (c := ((y52.2) == 0)) (b := true) 106 rfl rfl hb56) rfl rfl ?_
                  refine aops_bin (.bool ((y54.2) == 0)) (wants_some (c := ((y52.2) == 0)) (b := true) 106 rfl rfl hb56) rfl rfl rfl rfl ?_
                  refine aops_pick true (cb := ((y52.2) == 0)) (bV ((y54.2) == 0)) wants_none rfl hb56 rfl rfl ?_
                  refine aops_move (bV ((y54.2) == 0)) wants_none rfl rfl ?_
                  rcases Bool.eq_false_or_eq_true ((y54.2) == 0) with hb57 | hb57
                  · replace h := ite_t hb57 h
                    refine aops_move (iV (y52.1)) (wants_some (c := ((y54.2) == 0)) (b := true) 110 rfl rfl hb57) rfl rfl ?_
                    refine aops_move (iV (y54.1)) (wants_some (c := ((y54.2) == 0)) (b := true) 110 rfl rfl hb57) rfl rfl ?_
                    refine aops_bin (.int .i64 (w64 ((y52.1) + (y54.1)))) (wants_some (c := ((y54.2) == 0)) (b := true) 110 rfl rfl hb57) rfl rfl rfl rfl ?_
                    refine aops_move (iV a3) (wants_some (c := ((y54.2) == 0)) (b := true) 110 rfl rfl hb57) rfl rfl ?_
                    refine aops_bin (.bool ((w64 ((y52.1) + (y54.1))) == a3)) (wants_some (c := ((y54.2) == 0)) (b := true) 110 rfl rfl hb57) rfl rfl rfl rfl ?_
                    refine aops_pick true (cb := ((y54.2) == 0)) (bV ((w64 ((y52.1) + (y54.1))) == a3)) wants_none rfl hb57 rfl rfl ?_
                    refine aops_move (bV ((w64 ((y52.1) + (y54.1))) == a3)) wants_none rfl rfl ?_
                    rcases Bool.eq_false_or_eq_true ((w64 ((y52.1) + (y54.1))) == a3) with hb58 | hb58
                    · replace h := ite_t hb58 h
                      replace h := bind_some h
                      obtain ⟨y59, hx60, h⟩ := h
                      refine aops_call (bV y59) [] fOk23 (wants_some (c := ((w64 ((y52.1) + (y54.1))) == a3)) (b := true) 117 rfl rfl hb58) evm_nil .nil (W23 F  y59 hx60) rfl ?_
                      refine aops_pick true (cb := ((w64 ((y52.1) + (y54.1))) == a3)) (bV y59) wants_none rfl hb58 rfl rfl ?_
                      refine aops_assign (bV y59) wants_none rfl rfl ?_
                      refine aops_nil ?_
                      refine awp_ret ?_
                      obtain rfl := Option.some.inj h
                      exact ⟨.inl rfl, .one (.tmp rfl (Imm.con _))⟩
                    · replace h := ite_f hb58 h
                      refine aops_skip (wants_some (c := ((w64 ((y52.1) + (y54.1))) == a3)) (b := false) 117 rfl rfl hb58) rfl rfl ?_
                      refine aops_pick false (cb := ((w64 ((y52.1) + (y54.1))) == a3)) (bV false) wants_none rfl hb58 rfl rfl ?_
                      refine aops_assign (bV false) wants_none rfl rfl ?_
                      refine aops_nil ?_
                      refine awp_ret ?_
                      obtain rfl := Option.some.inj h
                      exact ⟨.inl rfl, .one (.tmp rfl (Imm.con _))⟩
                  · replace h := ite_f hb57 h
                    refine aops_skip (wants_some (c := ((y54.2) == 0)) (b := false) 110 rfl rfl hb57) rfl rfl ?_
                    refine aops_skip (wants_some (c := ((y54.2) == 0)) (b := false) 110 rfl rfl hb57) rfl rfl ?_
                    refine aops_skip (wants_some (c := ((y54.2) == 0)) (b := false) 110 rfl rfl hb57) rfl rfl ?_
                    refine aops_skip (wants_some (c := ((y54.2) == 0)) (b := false) 110 rfl rfl hb57) rfl rfl ?_
                    refine aops_skip (wants_some (c := ((y54.2) == 0)) (b := false) 110 rfl rfl hb57) rfl rfl ?_
                    refine aops_pick false (cb := ((y54.2) == 0)) (bV false) wants_none rfl hb57 rfl rfl ?_
                    refine aops_move (bV false) wants_none rfl rfl ?_
                    refine aops_skip (wants_some (c := false) (b := false) 117 rfl rfl rfl) rfl rfl ?_
                    refine aops_pick false (cb := false) (bV false) wants_none rfl rfl rfl rfl ?_
                    refine aops_assign (bV false) wants_none rfl rfl ?_
                    refine aops_nil ?_
                    refine awp_ret ?_
                    obtain rfl := Option.some.inj h
                    exact ⟨.inl rfl, .one (.tmp rfl (Imm.con _))⟩
                · replace h := ite_f hb56 h
                  refine aops_skip (wants_some (c := ((y52.2) == 0)) (b := false) 106 rfl rfl hb56) rfl rfl ?_
                  refine aops_skip (wants_some (c := ((y52.2) == 0)) (b := false) 106 rfl rfl hb56) rfl rfl ?_
                  refine aops_pick false (cb := ((y52.2) == 0)) (bV false) wants_none rfl hb56 rfl rfl ?_
                  refine aops_move (bV false) wants_none rfl rfl ?_
                  refine aops_skip (wants_some (c := false) (b := false) 110 rfl rfl rfl) rfl rfl ?_
                  refine aops_skip (wants_some (c := false) (b := false) 110 rfl rfl rfl) rfl rfl ?_
                  refine aops_skip (wants_some (c := false) (b := false) 110 rfl rfl rfl) rfl rfl ?_
                  refine aops_skip (wants_some (c := false) (b := false) 110 rfl rfl rfl) rfl rfl ?_
                  refine aops_skip (wants_some (c := false) (b := false) 110 rfl rfl rfl) rfl rfl ?_
                  refine aops_pick false (cb := false) (bV false) wants_none rfl rfl rfl rfl ?_
                  refine aops_move (bV false) wants_none rfl rfl ?_
                  refine aops_skip (wants_some (c := false) (b := false) 117 rfl rfl rfl) rfl rfl ?_
                  refine aops_pick false (cb := false) (bV false) wants_none rfl rfl rfl rfl ?_
                  refine aops_assign (bV false) wants_none rfl rfl ?_
                  refine aops_nil ?_
                  refine awp_ret ?_
                  obtain rfl := Option.some.inj h
                  exact ⟨.inl rfl, .one (.tmp rfl (Imm.con _))⟩

end Go.Proofs.Ytkciogeafbbggaa
