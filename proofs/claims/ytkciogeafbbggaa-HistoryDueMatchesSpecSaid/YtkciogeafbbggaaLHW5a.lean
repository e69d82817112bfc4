/- Part of the proof: HW5a. -/
import Derived.Test.YtkciogeafbbggaaLHM
import Derived.Test.YtkciogeafbbggaaLHW3a
import Derived.KernelRfl
namespace Go.Proofs.Ytkciogeafbbggaa
open Go Go.Pv
set_option linter.unusedVariables false
set_option maxRecDepth 100000
theorem W26 (F : Nat) (a1 : (List TTerm)) (r : Int) (h : M26 F a1 = some r) : Pure Try.prog 26 [(V.lst 2 (a1.map encTTerm))] (iV r) := by
  refine pure_enter Try.func26 rfl rfl (l := [.tmp 2]) rfl rfl [(0, (V.lst 2 (a1.map encTTerm)))] rfl (fun w0 m0 => ?_)
  unfold M26 at h
  refine awp_seq ?_
  refine awp_region ?_
  refine aops_assign (iV 0) wants_none rfl rfl ?_
  refine aops_nil ?_
  refine awp_seq ?_
  refine awp_block ?_
  refine awp_seq ?_
  refine awp_region ?_
  refine aops_move (V.lst 2 (a1.map encTTerm)) wants_none rfl rfl ?_
  refine aops_len (n := a1.length) tIsSl33 wants_none rfl (congrArg some (List.length_map ..)) rfl ?_
  refine aops_bin (.bool (((a1.length : Nat) : Int) == 0)) wants_none rfl rfl rfl rfl ?_
  refine aops_assign (bV (((a1.length : Nat) : Int) == 0)) wants_none rfl rfl ?_
  refine aops_nil ?_
  refine awp_cond (((a1.length : Nat) : Int) == 0) rfl (fun hb2 => ?_) (fun hb2 => ?_)
  · replace h := ite_t hb2 h
    refine awp_seq ?_
    refine awp_region ?_
    refine aops_assign (iV 13) wants_none rfl rfl ?_
    refine aops_nil ?_
    refine awp_ret ?_
    obtain rfl := Option.some.inj h
    exact ⟨.inl rfl, .one (.tmp rfl (Imm.con _))⟩
  · replace h := ite_f hb2 h
    refine awp_seq ?_
    refine awp_region ?_
    refine aops_move (V.lst 2 (a1.map encTTerm)) wants_none rfl rfl ?_
    refine aops_len (n := a1.length) tIsSl33 wants_none rfl (congrArg some (List.length_map ..)) rfl ?_
    refine aops_bin (.bool (decide (((a1.length : Nat) : Int) > 10))) wants_none rfl rfl rfl rfl ?_
    refine aops_assign (bV (decide (((a1.length : Nat) : Int) > 10))) wants_none rfl rfl ?_
    refine aops_nil ?_
    refine awp_cond (decide (((a1.length : Nat) : Int) > 10)) rfl (fun hb3 => ?_) (fun hb3 => ?_)
    · replace h := ite_t hb3 h
      refine awp_seq ?_
      refine awp_region ?_
      refine aops_assign (iV 3) wants_none rfl rfl ?_
      refine aops_nil ?_
      refine awp_ret ?_
      obtain rfl := Option.some.inj h
      exact ⟨.inl rfl, .one (.tmp rfl (Imm.con _))⟩
    · replace h := ite_f hb3 h
      refine awp_skip ?_
      refine awp_seq ?_
      refine awp_seq ?_
      refine awp_region ?_
      refine aops_move (V.lst 2 (a1.map encTTerm)) wants_none rfl rfl ?_
      refine aops_len (n := a1.length) tIsSl33 wants_none rfl (congrArg some (List.length_map ..)) rfl ?_
      refine aops_move (iV 0) wants_none rfl rfl ?_
      refine aops_nil ?_
      replace h := jn_elim h
      obtain ⟨k4, hk4, h⟩ := h
      refine awp_cut (fun _ : Unit => (⟨[], [], 0⟩ : St)) (fun _ : Unit => k4 = some r) ?_ ?_
      · clear hk4
        refine awp_block ?_
        refine awp_loop_ind (fun (p : Int) => (⟨[(0, (V.lst 2 (a1.map encTTerm))), (13, (V.lst 2 (a1.map encTTerm))), (14, (iV ((a1.length : Nat) : Int))), (15, (iV p))], [], 0⟩ : St)) (fun n (p : Int) => M26_L1 F a1 k4 n p = some r) (fun p h => by simp [M26_L1] at h) (fun n ih p h => ?_) F 0 h (ghost_ren 0 (fun i => ([] : List Nat).getD i 0) _ _ (by decide) (EnvSub.get (.cons (Sub.imm (Imm.lst _ _)) (.cons (Sub.imm (Imm.lst _ _)) (.cons (Sub.imm (Imm.con _)) (.cons (Sub.imm (Imm.con _)) .nil))))) (HpSub.get .nil))
        revert p
        intro n6 h
        unfold M26_L1 at h
        refine awp_loop ?_
        refine awp_seq ?_
        refine awp_region ?_
        refine aops_bin (.bool (decide (n6 < ((a1.length : Nat) : Int)))) wants_none rfl rfl rfl rfl ?_
        refine aops_nil ?_
        refine awp_seq ?_
        refine awp_cond (decide (n6 < ((a1.length : Nat) : Int))) rfl (fun hb7 => ?_) (fun hb7 => ?_)
        · replace h := ite_t hb7 h
          refine awp_skip ?_
          refine awp_seq ?_
          refine awp_block ?_
          refine awp_seq ?_
          refine awp_region ?_
          refine aops_move (iV n6) wants_none rfl rfl ?_
          replace h := bind_some h
          obtain ⟨x8, hx9, h⟩ := h
          refine aops_index_lst [(iV x8.Severity), (iV x8.Days)] tSl33 wants_none rfl rfl (idx_some hx9).1 (idx_map encTTerm hx9) rfl ?_
          refine aops_iload_agg (cs := [(iV x8.Severity), (iV x8.Days)]) tA113 wants_none rfl rfl rfl rfl ?_
          refine aops_alloc tZ113 rfl rfl wants_none rfl ?_
          refine aops_assign (iV n6) wants_none rfl rfl ?_
          refine aops_store [(iV x8.Severity), (iV x8.Days)] [[(iV x8.Severity), (iV x8.Days)]] tS113 wants_none rfl rfl rfl rfl rfl rfl rfl rfl ?_
          refine aops_nil ?_
          refine awp_block ?_
          refine awp_seq ?_
          refine awp_region ?_
          refine aops_fieldAddr tF113_0 wants_none rfl rfl ?_
          refine aops_load_cell (iV x8.Severity) tC3 wants_none rfl rfl rfl rfl rfl ?_
          refine aops_bin (.bool (decide (x8.Severity < 0))) wants_none rfl rfl rfl rfl ?_
          refine aops_move (bV (decide (x8.Severity < 0))) wants_none rfl rfl ?_
          rcases Bool.eq_false_or_eq_true (decide (x8.Severity < 0)) with hb10 | hb10
          · replace h := ite_t hb10 h
            refine aops_skip (wants_some (c := (decide (x8.Severity < 0))) (b := true) 24 rfl rfl hb10) rfl rfl ?_
            refine aops_skip (wants_some (c := (decide (x8.Severity < 0))) (b := true) 24 rfl rfl hb10) rfl rfl ?_
            refine aops_skip (wants_some (c := (decide (x8.Severity < 0))) (b := true) 24 rfl rfl hb10) rfl rfl ?_
            refine aops_pick true (cb := (decide (x8.Severity < 0))) (bV true) wants_none rfl hb10 rfl rfl ?_
            refine aops_move (bV true) wants_none rfl rfl ?_
            refine aops_skip (wants_some (c := true) (b := true) 29 rfl rfl rfl) rfl rfl ?_
            refine aops_skip (wants_some (c := true) (b := true) 29 rfl rfl rfl) rfl rfl ?_
            refine aops_skip (wants_some (c := true) (b := true) 29 rfl rfl rfl) rfl rfl ?_
            refine aops_pick true (cb := true) (bV true) wants_none rfl rfl rfl rfl ?_
            refine aops_move (bV true) wants_none rfl rfl ?_
            refine aops_skip (wants_some (c := true) (b := true) 34 rfl rfl rfl) rfl rfl ?_
            refine aops_skip (wants_some (c := true) (b := true) 34 rfl rfl rfl) rfl rfl ?_
            refine aops_skip (wants_some (c := true) (b := true) 34 rfl rfl rfl) rfl rfl ?_
            refine aops_pick true (cb := true) (bV true) wants_none rfl rfl rfl rfl ?_
            refine aops_assign (bV true) wants_none rfl rfl ?_
            refine aops_nil ?_
            refine awp_cond_t rfl rfl ?_
            refine awp_seq ?_
            refine awp_region ?_
            refine aops_assign (iV 9) wants_none rfl rfl ?_
            refine aops_nil ?_
            refine awp_ret ?_
            obtain rfl := Option.some.inj h
            exact ⟨.inl rfl, .one (.tmp rfl (Imm.con _))⟩
          · replace h := ite_f hb10 h
            refine aops_fieldAddr tF113_0 (wants_some (c := (decide (x8.Severity < 0))) (b := false) 24 rfl rfl hb10) rfl rfl ?_
            refine aops_load_cell (iV x8.Severity) tC3 (wants_some (c := (decide (x8.Severity < 0))) (b := false) 24 rfl rfl hb10) rfl rfl rfl rfl rfl ?_
            refine aops_bin (.bool (decide (x8.Severity > 100))) (wants_some (c := (decide (x8.Severity < 0))) (b := false) 24 rfl rfl hb10) rfl rfl rfl rfl ?_
            refine aops_pick false (cb := (decide (x8.Severity < 0))) (bV (decide (x8.Severity > 100))) wants_none rfl hb10 rfl rfl ?_
            refine aops_move (bV (decide (x8.Severity > 100))) wants_none rfl rfl ?_
            rcases Bool.eq_false_or_eq_true (decide (x8.Severity > 100)) with hb11 | hb11
            · replace h := ite_t hb11 h
              refine aops_skip (wants_some (c := (decide (x8.Severity > 100))) (b := true) 29 rfl rfl hb11) rfl rfl ?_
              refine aops_skip (wants_some (c := (decide (x8.Severity > 100))) (b := true) 29 rfl rfl hb11) rfl rfl ?_
              refine aops_skip (wants_some (c := (decide (x8.Severity > 100))) (b := true) 29 rfl rfl hb11) rfl rfl ?_
              refine aops_pick true (cb := (decide (x8.Severity > 100))) (bV true) wants_none rfl hb11 rfl rfl ?_
              refine aops_move (bV true) wants_none rfl rfl ?_
              refine aops_skip (wants_some (c := true) (b := true) 34 rfl rfl rfl) rfl rfl ?_
              refine aops_skip (wants_some (c := true) (b := true) 34 rfl rfl rfl) rfl rfl ?_
              refine aops_skip (wants_some (c := true) (b := true) 34 rfl rfl rfl) rfl rfl ?_
              refine aops_pick true (cb := true) (bV true) wants_none rfl rfl rfl rfl ?_
              refine aops_assign (bV true) wants_none rfl rfl ?_
              refine aops_nil ?_
              refine awp_cond_t rfl rfl ?_
              refine awp_seq ?_
              refine awp_region ?_
              refine aops_assign (iV 9) wants_none rfl rfl ?_
              refine aops_nil ?_
              refine awp_ret ?_
              obtain rfl := Option.some.inj h
              exact ⟨.inl rfl, .one (.tmp rfl (Imm.con _))⟩
            · replace h := ite_f hb11 h
              refine aops_fieldAddr tF113_1 (wants_some (c := (decide (x8.Severity > 100))) (b := false) 29 rfl rfl hb11) rfl rfl ?_
              refine aops_load_cell (iV x8.Days) tC3 (wants_some (c := (decide (x8.Severity > 100))) (b := false) 29 rfl rfl hb11) rfl rfl rfl rfl rfl ?_
              refine aops_bin (.bool (decide (x8.Days < 0))) (wants_some (c := (decide (x8.Severity > 100))) (b := false) 29 rfl rfl hb11) rfl rfl rfl rfl ?_
              refine aops_pick false (cb := (decide (x8.Severity > 100))) (bV (decide (x8.Days < 0))) wants_none rfl hb11 rfl rfl ?_
              refine aops_move (bV (decide (x8.Days < 0))) wants_none rfl rfl ?_
              rcases Bool.eq_false_or_eq_true (decide (x8.Days < 0)) with hb12 | hb12
              · replace h := ite_t hb12 h
                refine aops_skip (wants_some (c := (decide (x8.Days < 0))) (b := true) 34 rfl rfl hb12) rfl rfl ?_
                refine aops_skip (wants_some (c := (decide (x8.Days < 0))) (b := true) 34 rfl rfl hb12) rfl rfl ?_
                refine aops_skip (wants_some (c := (decide (x8.Days < 0))) (b := true) 34 rfl rfl hb12) rfl rfl ?_
                refine aops_pick true (cb := (decide (x8.Days < 0))) (bV true) wants_none rfl hb12 rfl rfl ?_
                refine aops_assign (bV true) wants_none rfl rfl ?_
                refine aops_nil ?_
                refine awp_cond_t rfl rfl ?_
                refine awp_seq ?_
                refine awp_region ?_
                refine aops_assign (iV 9) wants_none rfl rfl ?_
                refine aops_nil ?_
                refine awp_ret ?_
                obtain rfl := Option.some.inj h
                exact ⟨.inl rfl, .one (.tmp rfl (Imm.con _))⟩
              · replace h := ite_f hb12 h
                refine aops_fieldAddr tF113_1 (wants_some (c := (decide (x8.Days < 0))) (b := false) 34 rfl rfl hb12) rfl rfl ?_
                refine aops_load_cell (iV x8.Days) tC3 (wants_some (c := (decide (x8.Days < 0))) (b := false) 34 rfl rfl hb12) rfl rfl rfl rfl rfl ?_
                refine aops_bin (.bool (decide (x8.Days > 10000))) (wants_some (c := (decide (x8.Days < 0))) (b := false) 34 rfl rfl hb12) rfl rfl rfl rfl ?_
                refine aops_pick false (cb := (decide (x8.Days < 0))) (bV (decide (x8.Days > 10000))) wants_none rfl hb12 rfl rfl ?_
                refine aops_assign (bV (decide (x8.Days > 10000))) wants_none rfl rfl ?_
                refine aops_nil ?_
                replace h := jn_elim h
                obtain ⟨k13, hk13, h⟩ := h
                refine awp_cut (fun _ : Unit => (⟨[(0, (V.lst 2 (a1.map encTTerm))), (13, (V.lst 2 (a1.map encTTerm))), (14, (iV ((a1.length : Nat) : Int))), (15, (iV n6)), (25, (V.ptr 0 2 0 0)), (26, (iV x8.Severity)), (27, (bV (decide (x8.Severity > 100)))), (30, (V.ptr 0 2 0 1)), (31, (iV x8.Days)), (32, (bV (decide (x8.Days < 0)))), (35, (V.ptr 0 2 0 1)), (36, (iV x8.Days)), (37, (bV (decide (x8.Days > 10000))))], [(0, (Ob.arr 113 2 [[(iV x8.Severity), (iV x8.Days)]]))], 1⟩ : St)) (fun _ : Unit => k13 = some r) ?_ ?_
                · clear hk13
                  refine awp_cond (decide (x8.Days > 10000)) rfl (fun hb14 => ?_) (fun hb14 => ?_)
                  · replace h := ite_t hb14 h
                    refine awp_seq ?_
                    refine awp_region ?_
                    refine aops_assign (iV 9) wants_none rfl rfl ?_
                    refine aops_nil ?_
                    refine awp_ret ?_
                    obtain rfl := Option.some.inj h
                    exact ⟨.inl rfl, .one (.tmp rfl (Imm.con _))⟩
                  · replace h := ite_f hb14 h
                    refine awp_seq ?_
                    rcases Bool.eq_false_or_eq_true (decide (n6 > 0)) with hb15 | hb15
                    · replace h := ite_t hb15 h
                      replace h := bind_some h
                      obtain ⟨x16, hx17, h⟩ := h
                      refine awp_any [OD.mk [(3, (iV n6))] [] [(40, (iV n6))] [],
                            OD.mk [(40, (iV n6))] [] [(41, (bV (decide (n6 > 0))))] [],
                            OD.mk [(41, (bV (decide (n6 > 0))))] [] [(42, (bV (decide (n6 > 0))))] [],
                            OD.mk [(42, (bV (decide (n6 > 0)))), (4, (V.ptr 0 2 0 0))] [] [(43, (V.ptr 0 2 0 0))] [],
                            OD.mk [(42, (bV (decide (n6 > 0)))), (43, (V.ptr 0 2 0 0))] [(0, (Ob.arr 113 2 [[(iV x8.Severity), (iV x8.Days)]]))] [(44, (iV x8.Severity))] [],
                            OD.mk [(42, (bV (decide (n6 > 0)))), (0, (V.lst 2 (a1.map encTTerm)))] [] [(45, (V.lst 2 (a1.map encTTerm)))] [],
                            OD.mk [(42, (bV (decide (n6 > 0)))), (3, (iV n6))] [] [(46, (iV n6))] [],
                            OD.mk [(42, (bV (decide (n6 > 0)))), (46, (iV n6))] [] [(47, (iV (w64 (n6 - 1))))] [],
                            OD.mk [(42, (bV (decide (n6 > 0)))), (45, (V.lst 2 (a1.map encTTerm))), (47, (iV (w64 (n6 - 1))))] [] [(48, (V.iptr [(iV x16.Severity), (iV x16.Days)] 0))] [],
                            OD.mk [(42, (bV (decide (n6 > 0)))), (48, (V.iptr [(iV x16.Severity), (iV x16.Days)] 0))] [] [(49, (V.iptr [(iV x16.Severity), (iV x16.Days)] 0))] [],
                            OD.mk [(42, (bV (decide (n6 > 0)))), (49, (V.iptr [(iV x16.Severity), (iV x16.Days)] 0))] [] [(50, (iV x16.Severity))] [],
                            OD.mk [(42, (bV (decide (n6 > 0)))), (44, (iV x8.Severity)), (50, (iV x16.Severity))] [] [(51, (bV (decide (x8.Severity ≤ x16.Severity))))] [],
                            OD.mk [(42, (bV (decide (n6 > 0)))), (51, (bV (decide (x8.Severity ≤ x16.Severity))))] [] [(52, (bV (decide (x8.Severity ≤ x16.Severity))))] [],
                            OD.mk [(52, (bV (decide (x8.Severity ≤ x16.Severity))))] [] [(39, (bV (decide (x8.Severity ≤ x16.Severity))))] []] mixed ⟨⟨rfl, trivial⟩, trivial, ⟨⟨rfl, trivial⟩, trivial, ⟨⟨rfl, trivial⟩, trivial, ⟨⟨rfl, rfl, trivial⟩, trivial, ⟨⟨rfl, rfl, trivial⟩, ⟨rfl, trivial⟩, ⟨⟨rfl, rfl, trivial⟩, trivial, ⟨⟨rfl, rfl, trivial⟩, trivial, ⟨⟨rfl, rfl, trivial⟩, trivial, ⟨⟨rfl, rfl, rfl, trivial⟩, trivial, ⟨⟨rfl, rfl, trivial⟩, trivial, ⟨⟨rfl, rfl, trivial⟩, trivial, ⟨⟨rfl, rfl, rfl, trivial⟩, trivial, ⟨⟨rfl, rfl, trivial⟩, trivial, ⟨⟨rfl, trivial⟩, trivial, trivial⟩⟩⟩⟩⟩⟩⟩⟩⟩⟩⟩⟩⟩⟩ (by kernel_rfl) (.cons (fun S hn h hh => aops_move (iV n6) wants_none h.1 rfl (aops_nil ⟨rfl, rfl⟩)) (.cons (fun S hn h hh => aops_bin (.bool (decide (n6 > 0))) wants_none h.1 rfl rfl rfl (aops_nil ⟨rfl, rfl⟩)) (.cons (fun S hn h hh => aops_move (bV (decide (n6 > 0))) wants_none h.1 rfl (aops_nil ⟨rfl, rfl⟩)) (.cons (fun S hn h hh => aops_fieldAddr tF113_0 (wants_some (c := (decide (n6 > 0))) (b := true) 42 rfl h.1 hb15) h.2.1 rfl (aops_nil ⟨rfl, rfl⟩)) (.cons (fun S hn h hh => aops_load_cell (iV x8.Severity) tC3 (wants_some (c := (decide (n6 > 0))) (b := true) 42 rfl h.1 hb15) h.2.1 hh.1 rfl rfl rfl (aops_nil ⟨rfl, rfl⟩)) (.cons (fun S hn h hh => aops_move (V.lst 2 (a1.map encTTerm)) (wants_some (c := (decide (n6 > 0))) (b := true) 42 rfl h.1 hb15) h.2.1 rfl (aops_nil ⟨rfl, rfl⟩)) (.cons (fun S hn h hh => aops_move (iV n6) (wants_some (c := (decide (n6 > 0))) (b := true) 42 rfl h.1 hb15) h.2.1 rfl (aops_nil ⟨rfl, rfl⟩)) (.cons (fun S hn h hh => aops_bin (.int .i64 (w64 (n6 - 1))) (wants_some (c := (decide (n6 > 0))) (b := true) 42 rfl h.1 hb15) h.2.1 rfl rfl rfl (aops_nil ⟨rfl, rfl⟩)) (.cons (fun S hn h hh => aops_index_lst [(iV x16.Severity), (iV x16.Days)] tSl33 (wants_some (c := (decide (n6 > 0))) (b := true) 42 rfl h.1 hb15) h.2.1 h.2.2.1 (idx_some hx17).1 (idx_map encTTerm hx17) rfl (aops_nil ⟨rfl, rfl⟩)) (.cons (fun S hn h hh => aops_ifieldAddr tF113_0 (wants_some (c := (decide (n6 > 0))) (b := true) 42 rfl h.1 hb15) h.2.1 rfl (aops_nil ⟨rfl, rfl⟩)) (.cons (fun S hn h hh => aops_iload_cell (iV x16.Severity) tC3 (wants_some (c := (decide (n6 > 0))) (b := true) 42 rfl h.1 hb15) h.2.1 rfl rfl (aops_nil ⟨rfl, rfl⟩)) (.cons (fun S hn h hh => aops_bin (.bool (decide (x8.Severity ≤ x16.Severity))) (wants_some (c := (decide (n6 > 0))) (b := true) 42 rfl h.1 hb15) h.2.1 h.2.2.1 rfl rfl (aops_nil ⟨rfl, rfl⟩)) (.cons (fun S hn h hh => aops_pick true (cb := (decide (n6 > 0))) (bV (decide (x8.Severity ≤ x16.Severity))) wants_none h.1 hb15 h.2.1 rfl (aops_nil ⟨rfl, rfl⟩)) (.cons (fun S hn h hh => aops_assign (bV (decide (x8.Severity ≤ x16.Severity))) wants_none h.1 rfl (aops_nil ⟨rfl, rfl⟩)) .nil)))))))))))))) ?_
                      refine awp_cond (decide (x8.Severity ≤ x16.Severity)) rfl (fun hb18 => ?_) (fun hb18 => ?_)
                      · replace h := ite_t hb18 h
                        refine awp_seq ?_
                        refine awp_region ?_
                        refine aops_assign (iV 10) wants_none rfl rfl ?_
                        refine aops_nil ?_
                        refine awp_ret ?_
                        obtain rfl := Option.some.inj h
                        exact ⟨.inl rfl, .one (.tmp rfl (Imm.con _))⟩
                      · replace h := ite_f hb18 h
                        refine awp_skip ?_
                        exact ⟨(), h, (ghost_ren 1 (fun i => ([0] : List Nat).getD i 0) _ _ (by decide) (EnvSub.get (.cons (Sub.imm (Imm.lst _ _)) (.cons (Sub.imm (Imm.lst _ _)) (.cons (Sub.imm (Imm.con _)) (.cons (Sub.imm (Imm.con _)) (.cons (Sub.ptr rfl rfl) (.cons (Sub.imm (Imm.con _)) (.cons (Sub.imm (Imm.con _)) (.cons (Sub.ptr rfl rfl) (.cons (Sub.imm (Imm.con _)) (.cons (Sub.imm (Imm.con _)) (.cons (Sub.ptr rfl rfl) (.cons (Sub.imm (Imm.con _)) (.cons (Sub.imm (Imm.con _)) .nil)))))))))))))) (HpSub.get (.cons rfl (ObSub.box (.cons (Sub.imm (Imm.con _)) (.cons (Sub.imm (Imm.con _)) .nil))) .nil)))⟩
                    · replace h := ite_f hb15 h
                      refine awp_any [OD.mk [(3, (iV n6))] [] [(40, (iV n6))] [],
                            OD.mk [(40, (iV n6))] [] [(41, (bV (decide (n6 > 0))))] [],
                            OD.mk [(41, (bV (decide (n6 > 0))))] [] [(42, (bV (decide (n6 > 0))))] [],
                            OD.mk [(42, (bV (decide (n6 > 0))))] [] [(43, (V.con undef))] [],
                            OD.mk [(42, (bV (decide (n6 > 0))))] [] [(44, (V.con undef))] [],
                            OD.mk [(42, (bV (decide (n6 > 0))))] [] [(45, (V.con undef))] [],
                            OD.mk [(42, (bV (decide (n6 > 0))))] [] [(46, (V.con undef))] [],
                            OD.mk [(42, (bV (decide (n6 > 0))))] [] [(47, (V.con undef))] [],
                            OD.mk [(42, (bV (decide (n6 > 0))))] [] [(48, (V.con undef))] [],
                            OD.mk [(42, (bV (decide (n6 > 0))))] [] [(49, (V.con undef))] [],
                            OD.mk [(42, (bV (decide (n6 > 0))))] [] [(50, (V.con undef))] [],
                            OD.mk [(42, (bV (decide (n6 > 0))))] [] [(51, (V.con undef))] [],
                            OD.mk [(42, (bV (decide (n6 > 0))))] [] [(52, (bV false))] [],
                            OD.mk [(52, (bV false))] [] [(39, (bV false))] []] mixed ⟨⟨rfl, trivial⟩, trivial, ⟨⟨rfl, trivial⟩, trivial, ⟨⟨rfl, trivial⟩, trivial, ⟨⟨rfl, trivial⟩, trivial, ⟨⟨rfl, trivial⟩, trivial, ⟨⟨rfl, trivial⟩, trivial, ⟨⟨rfl, trivial⟩, trivial, ⟨⟨rfl, trivial⟩, trivial, ⟨⟨rfl, trivial⟩, trivial, ⟨⟨rfl, trivial⟩, trivial, ⟨⟨rfl, trivial⟩, trivial, ⟨⟨rfl, trivial⟩, trivial, ⟨⟨rfl, trivial⟩, trivial, ⟨⟨rfl, trivial⟩, trivial, trivial⟩⟩⟩⟩⟩⟩⟩⟩⟩⟩⟩⟩⟩⟩ (by kernel_rfl) (.cons (fun S hn h hh => aops_move (iV n6) wants_none h.1 rfl (aops_nil ⟨rfl, rfl⟩)) (.cons (fun S hn h hh => aops_bin (.bool (decide (n6 > 0))) wants_none h.1 rfl rfl rfl (aops_nil ⟨rfl, rfl⟩)) (.cons (fun S hn h hh => aops_move (bV (decide (n6 > 0))) wants_none h.1 rfl (aops_nil ⟨rfl, rfl⟩)) (.cons (fun S hn h hh => aops_skip (wants_some (c := (decide (n6 > 0))) (b := false) 42 rfl h.1 hb15) rfl rfl (aops_nil ⟨rfl, rfl⟩)) (.cons (fun S hn h hh => aops_skip (wants_some (c := (decide (n6 > 0))) (b := false) 42 rfl h.1 hb15) rfl rfl (aops_nil ⟨rfl, rfl⟩)) (.cons (fun S hn h hh => aops_skip (wants_some (c := (decide (n6 > 0))) (b := false) 42 rfl h.1 hb15) rfl rfl (aops_nil ⟨rfl, rfl⟩)) (.cons (fun S hn h hh => aops_skip (wants_some (c := (decide (n6 > 0))) (b := false) 42 rfl h.1 hb15) rfl rfl (aops_nil ⟨rfl, rfl⟩)) (.cons (fun S hn h hh => aops_skip (wants_some (c := (decide (n6 > 0))) (b := false) 42 rfl h.1 hb15) rfl rfl (aops_nil ⟨rfl, rfl⟩)) (.cons (fun S hn h hh => aops_skip (wants_some (c := (decide (n6 > 0))) (b := false) 42 rfl h.1 hb15) rfl rfl (aops_nil ⟨rfl, rfl⟩)) (.cons (fun S hn h hh => aops_skip (wants_some (c := (decide (n6 > 0))) (b := false) 42 rfl h.1 hb15) rfl rfl (aops_nil ⟨rfl, rfl⟩)) (.cons (fun S hn h hh => aops_skip (wants_some (c := (decide (n6 > 0))) (b := false) 42 rfl h.1 hb15) rfl rfl (aops_nil ⟨rfl, rfl⟩)) (.cons (fun S hn h hh => aops_skip (wants_some (c := (decide (n6 > 0))) (b := false) 42 rfl h.1 hb15) rfl rfl (aops_nil ⟨rfl, rfl⟩)) (.cons (fun S hn h hh => aops_pick false (cb := (decide (n6 > 0))) (bV false) wants_none h.1 hb15 rfl rfl (aops_nil ⟨rfl, rfl⟩)) (.cons (fun S hn h hh => aops_assign (bV false) wants_none h.1 rfl (aops_nil ⟨rfl, rfl⟩)) .nil)))))))))))))) ?_
                      refine awp_cond_f rfl rfl ?_
                      refine awp_skip ?_
                      exact ⟨(), h, (ghost_ren 1 (fun i => ([0] : List Nat).getD i 0) _ _ (by decide) (EnvSub.get (.cons (Sub.imm (Imm.lst _ _)) (.cons (Sub.imm (Imm.lst _ _)) (.cons (Sub.imm (Imm.con _)) (.cons (Sub.imm (Imm.con _)) (.cons (Sub.ptr rfl rfl) (.cons (Sub.imm (Imm.con _)) (.cons (Sub.imm (Imm.con _)) (.cons (Sub.ptr rfl rfl) (.cons (Sub.imm (Imm.con _)) (.cons (Sub.imm (Imm.con _)) (.cons (Sub.ptr rfl rfl) (.cons (Sub.imm (Imm.con _)) (.cons (Sub.imm (Imm.con _)) .nil)))))))))))))) (HpSub.get (.cons rfl (ObSub.box (.cons (Sub.imm (Imm.con _)) (.cons (Sub.imm (Imm.con _)) .nil))) .nil)))⟩
                · clear h
                  intro _ h
                  subst hk13
                  refine awp_region ?_
                  refine aops_bin (.int .i64 (w64 (n6 + 1))) wants_none rfl rfl rfl rfl ?_
                  refine aops_move (iV (w64 (n6 + 1))) wants_none rfl rfl ?_
                  refine aops_nil ?_
                  exact awp_back (ih (w64 (n6 + 1)) h) (ghost_ren 0 (fun i => ([] : List Nat).getD i 0) _ _ (by decide) (EnvSub.get (.cons (Sub.imm (Imm.lst _ _)) (.cons (Sub.imm (Imm.lst _ _)) (.cons (Sub.imm (Imm.con _)) (.cons (Sub.imm (Imm.con _)) .nil))))) (HpSub.get .nil))
        · replace h := ite_f hb7 h
          refine awp_exit ?_
          exact ⟨(), h, (ghost_ren 0 (fun i => ([] : List Nat).getD i 0) _ _ (by decide) (EnvSub.get .nil) (HpSub.get .nil))⟩
      · clear h
        intro _ h
        subst hk4
        refine awp_seq ?_
        refine awp_region ?_
        refine aops_assign (iV 0) wants_none rfl rfl ?_
        refine aops_nil ?_
        refine awp_ret ?_
        obtain rfl := Option.some.inj h
        exact ⟨.inl rfl, .one (.tmp rfl (Imm.con _))⟩

theorem W79 (F : Nat) (a1 : Thistory_week) (a2 : (List TTerm)) (a3 : TWindow) (r : (Int × Bool × Int)) (h : M79 F a1 a2 a3 = some r) : Pure Try.prog 79 [(V.agg [(bV (a1.free 0)), (bV (a1.free 1)), (bV (a1.free 2)), (bV (a1.free 3)), (bV (a1.free 4)), (bV (a1.free 5)), (bV (a1.free 6)), (iV a1.work), (V.lst 1 (a1.holidays.map encI_i64))]), (V.lst 2 (a2.map encTTerm)), (V.agg [(sV a3.Advisory), (sV a3.Component), (iV a3.Severity), (iV a3.From), (iV a3.To), (bV a3.Open)])] (V.tup [(iV (r.1)), (bV (r.2.1)), (iV (r.2.2))]) := by
  refine pure_enter Try.func79 rfl rfl (l := [.tmp 6, .tmp 7, .tmp 8]) rfl rfl [(0, (V.agg [(bV (a1.free 0)), (bV (a1.free 1)), (bV (a1.free 2)), (bV (a1.free 3)), (bV (a1.free 4)), (bV (a1.free 5)), (bV (a1.free 6)), (iV a1.work), (V.lst 1 (a1.holidays.map encI_i64))])), (1, (V.lst 2 (a2.map encTTerm))), (2, (V.agg [(sV a3.Advisory), (sV a3.Component), (iV a3.Severity), (iV a3.From), (iV a3.To), (bV a3.Open)]))] rfl (fun w0 m0 => ?_)
  unfold M79 at h
  refine awp_seq ?_
  refine awp_region ?_
  refine aops_box [(bV (a1.free 0)), (bV (a1.free 1)), (bV (a1.free 2)), (bV (a1.free 3)), (bV (a1.free 4)), (bV (a1.free 5)), (bV (a1.free 6)), (iV a1.work), (V.lst 1 (a1.holidays.map encI_i64))] wants_none rfl rfl rfl rfl ?_
  refine aops_box [(sV a3.Advisory), (sV a3.Component), (iV a3.Severity), (iV a3.From), (iV a3.To), (bV a3.Open)] wants_none rfl rfl rfl rfl ?_
  refine aops_assign (iV 0) wants_none rfl rfl ?_
  refine aops_assign (bV false) wants_none rfl rfl ?_
  refine aops_assign (iV 0) wants_none rfl rfl ?_
  refine aops_nil ?_
  refine awp_seq ?_
  refine awp_region ?_
  refine aops_assign (iV (-1)) wants_none rfl rfl ?_
  refine aops_nil ?_
  refine awp_seq ?_
  refine awp_seq ?_
  refine awp_region ?_
  refine aops_move (V.lst 2 (a2.map encTTerm)) wants_none rfl rfl ?_
  refine aops_len (n := a2.length) tIsSl33 wants_none rfl (congrArg some (List.length_map ..)) rfl ?_
  refine aops_move (iV 0) wants_none rfl rfl ?_
  refine aops_nil ?_
  replace h := jn_elim h
  obtain ⟨k4, hk4, h⟩ := h
  refine awp_cut (fun (p : Int) => (⟨[(3, (V.ptr 0 9 0 0)), (5, (V.ptr 1 6 0 0)), (9, (iV p))], [(0, (Ob.arr 101 9 [[(bV (a1.free 0)), (bV (a1.free 1)), (bV (a1.free 2)), (bV (a1.free 3)), (bV (a1.free 4)), (bV (a1.free 5)), (bV (a1.free 6)), (iV a1.work), (V.lst 1 (a1.holidays.map encI_i64))]])), (1, (Ob.arr 35 6 [[(sV a3.Advisory), (sV a3.Component), (iV a3.Severity), (iV a3.From), (iV a3.To), (bV a3.Open)]]))], 2⟩ : St)) (fun (p : Int) => k4 p = some r) ?_ ?_
  · clear hk4
    refine awp_block ?_
    refine awp_loop_ind (fun (p : Int × Int) => (⟨[(3, (V.ptr 0 9 0 0)), (5, (V.ptr 1 6 0 0)), (9, (iV (p.1))), (14, (V.lst 2 (a2.map encTTerm))), (15, (iV ((a2.length : Nat) : Int))), (16, (iV (p.2)))], [(0, (Ob.arr 101 9 [[(bV (a1.free 0)), (bV (a1.free 1)), (bV (a1.free 2)), (bV (a1.free 3)), (bV (a1.free 4)), (bV (a1.free 5)), (bV (a1.free 6)), (iV a1.work), (V.lst 1 (a1.holidays.map encI_i64))]])), (1, (Ob.arr 35 6 [[(sV a3.Advisory), (sV a3.Component), (iV a3.Severity), (iV a3.From), (iV a3.To), (bV a3.Open)]]))], 2⟩ : St)) (fun n (p : Int × Int) => M79_L1 F a2 a3 k4 n p.1 p.2 = some r) (fun p h => by simp [M79_L1] at h) (fun n ih p h => ?_) F ((-1), 0) h (ghost_ren 2 (fun i => ([0, 1] : List Nat).getD i 0) _ _ (by decide) (EnvSub.get (.cons (Sub.ptr rfl rfl) (.cons (Sub.ptr rfl rfl) (.cons (Sub.imm (Imm.con _)) (.cons (Sub.imm (Imm.lst _ _)) (.cons (Sub.imm (Imm.con _)) (.cons (Sub.imm (Imm.con _)) .nil))))))) (HpSub.get (.cons rfl (ObSub.box (.cons (Sub.imm (Imm.con _)) (.cons (Sub.imm (Imm.con _)) (.cons (Sub.imm (Imm.con _)) (.cons (Sub.imm (Imm.con _)) (.cons (Sub.imm (Imm.con _)) (.cons (Sub.imm (Imm.con _)) (.cons (Sub.imm (Imm.con _)) (.cons (Sub.imm (Imm.con _)) (.cons (Sub.imm (Imm.lst _ _)) .nil)))))))))) (.cons rfl (ObSub.box (.cons (Sub.imm (Imm.con _)) (.cons (Sub.imm (Imm.con _)) (.cons (Sub.imm (Imm.con _)) (.cons (Sub.imm (Imm.con _)) (.cons (Sub.imm (Imm.con _)) (.cons (Sub.imm (Imm.con _)) .nil))))))) .nil))))
    obtain ⟨n8, n9⟩ := p
    unfold M79_L1 at h
    refine awp_loop ?_
    refine awp_seq ?_
    refine awp_region ?_
    refine aops_bin (.bool (decide (n9 < ((a2.length : Nat) : Int)))) wants_none rfl rfl rfl rfl ?_
    refine aops_nil ?_
    refine awp_seq ?_
    refine awp_cond (decide (n9 < ((a2.length : Nat) : Int))) rfl (fun hb10 => ?_) (fun hb10 => ?_)
    · replace h := ite_t hb10 h
      refine awp_skip ?_
      refine awp_seq ?_
      refine awp_block ?_
      refine awp_seq ?_
      refine awp_region ?_
      replace h := bind_some h
      obtain ⟨x11, hx12, h⟩ := h
      refine aops_index_lst [(iV x11.Severity), (iV x11.Days)] tSl33 wants_none rfl rfl (idx_some hx12).1 (idx_map encTTerm hx12) rfl ?_
      refine aops_iload_agg (cs := [(iV x11.Severity), (iV x11.Days)]) tA113 wants_none rfl rfl rfl rfl ?_
      refine aops_alloc tZ113 rfl rfl wants_none rfl ?_
      refine aops_store [(iV x11.Severity), (iV x11.Days)] [[(iV x11.Severity), (iV x11.Days)]] tS113 wants_none rfl rfl rfl rfl rfl rfl rfl rfl ?_
      refine aops_nil ?_
      refine awp_seq ?_
      refine awp_region ?_
      refine aops_fieldAddr tF113_0 wants_none rfl rfl ?_
      refine aops_load_cell (iV x11.Severity) tC3 wants_none rfl rfl rfl rfl rfl ?_
      refine aops_fieldAddr tF35_2 wants_none rfl rfl ?_
      refine aops_load_cell (iV a3.Severity) tC3 wants_none rfl rfl rfl rfl rfl ?_
      refine aops_bin (.bool (decide (x11.Severity ≤ a3.Severity))) wants_none rfl rfl rfl rfl ?_
      refine aops_nil ?_
      replace h := jn_elim h
      obtain ⟨k13, hk13, h⟩ := h
      refine awp_cut (fun (p : Int) => (⟨[(3, (V.ptr 0 9 0 0)), (5, (V.ptr 1 6 0 0)), (9, (iV p)), (14, (V.lst 2 (a2.map encTTerm))), (15, (iV ((a2.length : Nat) : Int))), (16, (iV n9))], [(0, (Ob.arr 101 9 [[(bV (a1.free 0)), (bV (a1.free 1)), (bV (a1.free 2)), (bV (a1.free 3)), (bV (a1.free 4)), (bV (a1.free 5)), (bV (a1.free 6)), (iV a1.work), (V.lst 1 (a1.holidays.map encI_i64))]])), (1, (Ob.arr 35 6 [[(sV a3.Advisory), (sV a3.Component), (iV a3.Severity), (iV a3.From), (iV a3.To), (bV a3.Open)]]))], 2⟩ : St)) (fun (p : Int) => k13 p = some r) ?_ ?_
      · clear hk13
        refine awp_cond (decide (x11.Severity ≤ a3.Severity)) rfl (fun hb15 => ?_) (fun hb15 => ?_)
        · replace h := ite_t hb15 h
          refine awp_region ?_
          refine aops_fieldAddr tF113_1 wants_none rfl rfl ?_
          refine aops_load_cell (iV x11.Days) tC3 wants_none rfl rfl rfl rfl rfl ?_
          refine aops_assign (iV x11.Days) wants_none rfl rfl ?_
          refine aops_nil ?_
          exact ⟨x11.Days, h, (ghost_ren 2 (fun i => ([0, 1] : List Nat).getD i 0) _ _ (by decide) (EnvSub.get (.cons (Sub.ptr rfl rfl) (.cons (Sub.ptr rfl rfl) (.cons (Sub.imm (Imm.con _)) (.cons (Sub.imm (Imm.lst _ _)) (.cons (Sub.imm (Imm.con _)) (.cons (Sub.imm (Imm.con _)) .nil))))))) (HpSub.get (.cons rfl (ObSub.box (.cons (Sub.imm (Imm.con _)) (.cons (Sub.imm (Imm.con _)) (.cons (Sub.imm (Imm.con _)) (.cons (Sub.imm (Imm.con _)) (.cons (Sub.imm (Imm.con _)) (.cons (Sub.imm (Imm.con _)) (.cons (Sub.imm (Imm.con _)) (.cons (Sub.imm (Imm.con _)) (.cons (Sub.imm (Imm.lst _ _)) .nil)))))))))) (.cons rfl (ObSub.box (.cons (Sub.imm (Imm.con _)) (.cons (Sub.imm (Imm.con _)) (.cons (Sub.imm (Imm.con _)) (.cons (Sub.imm (Imm.con _)) (.cons (Sub.imm (Imm.con _)) (.cons (Sub.imm (Imm.con _)) .nil))))))) .nil))))⟩
        · replace h := ite_f hb15 h
          refine awp_skip ?_
          exact ⟨n8, h, (ghost_ren 2 (fun i => ([0, 1] : List Nat).getD i 0) _ _ (by decide) (EnvSub.get (.cons (Sub.ptr rfl rfl) (.cons (Sub.ptr rfl rfl) (.cons (Sub.imm (Imm.con _)) (.cons (Sub.imm (Imm.lst _ _)) (.cons (Sub.imm (Imm.con _)) (.cons (Sub.imm (Imm.con _)) .nil))))))) (HpSub.get (.cons rfl (ObSub.box (.cons (Sub.imm (Imm.con _)) (.cons (Sub.imm (Imm.con _)) (.cons (Sub.imm (Imm.con _)) (.cons (Sub.imm (Imm.con _)) (.cons (Sub.imm (Imm.con _)) (.cons (Sub.imm (Imm.con _)) (.cons (Sub.imm (Imm.con _)) (.cons (Sub.imm (Imm.con _)) (.cons (Sub.imm (Imm.lst _ _)) .nil)))))))))) (.cons rfl (ObSub.box (.cons (Sub.imm (Imm.con _)) (.cons (Sub.imm (Imm.con _)) (.cons (Sub.imm (Imm.con _)) (.cons (Sub.imm (Imm.con _)) (.cons (Sub.imm (Imm.con _)) (.cons (Sub.imm (Imm.con _)) .nil))))))) .nil))))⟩
      · clear h
        intro n14 h
        subst hk13
        refine awp_region ?_
        refine aops_bin (.int .i64 (w64 (n9 + 1))) wants_none rfl rfl rfl rfl ?_
        refine aops_move (iV (w64 (n9 + 1))) wants_none rfl rfl ?_
        refine aops_nil ?_
        exact awp_back (ih (n14, (w64 (n9 + 1))) h) (ghost_ren 2 (fun i => ([0, 1] : List Nat).getD i 0) _ _ (by decide) (EnvSub.get (.cons (Sub.ptr rfl rfl) (.cons (Sub.ptr rfl rfl) (.cons (Sub.imm (Imm.con _)) (.cons (Sub.imm (Imm.lst _ _)) (.cons (Sub.imm (Imm.con _)) (.cons (Sub.imm (Imm.con _)) .nil))))))) (HpSub.get (.cons rfl (ObSub.box (.cons (Sub.imm (Imm.con _)) (.cons (Sub.imm (Imm.con _)) (.cons (Sub.imm (Imm.con _)) (.cons (Sub.imm (Imm.con _)) (.cons (Sub.imm (Imm.con _)) (.cons (Sub.imm (Imm.con _)) (.cons (Sub.imm (Imm.con _)) (.cons (Sub.imm (Imm.con _)) (.cons (Sub.imm (Imm.lst _ _)) .nil)))))))))) (.cons rfl (ObSub.box (.cons (Sub.imm (Imm.con _)) (.cons (Sub.imm (Imm.con _)) (.cons (Sub.imm (Imm.con _)) (.cons (Sub.imm (Imm.con _)) (.cons (Sub.imm (Imm.con _)) (.cons (Sub.imm (Imm.con _)) .nil))))))) .nil))))
    · replace h := ite_f hb10 h
      refine awp_exit ?_
      exact ⟨n8, h, (ghost_ren 2 (fun i => ([0, 1] : List Nat).getD i 0) _ _ (by decide) (EnvSub.get (.cons (Sub.ptr rfl rfl) (.cons (Sub.ptr rfl rfl) (.cons (Sub.imm (Imm.con _)) .nil)))) (HpSub.get (.cons rfl (ObSub.box (.cons (Sub.imm (Imm.con _)) (.cons (Sub.imm (Imm.con _)) (.cons (Sub.imm (Imm.con _)) (.cons (Sub.imm (Imm.con _)) (.cons (Sub.imm (Imm.con _)) (.cons (Sub.imm (Imm.con _)) (.cons (Sub.imm (Imm.con _)) (.cons (Sub.imm (Imm.con _)) (.cons (Sub.imm (Imm.lst _ _)) .nil)))))))))) (.cons rfl (ObSub.box (.cons (Sub.imm (Imm.con _)) (.cons (Sub.imm (Imm.con _)) (.cons (Sub.imm (Imm.con _)) (.cons (Sub.imm (Imm.con _)) (.cons (Sub.imm (Imm.con _)) (.cons (Sub.imm (Imm.con _)) .nil))))))) .nil))))⟩
  · clear h
    intro n5 h
    subst hk4
    refine awp_seq ?_
    refine awp_seq ?_
    refine awp_region ?_
    refine aops_move (iV n5) wants_none rfl rfl ?_
    refine aops_bin (.bool (decide (n5 < 0))) wants_none rfl rfl rfl rfl ?_
    refine aops_nil ?_
    refine awp_cond (decide (n5 < 0)) rfl (fun hb16 => ?_) (fun hb16 => ?_)
    · replace h := ite_t hb16 h
      refine awp_seq ?_
      refine awp_region ?_
      refine aops_assign (iV 0) wants_none rfl rfl ?_
      refine aops_assign (bV false) wants_none rfl rfl ?_
      refine aops_assign (iV 0) wants_none rfl rfl ?_
      refine aops_nil ?_
      refine awp_ret ?_
      obtain rfl := Option.some.inj h
      exact ⟨.inl rfl, .three (.tmp rfl (Imm.con _)) (.tmp rfl (Imm.con _)) (.tmp rfl (Imm.con _))⟩
    · replace h := ite_f hb16 h
      refine awp_skip ?_
      refine awp_seq ?_
      refine awp_region ?_
      refine aops_load_agg (cs := [(bV (a1.free 0)), (bV (a1.free 1)), (bV (a1.free 2)), (bV (a1.free 3)), (bV (a1.free 4)), (bV (a1.free 5)), (bV (a1.free 6)), (iV a1.work), (V.lst 1 (a1.holidays.map encI_i64))]) tA101 wants_none rfl rfl rfl rfl rfl rfl ?_
      refine aops_fieldAddr tF35_3 wants_none rfl rfl ?_
      refine aops_load_cell (iV a3.From) tC3 wants_none rfl rfl rfl rfl rfl ?_
      refine aops_move (iV n5) wants_none rfl rfl ?_
      replace h := bind_some h
      obtain ⟨y17, hx18, h⟩ := h
      refine aops_call (V.tup [(iV (y17.1)), (bV (y17.2))]) [(V.agg [(bV (a1.free 0)), (bV (a1.free 1)), (bV (a1.free 2)), (bV (a1.free 3)), (bV (a1.free 4)), (bV (a1.free 5)), (bV (a1.free 6)), (iV a1.work), (V.lst 1 (a1.holidays.map encI_i64))]), (iV a3.From), (iV n5)] fOk76 wants_none (evm_cons rfl (evm_cons rfl (evm_cons rfl evm_nil))) (.cons (Imm.agg (.cons (Imm.con _) (.cons (Imm.con _) (.cons (Imm.con _) (.cons (Imm.con _) (.cons (Imm.con _) (.cons (Imm.con _) (.cons (Imm.con _) (.cons (Imm.con _) (.cons (Imm.lst _ _) .nil)))))))))) (.cons (Imm.con _) (.cons (Imm.con _) .nil))) (W76 F a1 a3.From n5 y17 hx18) rfl ?_
      refine aops_move (V.tup [(iV (y17.1)), (bV (y17.2))]) wants_none rfl rfl ?_
      refine aops_extract (iV (y17.1)) wants_none rfl rfl rfl ?_
      refine aops_extract (bV (y17.2)) wants_none rfl rfl rfl ?_
      refine aops_assign (iV (y17.1)) wants_none rfl rfl ?_
      refine aops_assign (bV (y17.2)) wants_none rfl rfl ?_
      refine aops_nil ?_
      refine awp_seq ?_
      refine awp_seq ?_
      refine awp_region ?_
      refine aops_move (bV (y17.2)) wants_none rfl rfl ?_
      refine aops_not wants_none rfl rfl ?_
      refine aops_nil ?_
      refine awp_cond (!(y17.2)) rfl (fun hb19 => ?_) (fun hb19 => ?_)
      · replace h := ite_t hb19 h
        refine awp_seq ?_
        refine awp_region ?_
        refine aops_assign (iV 0) wants_none rfl rfl ?_
        refine aops_assign (bV false) wants_none rfl rfl ?_
        refine aops_assign (iV 3) wants_none rfl rfl ?_
        refine aops_nil ?_
        refine awp_ret ?_
        obtain rfl := Option.some.inj h
        exact ⟨.inl rfl, .three (.tmp rfl (Imm.con _)) (.tmp rfl (Imm.con _)) (.tmp rfl (Imm.con _))⟩
      · replace h := ite_f hb19 h
        refine awp_skip ?_
        refine awp_seq ?_
        refine awp_region ?_
        refine aops_move (iV (y17.1)) wants_none rfl rfl ?_
        refine aops_assign (iV (y17.1)) wants_none rfl rfl ?_
        refine aops_assign (bV true) wants_none rfl rfl ?_
        refine aops_assign (iV 0) wants_none rfl rfl ?_
        refine aops_nil ?_
        refine awp_ret ?_
        obtain rfl := Option.some.inj h
        exact ⟨.inl rfl, .three (.tmp rfl (Imm.con _)) (.tmp rfl (Imm.con _)) (.tmp rfl (Imm.con _))⟩

theorem W24 (F : Nat) (a1 : TCalendar) (a2 : (List TTerm)) (a3 : TWindow) (r : (Int × Bool × Int)) (h : M24 F a1 a2 a3 = some r) : Pure Try.prog 24 [(V.agg [(V.lst 1 (a1.Free.map encI_i64)), (V.lst 1 (a1.Holidays.map encI_i64))]), (V.lst 2 (a2.map encTTerm)), (V.agg [(sV a3.Advisory), (sV a3.Component), (iV a3.Severity), (iV a3.From), (iV a3.To), (bV a3.Open)])] (V.tup [(iV (r.1)), (bV (r.2.1)), (iV (r.2.2))]) := by
  refine pure_enter Try.func24 rfl rfl (l := [.tmp 6, .tmp 7, .tmp 8]) rfl rfl [(0, (V.agg [(V.lst 1 (a1.Free.map encI_i64)), (V.lst 1 (a1.Holidays.map encI_i64))])), (1, (V.lst 2 (a2.map encTTerm))), (2, (V.agg [(sV a3.Advisory), (sV a3.Component), (iV a3.Severity), (iV a3.From), (iV a3.To), (bV a3.Open)]))] rfl (fun w0 m0 => ?_)
  unfold M24 at h
  refine awp_seq ?_
  refine awp_region ?_
  refine aops_box [(V.lst 1 (a1.Free.map encI_i64)), (V.lst 1 (a1.Holidays.map encI_i64))] wants_none rfl rfl rfl rfl ?_
  refine aops_box [(sV a3.Advisory), (sV a3.Component), (iV a3.Severity), (iV a3.From), (iV a3.To), (bV a3.Open)] wants_none rfl rfl rfl rfl ?_
  refine aops_assign (iV 0) wants_none rfl rfl ?_
  refine aops_assign (bV false) wants_none rfl rfl ?_
  refine aops_assign (iV 0) wants_none rfl rfl ?_
  refine aops_nil ?_
  refine awp_seq ?_
  refine awp_seq ?_
  refine awp_region ?_
  refine aops_load_agg (cs := [(V.lst 1 (a1.Free.map encI_i64)), (V.lst 1 (a1.Holidays.map encI_i64))]) tA24 wants_none rfl rfl rfl rfl rfl rfl ?_
  replace h := bind_some h
  obtain ⟨y4, hx5, h⟩ := h
  refine aops_call (iV y4) [(V.agg [(V.lst 1 (a1.Free.map encI_i64)), (V.lst 1 (a1.Holidays.map encI_i64))])] fOk21 wants_none (evm_cons rfl evm_nil) (.cons (Imm.agg (.cons (Imm.lst _ _) (.cons (Imm.lst _ _) .nil))) .nil) (W21 F a1 y4 hx5) rfl ?_
  refine aops_assign (iV y4) wants_none rfl rfl ?_
  refine aops_nil ?_
  refine awp_seq ?_
  refine awp_region ?_
  refine aops_move (iV y4) wants_none rfl rfl ?_
  refine aops_bin (.bool (y4 != 0)) wants_none rfl rfl rfl rfl ?_
  refine aops_nil ?_
  refine awp_cond (y4 != 0) rfl (fun hb6 => ?_) (fun hb6 => ?_)
  · replace h := ite_t hb6 h
    refine awp_seq ?_
    refine awp_region ?_
    refine aops_move (iV y4) wants_none rfl rfl ?_
    refine aops_assign (iV 0) wants_none rfl rfl ?_
    refine aops_assign (bV false) wants_none rfl rfl ?_
    refine aops_assign (iV y4) wants_none rfl rfl ?_
    refine aops_nil ?_
    refine awp_ret ?_
    obtain rfl := Option.some.inj h
    exact ⟨.inl rfl, .three (.tmp rfl (Imm.con _)) (.tmp rfl (Imm.con _)) (.tmp rfl (Imm.con _))⟩
  · replace h := ite_f hb6 h
    refine awp_skip ?_
    refine awp_seq ?_
    refine awp_seq ?_
    refine awp_region ?_
    refine aops_move (V.lst 2 (a2.map encTTerm)) wants_none rfl rfl ?_
    replace h := bind_some h
    obtain ⟨y7, hx8, h⟩ := h
    refine aops_call (iV y7) [(V.lst 2 (a2.map encTTerm))] fOk26 wants_none (evm_cons rfl evm_nil) (.cons (Imm.lst _ _) .nil) (W26 F a2 y7 hx8) rfl ?_
    refine aops_assign (iV y7) wants_none rfl rfl ?_
    refine aops_nil ?_
    refine awp_seq ?_
    refine awp_region ?_
    refine aops_move (iV y7) wants_none rfl rfl ?_
    refine aops_bin (.bool (y7 != 0)) wants_none rfl rfl rfl rfl ?_
    refine aops_nil ?_
    refine awp_cond (y7 != 0) rfl (fun hb9 => ?_) (fun hb9 => ?_)
    · replace h := ite_t hb9 h
      refine awp_seq ?_
      refine awp_region ?_
      refine aops_move (iV y7) wants_none rfl rfl ?_
      refine aops_assign (iV 0) wants_none rfl rfl ?_
      refine aops_assign (bV false) wants_none rfl rfl ?_
      refine aops_assign (iV y7) wants_none rfl rfl ?_
      refine aops_nil ?_
      refine awp_ret ?_
      obtain rfl := Option.some.inj h
      exact ⟨.inl rfl, .three (.tmp rfl (Imm.con _)) (.tmp rfl (Imm.con _)) (.tmp rfl (Imm.con _))⟩
    · replace h := ite_f hb9 h
      refine awp_skip ?_
      refine awp_seq ?_
      refine awp_seq ?_
      refine awp_region ?_
      refine aops_fieldAddr tF35_2 wants_none rfl rfl ?_
      refine aops_load_cell (iV a3.Severity) tC3 wants_none rfl rfl rfl rfl rfl ?_
      refine aops_bin (.bool (decide (a3.Severity < 0))) wants_none rfl rfl rfl rfl ?_
      refine aops_move (bV (decide (a3.Severity < 0))) wants_none rfl rfl ?_
      rcases Bool.eq_false_or_eq_true (decide (a3.Severity < 0)) with hb10 | hb10
      · replace h := ite_t hb10 h
        refine aops_skip (wants_some (c := (decide (a3.Severity < 0))) (b := true) 24 rfl rfl hb10) rfl rfl ?_
        refine aops_skip (wants_some (c := (decide (a3.Severity < 0))) (b := true) 24 rfl rfl hb10) rfl rfl ?_
        refine aops_skip (wants_some (c := (decide (a3.Severity < 0))) (b := true) 24 rfl rfl hb10) rfl rfl ?_
        refine aops_pick true (cb := (decide (a3.Severity < 0))) (bV true) wants_none rfl hb10 rfl rfl ?_
        refine aops_move (bV true) wants_none rfl rfl ?_
        refine aops_skip (wants_some (c := true) (b := true) 29 rfl rfl rfl) rfl rfl ?_
        refine aops_skip (wants_some (c := true) (b := true) 29 rfl rfl rfl) rfl rfl ?_
        refine aops_skip (wants_some (c := true) (b := true) 29 rfl rfl rfl) rfl rfl ?_
        refine aops_skip (wants_some (c := true) (b := true) 29 rfl rfl rfl) rfl rfl ?_
        refine aops_pick true (cb := true) (bV true) wants_none rfl rfl rfl rfl ?_
        refine aops_nil ?_
        refine awp_cond_t rfl rfl ?_
        refine awp_seq ?_
        refine awp_region ?_
        refine aops_assign (iV 0) wants_none rfl rfl ?_
        refine aops_assign (bV false) wants_none rfl rfl ?_
        refine aops_assign (iV 9) wants_none rfl rfl ?_
        refine aops_nil ?_
        refine awp_ret ?_
        obtain rfl := Option.some.inj h
        exact ⟨.inl rfl, .three (.tmp rfl (Imm.con _)) (.tmp rfl (Imm.con _)) (.tmp rfl (Imm.con _))⟩
      · replace h := ite_f hb10 h
        refine aops_fieldAddr tF35_2 (wants_some (c := (decide (a3.Severity < 0))) (b := false) 24 rfl rfl hb10) rfl rfl ?_
        refine aops_load_cell (iV a3.Severity) tC3 (wants_some (c := (decide (a3.Severity < 0))) (b := false) 24 rfl rfl hb10) rfl rfl rfl rfl rfl ?_
        refine aops_bin (.bool (decide (a3.Severity > 100))) (wants_some (c := (decide (a3.Severity < 0))) (b := false) 24 rfl rfl hb10) rfl rfl rfl rfl ?_
        refine aops_pick false (cb := (decide (a3.Severity < 0))) (bV (decide (a3.Severity > 100))) wants_none rfl hb10 rfl rfl ?_
        refine aops_move (bV (decide (a3.Severity > 100))) wants_none rfl rfl ?_
        rcases Bool.eq_false_or_eq_true (decide (a3.Severity > 100)) with hb11 | hb11
        · replace h := ite_t hb11 h
          refine aops_skip (wants_some (c := (decide (a3.Severity > 100))) (b := true) 29 rfl rfl hb11) rfl rfl ?_
          refine aops_skip (wants_some (c := (decide (a3.Severity > 100))) (b := true) 29 rfl rfl hb11) rfl rfl ?_
          refine aops_skip (wants_some (c := (decide (a3.Severity > 100))) (b := true) 29 rfl rfl hb11) rfl rfl ?_
          refine aops_skip (wants_some (c := (decide (a3.Severity > 100))) (b := true) 29 rfl rfl hb11) rfl rfl ?_
          refine aops_pick true (cb := (decide (a3.Severity > 100))) (bV true) wants_none rfl hb11 rfl rfl ?_
          refine aops_nil ?_
          refine awp_cond_t rfl rfl ?_
          refine awp_seq ?_
          refine awp_region ?_
          refine aops_assign (iV 0) wants_none rfl rfl ?_
          refine aops_assign (bV false) wants_none rfl rfl ?_
          refine aops_assign (iV 9) wants_none rfl rfl ?_
          refine aops_nil ?_
          refine awp_ret ?_
          obtain rfl := Option.some.inj h
          exact ⟨.inl rfl, .three (.tmp rfl (Imm.con _)) (.tmp rfl (Imm.con _)) (.tmp rfl (Imm.con _))⟩
        · replace h := ite_f hb11 h
          refine aops_fieldAddr tF35_3 (wants_some (c := (decide (a3.Severity > 100))) (b := false) 29 rfl rfl hb11) rfl rfl ?_
          refine aops_load_cell (iV a3.From) tC3 (wants_some (c := (decide (a3.Severity > 100))) (b := false) 29 rfl rfl hb11) rfl rfl rfl rfl rfl ?_
          replace h := bind_some h
          obtain ⟨y12, hx13, h⟩ := h
          refine aops_call (bV y12) [(iV a3.From)] fOk69 (wants_some (c := (decide (a3.Severity > 100))) (b := false) 29 rfl rfl hb11) (evm_cons rfl evm_nil) (.cons (Imm.con _) .nil) (W69 F a3.From y12 hx13) rfl ?_
          refine aops_not (wants_some (c := (decide (a3.Severity > 100))) (b := false) 29 rfl rfl hb11) rfl rfl ?_
          refine aops_pick false (cb := (decide (a3.Severity > 100))) (bV (!y12)) wants_none rfl hb11 rfl rfl ?_
          refine aops_nil ?_
          refine awp_cond (!y12) rfl (fun hb14 => ?_) (fun hb14 => ?_)
          · replace h := ite_t hb14 h
            refine awp_seq ?_
            refine awp_region ?_
            refine aops_assign (iV 0) wants_none rfl rfl ?_
            refine aops_assign (bV false) wants_none rfl rfl ?_
            refine aops_assign (iV 9) wants_none rfl rfl ?_
            refine aops_nil ?_
            refine awp_ret ?_
            obtain rfl := Option.some.inj h
            exact ⟨.inl rfl, .three (.tmp rfl (Imm.con _)) (.tmp rfl (Imm.con _)) (.tmp rfl (Imm.con _))⟩
          · replace h := ite_f hb14 h
            refine awp_skip ?_
            refine awp_seq ?_
            replace h := bind_some h
            obtain ⟨y15, hx16, h⟩ := h
            replace h := bind_some h
            obtain ⟨y17, hx18, h⟩ := h
            refine awp_any [OD.mk [(3, (V.ptr 0 2 0 0))] [(0, (Ob.arr 24 2 [[(V.lst 1 (a1.Free.map encI_i64)), (V.lst 1 (a1.Holidays.map encI_i64))]]))] [(35, (V.agg [(V.lst 1 (a1.Free.map encI_i64)), (V.lst 1 (a1.Holidays.map encI_i64))]))] [],
                  OD.mk [(35, (V.agg [(V.lst 1 (a1.Free.map encI_i64)), (V.lst 1 (a1.Holidays.map encI_i64))]))] [] [(36, (V.agg [(bV (y15.free 0)), (bV (y15.free 1)), (bV (y15.free 2)), (bV (y15.free 3)), (bV (y15.free 4)), (bV (y15.free 5)), (bV (y15.free 6)), (iV y15.work), (V.lst 1 (y15.holidays.map encI_i64))]))] [],
                  OD.mk [(1, (V.lst 2 (a2.map encTTerm)))] [] [(37, (V.lst 2 (a2.map encTTerm)))] [],
                  OD.mk [(5, (V.ptr 1 6 0 0))] [(1, (Ob.arr 35 6 [[(sV a3.Advisory), (sV a3.Component), (iV a3.Severity), (iV a3.From), (iV a3.To), (bV a3.Open)]]))] [(38, (V.agg [(sV a3.Advisory), (sV a3.Component), (iV a3.Severity), (iV a3.From), (iV a3.To), (bV a3.Open)]))] [],
                  OD.mk [(36, (V.agg [(bV (y15.free 0)), (bV (y15.free 1)), (bV (y15.free 2)), (bV (y15.free 3)), (bV (y15.free 4)), (bV (y15.free 5)), (bV (y15.free 6)), (iV y15.work), (V.lst 1 (y15.holidays.map encI_i64))])), (37, (V.lst 2 (a2.map encTTerm))), (38, (V.agg [(sV a3.Advisory), (sV a3.Component), (iV a3.Severity), (iV a3.From), (iV a3.To), (bV a3.Open)]))] [] [(39, (V.tup [(iV (y17.1)), (bV (y17.2.1)), (iV (y17.2.2))]))] [],
                  OD.mk [(39, (V.tup [(iV (y17.1)), (bV (y17.2.1)), (iV (y17.2.2))]))] [] [(40, (iV (y17.1)))] [],
                  OD.mk [(39, (V.tup [(iV (y17.1)), (bV (y17.2.1)), (iV (y17.2.2))]))] [] [(41, (bV (y17.2.1)))] [],
                  OD.mk [(39, (V.tup [(iV (y17.1)), (bV (y17.2.1)), (iV (y17.2.2))]))] [] [(42, (iV (y17.2.2)))] [],
                  OD.mk [(40, (iV (y17.1)))] [] [(6, (iV (y17.1)))] [],
                  OD.mk [(41, (bV (y17.2.1)))] [] [(7, (bV (y17.2.1)))] [],
                  OD.mk [(42, (iV (y17.2.2)))] [] [(8, (iV (y17.2.2)))] []] mixed ⟨⟨rfl, trivial⟩, ⟨rfl, trivial⟩, ⟨⟨rfl, trivial⟩, trivial, ⟨⟨rfl, trivial⟩, trivial, ⟨⟨rfl, trivial⟩, ⟨rfl, trivial⟩, ⟨⟨rfl, rfl, rfl, trivial⟩, trivial, ⟨⟨rfl, trivial⟩, trivial, ⟨⟨rfl, trivial⟩, trivial, ⟨⟨rfl, trivial⟩, trivial, ⟨⟨rfl, trivial⟩, trivial, ⟨⟨rfl, trivial⟩, trivial, ⟨⟨rfl, trivial⟩, trivial, trivial⟩⟩⟩⟩⟩⟩⟩⟩⟩⟩⟩ (by kernel_rfl) (.cons (fun S hn h hh => aops_load_agg (cs := [(V.lst 1 (a1.Free.map encI_i64)), (V.lst 1 (a1.Holidays.map encI_i64))]) tA24 wants_none h.1 hh.1 rfl rfl rfl rfl (aops_nil ⟨rfl, rfl⟩)) (.cons (fun S hn h hh => aops_call (V.agg [(bV (y15.free 0)), (bV (y15.free 1)), (bV (y15.free 2)), (bV (y15.free 3)), (bV (y15.free 4)), (bV (y15.free 5)), (bV (y15.free 6)), (iV y15.work), (V.lst 1 (y15.holidays.map encI_i64))]) [(V.agg [(V.lst 1 (a1.Free.map encI_i64)), (V.lst 1 (a1.Holidays.map encI_i64))])] fOk70 wants_none (evm_cons h.1 evm_nil) (.cons (Imm.agg (.cons (Imm.lst _ _) (.cons (Imm.lst _ _) .nil))) .nil) (W70 F a1 y15 hx16) rfl (aops_nil ⟨rfl, rfl⟩)) (.cons (fun S hn h hh => aops_move (V.lst 2 (a2.map encTTerm)) wants_none h.1 rfl (aops_nil ⟨rfl, rfl⟩)) (.cons (fun S hn h hh => aops_load_agg (cs := [(sV a3.Advisory), (sV a3.Component), (iV a3.Severity), (iV a3.From), (iV a3.To), (bV a3.Open)]) tA35 wants_none h.1 hh.1 rfl rfl rfl rfl (aops_nil ⟨rfl, rfl⟩)) (.cons (fun S hn h hh => aops_call (V.tup [(iV (y17.1)), (bV (y17.2.1)), (iV (y17.2.2))]) [(V.agg [(bV (y15.free 0)), (bV (y15.free 1)), (bV (y15.free 2)), (bV (y15.free 3)), (bV (y15.free 4)), (bV (y15.free 5)), (bV (y15.free 6)), (iV y15.work), (V.lst 1 (y15.holidays.map encI_i64))]), (V.lst 2 (a2.map encTTerm)), (V.agg [(sV a3.Advisory), (sV a3.Component), (iV a3.Severity), (iV a3.From), (iV a3.To), (bV a3.Open)])] fOk79 wants_none (evm_cons h.1 (evm_cons h.2.1 (evm_cons h.2.2.1 evm_nil))) (.cons (Imm.agg (.cons (Imm.con _) (.cons (Imm.con _) (.cons (Imm.con _) (.cons (Imm.con _) (.cons (Imm.con _) (.cons (Imm.con _) (.cons (Imm.con _) (.cons (Imm.con _) (.cons (Imm.lst _ _) .nil)))))))))) (.cons (Imm.lst _ _) (.cons (Imm.agg (.cons (Imm.con _) (.cons (Imm.con _) (.cons (Imm.con _) (.cons (Imm.con _) (.cons (Imm.con _) (.cons (Imm.con _) .nil))))))) .nil))) (W79 F y15 a2 a3 y17 hx18) rfl (aops_nil ⟨rfl, rfl⟩)) (.cons (fun S hn h hh => aops_extract (iV (y17.1)) wants_none h.1 rfl rfl (aops_nil ⟨rfl, rfl⟩)) (.cons (fun S hn h hh => aops_extract (bV (y17.2.1)) wants_none h.1 rfl rfl (aops_nil ⟨rfl, rfl⟩)) (.cons (fun S hn h hh => aops_extract (iV (y17.2.2)) wants_none h.1 rfl rfl (aops_nil ⟨rfl, rfl⟩)) (.cons (fun S hn h hh => aops_assign (iV (y17.1)) wants_none h.1 rfl (aops_nil ⟨rfl, rfl⟩)) (.cons (fun S hn h hh => aops_assign (bV (y17.2.1)) wants_none h.1 rfl (aops_nil ⟨rfl, rfl⟩)) (.cons (fun S hn h hh => aops_assign (iV (y17.2.2)) wants_none h.1 rfl (aops_nil ⟨rfl, rfl⟩)) .nil))))))))))) ?_
            refine awp_ret ?_
            obtain rfl := Option.some.inj h
            exact ⟨.inl rfl, .three (.tmp rfl (Imm.con _)) (.tmp rfl (Imm.con _)) (.tmp rfl (Imm.con _))⟩

theorem W27 (F : Nat) (a1 : (List TTerm)) (r : Int) (h : M27 F a1 = some r) : Pure Try.prog 27 [(V.lst 2 (a1.map encTTerm))] (iV r) := by
  refine pure_enter Try.func27 rfl rfl (l := [.tmp 2]) rfl rfl [(0, (V.lst 2 (a1.map encTTerm)))] rfl (fun w0 m0 => ?_)
  unfold M27 at h
  refine awp_seq ?_
  refine awp_region ?_
  refine aops_assign (iV 0) wants_none rfl rfl ?_
  refine aops_nil ?_
  refine awp_seq ?_
  refine awp_seq ?_
  refine awp_region ?_
  refine aops_move (V.lst 2 (a1.map encTTerm)) wants_none rfl rfl ?_
  refine aops_len (n := a1.length) tIsSl33 wants_none rfl (congrArg some (List.length_map ..)) rfl ?_
  refine aops_bin (.bool (((a1.length : Nat) : Int) == 0)) wants_none rfl rfl rfl rfl ?_
  refine aops_nil ?_
  refine awp_cond (((a1.length : Nat) : Int) == 0) rfl (fun hb2 => ?_) (fun hb2 => ?_)
  · replace h := ite_t hb2 h
    refine awp_seq ?_
    refine awp_region ?_
    refine aops_assign (iV 13) wants_none rfl rfl ?_
    refine aops_nil ?_
    refine awp_ret ?_
    obtain rfl := Option.some.inj h
    exact ⟨.inl rfl, .one (.tmp rfl (Imm.con _))⟩
  · replace h := ite_f hb2 h
    refine awp_skip ?_
    refine awp_seq ?_
    refine awp_seq ?_
    refine awp_region ?_
    refine aops_move (V.lst 2 (a1.map encTTerm)) wants_none rfl rfl ?_
    refine aops_len (n := a1.length) tIsSl33 wants_none rfl (congrArg some (List.length_map ..)) rfl ?_
    refine aops_bin (.bool (decide (((a1.length : Nat) : Int) > 10))) wants_none rfl rfl rfl rfl ?_
    refine aops_nil ?_
    refine awp_cond (decide (((a1.length : Nat) : Int) > 10)) rfl (fun hb3 => ?_) (fun hb3 => ?_)
    · replace h := ite_t hb3 h
      refine awp_seq ?_
      refine awp_region ?_
      refine aops_assign (iV 3) wants_none rfl rfl ?_
      refine aops_nil ?_
      refine awp_ret ?_
      obtain rfl := Option.some.inj h
      exact ⟨.inl rfl, .one (.tmp rfl (Imm.con _))⟩
    · replace h := ite_f hb3 h
      refine awp_skip ?_
      refine awp_seq ?_
      refine awp_seq ?_
      refine awp_region ?_
      refine aops_move (V.lst 2 (a1.map encTTerm)) wants_none rfl rfl ?_
      refine aops_len (n := a1.length) tIsSl33 wants_none rfl (congrArg some (List.length_map ..)) rfl ?_
      refine aops_move (iV 0) wants_none rfl rfl ?_
      refine aops_nil ?_
      replace h := jn_elim h
      obtain ⟨k4, hk4, h⟩ := h
      refine awp_cut (fun _ : Unit => (⟨[], [], 0⟩ : St)) (fun _ : Unit => k4 = some r) ?_ ?_
      · clear hk4
        refine awp_block ?_
        refine awp_loop_ind (fun (p : Int) => (⟨[(0, (V.lst 2 (a1.map encTTerm))), (11, (V.lst 2 (a1.map encTTerm))), (12, (iV ((a1.length : Nat) : Int))), (13, (iV p))], [], 0⟩ : St)) (fun n (p : Int) => M27_L1 F a1 k4 n p = some r) (fun p h => by simp [M27_L1] at h) (fun n ih p h => ?_) F 0 h (ghost_ren 0 (fun i => ([] : List Nat).getD i 0) _ _ (by decide) (EnvSub.get (.cons (Sub.imm (Imm.lst _ _)) (.cons (Sub.imm (Imm.lst _ _)) (.cons (Sub.imm (Imm.con _)) (.cons (Sub.imm (Imm.con _)) .nil))))) (HpSub.get .nil))
        revert p
        intro n6 h
        unfold M27_L1 at h
        refine awp_loop ?_
        refine awp_seq ?_
        refine awp_region ?_
        refine aops_bin (.bool (decide (n6 < ((a1.length : Nat) : Int)))) wants_none rfl rfl rfl rfl ?_
        refine aops_nil ?_
        refine awp_seq ?_
        refine awp_cond (decide (n6 < ((a1.length : Nat) : Int))) rfl (fun hb7 => ?_) (fun hb7 => ?_)
        · replace h := ite_t hb7 h
          refine awp_skip ?_
          refine awp_seq ?_
          replace h := jn_elim h
          obtain ⟨k8, hk8, h⟩ := h
          refine awp_cut (fun (p : Int × Bool × Int × Bool × Int × Bool × Int × Int) => (⟨[(0, (V.lst 2 (a1.map encTTerm))), (11, (V.lst 2 (a1.map encTTerm))), (12, (iV ((a1.length : Nat) : Int))), (13, (iV n6)), (22, (V.ptr 0 2 0 0)), (23, (iV (p.1))), (24, (bV (p.2.1))), (27, (V.ptr 0 2 0 1)), (28, (iV (p.2.2.1))), (29, (bV (p.2.2.2.1))), (32, (V.ptr 0 2 0 1)), (33, (iV (p.2.2.2.2.1))), (34, (bV (p.2.2.2.2.2.1)))], [(0, (Ob.arr 113 2 [[(iV (p.2.2.2.2.2.2.1)), (iV (p.2.2.2.2.2.2.2))]]))], 1⟩ : St)) (fun (p : Int × Bool × Int × Bool × Int × Bool × Int × Int) => k8 p.1 p.2.1 p.2.2.1 p.2.2.2.1 p.2.2.2.2.1 p.2.2.2.2.2.1 p.2.2.2.2.2.2.1 p.2.2.2.2.2.2.2 = some r) ?_ ?_
          · clear hk8
            refine awp_block ?_
            refine awp_seq ?_
            refine awp_region ?_
            refine aops_move (iV n6) wants_none rfl rfl ?_
            replace h := bind_some h
            obtain ⟨x17, hx18, h⟩ := h
            refine aops_index_lst [(iV x17.Severity), (iV x17.Days)] tSl33 wants_none rfl rfl (idx_some hx18).1 (idx_map encTTerm hx18) rfl ?_
            refine aops_iload_agg (cs := [(iV x17.Severity), (iV x17.Days)]) tA113 wants_none rfl rfl rfl rfl ?_
            refine aops_alloc tZ113 rfl rfl wants_none rfl ?_
            refine aops_assign (iV n6) wants_none rfl rfl ?_
            refine aops_store [(iV x17.Severity), (iV x17.Days)] [[(iV x17.Severity), (iV x17.Days)]] tS113 wants_none rfl rfl rfl rfl rfl rfl rfl rfl ?_
            refine aops_nil ?_
            refine awp_seq ?_
            refine awp_seq ?_
            refine awp_region ?_
            refine aops_fieldAddr tF113_0 wants_none rfl rfl ?_
            refine aops_load_cell (iV x17.Severity) tC3 wants_none rfl rfl rfl rfl rfl ?_
            refine aops_bin (.bool (decide (x17.Severity < 0))) wants_none rfl rfl rfl rfl ?_
            refine aops_move (bV (decide (x17.Severity < 0))) wants_none rfl rfl ?_
            rcases Bool.eq_false_or_eq_true (decide (x17.Severity < 0)) with hb19 | hb19
            · replace h := ite_t hb19 h
              refine aops_skip (wants_some (c := (decide (x17.Severity < 0))) (b := true) 21 rfl rfl hb19) rfl rfl ?_
              refine aops_skip (wants_some (c := (decide (x17.Severity < 0))) (b := true) 21 rfl rfl hb19) rfl rfl ?_
              refine aops_skip (wants_some (c := (decide (x17.Severity < 0))) (b := true) 21 rfl rfl hb19) rfl rfl ?_
              refine aops_pick true (cb := (decide (x17.Severity < 0))) (bV true) wants_none rfl hb19 rfl rfl ?_
              refine aops_move (bV true) wants_none rfl rfl ?_
              refine aops_skip (wants_some (c := true) (b := true) 26 rfl rfl rfl) rfl rfl ?_
              refine aops_skip (wants_some (c := true) (b := true) 26 rfl rfl rfl) rfl rfl ?_
              refine aops_skip (wants_some (c := true) (b := true) 26 rfl rfl rfl) rfl rfl ?_
              refine aops_pick true (cb := true) (bV true) wants_none rfl rfl rfl rfl ?_
              refine aops_move (bV true) wants_none rfl rfl ?_
              refine aops_skip (wants_some (c := true) (b := true) 31 rfl rfl rfl) rfl rfl ?_
              refine aops_skip (wants_some (c := true) (b := true) 31 rfl rfl rfl) rfl rfl ?_
              refine aops_skip (wants_some (c := true) (b := true) 31 rfl rfl rfl) rfl rfl ?_
              refine aops_pick true (cb := true) (bV true) wants_none rfl rfl rfl rfl ?_
              refine aops_nil ?_
              refine awp_cond_t rfl rfl ?_
              refine awp_seq ?_
              refine awp_region ?_
              refine aops_assign (iV 9) wants_none rfl rfl ?_
              refine aops_nil ?_
              refine awp_ret ?_
              obtain rfl := Option.some.inj h
              exact ⟨.inl rfl, .one (.tmp rfl (Imm.con _))⟩
            · replace h := ite_f hb19 h
              refine aops_fieldAddr tF113_0 (wants_some (c := (decide (x17.Severity < 0))) (b := false) 21 rfl rfl hb19) rfl rfl ?_
              refine aops_load_cell (iV x17.Severity) tC3 (wants_some (c := (decide (x17.Severity < 0))) (b := false) 21 rfl rfl hb19) rfl rfl rfl rfl rfl ?_
              refine aops_bin (.bool (decide (x17.Severity > 100))) (wants_some (c := (decide (x17.Severity < 0))) (b := false) 21 rfl rfl hb19) rfl rfl rfl rfl ?_
              refine aops_pick false (cb := (decide (x17.Severity < 0))) (bV (decide (x17.Severity > 100))) wants_none rfl hb19 rfl rfl ?_
              refine aops_move (bV (decide (x17.Severity > 100))) wants_none rfl rfl ?_
              rcases Bool.eq_false_or_eq_true (decide (x17.Severity > 100)) with hb20 | hb20
              · replace h := ite_t hb20 h
                refine aops_skip (wants_some (c := (decide (x17.Severity > 100))) (b := true) 26 rfl rfl hb20) rfl rfl ?_
                refine aops_skip (wants_some (c := (decide (x17.Severity > 100))) (b := true) 26 rfl rfl hb20) rfl rfl ?_
                refine aops_skip (wants_some (c := (decide (x17.Severity > 100))) (b := true) 26 rfl rfl hb20) rfl rfl ?_
                refine aops_pick true (cb := (decide (x17.Severity > 100))) (bV true) wants_none rfl hb20 rfl rfl ?_
                refine aops_move (bV true) wants_none rfl rfl ?_
                refine aops_skip (wants_some (c := true) (b := true) 31 rfl rfl rfl) rfl rfl ?_
                refine aops_skip (wants_some (c := true) (b := true) 31 rfl rfl rfl) rfl rfl ?_
                refine aops_skip (wants_some (c := true) (b := true) 31 rfl rfl rfl) rfl rfl ?_
                refine aops_pick true (cb := true) (bV true) wants_none rfl rfl rfl rfl ?_
                refine aops_nil ?_
                refine awp_cond_t rfl rfl ?_
                refine awp_seq ?_
                refine awp_region ?_
                refine aops_assign (iV 9) wants_none rfl rfl ?_
                refine aops_nil ?_
                refine awp_ret ?_
                obtain rfl := Option.some.inj h
                exact ⟨.inl rfl, .one (.tmp rfl (Imm.con _))⟩
              · replace h := ite_f hb20 h
                refine aops_fieldAddr tF113_1 (wants_some (c := (decide (x17.Severity > 100))) (b := false) 26 rfl rfl hb20) rfl rfl ?_
                refine aops_load_cell (iV x17.Days) tC3 (wants_some (c := (decide (x17.Severity > 100))) (b := false) 26 rfl rfl hb20) rfl rfl rfl rfl rfl ?_
                refine aops_bin (.bool (decide (x17.Days < 0))) (wants_some (c := (decide (x17.Severity > 100))) (b := false) 26 rfl rfl hb20) rfl rfl rfl rfl ?_
                refine aops_pick false (cb := (decide (x17.Severity > 100))) (bV (decide (x17.Days < 0))) wants_none rfl hb20 rfl rfl ?_
                refine aops_move (bV (decide (x17.Days < 0))) wants_none rfl rfl ?_
                rcases Bool.eq_false_or_eq_true (decide (x17.Days < 0)) with hb21 | hb21
                · replace h := ite_t hb21 h
                  refine aops_skip (wants_some (c := (decide (x17.Days < 0))) (b := true) 31 rfl rfl hb21) rfl rfl ?_
                  refine aops_skip (wants_some (c := (decide (x17.Days < 0))) (b := true) 31 rfl rfl hb21) rfl rfl ?_
                  refine aops_skip (wants_some (c := (decide (x17.Days < 0))) (b := true) 31 rfl rfl hb21) rfl rfl ?_
                  refine aops_pick true (cb := (decide (x17.Days < 0))) (bV true) wants_none rfl hb21 rfl rfl ?_
                  refine aops_nil ?_
                  refine awp_cond_t rfl rfl ?_
                  refine awp_seq ?_
                  refine awp_region ?_
                  refine aops_assign (iV 9) wants_none rfl rfl ?_
                  refine aops_nil ?_
                  refine awp_ret ?_
                  obtain rfl := Option.some.inj h
                  exact ⟨.inl rfl, .one (.tmp rfl (Imm.con _))⟩
                · replace h := ite_f hb21 h
                  refine aops_fieldAddr tF113_1 (wants_some (c := (decide (x17.Days < 0))) (b := false) 31 rfl rfl hb21) rfl rfl ?_
                  refine aops_load_cell (iV x17.Days) tC3 (wants_some (c := (decide (x17.Days < 0))) (b := false) 31 rfl rfl hb21) rfl rfl rfl rfl rfl ?_
                  refine aops_bin (.bool (decide (x17.Days > 10000))) (wants_some (c := (decide (x17.Days < 0))) (b := false) 31 rfl rfl hb21) rfl rfl rfl rfl ?_
                  refine aops_pick false (cb := (decide (x17.Days < 0))) (bV (decide (x17.Days > 10000))) wants_none rfl hb21 rfl rfl ?_
                  refine aops_nil ?_
                  refine awp_cond (decide (x17.Days > 10000)) rfl (fun hb22 => ?_) (fun hb22 => ?_)
                  · replace h := ite_t hb22 h
                    refine awp_seq ?_
                    refine awp_region ?_
                    refine aops_assign (iV 9) wants_none rfl rfl ?_
                    refine aops_nil ?_
                    refine awp_ret ?_
                    obtain rfl := Option.some.inj h
                    exact ⟨.inl rfl, .one (.tmp rfl (Imm.con _))⟩
                  · replace h := ite_f hb22 h
                    refine awp_skip ?_
                    refine awp_seq ?_
                    rcases Bool.eq_false_or_eq_true (decide (n6 > 0)) with hb23 | hb23
                    · replace h := ite_t hb23 h
                      replace h := bind_some h
                      obtain ⟨x24, hx25, h⟩ := h
                      refine awp_any [OD.mk [(3, (iV n6))] [] [(36, (iV n6))] [],
                            OD.mk [(36, (iV n6))] [] [(37, (bV (decide (n6 > 0))))] [],
                            OD.mk [(37, (bV (decide (n6 > 0))))] [] [(38, (bV (decide (n6 > 0))))] [],
                            OD.mk [(38, (bV (decide (n6 > 0)))), (4, (V.ptr 0 2 0 0))] [] [(39, (V.ptr 0 2 0 0))] [],
                            OD.mk [(38, (bV (decide (n6 > 0)))), (39, (V.ptr 0 2 0 0))] [(0, (Ob.arr 113 2 [[(iV x17.Severity), (iV x17.Days)]]))] [(40, (iV x17.Severity))] [],
                            OD.mk [(38, (bV (decide (n6 > 0)))), (0, (V.lst 2 (a1.map encTTerm)))] [] [(41, (V.lst 2 (a1.map encTTerm)))] [],
                            OD.mk [(38, (bV (decide (n6 > 0)))), (3, (iV n6))] [] [(42, (iV n6))] [],
                            OD.mk [(38, (bV (decide (n6 > 0)))), (42, (iV n6))] [] [(43, (iV (w64 (n6 - 1))))] [],
                            OD.mk [(38, (bV (decide (n6 > 0)))), (41, (V.lst 2 (a1.map encTTerm))), (43, (iV (w64 (n6 - 1))))] [] [(44, (V.iptr [(iV x24.Severity), (iV x24.Days)] 0))] [],
                            OD.mk [(38, (bV (decide (n6 > 0)))), (44, (V.iptr [(iV x24.Severity), (iV x24.Days)] 0))] [] [(45, (V.iptr [(iV x24.Severity), (iV x24.Days)] 0))] [],
                            OD.mk [(38, (bV (decide (n6 > 0)))), (45, (V.iptr [(iV x24.Severity), (iV x24.Days)] 0))] [] [(46, (iV x24.Severity))] [],
                            OD.mk [(38, (bV (decide (n6 > 0)))), (40, (iV x17.Severity)), (46, (iV x24.Severity))] [] [(47, (bV (decide (x17.Severity ≤ x24.Severity))))] [],
                            OD.mk [(38, (bV (decide (n6 > 0)))), (47, (bV (decide (x17.Severity ≤ x24.Severity))))] [] [(48, (bV (decide (x17.Severity ≤ x24.Severity))))] []] mixed ⟨⟨rfl, trivial⟩, trivial, ⟨⟨rfl, trivial⟩, trivial, ⟨⟨rfl, trivial⟩, trivial, ⟨⟨rfl, rfl, trivial⟩, trivial, ⟨⟨rfl, rfl, trivial⟩, ⟨rfl, trivial⟩, ⟨⟨rfl, rfl, trivial⟩, trivial, ⟨⟨rfl, rfl, trivial⟩, trivial, ⟨⟨rfl, rfl, trivial⟩, trivial, ⟨⟨rfl, rfl, rfl, trivial⟩, trivial, ⟨⟨rfl, rfl, trivial⟩, trivial, ⟨⟨rfl, rfl, trivial⟩, trivial, ⟨⟨rfl, rfl, rfl, trivial⟩, trivial, ⟨⟨rfl, rfl, trivial⟩, trivial, trivial⟩⟩⟩⟩⟩⟩⟩⟩⟩⟩⟩⟩⟩ (by kernel_rfl) (.cons (fun S hn h hh => aops_move (iV n6) wants_none h.1 rfl (aops_nil ⟨rfl, rfl⟩)) (.cons (fun S hn h hh => aops_bin (.bool (decide (n6 > 0))) wants_none h.1 rfl rfl rfl (aops_nil ⟨rfl, rfl⟩)) (.cons (fun S hn h hh => aops_move (bV (decide (n6 > 0))) wants_none h.1 rfl (aops_nil ⟨rfl, rfl⟩)) (.cons (fun S hn h hh => aops_fieldAddr tF113_0 (wants_some (c := (decide (n6 > 0))) (b := true) 38 rfl h.1 hb23) h.2.1 rfl (aops_nil ⟨rfl, rfl⟩)) (.cons (fun S hn h hh => aops_load_cell (iV x17.Severity) tC3 (wants_some (c := (decide (n6 > 0))) (b := true) 38 rfl h.1 hb23) h.2.1 hh.1 rfl rfl rfl (aops_nil ⟨rfl, rfl⟩)) (.cons (fun S hn h hh => aops_move (V.lst 2 (a1.map encTTerm)) (wants_some (c := (decide (n6 > 0))) (b := true) 38 rfl h.1 hb23) h.2.1 rfl (aops_nil ⟨rfl, rfl⟩)) (.cons (fun S hn h hh => aops_move (iV n6) (wants_some (c := (decide (n6 > 0))) (b := true) 38 rfl h.1 hb23) h.2.1 rfl (aops_nil ⟨rfl, rfl⟩)) (.cons (fun S hn h hh => aops_bin (.int .i64 (w64 (n6 - 1))) (wants_some (c := (decide (n6 > 0))) (b := true) 38 rfl h.1 hb23) h.2.1 rfl rfl rfl (aops_nil ⟨rfl, rfl⟩)) (.cons (fun S hn h hh => aops_index_lst [(iV x24.Severity), (iV x24.Days)] tSl33 (wants_some (c := (decide (n6 > 0))) (b := true) 38 rfl h.1 hb23) h.2.1 h.2.2.1 (idx_some hx25).1 (idx_map encTTerm hx25) rfl (aops_nil ⟨rfl, rfl⟩)) (.cons (fun S hn h hh => aops_ifieldAddr tF113_0 (wants_some (c := (decide (n6 > 0))) (b := true) 38 rfl h.1 hb23) h.2.1 rfl (aops_nil ⟨rfl, rfl⟩)) (.cons (fun S hn h hh => aops_iload_cell (iV x24.Severity) tC3 (wants_some (c := (decide (n6 > 0))) (b := true) 38 rfl h.1 hb23) h.2.1 rfl rfl (aops_nil ⟨rfl, rfl⟩)) (.cons (fun S hn h hh => aops_bin (.bool (decide (x17.Severity ≤ x24.Severity))) (wants_some (c := (decide (n6 > 0))) (b := true) 38 rfl h.1 hb23) h.2.1 h.2.2.1 rfl rfl (aops_nil ⟨rfl, rfl⟩)) (.cons (fun S hn h hh => aops_pick true (cb := (decide (n6 > 0))) (bV (decide (x17.Severity ≤ x24.Severity))) wants_none h.1 hb23 h.2.1 rfl (aops_nil ⟨rfl, rfl⟩)) .nil))))))))))))) ?_
                      refine awp_cond (decide (x17.Severity ≤ x24.Severity)) rfl (fun hb26 => ?_) (fun hb26 => ?_)
                      · replace h := ite_t hb26 h
                        refine awp_seq ?_
                        refine awp_region ?_
                        refine aops_assign (iV 10) wants_none rfl rfl ?_
                        refine aops_nil ?_
                        refine awp_ret ?_
                        obtain rfl := Option.some.inj h
                        exact ⟨.inl rfl, .one (.tmp rfl (Imm.con _))⟩
                      · replace h := ite_f hb26 h
                        refine awp_skip ?_
                        exact ⟨(x17.Severity, (decide (x17.Severity > 100)), x17.Days, (decide (x17.Days < 0)), x17.Days, (decide (x17.Days > 10000)), x17.Severity, x17.Days), h, (ghost_ren 1 (fun i => ([0] : List Nat).getD i 0) _ _ (by decide) (EnvSub.get (.cons (Sub.imm (Imm.lst _ _)) (.cons (Sub.imm (Imm.lst _ _)) (.cons (Sub.imm (Imm.con _)) (.cons (Sub.imm (Imm.con _)) (.cons (Sub.ptr rfl rfl) (.cons (Sub.imm (Imm.con _)) (.cons (Sub.imm (Imm.con _)) (.cons (Sub.ptr rfl rfl) (.cons (Sub.imm (Imm.con _)) (.cons (Sub.imm (Imm.con _)) (.cons (Sub.ptr rfl rfl) (.cons (Sub.imm (Imm.con _)) (.cons (Sub.imm (Imm.con _)) .nil)))))))))))))) (HpSub.get (.cons rfl (ObSub.box (.cons (Sub.imm (Imm.con _)) (.cons (Sub.imm (Imm.con _)) .nil))) .nil)))⟩
                    · replace h := ite_f hb23 h
                      refine awp_any [OD.mk [(3, (iV n6))] [] [(36, (iV n6))] [],
                            OD.mk [(36, (iV n6))] [] [(37, (bV (decide (n6 > 0))))] [],
                            OD.mk [(37, (bV (decide (n6 > 0))))] [] [(38, (bV (decide (n6 > 0))))] [],
                            OD.mk [(38, (bV (decide (n6 > 0))))] [] [(39, (V.con undef))] [],
                            OD.mk [(38, (bV (decide (n6 > 0))))] [] [(40, (V.con undef))] [],
                            OD.mk [(38, (bV (decide (n6 > 0))))] [] [(41, (V.con undef))] [],
                            OD.mk [(38, (bV (decide (n6 > 0))))] [] [(42, (V.con undef))] [],
                            OD.mk [(38, (bV (decide (n6 > 0))))] [] [(43, (V.con undef))] [],
                            OD.mk [(38, (bV (decide (n6 > 0))))] [] [(44, (V.con undef))] [],
                            OD.mk [(38, (bV (decide (n6 > 0))))] [] [(45, (V.con undef))] [],
                            OD.mk [(38, (bV (decide (n6 > 0))))] [] [(46, (V.con undef))] [],
                            OD.mk [(38, (bV (decide (n6 > 0))))] [] [(47, (V.con undef))] [],
                            OD.mk [(38, (bV (decide (n6 > 0))))] [] [(48, (bV false))] []] mixed ⟨⟨rfl, trivial⟩, trivial, ⟨⟨rfl, trivial⟩, trivial, ⟨⟨rfl, trivial⟩, trivial, ⟨⟨rfl, trivial⟩, trivial, ⟨⟨rfl, trivial⟩, trivial, ⟨⟨rfl, trivial⟩, trivial, ⟨⟨rfl, trivial⟩, trivial, ⟨⟨rfl, trivial⟩, trivial, ⟨⟨rfl, trivial⟩, trivial, ⟨⟨rfl, trivial⟩, trivial, ⟨⟨rfl, trivial⟩, trivial, ⟨⟨rfl, trivial⟩, trivial, ⟨⟨rfl, trivial⟩, trivial, trivial⟩⟩⟩⟩⟩⟩⟩⟩⟩⟩⟩⟩⟩ (by kernel_rfl) (.cons (fun S hn h hh => aops_move (iV n6) wants_none h.1 rfl (aops_nil ⟨rfl, rfl⟩)) (.cons (fun S hn h hh => aops_bin (.bool (decide (n6 > 0))) wants_none h.1 rfl rfl rfl (aops_nil ⟨rfl, rfl⟩)) (.cons (fun S hn h hh => aops_move (bV (decide (n6 > 0))) wants_none h.1 rfl (aops_nil ⟨rfl, rfl⟩)) (.cons (fun S hn h hh => aops_skip (wants_some (c := (decide (n6 > 0))) (b := false) 38 rfl h.1 hb23) rfl rfl (aops_nil ⟨rfl, rfl⟩)) (.cons (fun S hn h hh => aops_skip (wants_some (c := (decide (n6 > 0))) (b := false) 38 rfl h.1 hb23) rfl rfl (aops_nil ⟨rfl, rfl⟩)) (.cons (fun S hn h hh => aops_skip (wants_some (c := (decide (n6 > 0))) (b := false) 38 rfl h.1 hb23) rfl rfl (aops_nil ⟨rfl, rfl⟩)) (.cons (fun S hn h hh => aops_skip (wants_some (c := (decide (n6 > 0))) (b := false) 38 rfl h.1 hb23) rfl rfl (aops_nil ⟨rfl, rfl⟩)) (.cons (fun S hn h hh => aops_skip (wants_some (c := (decide (n6 > 0))) (b := false) 38 rfl h.1 hb23) rfl rfl (aops_nil ⟨rfl, rfl⟩)) (.cons (fun S hn h hh => aops_skip (wants_some (c := (decide (n6 > 0))) (b := false) 38 rfl h.1 hb23) rfl rfl (aops_nil ⟨rfl, rfl⟩)) (.cons (fun S hn h hh => aops_skip (wants_some (c := (decide (n6 > 0))) (b := false) 38 rfl h.1 hb23) rfl rfl (aops_nil ⟨rfl, rfl⟩)) (.cons (fun S hn h hh => aops_skip (wants_some (c := (decide (n6 > 0))) (b := false) 38 rfl h.1 hb23) rfl rfl (aops_nil ⟨rfl, rfl⟩)) (.cons (fun S hn h hh => aops_skip (wants_some (c := (decide (n6 > 0))) (b := false) 38 rfl h.1 hb23) rfl rfl (aops_nil ⟨rfl, rfl⟩)) (.cons (fun S hn h hh => aops_pick false (cb := (decide (n6 > 0))) (bV false) wants_none h.1 hb23 rfl rfl (aops_nil ⟨rfl, rfl⟩)) .nil))))))))))))) ?_
                      refine awp_cond_f rfl rfl ?_
                      refine awp_skip ?_
                      exact ⟨(x17.Severity, (decide (x17.Severity > 100)), x17.Days, (decide (x17.Days < 0)), x17.Days, (decide (x17.Days > 10000)), x17.Severity, x17.Days), h, (ghost_ren 1 (fun i => ([0] : List Nat).getD i 0) _ _ (by decide) (EnvSub.get (.cons (Sub.imm (Imm.lst _ _)) (.cons (Sub.imm (Imm.lst _ _)) (.cons (Sub.imm (Imm.con _)) (.cons (Sub.imm (Imm.con _)) (.cons (Sub.ptr rfl rfl) (.cons (Sub.imm (Imm.con _)) (.cons (Sub.imm (Imm.con _)) (.cons (Sub.ptr rfl rfl) (.cons (Sub.imm (Imm.con _)) (.cons (Sub.imm (Imm.con _)) (.cons (Sub.ptr rfl rfl) (.cons (Sub.imm (Imm.con _)) (.cons (Sub.imm (Imm.con _)) .nil)))))))))))))) (HpSub.get (.cons rfl (ObSub.box (.cons (Sub.imm (Imm.con _)) (.cons (Sub.imm (Imm.con _)) .nil))) .nil)))⟩
          · clear h
            rintro ⟨n9, b10, n11, b12, n13, b14, n15, n16⟩ h
            subst hk8
            refine awp_region ?_
            refine aops_bin (.int .i64 (w64 (n6 + 1))) wants_none rfl rfl rfl rfl ?_
            refine aops_move (iV (w64 (n6 + 1))) wants_none rfl rfl ?_
            refine aops_nil ?_
            exact awp_back (ih (w64 (n6 + 1)) h) (ghost_ren 0 (fun i => ([] : List Nat).getD i 0) _ _ (by decide) (EnvSub.get (.cons (Sub.imm (Imm.lst _ _)) (.cons (Sub.imm (Imm.lst _ _)) (.cons (Sub.imm (Imm.con _)) (.cons (Sub.imm (Imm.con _)) .nil))))) (HpSub.get .nil))
        · replace h := ite_f hb7 h
          refine awp_exit ?_
          exact ⟨(), h, (ghost_ren 0 (fun i => ([] : List Nat).getD i 0) _ _ (by decide) (EnvSub.get .nil) (HpSub.get .nil))⟩
      · clear h
        intro _ h
        subst hk4
        refine awp_seq ?_
        refine awp_region ?_
        refine aops_assign (iV 0) wants_none rfl rfl ?_
        refine aops_nil ?_
        refine awp_ret ?_
        obtain rfl := Option.some.inj h
        exact ⟨.inl rfl, .one (.tmp rfl (Imm.con _))⟩

theorem W80 (F : Nat) (a1 : (List TTerm)) (a2 : Int) (r : (TTerm × Bool)) (h : M80 F a1 a2 = some r) : Pure Try.prog 80 [(V.lst 2 (a1.map encTTerm)), (iV a2)] (V.tup [(V.agg [(iV (r.1).Severity), (iV (r.1).Days)]), (bV (r.2))]) := by
  refine pure_enter Try.func80 rfl rfl (l := [.cell 4 113, .tmp 5]) rfl rfl [(0, (V.lst 2 (a1.map encTTerm))), (1, (iV a2))] rfl (fun w0 m0 => ?_)
  unfold M80 at h
  refine awp_seq ?_
  refine awp_region ?_
  refine aops_alloc tZ113 rfl rfl wants_none rfl ?_
  refine aops_assign (bV false) wants_none rfl rfl ?_
  refine aops_nil ?_
  refine awp_seq ?_
  refine awp_region ?_
  refine aops_build [] [(iV 0), (iV 0)] tZ113 tPl113 rfl wants_none evp_nil rfl rfl ?_
  refine aops_alloc tZ113 rfl rfl wants_none rfl ?_
  refine aops_store [(iV 0), (iV 0)] [[(iV 0), (iV 0)]] tS113 wants_none rfl rfl rfl rfl rfl rfl rfl rfl ?_
  refine aops_assign (bV false) wants_none rfl rfl ?_
  refine aops_nil ?_
  refine awp_seq ?_
  refine awp_seq ?_
  refine awp_region ?_
  refine aops_move (V.lst 2 (a1.map encTTerm)) wants_none rfl rfl ?_
  refine aops_len (n := a1.length) tIsSl33 wants_none rfl (congrArg some (List.length_map ..)) rfl ?_
  refine aops_move (iV 0) wants_none rfl rfl ?_
  refine aops_nil ?_
  replace h := jn_elim h
  obtain ⟨k3, hk3, h⟩ := h
  refine awp_cut (fun (p : Bool × Int × Int) => (⟨[(4, (V.ptr 0 2 0 0)), (6, (V.ptr 1 2 0 0)), (7, (bV (p.1)))], [(0, (Ob.arr 113 2 [[(iV 0), (iV 0)]])), (1, (Ob.arr 113 2 [[(iV (p.2.1)), (iV (p.2.2))]]))], 2⟩ : St)) (fun (p : Bool × Int × Int) => k3 p.1 p.2.1 p.2.2 = some r) ?_ ?_
  · clear hk3
    refine awp_block ?_
    refine awp_loop_ind (fun (p : Bool × Int × Int × Int) => (⟨[(1, (iV a2)), (4, (V.ptr 0 2 0 0)), (6, (V.ptr 1 2 0 0)), (7, (bV (p.1))), (11, (V.lst 2 (a1.map encTTerm))), (12, (iV ((a1.length : Nat) : Int))), (13, (iV (p.2.1)))], [(0, (Ob.arr 113 2 [[(iV 0), (iV 0)]])), (1, (Ob.arr 113 2 [[(iV (p.2.2.1)), (iV (p.2.2.2))]]))], 2⟩ : St)) (fun n (p : Bool × Int × Int × Int) => M80_L1 F a1 a2 k3 n p.1 p.2.1 p.2.2.1 p.2.2.2 = some r) (fun p h => by simp [M80_L1] at h) (fun n ih p h => ?_) F (false, 0, 0, 0) h (ghost_ren 2 (fun i => ([0, 1] : List Nat).getD i 0) _ _ (by decide) (EnvSub.get (.cons (Sub.imm (Imm.con _)) (.cons (Sub.ptr rfl rfl) (.cons (Sub.ptr rfl rfl) (.cons (Sub.imm (Imm.con _)) (.cons (Sub.imm (Imm.lst _ _)) (.cons (Sub.imm (Imm.con _)) (.cons (Sub.imm (Imm.con _)) .nil)))))))) (HpSub.get (.cons rfl (ObSub.box (.cons (Sub.imm (Imm.con _)) (.cons (Sub.imm (Imm.con _)) .nil))) (.cons rfl (ObSub.box (.cons (Sub.imm (Imm.con _)) (.cons (Sub.imm (Imm.con _)) .nil))) .nil))))
    obtain ⟨b11, n12, n13, n14⟩ := p
    unfold M80_L1 at h
    refine awp_loop ?_
    refine awp_seq ?_
    refine awp_region ?_
    refine aops_bin (.bool (decide (n12 < ((a1.length : Nat) : Int)))) wants_none rfl rfl rfl rfl ?_
    refine aops_nil ?_
    refine awp_seq ?_
    refine awp_cond (decide (n12 < ((a1.length : Nat) : Int))) rfl (fun hb15 => ?_) (fun hb15 => ?_)
    · replace h := ite_t hb15 h
      refine awp_skip ?_
      refine awp_seq ?_
      refine awp_block ?_
      refine awp_seq ?_
      refine awp_region ?_
      replace h := bind_some h
      obtain ⟨x16, hx17, h⟩ := h
      refine aops_index_lst [(iV x16.Severity), (iV x16.Days)] tSl33 wants_none rfl rfl (idx_some hx17).1 (idx_map encTTerm hx17) rfl ?_
      refine aops_iload_agg (cs := [(iV x16.Severity), (iV x16.Days)]) tA113 wants_none rfl rfl rfl rfl ?_
      refine aops_alloc tZ113 rfl rfl wants_none rfl ?_
      refine aops_store [(iV x16.Severity), (iV x16.Days)] [[(iV x16.Severity), (iV x16.Days)]] tS113 wants_none rfl rfl rfl rfl rfl rfl rfl rfl ?_
      refine aops_nil ?_
      refine awp_seq ?_
      refine awp_region ?_
      refine aops_fieldAddr tF113_0 wants_none rfl rfl ?_
      refine aops_load_cell (iV x16.Severity) tC3 wants_none rfl rfl rfl rfl rfl ?_
      refine aops_move (iV a2) wants_none rfl rfl ?_
      refine aops_bin (.bool (decide (x16.Severity ≤ a2))) wants_none rfl rfl rfl rfl ?_
      refine aops_nil ?_
      replace h := jn_elim h
      obtain ⟨k18, hk18, h⟩ := h
      refine awp_cut (fun (p : Bool × Int × Int) => (⟨[(1, (iV a2)), (4, (V.ptr 0 2 0 0)), (6, (V.ptr 1 2 0 0)), (7, (bV (p.1))), (11, (V.lst 2 (a1.map encTTerm))), (12, (iV ((a1.length : Nat) : Int))), (13, (iV n12))], [(0, (Ob.arr 113 2 [[(iV 0), (iV 0)]])), (1, (Ob.arr 113 2 [[(iV (p.2.1)), (iV (p.2.2))]]))], 2⟩ : St)) (fun (p : Bool × Int × Int) => k18 p.1 p.2.1 p.2.2 = some r) ?_ ?_
      · clear hk18
        refine awp_cond (decide (x16.Severity ≤ a2)) rfl (fun hb22 => ?_) (fun hb22 => ?_)
        · replace h := ite_t hb22 h
          refine awp_region ?_
          refine aops_load_agg (cs := [(iV x16.Severity), (iV x16.Days)]) tA113 wants_none rfl rfl rfl rfl rfl rfl ?_
          refine aops_store [(iV x16.Severity), (iV x16.Days)] [[(iV x16.Severity), (iV x16.Days)]] tS113 wants_none rfl rfl rfl rfl rfl rfl rfl rfl ?_
          refine aops_assign (bV true) wants_none rfl rfl ?_
          refine aops_nil ?_
          exact ⟨(true, x16.Severity, x16.Days), h, (ghost_ren 2 (fun i => ([0, 1] : List Nat).getD i 0) _ _ (by decide) (EnvSub.get (.cons (Sub.imm (Imm.con _)) (.cons (Sub.ptr rfl rfl) (.cons (Sub.ptr rfl rfl) (.cons (Sub.imm (Imm.con _)) (.cons (Sub.imm (Imm.lst _ _)) (.cons (Sub.imm (Imm.con _)) (.cons (Sub.imm (Imm.con _)) .nil)))))))) (HpSub.get (.cons rfl (ObSub.box (.cons (Sub.imm (Imm.con _)) (.cons (Sub.imm (Imm.con _)) .nil))) (.cons rfl (ObSub.box (.cons (Sub.imm (Imm.con _)) (.cons (Sub.imm (Imm.con _)) .nil))) .nil))))⟩
        · replace h := ite_f hb22 h
          refine awp_skip ?_
          exact ⟨(b11, n13, n14), h, (ghost_ren 2 (fun i => ([0, 1] : List Nat).getD i 0) _ _ (by decide) (EnvSub.get (.cons (Sub.imm (Imm.con _)) (.cons (Sub.ptr rfl rfl) (.cons (Sub.ptr rfl rfl) (.cons (Sub.imm (Imm.con _)) (.cons (Sub.imm (Imm.lst _ _)) (.cons (Sub.imm (Imm.con _)) (.cons (Sub.imm (Imm.con _)) .nil)))))))) (HpSub.get (.cons rfl (ObSub.box (.cons (Sub.imm (Imm.con _)) (.cons (Sub.imm (Imm.con _)) .nil))) (.cons rfl (ObSub.box (.cons (Sub.imm (Imm.con _)) (.cons (Sub.imm (Imm.con _)) .nil))) .nil))))⟩
      · clear h
        rintro ⟨b19, n20, n21⟩ h
        subst hk18
        refine awp_region ?_
        refine aops_bin (.int .i64 (w64 (n12 + 1))) wants_none rfl rfl rfl rfl ?_
        refine aops_move (iV (w64 (n12 + 1))) wants_none rfl rfl ?_
        refine aops_nil ?_
        exact awp_back (ih (b19, (w64 (n12 + 1)), n20, n21) h) (ghost_ren 2 (fun i => ([0, 1] : List Nat).getD i 0) _ _ (by decide) (EnvSub.get (.cons (Sub.imm (Imm.con _)) (.cons (Sub.ptr rfl rfl) (.cons (Sub.ptr rfl rfl) (.cons (Sub.imm (Imm.con _)) (.cons (Sub.imm (Imm.lst _ _)) (.cons (Sub.imm (Imm.con _)) (.cons (Sub.imm (Imm.con _)) .nil)))))))) (HpSub.get (.cons rfl (ObSub.box (.cons (Sub.imm (Imm.con _)) (.cons (Sub.imm (Imm.con _)) .nil))) (.cons rfl (ObSub.box (.cons (Sub.imm (Imm.con _)) (.cons (Sub.imm (Imm.con _)) .nil))) .nil))))
    · replace h := ite_f hb15 h
      refine awp_exit ?_
      exact ⟨(b11, n13, n14), h, (ghost_ren 2 (fun i => ([0, 1] : List Nat).getD i 0) _ _ (by decide) (EnvSub.get (.cons (Sub.ptr rfl rfl) (.cons (Sub.ptr rfl rfl) (.cons (Sub.imm (Imm.con _)) .nil)))) (HpSub.get (.cons rfl (ObSub.box (.cons (Sub.imm (Imm.con _)) (.cons (Sub.imm (Imm.con _)) .nil))) (.cons rfl (ObSub.box (.cons (Sub.imm (Imm.con _)) (.cons (Sub.imm (Imm.con _)) .nil))) .nil))))⟩
  · clear h
    rintro ⟨b4, n5, n6⟩ h
    subst hk3
    refine awp_seq ?_
    refine awp_region ?_
    refine aops_load_agg (cs := [(iV n5), (iV n6)]) tA113 wants_none rfl rfl rfl rfl rfl rfl ?_
    refine aops_move (bV b4) wants_none rfl rfl ?_
    refine aops_store [(iV n5), (iV n6)] [[(iV n5), (iV n6)]] tS113 wants_none rfl rfl rfl rfl rfl rfl rfl rfl ?_
    refine aops_assign (bV b4) wants_none rfl rfl ?_
    refine aops_nil ?_
    refine awp_ret ?_
    obtain rfl := Option.some.inj h
    exact ⟨.inl rfl, .two (.agg tA113 rfl rfl rfl rfl rfl (.cons (Imm.con _) (.cons (Imm.con _) .nil))) (.tmp rfl (Imm.con _))⟩

theorem W25 (F : Nat) (a1 : TCalendar) (a2 : (List TTerm)) (a3 : TWindow) (r : (Int × Bool × Int)) (h : M25 F a1 a2 a3 = some r) : Pure Try.prog 25 [(V.agg [(V.lst 1 (a1.Free.map encI_i64)), (V.lst 1 (a1.Holidays.map encI_i64))]), (V.lst 2 (a2.map encTTerm)), (V.agg [(sV a3.Advisory), (sV a3.Component), (iV a3.Severity), (iV a3.From), (iV a3.To), (bV a3.Open)])] (V.tup [(iV (r.1)), (bV (r.2.1)), (iV (r.2.2))]) := by
  refine pure_enter Try.func25 rfl rfl (l := [.tmp 6, .tmp 7, .tmp 8]) rfl rfl [(0, (V.agg [(V.lst 1 (a1.Free.map encI_i64)), (V.lst 1 (a1.Holidays.map encI_i64))])), (1, (V.lst 2 (a2.map encTTerm))), (2, (V.agg [(sV a3.Advisory), (sV a3.Component), (iV a3.Severity), (iV a3.From), (iV a3.To), (bV a3.Open)]))] rfl (fun w0 m0 => ?_)
  unfold M25 at h
  refine awp_seq ?_
  refine awp_region ?_
  refine aops_box [(V.lst 1 (a1.Free.map encI_i64)), (V.lst 1 (a1.Holidays.map encI_i64))] wants_none rfl rfl rfl rfl ?_
  refine aops_box [(sV a3.Advisory), (sV a3.Component), (iV a3.Severity), (iV a3.From), (iV a3.To), (bV a3.Open)] wants_none rfl rfl rfl rfl ?_
  refine aops_assign (iV 0) wants_none rfl rfl ?_
  refine aops_assign (bV false) wants_none rfl rfl ?_
  refine aops_assign (iV 0) wants_none rfl rfl ?_
  refine aops_nil ?_
  refine awp_seq ?_
  refine awp_seq ?_
  refine awp_region ?_
  refine aops_load_agg (cs := [(V.lst 1 (a1.Free.map encI_i64)), (V.lst 1 (a1.Holidays.map encI_i64))]) tA24 wants_none rfl rfl rfl rfl rfl rfl ?_
  replace h := bind_some h
  obtain ⟨y4, hx5, h⟩ := h
  refine aops_call (iV y4) [(V.agg [(V.lst 1 (a1.Free.map encI_i64)), (V.lst 1 (a1.Holidays.map encI_i64))])] fOk22 wants_none (evm_cons rfl evm_nil) (.cons (Imm.agg (.cons (Imm.lst _ _) (.cons (Imm.lst _ _) .nil))) .nil) (W22 F a1 y4 hx5) rfl ?_
  refine aops_assign (iV y4) wants_none rfl rfl ?_
  refine aops_nil ?_
  refine awp_seq ?_
  refine awp_region ?_
  refine aops_move (iV y4) wants_none rfl rfl ?_
  refine aops_bin (.bool (y4 != 0)) wants_none rfl rfl rfl rfl ?_
  refine aops_nil ?_
  refine awp_cond (y4 != 0) rfl (fun hb6 => ?_) (fun hb6 => ?_)
  · replace h := ite_t hb6 h
    refine awp_seq ?_
    refine awp_region ?_
    refine aops_move (iV y4) wants_none rfl rfl ?_
    refine aops_assign (iV 0) wants_none rfl rfl ?_
    refine aops_assign (bV false) wants_none rfl rfl ?_
    refine aops_assign (iV y4) wants_none rfl rfl ?_
    refine aops_nil ?_
    refine awp_ret ?_
    obtain rfl := Option.some.inj h
    exact ⟨.inl rfl, .three (.tmp rfl (Imm.con _)) (.tmp rfl (Imm.con _)) (.tmp rfl (Imm.con _))⟩
  · replace h := ite_f hb6 h
    refine awp_skip ?_
    refine awp_seq ?_
    refine awp_seq ?_
    refine awp_region ?_
    refine aops_move (V.lst 2 (a2.map encTTerm)) wants_none rfl rfl ?_
    replace h := bind_some h
    obtain ⟨y7, hx8, h⟩ := h
    refine aops_call (iV y7) [(V.lst 2 (a2.map encTTerm))] fOk27 wants_none (evm_cons rfl evm_nil) (.cons (Imm.lst _ _) .nil) (W27 F a2 y7 hx8) rfl ?_
    refine aops_assign (iV y7) wants_none rfl rfl ?_
    refine aops_nil ?_
    refine awp_seq ?_
    refine awp_region ?_
    refine aops_move (iV y7) wants_none rfl rfl ?_
    refine aops_bin (.bool (y7 != 0)) wants_none rfl rfl rfl rfl ?_
    refine aops_nil ?_
    refine awp_cond (y7 != 0) rfl (fun hb9 => ?_) (fun hb9 => ?_)
    · replace h := ite_t hb9 h
      refine awp_seq ?_
      refine awp_region ?_
      refine aops_move (iV y7) wants_none rfl rfl ?_
      refine aops_assign (iV 0) wants_none rfl rfl ?_
      refine aops_assign (bV false) wants_none rfl rfl ?_
      refine aops_assign (iV y7) wants_none rfl rfl ?_
      refine aops_nil ?_
      refine awp_ret ?_
      obtain rfl := Option.some.inj h
      exact ⟨.inl rfl, .three (.tmp rfl (Imm.con _)) (.tmp rfl (Imm.con _)) (.tmp rfl (Imm.con _))⟩
    · replace h := ite_f hb9 h
      refine awp_skip ?_
      refine awp_seq ?_
      refine awp_seq ?_
      refine awp_region ?_
      refine aops_fieldAddr tF35_2 wants_none rfl rfl ?_
      refine aops_load_cell (iV a3.Severity) tC3 wants_none rfl rfl rfl rfl rfl ?_
      refine aops_bin (.bool (decide (a3.Severity < 0))) wants_none rfl rfl rfl rfl ?_
      refine aops_move (bV (decide (a3.Severity < 0))) wants_none rfl rfl ?_
      rcases Bool.eq_false_or_eq_true (decide (a3.Severity < 0)) with hb10 | hb10
      · replace h := ite_t hb10 h
        refine aops_skip (wants_some (c := (decide (a3.Severity < 0))) (b := true) 28 rfl rfl hb10) rfl rfl ?_
        refine aops_skip (wants_some (c := (decide (a3.Severity < 0))) (b := true) 28 rfl rfl hb10) rfl rfl ?_
        refine aops_skip (wants_some (c := (decide (a3.Severity < 0))) (b := true) 28 rfl rfl hb10) rfl rfl ?_
        refine aops_pick true (cb := (decide (a3.Severity < 0))) (bV true) wants_none rfl hb10 rfl rfl ?_
        refine aops_move (bV true) wants_none rfl rfl ?_
        refine aops_skip (wants_some (c := true) (b := true) 33 rfl rfl rfl) rfl rfl ?_
        refine aops_skip (wants_some (c := true) (b := true) 33 rfl rfl rfl) rfl rfl ?_
        refine aops_skip (wants_some (c := true) (b := true) 33 rfl rfl rfl) rfl rfl ?_
        refine aops_skip (wants_some (c := true) (b := true) 33 rfl rfl rfl) rfl rfl ?_
        refine aops_pick true (cb := true) (bV true) wants_none rfl rfl rfl rfl ?_
        refine aops_nil ?_
        refine awp_cond_t rfl rfl ?_
        refine awp_seq ?_
        refine awp_region ?_
        refine aops_assign (iV 0) wants_none rfl rfl ?_
        refine aops_assign (bV false) wants_none rfl rfl ?_
        refine aops_assign (iV 9) wants_none rfl rfl ?_
        refine aops_nil ?_
        refine awp_ret ?_
        obtain rfl := Option.some.inj h
        exact ⟨.inl rfl, .three (.tmp rfl (Imm.con _)) (.tmp rfl (Imm.con _)) (.tmp rfl (Imm.con _))⟩
      · replace h := ite_f hb10 h
        refine aops_fieldAddr tF35_2 (wants_some (c := (decide (a3.Severity < 0))) (b := false) 28 rfl rfl hb10) rfl rfl ?_
        refine aops_load_cell (iV a3.Severity) tC3 (wants_some (c := (decide (a3.Severity < 0))) (b := false) 28 rfl rfl hb10) rfl rfl rfl rfl rfl ?_
        refine aops_bin (.bool (decide (a3.Severity > 100))) (wants_some (c := (decide (a3.Severity < 0))) (b := false) 28 rfl rfl hb10) rfl rfl rfl rfl ?_
        refine aops_pick false (cb := (decide (a3.Severity < 0))) (bV (decide (a3.Severity > 100))) wants_none rfl hb10 rfl rfl ?_
        refine aops_move (bV (decide (a3.Severity > 100))) wants_none rfl rfl ?_
        rcases Bool.eq_false_or_eq_true (decide (a3.Severity > 100)) with hb11 | hb11
        · replace h := ite_t hb11 h
          refine aops_skip (wants_some (c := (decide (a3.Severity > 100))) (b := true) 33 rfl rfl hb11) rfl rfl ?_
          refine aops_skip (wants_some (c := (decide (a3.Severity > 100))) (b := true) 33 rfl rfl hb11) rfl rfl ?_
          refine aops_skip (wants_some (c := (decide (a3.Severity > 100))) (b := true) 33 rfl rfl hb11) rfl rfl ?_
          refine aops_skip (wants_some (c := (decide (a3.Severity > 100))) (b := true) 33 rfl rfl hb11) rfl rfl ?_
          refine aops_pick true (cb := (decide (a3.Severity > 100))) (bV true) wants_none rfl hb11 rfl rfl ?_
          refine aops_nil ?_
          refine awp_cond_t rfl rfl ?_
          refine awp_seq ?_
          refine awp_region ?_
          refine aops_assign (iV 0) wants_none rfl rfl ?_
          refine aops_assign (bV false) wants_none rfl rfl ?_
          refine aops_assign (iV 9) wants_none rfl rfl ?_
          refine aops_nil ?_
          refine awp_ret ?_
          obtain rfl := Option.some.inj h
          exact ⟨.inl rfl, .three (.tmp rfl (Imm.con _)) (.tmp rfl (Imm.con _)) (.tmp rfl (Imm.con _))⟩
        · replace h := ite_f hb11 h
          refine aops_fieldAddr tF35_3 (wants_some (c := (decide (a3.Severity > 100))) (b := false) 33 rfl rfl hb11) rfl rfl ?_
          refine aops_load_cell (iV a3.From) tC3 (wants_some (c := (decide (a3.Severity > 100))) (b := false) 33 rfl rfl hb11) rfl rfl rfl rfl rfl ?_
          replace h := bind_some h
          obtain ⟨y12, hx13, h⟩ := h
          refine aops_call (bV y12) [(iV a3.From)] fOk72 (wants_some (c := (decide (a3.Severity > 100))) (b := false) 33 rfl rfl hb11) (evm_cons rfl evm_nil) (.cons (Imm.con _) .nil) (W72 F a3.From y12 hx13) rfl ?_
          refine aops_not (wants_some (c := (decide (a3.Severity > 100))) (b := false) 33 rfl rfl hb11) rfl rfl ?_
          refine aops_pick false (cb := (decide (a3.Severity > 100))) (bV (!y12)) wants_none rfl hb11 rfl rfl ?_
          refine aops_nil ?_
          refine awp_cond (!y12) rfl (fun hb14 => ?_) (fun hb14 => ?_)
          · replace h := ite_t hb14 h
            refine awp_seq ?_
            refine awp_region ?_
            refine aops_assign (iV 0) wants_none rfl rfl ?_
            refine aops_assign (bV false) wants_none rfl rfl ?_
            refine aops_assign (iV 9) wants_none rfl rfl ?_
            refine aops_nil ?_
            refine awp_ret ?_
            obtain rfl := Option.some.inj h
            exact ⟨.inl rfl, .three (.tmp rfl (Imm.con _)) (.tmp rfl (Imm.con _)) (.tmp rfl (Imm.con _))⟩
          · replace h := ite_f hb14 h
            refine awp_skip ?_
            refine awp_seq ?_
            refine awp_region ?_
            refine aops_move (V.lst 2 (a2.map encTTerm)) wants_none rfl rfl ?_
            refine aops_fieldAddr tF35_2 wants_none rfl rfl ?_
            refine aops_load_cell (iV a3.Severity) tC3 wants_none rfl rfl rfl rfl rfl ?_
            replace h := bind_some h
            obtain ⟨y15, hx16, h⟩ := h
            refine aops_call (V.tup [(V.agg [(iV (y15.1).Severity), (iV (y15.1).Days)]), (bV (y15.2))]) [(V.lst 2 (a2.map encTTerm)), (iV a3.Severity)] fOk80 wants_none (evm_cons rfl (evm_cons rfl evm_nil)) (.cons (Imm.lst _ _) (.cons (Imm.con _) .nil)) (W80 F a2 a3.Severity y15 hx16) rfl ?_
            refine aops_move (V.tup [(V.agg [(iV (y15.1).Severity), (iV (y15.1).Days)]), (bV (y15.2))]) wants_none rfl rfl ?_
            refine aops_extract (V.agg [(iV (y15.1).Severity), (iV (y15.1).Days)]) wants_none rfl rfl rfl ?_
            refine aops_extract (bV (y15.2)) wants_none rfl rfl rfl ?_
            refine aops_alloc tZ113 rfl rfl wants_none rfl ?_
            refine aops_store [(iV (y15.1).Severity), (iV (y15.1).Days)] [[(iV (y15.1).Severity), (iV (y15.1).Days)]] tS113 wants_none rfl rfl rfl rfl rfl rfl rfl rfl ?_
            refine aops_assign (bV (y15.2)) wants_none rfl rfl ?_
            refine aops_nil ?_
            refine awp_seq ?_
            refine awp_seq ?_
            refine awp_region ?_
            refine aops_move (bV (y15.2)) wants_none rfl rfl ?_
            refine aops_not wants_none rfl rfl ?_
            refine aops_nil ?_
            refine awp_cond (!(y15.2)) rfl (fun hb17 => ?_) (fun hb17 => ?_)
            · replace h := ite_t hb17 h
              refine awp_seq ?_
              refine awp_region ?_
              refine aops_assign (iV 0) wants_none rfl rfl ?_
              refine aops_assign (bV false) wants_none rfl rfl ?_
              refine aops_assign (iV 0) wants_none rfl rfl ?_
              refine aops_nil ?_
              refine awp_ret ?_
              obtain rfl := Option.some.inj h
              exact ⟨.inl rfl, .three (.tmp rfl (Imm.con _)) (.tmp rfl (Imm.con _)) (.tmp rfl (Imm.con _))⟩
            · replace h := ite_f hb17 h
              refine awp_skip ?_
              refine awp_seq ?_
              replace h := bind_some h
              obtain ⟨y18, hx19, h⟩ := h
              replace h := bind_some h
              obtain ⟨y20, hx21, h⟩ := h
              refine awp_any [OD.mk [(3, (V.ptr 0 2 0 0))] [(0, (Ob.arr 24 2 [[(V.lst 1 (a1.Free.map encI_i64)), (V.lst 1 (a1.Holidays.map encI_i64))]]))] [(49, (V.agg [(V.lst 1 (a1.Free.map encI_i64)), (V.lst 1 (a1.Holidays.map encI_i64))]))] [],
                    OD.mk [(49, (V.agg [(V.lst 1 (a1.Free.map encI_i64)), (V.lst 1 (a1.Holidays.map encI_i64))]))] [] [(50, (V.agg [(bV (y18.free 0)), (bV (y18.free 1)), (bV (y18.free 2)), (bV (y18.free 3)), (bV (y18.free 4)), (bV (y18.free 5)), (bV (y18.free 6)), (V.imap (y18.holidays.map encM3_4))]))] [],
                    OD.mk [(5, (V.ptr 1 6 0 0))] [] [(51, (V.ptr 1 6 0 3))] [],
                    OD.mk [(51, (V.ptr 1 6 0 3))] [(1, (Ob.arr 35 6 [[(sV a3.Advisory), (sV a3.Component), (iV a3.Severity), (iV a3.From), (iV a3.To), (bV a3.Open)]]))] [(52, (iV a3.From))] [],
                    OD.mk [(11, (V.ptr 2 2 0 0))] [] [(53, (V.ptr 2 2 0 1))] [],
                    OD.mk [(53, (V.ptr 2 2 0 1))] [(2, (Ob.arr 113 2 [[(iV (y15.1).Severity), (iV (y15.1).Days)]]))] [(54, (iV (y15.1).Days))] [],
                    OD.mk [(50, (V.agg [(bV (y18.free 0)), (bV (y18.free 1)), (bV (y18.free 2)), (bV (y18.free 3)), (bV (y18.free 4)), (bV (y18.free 5)), (bV (y18.free 6)), (V.imap (y18.holidays.map encM3_4))])), (52, (iV a3.From)), (54, (iV (y15.1).Days))] [] [(55, (V.tup [(iV (y20.1)), (bV (y20.2))]))] [],
                    OD.mk [(55, (V.tup [(iV (y20.1)), (bV (y20.2))]))] [] [(48, (V.tup [(iV (y20.1)), (bV (y20.2))]))] [],
                    OD.mk [(48, (V.tup [(iV (y20.1)), (bV (y20.2))]))] [] [(56, (iV (y20.1)))] [],
                    OD.mk [(48, (V.tup [(iV (y20.1)), (bV (y20.2))]))] [] [(57, (bV (y20.2)))] [],
                    OD.mk [(56, (iV (y20.1)))] [] [(13, (iV (y20.1)))] [],
                    OD.mk [(57, (bV (y20.2)))] [] [(14, (bV (y20.2)))] []] mixed ⟨⟨rfl, trivial⟩, ⟨rfl, trivial⟩, ⟨⟨rfl, trivial⟩, trivial, ⟨⟨rfl, trivial⟩, trivial, ⟨⟨rfl, trivial⟩, ⟨rfl, trivial⟩, ⟨⟨rfl, trivial⟩, trivial, ⟨⟨rfl, trivial⟩, ⟨rfl, trivial⟩, ⟨⟨rfl, rfl, rfl, trivial⟩, trivial, ⟨⟨rfl, trivial⟩, trivial, ⟨⟨rfl, trivial⟩, trivial, ⟨⟨rfl, trivial⟩, trivial, ⟨⟨rfl, trivial⟩, trivial, ⟨⟨rfl, trivial⟩, trivial, trivial⟩⟩⟩⟩⟩⟩⟩⟩⟩⟩⟩⟩ (by kernel_rfl) (.cons (fun S hn h hh => aops_load_agg (cs := [(V.lst 1 (a1.Free.map encI_i64)), (V.lst 1 (a1.Holidays.map encI_i64))]) tA24 wants_none h.1 hh.1 rfl rfl rfl rfl (aops_nil ⟨rfl, rfl⟩)) (.cons (fun S hn h hh => aops_call (V.agg [(bV (y18.free 0)), (bV (y18.free 1)), (bV (y18.free 2)), (bV (y18.free 3)), (bV (y18.free 4)), (bV (y18.free 5)), (bV (y18.free 6)), (V.imap (y18.holidays.map encM3_4))]) [(V.agg [(V.lst 1 (a1.Free.map encI_i64)), (V.lst 1 (a1.Holidays.map encI_i64))])] fOk73 wants_none (evm_cons h.1 evm_nil) (.cons (Imm.agg (.cons (Imm.lst _ _) (.cons (Imm.lst _ _) .nil))) .nil) (W73 F a1 y18 hx19) rfl (aops_nil ⟨rfl, rfl⟩)) (.cons (fun S hn h hh => aops_fieldAddr tF35_3 wants_none h.1 rfl (aops_nil ⟨rfl, rfl⟩)) (.cons (fun S hn h hh => aops_load_cell (iV a3.From) tC3 wants_none h.1 hh.1 rfl rfl rfl (aops_nil ⟨rfl, rfl⟩)) (.cons (fun S hn h hh => aops_fieldAddr tF113_1 wants_none h.1 rfl (aops_nil ⟨rfl, rfl⟩)) (.cons (fun S hn h hh => aops_load_cell (iV (y15.1).Days) tC3 wants_none h.1 hh.1 rfl rfl rfl (aops_nil ⟨rfl, rfl⟩)) (.cons (fun S hn h hh => aops_call (V.tup [(iV (y20.1)), (bV (y20.2))]) [(V.agg [(bV (y18.free 0)), (bV (y18.free 1)), (bV (y18.free 2)), (bV (y18.free 3)), (bV (y18.free 4)), (bV (y18.free 5)), (bV (y18.free 6)), (V.imap (y18.holidays.map encM3_4))]), (iV a3.From), (iV (y15.1).Days)] fOk77 wants_none (evm_cons h.1 (evm_cons h.2.1 (evm_cons h.2.2.1 evm_nil))) (.cons (Imm.agg (.cons (Imm.con _) (.cons (Imm.con _) (.cons (Imm.con _) (.cons (Imm.con _) (.cons (Imm.con _) (.cons (Imm.con _) (.cons (Imm.con _) (.cons (Imm.imap _) .nil))))))))) (.cons (Imm.con _) (.cons (Imm.con _) .nil))) (W77 F y18 a3.From (y15.1).Days y20 hx21) rfl (aops_nil ⟨rfl, rfl⟩)) (.cons (fun S hn h hh => aops_move (V.tup [(iV (y20.1)), (bV (y20.2))]) wants_none h.1 rfl (aops_nil ⟨rfl, rfl⟩)) (.cons (fun S hn h hh => aops_extract (iV (y20.1)) wants_none h.1 rfl rfl (aops_nil ⟨rfl, rfl⟩)) (.cons (fun S hn h hh => aops_extract (bV (y20.2)) wants_none h.1 rfl rfl (aops_nil ⟨rfl, rfl⟩)) (.cons (fun S hn h hh => aops_assign (iV (y20.1)) wants_none h.1 rfl (aops_nil ⟨rfl, rfl⟩)) (.cons (fun S hn h hh => aops_assign (bV (y20.2)) wants_none h.1 rfl (aops_nil ⟨rfl, rfl⟩)) .nil)))))))))))) ?_
              refine awp_seq ?_
              refine awp_seq ?_
              refine awp_region ?_
              refine aops_move (bV (y20.2)) wants_none rfl rfl ?_
              refine aops_not wants_none rfl rfl ?_
              refine aops_nil ?_
              refine awp_cond (!(y20.2)) rfl (fun hb22 => ?_) (fun hb22 => ?_)
              · replace h := ite_t hb22 h
                refine awp_seq ?_
                refine awp_region ?_
                refine aops_assign (iV 0) wants_none rfl rfl ?_
                refine aops_assign (bV false) wants_none rfl rfl ?_
                refine aops_assign (iV 3) wants_none rfl rfl ?_
                refine aops_nil ?_
                refine awp_ret ?_
                obtain rfl := Option.some.inj h
                exact ⟨.inl rfl, .three (.tmp rfl (Imm.con _)) (.tmp rfl (Imm.con _)) (.tmp rfl (Imm.con _))⟩
              · replace h := ite_f hb22 h
                refine awp_skip ?_
                refine awp_seq ?_
                refine awp_region ?_
                refine aops_move (iV (y20.1)) wants_none rfl rfl ?_
                refine aops_assign (iV (y20.1)) wants_none rfl rfl ?_
                refine aops_assign (bV true) wants_none rfl rfl ?_
                refine aops_assign (iV 0) wants_none rfl rfl ?_
                refine aops_nil ?_
                refine awp_ret ?_
                obtain rfl := Option.some.inj h
                exact ⟨.inl rfl, .three (.tmp rfl (Imm.con _)) (.tmp rfl (Imm.con _)) (.tmp rfl (Imm.con _))⟩

theorem W5 (F : Nat) (a1 : TCalendar) (a2 : (List TTerm)) (a3 : TWindow) (r : Bool) (h : M5 F a1 a2 a3 = some r) : Pure Try.prog 5 [(V.agg [(V.lst 1 (a1.Free.map encI_i64)), (V.lst 1 (a1.Holidays.map encI_i64))]), (V.lst 2 (a2.map encTTerm)), (V.agg [(sV a3.Advisory), (sV a3.Component), (iV a3.Severity), (iV a3.From), (iV a3.To), (bV a3.Open)])] (bV r) := by
  refine pure_enter Try.func5 rfl rfl (l := [.tmp 6]) rfl rfl [(0, (V.agg [(V.lst 1 (a1.Free.map encI_i64)), (V.lst 1 (a1.Holidays.map encI_i64))])), (1, (V.lst 2 (a2.map encTTerm))), (2, (V.agg [(sV a3.Advisory), (sV a3.Component), (iV a3.Severity), (iV a3.From), (iV a3.To), (bV a3.Open)]))] rfl (fun w0 m0 => ?_)
  unfold M5 at h
  refine awp_seq ?_
  refine awp_region ?_
  refine aops_box [(V.lst 1 (a1.Free.map encI_i64)), (V.lst 1 (a1.Holidays.map encI_i64))] wants_none rfl rfl rfl rfl ?_
  refine aops_box [(sV a3.Advisory), (sV a3.Component), (iV a3.Severity), (iV a3.From), (iV a3.To), (bV a3.Open)] wants_none rfl rfl rfl rfl ?_
  refine aops_assign (bV false) wants_none rfl rfl ?_
  refine aops_nil ?_
  refine awp_seq ?_
  refine awp_region ?_
  refine aops_load_agg (cs := [(V.lst 1 (a1.Free.map encI_i64)), (V.lst 1 (a1.Holidays.map encI_i64))]) tA24 wants_none rfl rfl rfl rfl rfl rfl ?_
  refine aops_move (V.lst 2 (a2.map encTTerm)) wants_none rfl rfl ?_
  refine aops_load_agg (cs := [(sV a3.Advisory), (sV a3.Component), (iV a3.Severity), (iV a3.From), (iV a3.To), (bV a3.Open)]) tA35 wants_none rfl rfl rfl rfl rfl rfl ?_
  replace h := bind_some h
  obtain ⟨y4, hx5, h⟩ := h
  refine aops_call (V.tup [(iV (y4.1)), (bV (y4.2.1)), (iV (y4.2.2))]) [(V.agg [(V.lst 1 (a1.Free.map encI_i64)), (V.lst 1 (a1.Holidays.map encI_i64))]), (V.lst 2 (a2.map encTTerm)), (V.agg [(sV a3.Advisory), (sV a3.Component), (iV a3.Severity), (iV a3.From), (iV a3.To), (bV a3.Open)])] fOk24 wants_none (evm_cons rfl (evm_cons rfl (evm_cons rfl evm_nil))) (.cons (Imm.agg (.cons (Imm.lst _ _) (.cons (Imm.lst _ _) .nil))) (.cons (Imm.lst _ _) (.cons (Imm.agg (.cons (Imm.con _) (.cons (Imm.con _) (.cons (Imm.con _) (.cons (Imm.con _) (.cons (Imm.con _) (.cons (Imm.con _) .nil))))))) .nil))) (W24 F a1 a2 a3 y4 hx5) rfl ?_
  refine aops_move (V.tup [(iV (y4.1)), (bV (y4.2.1)), (iV (y4.2.2))]) wants_none rfl rfl ?_
  refine aops_extract (iV (y4.1)) wants_none rfl rfl rfl ?_
  refine aops_extract (bV (y4.2.1)) wants_none rfl rfl rfl ?_
  refine aops_extract (iV (y4.2.2)) wants_none rfl rfl rfl ?_
  refine aops_assign (iV (y4.1)) wants_none rfl rfl ?_
  refine aops_assign (bV (y4.2.1)) wants_none rfl rfl ?_
  refine aops_assign (iV (y4.2.2)) wants_none rfl rfl ?_
  refine aops_nil ?_
  refine awp_seq ?_
  refine awp_region ?_
  refine aops_load_agg (cs := [(V.lst 1 (a1.Free.map encI_i64)), (V.lst 1 (a1.Holidays.map encI_i64))]) tA24 wants_none rfl rfl rfl rfl rfl rfl ?_
  refine aops_move (V.lst 2 (a2.map encTTerm)) wants_none rfl rfl ?_
  refine aops_load_agg (cs := [(sV a3.Advisory), (sV a3.Component), (iV a3.Severity), (iV a3.From), (iV a3.To), (bV a3.Open)]) tA35 wants_none rfl rfl rfl rfl rfl rfl ?_
  replace h := bind_some h
  obtain ⟨y6, hx7, h⟩ := h
  refine aops_call (V.tup [(iV (y6.1)), (bV (y6.2.1)), (iV (y6.2.2))]) [(V.agg [(V.lst 1 (a1.Free.map encI_i64)), (V.lst 1 (a1.Holidays.map encI_i64))]), (V.lst 2 (a2.map encTTerm)), (V.agg [(sV a3.Advisory), (sV a3.Component), (iV a3.Severity), (iV a3.From), (iV a3.To), (bV a3.Open)])] fOk25 wants_none (evm_cons rfl (evm_cons rfl (evm_cons rfl evm_nil))) (.cons (Imm.agg (.cons (Imm.lst _ _) (.cons (Imm.lst _ _) .nil))) (.cons (Imm.lst _ _) (.cons (Imm.agg (.cons (Imm.con _) (.cons (Imm.con _) (.cons (Imm.con _) (.cons (Imm.con _) (.cons (Imm.con _) (.cons (Imm.con _) .nil))))))) .nil))) (W25 F a1 a2 a3 y6 hx7) rfl ?_
  refine aops_move (V.tup [(iV (y6.1)), (bV (y6.2.1)), (iV (y6.2.2))]) wants_none rfl rfl ?_
  refine aops_extract (iV (y6.1)) wants_none rfl rfl rfl ?_
  refine aops_extract (bV (y6.2.1)) wants_none rfl rfl rfl ?_
  refine aops_extract (iV (y6.2.2)) wants_none rfl rfl rfl ?_
  refine aops_assign (iV (y6.1)) wants_none rfl rfl ?_
  refine aops_assign (bV (y6.2.1)) wants_none rfl rfl ?_
  refine aops_assign (iV (y6.2.2)) wants_none rfl rfl ?_
  refine aops_nil ?_
  refine awp_seq ?_
  refine awp_region ?_
  refine aops_move (V.lst 2 (a2.map encTTerm)) wants_none rfl rfl ?_
  replace h := bind_some h
  obtain ⟨y8, hx9, h⟩ := h
  refine aops_call (iV y8) [(V.lst 2 (a2.map encTTerm))] fOk26 wants_none (evm_cons rfl evm_nil) (.cons (Imm.lst _ _) .nil) (W26 F a2 y8 hx9) rfl ?_
  refine aops_move (V.lst 2 (a2.map encTTerm)) wants_none rfl rfl ?_
  replace h := bind_some h
  obtain ⟨y10, hx11, h⟩ := h
  refine aops_call (iV y10) [(V.lst 2 (a2.map encTTerm))] fOk27 wants_none (evm_cons rfl evm_nil) (.cons (Imm.lst _ _) .nil) (W27 F a2 y10 hx11) rfl ?_
  refine aops_bin (.bool (y8 == y10)) wants_none rfl rfl rfl rfl ?_
  refine aops_move (bV (y8 == y10)) wants_none rfl rfl ?_
  rcases Bool.eq_false_or_eq_true (y8 == y10) with hb12 | hb12
  · replace h := ite_t hb12 h
    refine aops_move (iV (y4.1)) (wants_some (c := (y8 == y10)) (b := true) 34 rfl rfl hb12) rfl rfl ?_
    refine aops_move (iV (y6.1)) (wants_some (c := (y8 == y10)) (b := true) 34 rfl rfl hb12) rfl rfl ?_
    refine aops_bin (.bool ((y4.1) == (y6.1))) (wants_some (c := (y8 == y10)) (b := true) 34 rfl rfl hb12) rfl rfl rfl rfl ?_
    refine aops_pick true (cb := (y8 == y10)) (bV ((y4.1) == (y6.1))) wants_none rfl hb12 rfl rfl ?_
    refine aops_move (bV ((y4.1) == (y6.1))) wants_none rfl rfl ?_
    rcases Bool.eq_false_or_eq_true ((y4.1) == (y6.1)) with hb13 | hb13
    · replace h := ite_t hb13 h
      refine aops_move (bV (y4.2.1)) (wants_some (c := ((y4.1) == (y6.1))) (b := true) 39 rfl rfl hb13) rfl rfl ?_
      refine aops_move (bV (y6.2.1)) (wants_some (c := ((y4.1) == (y6.1))) (b := true) 39 rfl rfl hb13) rfl rfl ?_
      refine aops_beq false (wants_some (c := ((y4.1) == (y6.1))) (b := true) 39 rfl rfl hb13) tU4 rfl rfl rfl ?_
      refine aops_pick true (cb := ((y4.1) == (y6.1))) (bV ((y4.2.1) == (y6.2.1))) wants_none rfl hb13 rfl rfl ?_
      refine aops_move (bV ((y4.2.1) == (y6.2.1))) wants_none rfl rfl ?_
      rcases Bool.eq_false_or_eq_true ((y4.2.1) == (y6.2.1)) with hb14 | hb14
      · replace h := ite_t hb14 h
        refine aops_move (iV (y4.2.2)) (wants_some (c := ((y4.2.1) == (y6.2.1))) (b := true) 44 rfl rfl hb14) rfl rfl ?_
        refine aops_move (iV (y6.2.2)) (wants_some (c := ((y4.2.1) == (y6.2.1))) (b := true) 44 rfl rfl hb14) rfl rfl ?_
        refine aops_bin (.bool ((y4.2.2) == (y6.2.2))) (wants_some (c := ((y4.2.1) == (y6.2.1))) (b := true) 44 rfl rfl hb14) rfl rfl rfl rfl ?_
        refine aops_pick true (cb := ((y4.2.1) == (y6.2.1))) (bV ((y4.2.2) == (y6.2.2))) wants_none rfl hb14 rfl rfl ?_
        refine aops_move (bV ((y4.2.2) == (y6.2.2))) wants_none rfl rfl ?_
        rcases Bool.eq_false_or_eq_true ((y4.2.2) == (y6.2.2)) with hb15 | hb15
        · replace h := ite_t hb15 h
          replace h := bind_some h
          obtain ⟨y16, hx17, h⟩ := h
          refine aops_call (bV y16) [] fOk23 (wants_some (c := ((y4.2.2) == (y6.2.2))) (b := true) 49 rfl rfl hb15) evm_nil .nil (W23 F  y16 hx17) rfl ?_
          refine aops_pick true (cb := ((y4.2.2) == (y6.2.2))) (bV y16) wants_none rfl hb15 rfl rfl ?_
          refine aops_assign (bV y16) wants_none rfl rfl ?_
          refine aops_nil ?_
          refine awp_ret ?_
          obtain rfl := Option.some.inj h
          exact ⟨.inl rfl, .one (.tmp rfl (Imm.con _))⟩
        · replace h := ite_f hb15 h
          refine aops_skip (wants_some (c := ((y4.2.2) == (y6.2.2))) (b := false) 49 rfl rfl hb15) rfl rfl ?_
          refine aops_pick false (cb := ((y4.2.2) == (y6.2.2))) (bV false) wants_none rfl hb15 rfl rfl ?_
          refine aops_assign (bV false) wants_none rfl rfl ?_
          refine aops_nil ?_
          refine awp_ret ?_
          obtain rfl := Option.some.inj h
          exact ⟨.inl rfl, .one (.tmp rfl (Imm.con _))⟩
      · replace h := ite_f hb14 h
        refine aops_skip (wants_some (c := ((y4.2.1) == (y6.2.1))) (b := false) 44 rfl rfl hb14) rfl rfl ?_
        refine aops_skip (wants_some (c := ((y4.2.1) == (y6.2.1))) (b := false) 44 rfl rfl hb14) rfl rfl ?_
        refine aops_skip (wants_some (c := ((y4.2.1) == (y6.2.1))) (b := false) 44 rfl rfl hb14) rfl rfl ?_
        refine aops_pick false (cb := ((y4.2.1) == (y6.2.1))) (bV false) wants_none rfl hb14 rfl rfl ?_
        refine aops_move (bV false) wants_none rfl rfl ?_
        refine aops_skip (wants_some (c := false) (b := false) 49 rfl rfl rfl) rfl rfl ?_
        refine aops_pick false (cb := false) (bV false) wants_none rfl rfl rfl rfl ?_
        refine aops_assign (bV false) wants_none rfl rfl ?_
        refine aops_nil ?_
        refine awp_ret ?_
        obtain rfl := Option.some.inj h
        exact ⟨.inl rfl, .one (.tmp rfl (Imm.con _))⟩
    · replace h := ite_f hb13 h
      refine aops_skip (wants_some (c := ((y4.1) == (y6.1))) (b := false) 39 rfl rfl hb13) rfl rfl ?_
      refine aops_skip (wants_some (c := ((y4.1) == (y6.1))) (b := false) 39 rfl rfl hb13) rfl rfl ?_
      refine aops_skip (wants_some (c := ((y4.1) == (y6.1))) (b := false) 39 rfl rfl hb13) rfl rfl ?_
      refine aops_pick false (cb := ((y4.1) == (y6.1))) (bV false) wants_none rfl hb13 rfl rfl ?_
      refine aops_move (bV false) wants_none rfl rfl ?_
      refine aops_skip (wants_some (c := false) (b := false) 44 rfl rfl rfl) rfl rfl ?_
      refine aops_skip (wants_some (c := false) (b := false) 44 rfl rfl rfl) rfl rfl ?_
      refine aops_skip (wants_some (c := false) (b := false) 44 rfl rfl rfl) rfl rfl ?_
      refine aops_pick false (cb := false) (bV false) wants_none rfl rfl rfl rfl ?_
      refine aops_move (bV false) wants_none rfl rfl ?_
      refine aops_skip (wants_some (c := false) (b := false) 49 rfl rfl rfl) rfl rfl ?_
      refine aops_pick false (cb := false) (bV false) wants_none rfl rfl rfl rfl ?_
      refine aops_assign (bV false) wants_none rfl rfl ?_
      refine aops_nil ?_
      refine awp_ret ?_
      obtain rfl := Option.some.inj h
      exact ⟨.inl rfl, .one (.tmp rfl (Imm.con _))⟩
  · replace h := ite_f hb12 h
    refine aops_skip (wants_some (c := (y8 == y10)) (b := false) 34 rfl rfl hb12) rfl rfl ?_
    refine aops_skip (wants_some (c := (y8 == y10)) (b := false) 34 rfl rfl hb12) rfl rfl ?_
    refine aops_skip (wants_some (c := (y8 == y10)) (b := false) 34 rfl rfl hb12) rfl rfl ?_
    refine aops_pick false (cb := (y8 == y10)) (bV false) wants_none rfl hb12 rfl rfl ?_
    refine aops_move (bV false) wants_none rfl rfl ?_
    refine aops_skip (wants_some (c := false) (b := false) 39 rfl rfl rfl) rfl rfl ?_
    refine aops_skip (wants_some (c := false) (b := false) 39 rfl rfl rfl) rfl rfl ?_
    refine aops_skip (wants_some (c := false) (b := false) 39 rfl rfl rfl) rfl rfl ?_
    refine aops_pick false (cb := false) (bV false) wants_none rfl rfl rfl rfl ?_
    refine aops_move (bV false) wants_none rfl rfl ?_
    refine aops_skip (wants_some (c := false) (b := false) 44 rfl rfl rfl) rfl rfl ?_
    refine aops_skip (wants_some (c := false) (b := false) 44 rfl rfl rfl) rfl rfl ?_
    refine aops_skip (wants_some (c := false) (b := false) 44 rfl rfl rfl) rfl rfl ?_
    refine aops_pick false (cb := false) (bV false) wants_none rfl rfl rfl rfl ?_
    refine aops_move (bV false) wants_none rfl rfl ?_
    refine aops_skip (wants_some (c := false) (b := false) 49 rfl rfl rfl) rfl rfl ?_
    refine aops_pick false (cb := false) (bV false) wants_none rfl rfl rfl rfl ?_
    refine aops_assign (bV false) wants_none rfl rfl ?_
    refine aops_nil ?_
    refine awp_ret ?_
    obtain rfl := Option.some.inj h
    exact ⟨.inl rfl, .one (.tmp rfl (Imm.con _))⟩

end Go.Proofs.Ytkciogeafbbggaa
