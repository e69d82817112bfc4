/- Part of the proof: HW6a. -/
import Derived.Test.YtkciogeafbbggaaLHM
import Derived.Test.YtkciogeafbbggaaLHW3a
import Derived.KernelRfl
namespace Go.Proofs.Ytkciogeafbbggaa
open Go Go.Pv
set_option linter.unusedVariables false
set_option maxRecDepth 100000
theorem W131 (F : Nat) (a1 : (List UInt8)) (r : Bool) (h : M131 F a1 = some r) : Pure Try.prog 131 [(sV a1)] (bV r) := by
  refine pure_enter Try.func131 rfl rfl (l := [.tmp 2]) rfl rfl [(0, (sV a1))] rfl (fun w0 m0 => ?_)
  unfold M131 at h
  refine awp_seq ?_
  refine awp_region ?_
  refine aops_assign (bV false) wants_none rfl rfl ?_
  refine aops_nil ?_
  refine awp_seq ?_
  refine awp_seq ?_
  refine awp_region ?_
  refine aops_move (sV a1) wants_none rfl rfl ?_
  refine aops_lenT tStr9 wants_none rfl rfl ?_
  refine aops_move (iV 0) wants_none rfl rfl ?_
  refine aops_nil ?_
  replace h := jn_elim h
  obtain ⟨k2, hk2, h⟩ := h
  refine awp_cut (fun _ : Unit => (⟨[(0, (sV a1))], [], 0⟩ : St)) (fun _ : Unit => k2 = some r) ?_ ?_
  · clear hk2
    refine awp_block ?_
    replace h := chk_some h
    obtain ⟨hA12, h⟩ := h
    refine awp_loop_ind (fun (p : Int) => (⟨[(0, (sV a1)), (5, (iV (a1.length : Int))), (6, (iV p))], [], 0⟩ : St)) (fun n (p : Int) => RC (a1.length : Int) (fun tl nn => M131_L1 F a1 k2 tl nn = some r) n p) (fun p h => RC.zero h) (fun n ih1 p h => ?_) (Int.toNat (a1.length : Int) + 1) 0 (RC.start h) (ghost_ren 0 (fun i => ([] : List Nat).getD i 0) _ _ (by decide) (EnvSub.get (.cons (Sub.imm (Imm.con _)) (.cons (Sub.imm (Imm.con _)) (.cons (Sub.imm (Imm.con _)) .nil)))) (HpSub.get .nil) rfl)
    revert p
    intro n4 h
    refine awp_loop ?_
    refine awp_seq ?_
    refine awp_region ?_
    refine aops_bin (.bool (decide (n4 < (a1.length : Int)))) wants_none rfl rfl rfl rfl ?_
    refine aops_nil ?_
    refine awp_seq ?_
    refine awp_cond (decide (n4 < (a1.length : Int))) rfl (fun hb5 => ?_) (fun hb5 => ?_)
    · obtain ⟨tl, h, hk1⟩ := RC.t hA12 h hb5
      unfold M131_L1 at h
      refine awp_skip ?_
      refine awp_seq ?_
      refine awp_block ?_
      refine awp_seq ?_
      refine awp_region ?_
      refine aops_move (iV n4) wants_none rfl rfl ?_
      refine aops_assign (iV n4) wants_none rfl rfl ?_
      refine aops_nil ?_
      refine awp_seq ?_
      refine awp_region ?_
      refine aops_move (sV a1) wants_none rfl rfl ?_
      refine aops_move (iV n4) wants_none rfl rfl ?_
      replace h := bind_some h
      obtain ⟨c6, hx7, h⟩ := h
      refine aops_indexT c6 tStr9 wants_none rfl rfl (idx_some hx7).1 (idx_some hx7).2 rfl ?_
      refine aops_bin (.bool (decide ((c6.toNat : Int) < 33))) wants_none rfl rfl rfl rfl ?_
      refine aops_move (bV (decide ((c6.toNat : Int) < 33))) wants_none rfl rfl ?_
      rcases Bool.eq_false_or_eq_true (decide ((c6.toNat : Int) < 33)) with hb8 | hb8
      · replace h := ite_t hb8 h
        refine aops_skip (wants_some (c := (decide ((c6.toNat : Int) < 33))) (b := true) 13 rfl rfl hb8) rfl rfl ?_
        refine aops_skip (wants_some (c := (decide ((c6.toNat : Int) < 33))) (b := true) 13 rfl rfl hb8) rfl rfl ?_
        refine aops_skip (wants_some (c := (decide ((c6.toNat : Int) < 33))) (b := true) 13 rfl rfl hb8) rfl rfl ?_
        refine aops_skip (wants_some (c := (decide ((c6.toNat : Int) < 33))) (b := true) 13 rfl rfl hb8) rfl rfl ?_
        refine aops_pick true (cb := (decide ((c6.toNat : Int) < 33))) (bV true) wants_none rfl hb8 rfl rfl ?_
        refine aops_nil ?_
        refine awp_cond_t rfl rfl ?_
        refine awp_seq ?_
        refine awp_region ?_
        refine aops_assign (bV false) wants_none rfl rfl ?_
        refine aops_nil ?_
        refine awp_ret ?_
        obtain rfl := Option.some.inj h
        exact ⟨.inl rfl, .one (.tmp rfl (Imm.con _))⟩
      · replace h := ite_f hb8 h
        refine aops_move (sV a1) (wants_some (c := (decide ((c6.toNat : Int) < 33))) (b := false) 13 rfl rfl hb8) rfl rfl ?_
        refine aops_move (iV n4) (wants_some (c := (decide ((c6.toNat : Int) < 33))) (b := false) 13 rfl rfl hb8) rfl rfl ?_
        replace h := bind_some h
        obtain ⟨c9, hx10, h⟩ := h
        refine aops_indexT c9 tStr9 (wants_some (c := (decide ((c6.toNat : Int) < 33))) (b := false) 13 rfl rfl hb8) rfl rfl (idx_some hx10).1 (idx_some hx10).2 rfl ?_
        refine aops_bin (.bool (decide ((c9.toNat : Int) > 126))) (wants_some (c := (decide ((c6.toNat : Int) < 33))) (b := false) 13 rfl rfl hb8) rfl rfl rfl rfl ?_
        refine aops_pick false (cb := (decide ((c6.toNat : Int) < 33))) (bV (decide ((c9.toNat : Int) > 126))) wants_none rfl hb8 rfl rfl ?_
        refine aops_nil ?_
        refine awp_cond (decide ((c9.toNat : Int) > 126)) rfl (fun hb11 => ?_) (fun hb11 => ?_)
        · replace h := ite_t hb11 h
          refine awp_seq ?_
          refine awp_region ?_
          refine aops_assign (bV false) wants_none rfl rfl ?_
          refine aops_nil ?_
          refine awp_ret ?_
          obtain rfl := Option.some.inj h
          exact ⟨.inl rfl, .one (.tmp rfl (Imm.con _))⟩
        · replace h := ite_f hb11 h
          refine awp_skip ?_
          refine awp_region ?_
          refine aops_bin (.int .i64 (w64 (n4 + 1))) wants_none rfl rfl rfl rfl ?_
          refine aops_move (iV (w64 (n4 + 1))) wants_none rfl rfl ?_
          refine aops_nil ?_
          exact awp_back (ih1 (w64 (n4 + 1)) (hk1 _ h)) (ghost_ren 0 (fun i => ([] : List Nat).getD i 0) _ _ (by decide) (EnvSub.get (.cons (Sub.imm (Imm.con _)) (.cons (Sub.imm (Imm.con _)) (.cons (Sub.imm (Imm.con _)) .nil)))) (HpSub.get .nil) rfl)
    · replace h := RC.f h hb5
      unfold M131_L1 at h
      refine awp_exit ?_
      exact ⟨(), h, (ghost_ren 0 (fun i => ([] : List Nat).getD i 0) _ _ (by decide) (EnvSub.get (.cons (Sub.imm (Imm.con _)) .nil)) (HpSub.get .nil) rfl)⟩
  · clear h
    intro _ h
    subst hk2
    refine awp_seq ?_
    refine awp_region ?_
    refine aops_move (sV a1) wants_none rfl rfl ?_
    refine aops_binT (.bool (!(a1 == ([] : List UInt8)))) wants_none rfl rfl rfl rfl ?_
    refine aops_assign (bV (!(a1 == ([] : List UInt8)))) wants_none rfl rfl ?_
    refine aops_nil ?_
    refine awp_ret ?_
    obtain rfl := Option.some.inj h
    exact ⟨.inl rfl, .one (.tmp rfl (Imm.con _))⟩

theorem W93 (F : Nat) (a1 : (List UInt8)) (r : Bool) (h : M93 F a1 = some r) : Pure Try.prog 93 [(sV a1)] (bV r) := by
  refine pure_enter Try.func93 rfl rfl (l := [.tmp 2]) rfl rfl [(0, (sV a1))] rfl (fun w0 m0 => ?_)
  unfold M93 at h
  refine awp_seq ?_
  refine awp_region ?_
  refine aops_assign (bV false) wants_none rfl rfl ?_
  refine aops_nil ?_
  refine awp_seq ?_
  refine awp_region ?_
  refine aops_move (sV a1) wants_none rfl rfl ?_
  replace h := bind_some h
  obtain ⟨y2, hx3, h⟩ := h
  refine aops_call (bV y2) [(sV a1)] fOk131 wants_none (evm_cons rfl evm_nil) (.cons (Imm.con _) .nil) (W131 F a1 y2 hx3) rfl ?_
  refine aops_move (bV y2) wants_none rfl rfl ?_
  rcases Bool.eq_false_or_eq_true y2 with hb4 | hb4
  · replace h := ite_t hb4 h
    refine aops_move (sV a1) (wants_some (c := y2) (b := true) 5 rfl rfl hb4) rfl rfl ?_
    refine aops_lenT tStr9 (wants_some (c := y2) (b := true) 5 rfl rfl hb4) rfl rfl ?_
    refine aops_bin (.bool (decide ((a1.length : Int) ≤ 100))) (wants_some (c := y2) (b := true) 5 rfl rfl hb4) rfl rfl rfl rfl ?_
    refine aops_pick true (cb := y2) (bV (decide ((a1.length : Int) ≤ 100))) wants_none rfl hb4 rfl rfl ?_
    refine aops_assign (bV (decide ((a1.length : Int) ≤ 100))) wants_none rfl rfl ?_
    refine aops_nil ?_
    refine awp_ret ?_
    obtain rfl := Option.some.inj h
    exact ⟨.inl rfl, .one (.tmp rfl (Imm.con _))⟩
  · replace h := ite_f hb4 h
    refine aops_skip (wants_some (c := y2) (b := false) 5 rfl rfl hb4) rfl rfl ?_
    refine aops_skip (wants_some (c := y2) (b := false) 5 rfl rfl hb4) rfl rfl ?_
    refine aops_skip (wants_some (c := y2) (b := false) 5 rfl rfl hb4) rfl rfl ?_
    refine aops_pick false (cb := y2) (bV false) wants_none rfl hb4 rfl rfl ?_
    refine aops_assign (bV false) wants_none rfl rfl ?_
    refine aops_nil ?_
    refine awp_ret ?_
    obtain rfl := Option.some.inj h
    exact ⟨.inl rfl, .one (.tmp rfl (Imm.con _))⟩

theorem W84 (F : Nat) (a1 : TExposure) (r : Thistory_key) (h : M84 F a1 = some r) : Pure Try.prog 84 [(V.agg [(sV a1.Advisory), (sV a1.Component), (iV a1.Severity)])] (V.agg [(sV r.advisory), (sV r.component)]) := by
  refine pure_enter Try.func84 rfl rfl (l := [.cell 2 118]) rfl rfl [(0, (V.agg [(sV a1.Advisory), (sV a1.Component), (iV a1.Severity)]))] rfl (fun w0 m0 => ?_)
  unfold M84 at h
  refine awp_seq ?_
  refine awp_region ?_
  refine aops_box [(sV a1.Advisory), (sV a1.Component), (iV a1.Severity)] wants_none rfl rfl rfl rfl ?_
  refine aops_alloc tZ118 rfl rfl wants_none rfl ?_
  refine aops_nil ?_
  refine awp_seq ?_
  refine awp_region ?_
  refine aops_fieldAddr tF47_0 wants_none rfl rfl ?_
  refine aops_load_cell (sV a1.Advisory) tC9 wants_none rfl rfl rfl rfl rfl ?_
  refine aops_fieldAddr tF47_1 wants_none rfl rfl ?_
  refine aops_load_cell (sV a1.Component) tC9 wants_none rfl rfl rfl rfl rfl ?_
  refine aops_build [(0, (sV a1.Advisory)), (1, (sV a1.Component))] [(sV a1.Advisory), (sV a1.Component)] tZ118 tPl118 rfl wants_none (evp_cons rfl (evp_cons rfl evp_nil)) rfl rfl ?_
  refine aops_store [(sV a1.Advisory), (sV a1.Component)] [[(sV a1.Advisory), (sV a1.Component)]] tS118 wants_none rfl rfl rfl rfl rfl rfl rfl rfl ?_
  refine aops_nil ?_
  refine awp_ret ?_
  obtain rfl := Option.some.inj h
  exact ⟨.inl rfl, .one (.agg tA118 rfl rfl rfl rfl rfl (.cons (Imm.con _) (.cons (Imm.con _) .nil)))⟩

theorem W152 (F : Nat) (a1 : (List UInt8)) (r : Bool) (h : M152 F a1 = some r) : Pure Try.prog 152 [(sV a1)] (bV r) := by
  refine pure_enter Try.func152 rfl rfl (l := [.tmp 2]) rfl rfl [(0, (sV a1))] rfl (fun w0 m0 => ?_)
  unfold M152 at h
  refine awp_seq ?_
  refine awp_region ?_
  refine aops_assign (bV false) wants_none rfl rfl ?_
  refine aops_nil ?_
  refine awp_seq ?_
  refine awp_region ?_
  refine aops_move (sV a1) wants_none rfl rfl ?_
  refine aops_move (sV a1) wants_none rfl rfl ?_
  refine aops_binT (.bool (!(a1 == a1))) wants_none rfl rfl rfl rfl ?_
  refine aops_assign (bV (!(a1 == a1))) wants_none rfl rfl ?_
  refine aops_nil ?_
  refine awp_ret ?_
  obtain rfl := Option.some.inj h
  exact ⟨.inl rfl, .one (.tmp rfl (Imm.con _))⟩

theorem W138 (F : Nat) (a1 : (List UInt8)) (a2 : (List UInt8)) (r : Int) (h : M138 F a1 a2 = some r) : Pure Try.prog 138 [(sV a1), (sV a2)] (iV r) := by
  refine pure_enter Try.func138 rfl rfl (l := [.tmp 4]) rfl rfl [(0, (sV a1)), (1, (sV a2))] rfl (fun w0 m0 => ?_)
  unfold M138 at h
  refine awp_seq ?_
  refine awp_region ?_
  refine aops_assign (iV 0) wants_none rfl rfl ?_
  refine aops_nil ?_
  refine awp_seq ?_
  refine awp_region ?_
  refine aops_move (sV a1) wants_none rfl rfl ?_
  replace h := bind_some h
  obtain ⟨y3, hx4, h⟩ := h
  refine aops_call (bV y3) [(sV a1)] fOk152 wants_none (evm_cons rfl evm_nil) (.cons (Imm.con _) .nil) (W152 F a1 y3 hx4) rfl ?_
  refine aops_assign (bV y3) wants_none rfl rfl ?_
  refine aops_nil ?_
  refine awp_seq ?_
  refine awp_region ?_
  refine aops_move (sV a2) wants_none rfl rfl ?_
  replace h := bind_some h
  obtain ⟨y5, hx6, h⟩ := h
  refine aops_call (bV y5) [(sV a2)] fOk152 wants_none (evm_cons rfl evm_nil) (.cons (Imm.con _) .nil) (W152 F a2 y5 hx6) rfl ?_
  refine aops_assign (bV y5) wants_none rfl rfl ?_
  refine aops_nil ?_
  refine awp_seq ?_
  refine awp_seq ?_
  refine awp_region ?_
  refine aops_move (bV y3) wants_none rfl rfl ?_
  refine aops_nil ?_
  refine awp_cond y3 rfl (fun hb7 => ?_) (fun hb7 => ?_)
  · replace h := ite_t hb7 h
    refine awp_seq ?_
    refine awp_seq ?_
    refine awp_region ?_
    refine aops_move (bV y5) wants_none rfl rfl ?_
    refine aops_nil ?_
    refine awp_cond y5 rfl (fun hb8 => ?_) (fun hb8 => ?_)
    · replace h := ite_t hb8 h
      refine awp_seq ?_
      refine awp_region ?_
      refine aops_assign (iV 0) wants_none rfl rfl ?_
      refine aops_nil ?_
      refine awp_ret ?_
      obtain rfl := Option.some.inj h
      exact ⟨.inl rfl, .one (.tmp rfl (Imm.con _))⟩
    · replace h := ite_f hb8 h
      refine awp_skip ?_
      refine awp_seq ?_
      refine awp_region ?_
      refine aops_assign (iV (-1)) wants_none rfl rfl ?_
      refine aops_nil ?_
      refine awp_ret ?_
      obtain rfl := Option.some.inj h
      exact ⟨.inl rfl, .one (.tmp rfl (Imm.con _))⟩
  · replace h := ite_f hb7 h
    refine awp_skip ?_
    refine awp_seq ?_
    refine awp_seq ?_
    refine awp_region ?_
    refine aops_move (bV y5) wants_none rfl rfl ?_
    refine aops_nil ?_
    refine awp_cond y5 rfl (fun hb9 => ?_) (fun hb9 => ?_)
    · replace h := ite_t hb9 h
      refine awp_seq ?_
      refine awp_region ?_
      refine aops_assign (iV 1) wants_none rfl rfl ?_
      refine aops_nil ?_
      refine awp_ret ?_
      obtain rfl := Option.some.inj h
      exact ⟨.inl rfl, .one (.tmp rfl (Imm.con _))⟩
    · replace h := ite_f hb9 h
      refine awp_skip ?_
      refine awp_seq ?_
      refine awp_seq ?_
      refine awp_region ?_
      refine aops_move (sV a1) wants_none rfl rfl ?_
      refine aops_move (sV a2) wants_none rfl rfl ?_
      refine aops_binT (.bool (Op.bytesLess a1 a2)) wants_none rfl rfl rfl rfl ?_
      refine aops_nil ?_
      refine awp_cond (Op.bytesLess a1 a2) rfl (fun hb10 => ?_) (fun hb10 => ?_)
      · replace h := ite_t hb10 h
        refine awp_seq ?_
        refine awp_region ?_
        refine aops_assign (iV (-1)) wants_none rfl rfl ?_
        refine aops_nil ?_
        refine awp_ret ?_
        obtain rfl := Option.some.inj h
        exact ⟨.inl rfl, .one (.tmp rfl (Imm.con _))⟩
      · replace h := ite_f hb10 h
        refine awp_skip ?_
        refine awp_seq ?_
        refine awp_seq ?_
        refine awp_region ?_
        refine aops_move (sV a1) wants_none rfl rfl ?_
        refine aops_move (sV a2) wants_none rfl rfl ?_
        refine aops_binT (.bool (!(Op.bytesLess a1 a2 || a1 == a2))) wants_none rfl rfl rfl rfl ?_
        refine aops_nil ?_
        refine awp_cond (!(Op.bytesLess a1 a2 || a1 == a2)) rfl (fun hb11 => ?_) (fun hb11 => ?_)
        · replace h := ite_t hb11 h
          refine awp_seq ?_
          refine awp_region ?_
          refine aops_assign (iV 1) wants_none rfl rfl ?_
          refine aops_nil ?_
          refine awp_ret ?_
          obtain rfl := Option.some.inj h
          exact ⟨.inl rfl, .one (.tmp rfl (Imm.con _))⟩
        · replace h := ite_f hb11 h
          refine awp_skip ?_
          refine awp_seq ?_
          refine awp_region ?_
          refine aops_assign (iV 0) wants_none rfl rfl ?_
          refine aops_nil ?_
          refine awp_ret ?_
          obtain rfl := Option.some.inj h
          exact ⟨.inl rfl, .one (.tmp rfl (Imm.con _))⟩

theorem W149 (F : Nat) (a1 : (List Int)) (r : Int) (h : M149 F a1 = some r) : Pure Try.prog 149 [(V.lst 1 (a1.map encI_i64))] (iV r) := by
  refine pure_enter Try.func149 rfl rfl (l := [.tmp 2]) rfl rfl [(0, (V.lst 1 (a1.map encI_i64)))] rfl (fun w0 m0 => ?_)
  unfold M149 at h
  refine awp_seq ?_
  refine awp_region ?_
  refine aops_assign (iV 0) wants_none rfl rfl ?_
  refine aops_nil ?_
  refine awp_seq ?_
  refine awp_region ?_
  refine aops_assign (iV 0) wants_none rfl rfl ?_
  refine aops_nil ?_
  refine awp_seq ?_
  refine awp_seq ?_
  refine awp_region ?_
  refine aops_move (V.lst 1 (a1.map encI_i64)) wants_none rfl rfl ?_
  refine aops_len (n := a1.length) tIsSl22 wants_none rfl (congrArg some (List.length_map ..)) rfl ?_
  refine aops_move (iV 0) wants_none rfl rfl ?_
  refine aops_nil ?_
  replace h := jn_elim h
  obtain ⟨k2, hk2, h⟩ := h
  refine awp_cut (fun _ : Unit => (⟨[(3, (iV 0))], [], 0⟩ : St)) (fun _ : Unit => k2 = some r) ?_ ?_
  · clear hk2
    refine awp_block ?_
    refine awp_len (A := a1) 0 rfl (fun hA9 => ?_)
    refine awp_loop_ind (fun (p : Int) => (⟨[(3, (iV 0)), (6, (V.lst 1 (a1.map encI_i64))), (7, (iV ((a1.length : Nat) : Int))), (8, (iV p))], [], 0⟩ : St)) (fun n (p : Int) => RG a1 (fun tl nn => M149_L1 F k2 tl = some r) n p) (fun p h => RG.zero h) (fun n ih1 p h => ?_) (a1.length + 1) 0 (RG.start h) (ghost_ren 0 (fun i => ([] : List Nat).getD i 0) _ _ (by decide) (EnvSub.get (.cons (Sub.imm (Imm.con _)) (.cons (Sub.imm (Imm.lst _ _)) (.cons (Sub.imm (Imm.con _)) (.cons (Sub.imm (Imm.con _)) .nil))))) (HpSub.get .nil) rfl)
    revert p
    intro n4 h
    refine awp_loop ?_
    refine awp_seq ?_
    refine awp_region ?_
    refine aops_bin (.bool (decide (n4 < ((a1.length : Nat) : Int)))) wants_none rfl rfl rfl rfl ?_
    refine aops_nil ?_
    refine awp_seq ?_
    refine awp_cond (decide (n4 < ((a1.length : Nat) : Int))) rfl (fun hb5 => ?_) (fun hb5 => ?_)
    · obtain ⟨x6, tl, hx7, h, hk1⟩ := RG.t hA9 h hb5
      unfold M149_L1 at h
      refine awp_skip ?_
      refine awp_seq ?_
      refine awp_block ?_
      refine awp_seq ?_
      refine awp_region ?_
      refine aops_index_lst [(iV x6)] tSl22 wants_none rfl rfl (idx_some hx7).1 (idx_map encI_i64 hx7) rfl ?_
      refine aops_iload_cell (iV x6) tC3 wants_none rfl rfl rfl ?_
      refine aops_assign (iV x6) wants_none rfl rfl ?_
      refine aops_nil ?_
      refine awp_seq ?_
      refine awp_region ?_
      refine aops_move (iV x6) wants_none rfl rfl ?_
      refine aops_move (iV 0) wants_none rfl rfl ?_
      refine aops_bin (.bool (x6 != 0)) wants_none rfl rfl rfl rfl ?_
      refine aops_nil ?_
      refine awp_cond (x6 != 0) rfl (fun hb8 => ?_) (fun hb8 => ?_)
      · replace h := ite_t hb8 h
        refine awp_seq ?_
        refine awp_region ?_
        refine aops_move (iV x6) wants_none rfl rfl ?_
        refine aops_assign (iV x6) wants_none rfl rfl ?_
        refine aops_nil ?_
        refine awp_ret ?_
        obtain rfl := Option.some.inj h
        exact ⟨.inl rfl, .one (.tmp rfl (Imm.con _))⟩
      · replace h := ite_f hb8 h
        refine awp_skip ?_
        refine awp_region ?_
        refine aops_bin (.int .i64 (w64 (n4 + 1))) wants_none rfl rfl rfl rfl ?_
        refine aops_move (iV (w64 (n4 + 1))) wants_none rfl rfl ?_
        refine aops_nil ?_
        exact awp_back (ih1 (w64 (n4 + 1)) (hk1 _ h)) (ghost_ren 0 (fun i => ([] : List Nat).getD i 0) _ _ (by decide) (EnvSub.get (.cons (Sub.imm (Imm.con _)) (.cons (Sub.imm (Imm.lst _ _)) (.cons (Sub.imm (Imm.con _)) (.cons (Sub.imm (Imm.con _)) .nil))))) (HpSub.get .nil) rfl)
    · replace h := RG.f h hb5
      unfold M149_L1 at h
      refine awp_exit ?_
      exact ⟨(), h, (ghost_ren 0 (fun i => ([] : List Nat).getD i 0) _ _ (by decide) (EnvSub.get (.cons (Sub.imm (Imm.con _)) .nil)) (HpSub.get .nil) rfl)⟩
  · clear h
    intro _ h
    subst hk2
    refine awp_seq ?_
    refine awp_region ?_
    refine aops_move (iV 0) wants_none rfl rfl ?_
    refine aops_assign (iV 0) wants_none rfl rfl ?_
    refine aops_nil ?_
    refine awp_ret ?_
    obtain rfl := Option.some.inj h
    exact ⟨.inl rfl, .one (.tmp rfl (Imm.con _))⟩

theorem W146 (F : Nat) (a1 : Thistory_key) (a2 : Thistory_key) (r : Int) (h : M146 F a1 a2 = some r) : Pure Try.prog 146 [(V.agg [(sV a1.advisory), (sV a1.component)]), (V.agg [(sV a2.advisory), (sV a2.component)])] (iV r) := by
  refine pure_enter Try.func146 rfl rfl (l := [.tmp 4]) rfl rfl [(0, (V.agg [(sV a1.advisory), (sV a1.component)])), (1, (V.agg [(sV a2.advisory), (sV a2.component)]))] rfl (fun w0 m0 => ?_)
  unfold M146 at h
  refine awp_seq ?_
  refine awp_region ?_
  refine aops_box [(sV a1.advisory), (sV a1.component)] wants_none rfl rfl rfl rfl ?_
  refine aops_box [(sV a2.advisory), (sV a2.component)] wants_none rfl rfl rfl rfl ?_
  refine aops_assign (iV 0) wants_none rfl rfl ?_
  refine aops_nil ?_
  refine awp_seq ?_
  replace h := bind_some h
  obtain ⟨y3, hx4, h⟩ := h
  replace h := bind_some h
  obtain ⟨y5, hx6, h⟩ := h
  replace h := bind_some h
  obtain ⟨y7, hx8, h⟩ := h
  refine awp_any [OD.mk [(2, (V.ptr 0 2 0 0))] [] [(5, (V.ptr 0 2 0 0))] [],
        OD.mk [(5, (V.ptr 0 2 0 0))] [(0, (Ob.arr 118 2 [[(sV a1.advisory), (sV a1.component)]]))] [(6, (sV a1.advisory))] [],
        OD.mk [(3, (V.ptr 1 2 0 0))] [] [(7, (V.ptr 1 2 0 0))] [],
        OD.mk [(7, (V.ptr 1 2 0 0))] [(1, (Ob.arr 118 2 [[(sV a2.advisory), (sV a2.component)]]))] [(8, (sV a2.advisory))] [],
        OD.mk [(6, (sV a1.advisory)), (8, (sV a2.advisory))] [] [(9, (iV y3))] [],
        OD.mk [(2, (V.ptr 0 2 0 0))] [] [(10, (V.ptr 0 2 0 1))] [],
        OD.mk [(10, (V.ptr 0 2 0 1))] [(0, (Ob.arr 118 2 [[(sV a1.advisory), (sV a1.component)]]))] [(11, (sV a1.component))] [],
        OD.mk [(3, (V.ptr 1 2 0 0))] [] [(12, (V.ptr 1 2 0 1))] [],
        OD.mk [(12, (V.ptr 1 2 0 1))] [(1, (Ob.arr 118 2 [[(sV a2.advisory), (sV a2.component)]]))] [(13, (sV a2.component))] [],
        OD.mk [(11, (sV a1.component)), (13, (sV a2.component))] [] [(14, (iV y5))] [],
        OD.mk [(9, (iV y3)), (14, (iV y5))] [] [(15, (V.lst 1 (([y3, y5] : List Int).map encI_i64)))] [],
        OD.mk [(15, (V.lst 1 (([y3, y5] : List Int).map encI_i64)))] [] [(16, (iV y7))] [],
        OD.mk [(16, (iV y7))] [] [(4, (iV y7))] []] mixed ⟨⟨rfl, trivial⟩, trivial, ⟨⟨rfl, trivial⟩, ⟨rfl, trivial⟩, ⟨⟨rfl, trivial⟩, trivial, ⟨⟨rfl, trivial⟩, ⟨rfl, trivial⟩, ⟨⟨rfl, rfl, trivial⟩, trivial, ⟨⟨rfl, trivial⟩, trivial, ⟨⟨rfl, trivial⟩, ⟨rfl, trivial⟩, ⟨⟨rfl, trivial⟩, trivial, ⟨⟨rfl, trivial⟩, ⟨rfl, trivial⟩, ⟨⟨rfl, rfl, trivial⟩, trivial, ⟨⟨rfl, rfl, trivial⟩, trivial, ⟨⟨rfl, trivial⟩, trivial, ⟨⟨rfl, trivial⟩, trivial, trivial⟩⟩⟩⟩⟩⟩⟩⟩⟩⟩⟩⟩⟩ (by kernel_rfl) (.cons (fun S hn h hh => aops_fieldAddr tF118_0 wants_none h.1 rfl (aops_nil ⟨rfl, rfl⟩)) (.cons (fun S hn h hh => aops_load_cell (sV a1.advisory) tC9 wants_none h.1 hh.1 rfl rfl rfl (aops_nil ⟨rfl, rfl⟩)) (.cons (fun S hn h hh => aops_fieldAddr tF118_0 wants_none h.1 rfl (aops_nil ⟨rfl, rfl⟩)) (.cons (fun S hn h hh => aops_load_cell (sV a2.advisory) tC9 wants_none h.1 hh.1 rfl rfl rfl (aops_nil ⟨rfl, rfl⟩)) (.cons (fun S hn h hh => aops_call (iV y3) [(sV a1.advisory), (sV a2.advisory)] fOk138 wants_none (evm_cons h.1 (evm_cons h.2.1 evm_nil)) (.cons (Imm.con _) (.cons (Imm.con _) .nil)) (W138 F a1.advisory a2.advisory y3 hx4) rfl (aops_nil ⟨rfl, rfl⟩)) (.cons (fun S hn h hh => aops_fieldAddr tF118_1 wants_none h.1 rfl (aops_nil ⟨rfl, rfl⟩)) (.cons (fun S hn h hh => aops_load_cell (sV a1.component) tC9 wants_none h.1 hh.1 rfl rfl rfl (aops_nil ⟨rfl, rfl⟩)) (.cons (fun S hn h hh => aops_fieldAddr tF118_1 wants_none h.1 rfl (aops_nil ⟨rfl, rfl⟩)) (.cons (fun S hn h hh => aops_load_cell (sV a2.component) tC9 wants_none h.1 hh.1 rfl rfl rfl (aops_nil ⟨rfl, rfl⟩)) (.cons (fun S hn h hh => aops_call (iV y5) [(sV a1.component), (sV a2.component)] fOk138 wants_none (evm_cons h.1 (evm_cons h.2.1 evm_nil)) (.cons (Imm.con _) (.cons (Imm.con _) .nil)) (W138 F a1.component a2.component y5 hx6) rfl (aops_nil ⟨rfl, rfl⟩)) (.cons (fun S hn h hh => aops_buildSlice_imm [(0, (iV y3)), (1, (iV y5))] [[(iV y3)], [(iV y5)]] tEl22 tZ3 wants_none rfl rfl rfl rfl (evp_cons h.1 (evp_cons h.2.1 evp_nil)) rfl rfl (by simp) (imms_rows (.cons (.cons (Imm.con _) .nil) (.cons (.cons (Imm.con _) .nil) .nil))) rfl (aops_nil ⟨rfl, rfl⟩)) (.cons (fun S hn h hh => aops_call (iV y7) [(V.lst 1 (([y3, y5] : List Int).map encI_i64))] fOk149 wants_none (evm_cons h.1 evm_nil) (.cons (Imm.lst _ _) .nil) (W149 F ([y3, y5] : List Int) y7 hx8) rfl (aops_nil ⟨rfl, rfl⟩)) (.cons (fun S hn h hh => aops_assign (iV y7) wants_none h.1 rfl (aops_nil ⟨rfl, rfl⟩)) .nil))))))))))))) ?_
  refine awp_ret ?_
  obtain rfl := Option.some.inj h
  exact ⟨.inl rfl, .one (.tmp rfl (Imm.con _))⟩

theorem W127 (F : Nat) (a1 : (List TExposure)) (r : Int) (h : M127 F a1 = some r) : Pure Try.prog 127 [(V.lst 3 (a1.map encTExposure))] (iV r) := by
  refine pure_enter Try.func127 rfl rfl (l := [.tmp 2]) rfl rfl [(0, (V.lst 3 (a1.map encTExposure)))] rfl (fun w0 m0 => ?_)
  unfold M127 at h
  refine awp_seq ?_
  refine awp_region ?_
  refine aops_assign (iV 0) wants_none rfl rfl ?_
  refine aops_nil ?_
  refine awp_seq ?_
  refine awp_seq ?_
  refine awp_region ?_
  refine aops_move (V.lst 3 (a1.map encTExposure)) wants_none rfl rfl ?_
  refine aops_len (n := a1.length) tIsSl40 wants_none rfl (congrArg some (List.length_map ..)) rfl ?_
  refine aops_bin (.bool (decide (((a1.length : Nat) : Int) > 500))) wants_none rfl rfl rfl rfl ?_
  refine aops_nil ?_
  refine awp_cond (decide (((a1.length : Nat) : Int) > 500)) rfl (fun hb2 => ?_) (fun hb2 => ?_)
  · replace h := ite_t hb2 h
    refine awp_seq ?_
    refine awp_region ?_
    refine aops_assign (iV 3) wants_none rfl rfl ?_
    refine aops_nil ?_
    refine awp_ret ?_
    obtain rfl := Option.some.inj h
    exact ⟨.inl rfl, .one (.tmp rfl (Imm.con _))⟩
  · replace h := ite_f hb2 h
    refine awp_skip ?_
    refine awp_seq ?_
    refine awp_seq ?_
    refine awp_region ?_
    refine aops_move (V.lst 3 (a1.map encTExposure)) wants_none rfl rfl ?_
    refine aops_len (n := a1.length) tIsSl40 wants_none rfl (congrArg some (List.length_map ..)) rfl ?_
    refine aops_move (iV 0) wants_none rfl rfl ?_
    refine aops_nil ?_
    replace h := jn_elim h
    obtain ⟨k3, hk3, h⟩ := h
    refine awp_cut (fun _ : Unit => (⟨[], [], 0⟩ : St)) (fun _ : Unit => k3 = some r) ?_ ?_
    · clear hk3
      refine awp_block ?_
      refine awp_len (A := a1) 0 rfl (fun hA28 => ?_)
      refine awp_loop_ind (fun (p : Int) => (⟨[(0, (V.lst 3 (a1.map encTExposure))), (8, (V.lst 3 (a1.map encTExposure))), (9, (iV ((a1.length : Nat) : Int))), (10, (iV p))], [], 0⟩ : St)) (fun n (p : Int) => RG a1 (fun tl nn => M127_L1 F a1 k3 tl nn = some r) n p) (fun p h => RG.zero h) (fun n ih1 p h => ?_) (a1.length + 1) 0 (RG.start h) (ghost_ren 0 (fun i => ([] : List Nat).getD i 0) _ _ (by decide) (EnvSub.get (.cons (Sub.imm (Imm.lst _ _)) (.cons (Sub.imm (Imm.lst _ _)) (.cons (Sub.imm (Imm.con _)) (.cons (Sub.imm (Imm.con _)) .nil))))) (HpSub.get .nil) rfl)
      revert p
      intro n5 h
      refine awp_loop ?_
      refine awp_seq ?_
      refine awp_region ?_
      refine aops_bin (.bool (decide (n5 < ((a1.length : Nat) : Int)))) wants_none rfl rfl rfl rfl ?_
      refine aops_nil ?_
      refine awp_seq ?_
      refine awp_cond (decide (n5 < ((a1.length : Nat) : Int))) rfl (fun hb6 => ?_) (fun hb6 => ?_)
      · obtain ⟨x7, tl, hx8, h, hk1⟩ := RG.t hA28 h hb6
        unfold M127_L1 at h
        refine awp_skip ?_
        refine awp_seq ?_
        refine awp_block ?_
        refine awp_seq ?_
        refine awp_region ?_
        refine aops_move (iV n5) wants_none rfl rfl ?_
        refine aops_index_lst [(sV x7.Advisory), (sV x7.Component), (iV x7.Severity)] tSl40 wants_none rfl rfl (idx_some hx8).1 (idx_map encTExposure hx8) rfl ?_
        refine aops_iload_agg (cs := [(sV x7.Advisory), (sV x7.Component), (iV x7.Severity)]) tA47 wants_none rfl rfl rfl rfl ?_
        refine aops_alloc tZ47 rfl rfl wants_none rfl ?_
        refine aops_assign (iV n5) wants_none rfl rfl ?_
        refine aops_store [(sV x7.Advisory), (sV x7.Component), (iV x7.Severity)] [[(sV x7.Advisory), (sV x7.Component), (iV x7.Severity)]] tS47 wants_none rfl rfl rfl rfl rfl rfl rfl rfl ?_
        refine aops_nil ?_
        refine awp_block ?_
        refine awp_seq ?_
        refine awp_region ?_
        refine aops_fieldAddr tF47_0 wants_none rfl rfl ?_
        refine aops_load_cell (sV x7.Advisory) tC9 wants_none rfl rfl rfl rfl rfl ?_
        replace h := bind_some h
        obtain ⟨y9, hx10, h⟩ := h
        refine aops_call (bV y9) [(sV x7.Advisory)] fOk93 wants_none (evm_cons rfl evm_nil) (.cons (Imm.con _) .nil) (W93 F x7.Advisory y9 hx10) rfl ?_
        refine aops_not wants_none rfl rfl ?_
        refine aops_move (bV (!y9)) wants_none rfl rfl ?_
        rcases Bool.eq_false_or_eq_true (!y9) with hb11 | hb11
        · replace h := ite_t hb11 h
          refine aops_skip (wants_some (c := (!y9)) (b := true) 20 rfl rfl hb11) rfl rfl ?_
          refine aops_skip (wants_some (c := (!y9)) (b := true) 20 rfl rfl hb11) rfl rfl ?_
          refine aops_skip (wants_some (c := (!y9)) (b := true) 20 rfl rfl hb11) rfl rfl ?_
          refine aops_skip (wants_some (c := (!y9)) (b := true) 20 rfl rfl hb11) rfl rfl ?_
          refine aops_pick true (cb := (!y9)) (bV true) wants_none rfl hb11 rfl rfl ?_
          refine aops_assign (bV true) wants_none rfl rfl ?_
          refine aops_nil ?_
          refine awp_cond_t rfl rfl ?_
          refine awp_seq ?_
          refine awp_region ?_
          refine aops_assign (iV 8) wants_none rfl rfl ?_
          refine aops_nil ?_
          refine awp_ret ?_
          obtain rfl := Option.some.inj h
          exact ⟨.inl rfl, .one (.tmp rfl (Imm.con _))⟩
        · replace h := ite_f hb11 h
          refine aops_fieldAddr tF47_1 (wants_some (c := (!y9)) (b := false) 20 rfl rfl hb11) rfl rfl ?_
          refine aops_load_cell (sV x7.Component) tC9 (wants_some (c := (!y9)) (b := false) 20 rfl rfl hb11) rfl rfl rfl rfl rfl ?_
          replace h := bind_some h
          obtain ⟨y12, hx13, h⟩ := h
          refine aops_call (bV y12) [(sV x7.Component)] fOk93 (wants_some (c := (!y9)) (b := false) 20 rfl rfl hb11) (evm_cons rfl evm_nil) (.cons (Imm.con _) .nil) (W93 F x7.Component y12 hx13) rfl ?_
          refine aops_not (wants_some (c := (!y9)) (b := false) 20 rfl rfl hb11) rfl rfl ?_
          refine aops_pick false (cb := (!y9)) (bV (!y12)) wants_none rfl hb11 rfl rfl ?_
          refine aops_assign (bV (!y12)) wants_none rfl rfl ?_
          refine aops_nil ?_
          replace h := jn_elim h
          obtain ⟨k14, hk14, h⟩ := h
          refine awp_cut (fun _ : Unit => (⟨[(0, (V.lst 3 (a1.map encTExposure))), (8, (V.lst 3 (a1.map encTExposure))), (9, (iV ((a1.length : Nat) : Int))), (10, (iV n5)), (21, (V.ptr 0 3 0 1)), (22, (sV x7.Component)), (23, (bV y12)), (24, (bV (!y12))), (31, (V.ptr 0 3 0 2)), (32, (iV x7.Severity)), (33, (bV (decide (x7.Severity > 100))))], [(0, (Ob.arr 47 3 [[(sV x7.Advisory), (sV x7.Component), (iV x7.Severity)]]))], 1⟩ : St)) (fun _ : Unit => k14 = some r) ?_ ?_
          · clear hk14
            refine awp_cond (!y12) rfl (fun hb15 => ?_) (fun hb15 => ?_)
            · replace h := ite_t hb15 h
              refine awp_seq ?_
              refine awp_region ?_
              refine aops_assign (iV 8) wants_none rfl rfl ?_
              refine aops_nil ?_
              refine awp_ret ?_
              obtain rfl := Option.some.inj h
              exact ⟨.inl rfl, .one (.tmp rfl (Imm.con _))⟩
            · replace h := ite_f hb15 h
              refine awp_seq ?_
              refine awp_region ?_
              refine aops_fieldAddr tF47_2 wants_none rfl rfl ?_
              refine aops_load_cell (iV x7.Severity) tC3 wants_none rfl rfl rfl rfl rfl ?_
              refine aops_bin (.bool (decide (x7.Severity < 0))) wants_none rfl rfl rfl rfl ?_
              refine aops_move (bV (decide (x7.Severity < 0))) wants_none rfl rfl ?_
              rcases Bool.eq_false_or_eq_true (decide (x7.Severity < 0)) with hb16 | hb16
              · replace h := ite_t hb16 h
                refine aops_skip (wants_some (c := (decide (x7.Severity < 0))) (b := true) 30 rfl rfl hb16) rfl rfl ?_
                refine aops_skip (wants_some (c := (decide (x7.Severity < 0))) (b := true) 30 rfl rfl hb16) rfl rfl ?_
                refine aops_skip (wants_some (c := (decide (x7.Severity < 0))) (b := true) 30 rfl rfl hb16) rfl rfl ?_
                refine aops_pick true (cb := (decide (x7.Severity < 0))) (bV true) wants_none rfl hb16 rfl rfl ?_
                refine aops_assign (bV true) wants_none rfl rfl ?_
                refine aops_nil ?_
                refine awp_cond_t rfl rfl ?_
                refine awp_seq ?_
                refine awp_region ?_
                refine aops_assign (iV 9) wants_none rfl rfl ?_
                refine aops_nil ?_
                refine awp_ret ?_
                obtain rfl := Option.some.inj h
                exact ⟨.inl rfl, .one (.tmp rfl (Imm.con _))⟩
              · replace h := ite_f hb16 h
                refine aops_fieldAddr tF47_2 (wants_some (c := (decide (x7.Severity < 0))) (b := false) 30 rfl rfl hb16) rfl rfl ?_
                refine aops_load_cell (iV x7.Severity) tC3 (wants_some (c := (decide (x7.Severity < 0))) (b := false) 30 rfl rfl hb16) rfl rfl rfl rfl rfl ?_
                refine aops_bin (.bool (decide (x7.Severity > 100))) (wants_some (c := (decide (x7.Severity < 0))) (b := false) 30 rfl rfl hb16) rfl rfl rfl rfl ?_
                refine aops_pick false (cb := (decide (x7.Severity < 0))) (bV (decide (x7.Severity > 100))) wants_none rfl hb16 rfl rfl ?_
                refine aops_assign (bV (decide (x7.Severity > 100))) wants_none rfl rfl ?_
                refine aops_nil ?_
                refine awp_cond (decide (x7.Severity > 100)) rfl (fun hb17 => ?_) (fun hb17 => ?_)
                · replace h := ite_t hb17 h
                  refine awp_seq ?_
                  refine awp_region ?_
                  refine aops_assign (iV 9) wants_none rfl rfl ?_
                  refine aops_nil ?_
                  refine awp_ret ?_
                  obtain rfl := Option.some.inj h
                  exact ⟨.inl rfl, .one (.tmp rfl (Imm.con _))⟩
                · replace h := ite_f hb17 h
                  refine awp_seq ?_
                  rcases Bool.eq_false_or_eq_true (decide (n5 > 0)) with hb18 | hb18
                  · replace h := ite_t hb18 h
                    replace h := bind_some h
                    obtain ⟨x19, hx20, h⟩ := h
                    replace h := bind_some h
                    obtain ⟨y21, hx22, h⟩ := h
                    replace h := bind_some h
                    obtain ⟨y23, hx24, h⟩ := h
                    replace h := bind_some h
                    obtain ⟨y25, hx26, h⟩ := h
                    refine awp_any [OD.mk [(3, (iV n5))] [] [(36, (iV n5))] [],
                          OD.mk [(36, (iV n5))] [] [(37, (bV (decide (n5 > 0))))] [],
                          OD.mk [(37, (bV (decide (n5 > 0))))] [] [(38, (bV (decide (n5 > 0))))] [],
                          OD.mk [(38, (bV (decide (n5 > 0)))), (0, (V.lst 3 (a1.map encTExposure)))] [] [(39, (V.lst 3 (a1.map encTExposure)))] [],
                          OD.mk [(38, (bV (decide (n5 > 0)))), (3, (iV n5))] [] [(40, (iV n5))] [],
                          OD.mk [(38, (bV (decide (n5 > 0)))), (40, (iV n5))] [] [(41, (iV (w64 (n5 - 1))))] [],
                          OD.mk [(38, (bV (decide (n5 > 0)))), (39, (V.lst 3 (a1.map encTExposure))), (41, (iV (w64 (n5 - 1))))] [] [(42, (V.iptr [(sV x19.Advisory), (sV x19.Component), (iV x19.Severity)] 0))] [],
                          OD.mk [(38, (bV (decide (n5 > 0)))), (42, (V.iptr [(sV x19.Advisory), (sV x19.Component), (iV x19.Severity)] 0))] [] [(43, (V.agg [(sV x19.Advisory), (sV x19.Component), (iV x19.Severity)]))] [],
                          OD.mk [(38, (bV (decide (n5 > 0)))), (43, (V.agg [(sV x19.Advisory), (sV x19.Component), (iV x19.Severity)]))] [] [(44, (V.agg [(sV y21.advisory), (sV y21.component)]))] [],
                          OD.mk [(38, (bV (decide (n5 > 0)))), (4, (V.ptr 0 3 0 0))] [(0, (Ob.arr 47 3 [[(sV x7.Advisory), (sV x7.Component), (iV x7.Severity)]]))] [(45, (V.agg [(sV x7.Advisory), (sV x7.Component), (iV x7.Severity)]))] [],
                          OD.mk [(38, (bV (decide (n5 > 0)))), (45, (V.agg [(sV x7.Advisory), (sV x7.Component), (iV x7.Severity)]))] [] [(46, (V.agg [(sV y23.advisory), (sV y23.component)]))] [],
                          OD.mk [(38, (bV (decide (n5 > 0)))), (44, (V.agg [(sV y21.advisory), (sV y21.component)])), (46, (V.agg [(sV y23.advisory), (sV y23.component)]))] [] [(47, (iV y25))] [],
                          OD.mk [(38, (bV (decide (n5 > 0)))), (47, (iV y25))] [] [(48, (bV (decide (y25 ≥ 0))))] [],
                          OD.mk [(38, (bV (decide (n5 > 0)))), (48, (bV (decide (y25 ≥ 0))))] [] [(49, (bV (decide (y25 ≥ 0))))] [],
                          OD.mk [(49, (bV (decide (y25 ≥ 0))))] [] [(35, (bV (decide (y25 ≥ 0))))] []] mixed ⟨⟨rfl, trivial⟩, trivial, ⟨⟨rfl, trivial⟩, trivial, ⟨⟨rfl, trivial⟩, trivial, ⟨⟨rfl, rfl, trivial⟩, trivial, ⟨⟨rfl, rfl, trivial⟩, trivial, ⟨⟨rfl, rfl, trivial⟩, trivial, ⟨⟨rfl, rfl, rfl, trivial⟩, trivial, ⟨⟨rfl, rfl, trivial⟩, trivial, ⟨⟨rfl, rfl, trivial⟩, trivial, ⟨⟨rfl, rfl, trivial⟩, ⟨rfl, trivial⟩, ⟨⟨rfl, rfl, trivial⟩, trivial, ⟨⟨rfl, rfl, rfl, trivial⟩, trivial, ⟨⟨rfl, rfl, trivial⟩, trivial, ⟨⟨rfl, rfl, trivial⟩, trivial, ⟨⟨rfl, trivial⟩, trivial, trivial⟩⟩⟩⟩⟩⟩⟩⟩⟩⟩⟩⟩⟩⟩⟩ (by kernel_rfl) (.cons (fun S hn h hh => aops_move (iV n5) wants_none h.1 rfl (aops_nil ⟨rfl, rfl⟩)) (.cons (fun S hn h hh => aops_bin (.bool (decide (n5 > 0))) wants_none h.1 rfl rfl rfl (aops_nil ⟨rfl, rfl⟩)) (.cons (fun S hn h hh => aops_move (bV (decide (n5 > 0))) wants_none h.1 rfl (aops_nil ⟨rfl, rfl⟩)) (.cons (fun S hn h hh => aops_move (V.lst 3 (a1.map encTExposure)) (wants_some (c := (decide (n5 > 0))) (b := true) 38 rfl h.1 hb18) h.2.1 rfl (aops_nil ⟨rfl, rfl⟩)) (.cons (fun S hn h hh => aops_move (iV n5) (wants_some (c := (decide (n5 > 0))) (b := true) 38 rfl h.1 hb18) h.2.1 rfl (aops_nil ⟨rfl, rfl⟩)) (.cons (fun S hn h hh => aops_bin (.int .i64 (w64 (n5 - 1))) (wants_some (c := (decide (n5 > 0))) (b := true) 38 rfl h.1 hb18) h.2.1 rfl rfl rfl (aops_nil ⟨rfl, rfl⟩)) (.cons (fun S hn h hh => aops_index_lst [(sV x19.Advisory), (sV x19.Component), (iV x19.Severity)] tSl40 (wants_some (c := (decide (n5 > 0))) (b := true) 38 rfl h.1 hb18) h.2.1 h.2.2.1 (idx_some hx20).1 (idx_map encTExposure hx20) rfl (aops_nil ⟨rfl, rfl⟩)) (.cons (fun S hn h hh => aops_iload_agg (cs := [(sV x19.Advisory), (sV x19.Component), (iV x19.Severity)]) tA47 (wants_some (c := (decide (n5 > 0))) (b := true) 38 rfl h.1 hb18) h.2.1 rfl rfl rfl (aops_nil ⟨rfl, rfl⟩)) (.cons (fun S hn h hh => aops_call (V.agg [(sV y21.advisory), (sV y21.component)]) [(V.agg [(sV x19.Advisory), (sV x19.Component), (iV x19.Severity)])] fOk84 (wants_some (c := (decide (n5 > 0))) (b := true) 38 rfl h.1 hb18) (evm_cons h.2.1 evm_nil) (.cons (Imm.agg (.cons (Imm.con _) (.cons (Imm.con _) (.cons (Imm.con _) .nil)))) .nil) (W84 F x19 y21 hx22) rfl (aops_nil ⟨rfl, rfl⟩)) (.cons (fun S hn h hh => aops_load_agg (cs := [(sV x7.Advisory), (sV x7.Component), (iV x7.Severity)]) tA47 (wants_some (c := (decide (n5 > 0))) (b := true) 38 rfl h.1 hb18) h.2.1 hh.1 rfl rfl rfl rfl (aops_nil ⟨rfl, rfl⟩)) (.cons (fun S hn h hh => aops_call (V.agg [(sV y23.advisory), (sV y23.component)]) [(V.agg [(sV x7.Advisory), (sV x7.Component), (iV x7.Severity)])] fOk84 (wants_some (c := (decide (n5 > 0))) (b := true) 38 rfl h.1 hb18) (evm_cons h.2.1 evm_nil) (.cons (Imm.agg (.cons (Imm.con _) (.cons (Imm.con _) (.cons (Imm.con _) .nil)))) .nil) (W84 F x7 y23 hx24) rfl (aops_nil ⟨rfl, rfl⟩)) (.cons (fun S hn h hh => aops_call (iV y25) [(V.agg [(sV y21.advisory), (sV y21.component)]), (V.agg [(sV y23.advisory), (sV y23.component)])] fOk146 (wants_some (c := (decide (n5 > 0))) (b := true) 38 rfl h.1 hb18) (evm_cons h.2.1 (evm_cons h.2.2.1 evm_nil)) (.cons (Imm.agg (.cons (Imm.con _) (.cons (Imm.con _) .nil))) (.cons (Imm.agg (.cons (Imm.con _) (.cons (Imm.con _) .nil))) .nil)) (W146 F y21 y23 y25 hx26) rfl (aops_nil ⟨rfl, rfl⟩)) (.cons (fun S hn h hh => aops_bin (.bool (decide (y25 ≥ 0))) (wants_some (c := (decide (n5 > 0))) (b := true) 38 rfl h.1 hb18) h.2.1 rfl rfl rfl (aops_nil ⟨rfl, rfl⟩)) (.cons (fun S hn h hh => aops_pick true (cb := (decide (n5 > 0))) (bV (decide (y25 ≥ 0))) wants_none h.1 hb18 h.2.1 rfl (aops_nil ⟨rfl, rfl⟩)) (.cons (fun S hn h hh => aops_assign (bV (decide (y25 ≥ 0))) wants_none h.1 rfl (aops_nil ⟨rfl, rfl⟩)) .nil))))))))))))))) ?_
                    refine awp_cond (decide (y25 ≥ 0)) rfl (fun hb27 => ?_) (fun hb27 => ?_)
                    · replace h := ite_t hb27 h
                      refine awp_seq ?_
                      refine awp_region ?_
                      refine aops_assign (iV 10) wants_none rfl rfl ?_
                      refine aops_nil ?_
                      refine awp_ret ?_
                      obtain rfl := Option.some.inj h
                      exact ⟨.inl rfl, .one (.tmp rfl (Imm.con _))⟩
                    · replace h := ite_f hb27 h
                      refine awp_skip ?_
                      exact ⟨(), h, (ghost_ren 1 (fun i => ([0] : List Nat).getD i 0) _ _ (by decide) (EnvSub.get (.cons (Sub.imm (Imm.lst _ _)) (.cons (Sub.imm (Imm.lst _ _)) (.cons (Sub.imm (Imm.con _)) (.cons (Sub.imm (Imm.con _)) (.cons (Sub.ptr rfl rfl) (.cons (Sub.imm (Imm.con _)) (.cons (Sub.imm (Imm.con _)) (.cons (Sub.imm (Imm.con _)) (.cons (Sub.ptr rfl rfl) (.cons (Sub.imm (Imm.con _)) (.cons (Sub.imm (Imm.con _)) .nil)))))))))))) (HpSub.get (.cons rfl (ObSub.box (.cons (Sub.imm (Imm.con _)) (.cons (Sub.imm (Imm.con _)) (.cons (Sub.imm (Imm.con _)) .nil)))) .nil)) rfl)⟩
                  · replace h := ite_f hb18 h
                    refine awp_any [OD.mk [(3, (iV n5))] [] [(36, (iV n5))] [],
                          OD.mk [(36, (iV n5))] [] [(37, (bV (decide (n5 > 0))))] [],
                          OD.mk [(37, (bV (decide (n5 > 0))))] [] [(38, (bV (decide (n5 > 0))))] [],
                          OD.mk [(38, (bV (decide (n5 > 0))))] [] [(39, (V.con undef))] [],
                          OD.mk [(38, (bV (decide (n5 > 0))))] [] [(40, (V.con undef))] [],
                          OD.mk [(38, (bV (decide (n5 > 0))))] [] [(41, (V.con undef))] [],
                          OD.mk [(38, (bV (decide (n5 > 0))))] [] [(42, (V.con undef))] [],
                          OD.mk [(38, (bV (decide (n5 > 0))))] [] [(43, (V.con undef))] [],
                          OD.mk [(38, (bV (decide (n5 > 0))))] [] [(44, (V.con undef))] [],
                          OD.mk [(38, (bV (decide (n5 > 0))))] [] [(45, (V.con undef))] [],
                          OD.mk [(38, (bV (decide (n5 > 0))))] [] [(46, (V.con undef))] [],
                          OD.mk [(38, (bV (decide (n5 > 0))))] [] [(47, (V.con undef))] [],
                          OD.mk [(38, (bV (decide (n5 > 0))))] [] [(48, (V.con undef))] [],
                          OD.mk [(38, (bV (decide (n5 > 0))))] [] [(49, (bV false))] [],
                          OD.mk [(49, (bV false))] [] [(35, (bV false))] []] mixed ⟨⟨rfl, trivial⟩, trivial, ⟨⟨rfl, trivial⟩, trivial, ⟨⟨rfl, trivial⟩, trivial, ⟨⟨rfl, trivial⟩, trivial, ⟨⟨rfl, trivial⟩, trivial, ⟨⟨rfl, trivial⟩, trivial, ⟨⟨rfl, trivial⟩, trivial, ⟨⟨rfl, trivial⟩, trivial, ⟨⟨rfl, trivial⟩, trivial, ⟨⟨rfl, trivial⟩, trivial, ⟨⟨rfl, trivial⟩, trivial, ⟨⟨rfl, trivial⟩, trivial, ⟨⟨rfl, trivial⟩, trivial, ⟨⟨rfl, trivial⟩, trivial, ⟨⟨rfl, trivial⟩, trivial, trivial⟩⟩⟩⟩⟩⟩⟩⟩⟩⟩⟩⟩⟩⟩⟩ (by kernel_rfl) (.cons (fun S hn h hh => aops_move (iV n5) wants_none h.1 rfl (aops_nil ⟨rfl, rfl⟩)) (.cons (fun S hn h hh => aops_bin (.bool (decide (n5 > 0))) wants_none h.1 rfl rfl rfl (aops_nil ⟨rfl, rfl⟩)) (.cons (fun S hn h hh => aops_move (bV (decide (n5 > 0))) wants_none h.1 rfl (aops_nil ⟨rfl, rfl⟩)) (.cons (fun S hn h hh => aops_skip (wants_some (c := (decide (n5 > 0))) (b := false) 38 rfl h.1 hb18) rfl rfl (aops_nil ⟨rfl, rfl⟩)) (.cons (fun S hn h hh => aops_skip (wants_some (c := (decide (n5 > 0))) (b := false) 38 rfl h.1 hb18) rfl rfl (aops_nil ⟨rfl, rfl⟩)) (.cons (fun S hn h hh => aops_skip (wants_some (c := (decide (n5 > 0))) (b := false) 38 rfl h.1 hb18) rfl rfl (aops_nil ⟨rfl, rfl⟩)) (.cons (fun S hn h hh => aops_skip (wants_some (c := (decide (n5 > 0))) (b := false) 38 rfl h.1 hb18) rfl rfl (aops_nil ⟨rfl, rfl⟩)) (.cons (fun S hn h hh => aops_skip (wants_some (c := (decide (n5 > 0))) (b := false) 38 rfl h.1 hb18) rfl rfl (aops_nil ⟨rfl, rfl⟩)) (.cons (fun S hn h hh => aops_skip (wants_some (c := (decide (n5 > 0))) (b := false) 38 rfl h.1 hb18) rfl rfl (aops_nil ⟨rfl, rfl⟩)) (.cons (fun S hn h hh => aops_skip (wants_some (c := (decide (n5 > 0))) (b := false) 38 rfl h.1 hb18) rfl rfl (aops_nil ⟨rfl, rfl⟩)) (.cons (fun S hn h hh => aops_skip (wants_some (c := (decide (n5 > 0))) (b := false) 38 rfl h.1 hb18) rfl rfl (aops_nil ⟨rfl, rfl⟩)) (.cons (fun S hn h hh => aops_skip (wants_some (c := (decide (n5 > 0))) (b := false) 38 rfl h.1 hb18) rfl rfl (aops_nil ⟨rfl, rfl⟩)) (.cons (fun S hn h hh => aops_skip (wants_some (c := (decide (n5 > 0))) (b := false) 38 rfl h.1 hb18) rfl rfl (aops_nil ⟨rfl, rfl⟩)) (.cons (fun S hn h hh => aops_pick false (cb := (decide (n5 > 0))) (bV false) wants_none h.1 hb18 rfl rfl (aops_nil ⟨rfl, rfl⟩)) (.cons (fun S hn h hh => aops_assign (bV false) wants_none h.1 rfl (aops_nil ⟨rfl, rfl⟩)) .nil))))))))))))))) ?_
                    refine awp_cond_f rfl rfl ?_
                    refine awp_skip ?_
                    exact ⟨(), h, (ghost_ren 1 (fun i => ([0] : List Nat).getD i 0) _ _ (by decide) (EnvSub.get (.cons (Sub.imm (Imm.lst _ _)) (.cons (Sub.imm (Imm.lst _ _)) (.cons (Sub.imm (Imm.con _)) (.cons (Sub.imm (Imm.con _)) (.cons (Sub.ptr rfl rfl) (.cons (Sub.imm (Imm.con _)) (.cons (Sub.imm (Imm.con _)) (.cons (Sub.imm (Imm.con _)) (.cons (Sub.ptr rfl rfl) (.cons (Sub.imm (Imm.con _)) (.cons (Sub.imm (Imm.con _)) .nil)))))))))))) (HpSub.get (.cons rfl (ObSub.box (.cons (Sub.imm (Imm.con _)) (.cons (Sub.imm (Imm.con _)) (.cons (Sub.imm (Imm.con _)) .nil)))) .nil)) rfl)⟩
          · clear h
            intro _ h
            subst hk14
            refine awp_region ?_
            refine aops_bin (.int .i64 (w64 (n5 + 1))) wants_none rfl rfl rfl rfl ?_
            refine aops_move (iV (w64 (n5 + 1))) wants_none rfl rfl ?_
            refine aops_nil ?_
            exact awp_back (ih1 (w64 (n5 + 1)) (hk1 _ h)) (ghost_ren 0 (fun i => ([] : List Nat).getD i 0) _ _ (by decide) (EnvSub.get (.cons (Sub.imm (Imm.lst _ _)) (.cons (Sub.imm (Imm.lst _ _)) (.cons (Sub.imm (Imm.con _)) (.cons (Sub.imm (Imm.con _)) .nil))))) (HpSub.get .nil) rfl)
      · replace h := RG.f h hb6
        unfold M127_L1 at h
        refine awp_exit ?_
        exact ⟨(), h, (ghost_ren 0 (fun i => ([] : List Nat).getD i 0) _ _ (by decide) (EnvSub.get .nil) (HpSub.get .nil) rfl)⟩
    · clear h
      intro _ h
      subst hk3
      refine awp_seq ?_
      refine awp_region ?_
      refine aops_assign (iV 0) wants_none rfl rfl ?_
      refine aops_nil ?_
      refine awp_ret ?_
      obtain rfl := Option.some.inj h
      exact ⟨.inl rfl, .one (.tmp rfl (Imm.con _))⟩

theorem W81 (F : Nat) (a1 : TRelease) (r : Int) (h : M81 F a1 = some r) : Pure Try.prog 81 [(V.agg [(sV a1.Version), (iV a1.Day), (V.lst 3 (a1.Exposures.map encTExposure))])] (iV r) := by
  refine pure_enter Try.func81 rfl rfl (l := [.tmp 2]) rfl rfl [(0, (V.agg [(sV a1.Version), (iV a1.Day), (V.lst 3 (a1.Exposures.map encTExposure))]))] rfl (fun w0 m0 => ?_)
  unfold M81 at h
  refine awp_seq ?_
  refine awp_region ?_
  refine aops_box [(sV a1.Version), (iV a1.Day), (V.lst 3 (a1.Exposures.map encTExposure))] wants_none rfl rfl rfl rfl ?_
  refine aops_assign (iV 0) wants_none rfl rfl ?_
  refine aops_nil ?_
  refine awp_seq ?_
  refine awp_block ?_
  refine awp_seq ?_
  refine awp_region ?_
  refine aops_fieldAddr tF42_0 wants_none rfl rfl ?_
  refine aops_load_cell (sV a1.Version) tC9 wants_none rfl rfl rfl rfl rfl ?_
  replace h := bind_some h
  obtain ⟨y2, hx3, h⟩ := h
  refine aops_call (bV y2) [(sV a1.Version)] fOk93 wants_none (evm_cons rfl evm_nil) (.cons (Imm.con _) .nil) (W93 F a1.Version y2 hx3) rfl ?_
  refine aops_not wants_none rfl rfl ?_
  refine aops_assign (bV (!y2)) wants_none rfl rfl ?_
  refine aops_nil ?_
  refine awp_cond (!y2) rfl (fun hb4 => ?_) (fun hb4 => ?_)
  · replace h := ite_t hb4 h
    refine awp_seq ?_
    refine awp_region ?_
    refine aops_assign (iV 8) wants_none rfl rfl ?_
    refine aops_nil ?_
    refine awp_ret ?_
    obtain rfl := Option.some.inj h
    exact ⟨.inl rfl, .one (.tmp rfl (Imm.con _))⟩
  · replace h := ite_f hb4 h
    refine awp_seq ?_
    refine awp_region ?_
    refine aops_fieldAddr tF42_1 wants_none rfl rfl ?_
    refine aops_load_cell (iV a1.Day) tC3 wants_none rfl rfl rfl rfl rfl ?_
    replace h := bind_some h
    obtain ⟨y5, hx6, h⟩ := h
    refine aops_call (bV y5) [(iV a1.Day)] fOk69 wants_none (evm_cons rfl evm_nil) (.cons (Imm.con _) .nil) (W69 F a1.Day y5 hx6) rfl ?_
    refine aops_not wants_none rfl rfl ?_
    refine aops_assign (bV (!y5)) wants_none rfl rfl ?_
    refine aops_nil ?_
    refine awp_cond (!y5) rfl (fun hb7 => ?_) (fun hb7 => ?_)
    · replace h := ite_t hb7 h
      refine awp_seq ?_
      refine awp_region ?_
      refine aops_assign (iV 9) wants_none rfl rfl ?_
      refine aops_nil ?_
      refine awp_ret ?_
      obtain rfl := Option.some.inj h
      exact ⟨.inl rfl, .one (.tmp rfl (Imm.con _))⟩
    · replace h := ite_f hb7 h
      refine awp_skip ?_
      refine awp_seq ?_
      refine awp_region ?_
      refine aops_fieldAddr tF42_2 wants_none rfl rfl ?_
      refine aops_load_cell (V.lst 3 (a1.Exposures.map encTExposure)) tC40 wants_none rfl rfl rfl rfl rfl ?_
      replace h := bind_some h
      obtain ⟨y8, hx9, h⟩ := h
      refine aops_call (iV y8) [(V.lst 3 (a1.Exposures.map encTExposure))] fOk127 wants_none (evm_cons rfl evm_nil) (.cons (Imm.lst _ _) .nil) (W127 F a1.Exposures y8 hx9) rfl ?_
      refine aops_assign (iV y8) wants_none rfl rfl ?_
      refine aops_nil ?_
      refine awp_ret ?_
      obtain rfl := Option.some.inj h
      exact ⟨.inl rfl, .one (.tmp rfl (Imm.con _))⟩

theorem W83 (F : Nat) (a1 : TExposure) (a2 : List UInt8) (a3 : List UInt8) (a4 : Int) (r : Bool) (h : M83 F a1 a2 a3 a4 = some r) : Pure Try.prog 83 [(V.agg [(sV a1.Advisory), (sV a1.Component), (iV a1.Severity)]), (V.iptr [(sV a2), (sV a3), (iV a4)] 0)] (bV r) := by
  refine pure_enter Try.func83 rfl rfl (l := [.tmp 3]) rfl rfl [(0, (V.agg [(sV a1.Advisory), (sV a1.Component), (iV a1.Severity)])), (1, (V.iptr [(sV a2), (sV a3), (iV a4)] 0))] rfl (fun w0 m0 => ?_)
  unfold M83 at h
  refine awp_seq ?_
  refine awp_region ?_
  refine aops_box [(sV a1.Advisory), (sV a1.Component), (iV a1.Severity)] wants_none rfl rfl rfl rfl ?_
  refine aops_assign (bV false) wants_none rfl rfl ?_
  refine aops_nil ?_
  refine awp_seq ?_
  replace h := bind_some h
  obtain ⟨y5, hx6, h⟩ := h
  replace h := bind_some h
  obtain ⟨y7, hx8, h⟩ := h
  refine awp_any [OD.mk [(1, (V.iptr [(sV a2), (sV a3), (iV a4)] 0))] [] [(4, (V.agg [(sV a2), (sV a3), (iV a4)]))] [],
        OD.mk [(4, (V.agg [(sV a2), (sV a3), (iV a4)]))] [] [(5, (V.agg [(sV y5.advisory), (sV y5.component)]))] [],
        OD.mk [(2, (V.ptr 0 3 0 0))] [(0, (Ob.arr 47 3 [[(sV a1.Advisory), (sV a1.Component), (iV a1.Severity)]]))] [(6, (V.agg [(sV a1.Advisory), (sV a1.Component), (iV a1.Severity)]))] [],
        OD.mk [(6, (V.agg [(sV a1.Advisory), (sV a1.Component), (iV a1.Severity)]))] [] [(7, (V.agg [(sV y7.advisory), (sV y7.component)]))] [],
        OD.mk [(5, (V.agg [(sV y5.advisory), (sV y5.component)])), (7, (V.agg [(sV y7.advisory), (sV y7.component)]))] [] [(8, (bV (decide (y5 = y7))))] [],
        OD.mk [(8, (bV (decide (y5 = y7))))] [] [(3, (bV (decide (y5 = y7))))] []] mixed ⟨⟨rfl, trivial⟩, trivial, ⟨⟨rfl, trivial⟩, trivial, ⟨⟨rfl, trivial⟩, ⟨rfl, trivial⟩, ⟨⟨rfl, trivial⟩, trivial, ⟨⟨rfl, rfl, trivial⟩, trivial, ⟨⟨rfl, trivial⟩, trivial, trivial⟩⟩⟩⟩⟩⟩ (by kernel_rfl) (.cons (fun S hn h hh => aops_iload_agg (cs := [(sV a2), (sV a3), (iV a4)]) tA47 wants_none h.1 rfl rfl rfl (aops_nil ⟨rfl, rfl⟩)) (.cons (fun S hn h hh => aops_call (V.agg [(sV y5.advisory), (sV y5.component)]) [(V.agg [(sV a2), (sV a3), (iV a4)])] fOk84 wants_none (evm_cons h.1 evm_nil) (.cons (Imm.agg (.cons (Imm.con _) (.cons (Imm.con _) (.cons (Imm.con _) .nil)))) .nil) (W84 F (TExposure.mk a2 a3 a4) y5 hx6) rfl (aops_nil ⟨rfl, rfl⟩)) (.cons (fun S hn h hh => aops_load_agg (cs := [(sV a1.Advisory), (sV a1.Component), (iV a1.Severity)]) tA47 wants_none h.1 hh.1 rfl rfl rfl rfl (aops_nil ⟨rfl, rfl⟩)) (.cons (fun S hn h hh => aops_call (V.agg [(sV y7.advisory), (sV y7.component)]) [(V.agg [(sV a1.Advisory), (sV a1.Component), (iV a1.Severity)])] fOk84 wants_none (evm_cons h.1 evm_nil) (.cons (Imm.agg (.cons (Imm.con _) (.cons (Imm.con _) (.cons (Imm.con _) .nil)))) .nil) (W84 F a1 y7 hx8) rfl (aops_nil ⟨rfl, rfl⟩)) (.cons (fun S hn h hh => aops_eqS false (xs := cv118 y5) (ys := cv118 y7) (b := (decide (y5 = y7))) eqk118 ⟨_, rfl⟩ ⟨_, rfl⟩ (eq_b cv118 _ _ (inj_cv118 _ _)) tEqG118 wants_none h.1 h.2.1 rfl (aops_nil ⟨rfl, rfl⟩)) (.cons (fun S hn h hh => aops_assign (bV (decide (y5 = y7))) wants_none h.1 rfl (aops_nil ⟨rfl, rfl⟩)) .nil)))))) ?_
  refine awp_ret ?_
  obtain rfl := Option.some.inj h
  exact ⟨.inl rfl, .one (.tmp rfl (Imm.con _))⟩

theorem W100 (F : Nat) (a1 : (List TExposure)) (a2 : List UInt8) (a3 : List UInt8) (a4 : Int) (r : Int) (h : M100 F a1 a2 a3 a4 = some r) : Pure Try.prog 100 [(V.lst 3 (a1.map encTExposure)), (V.fn (.func 83) [] [(V.iptr [(sV a2), (sV a3), (iV a4)] 0)])] (iV r) := by
  refine pure_enter Try.func100 rfl rfl (l := [.tmp 4]) rfl rfl [(0, (V.lst 3 (a1.map encTExposure))), (1, (V.fn (.func 83) [] [(V.iptr [(sV a2), (sV a3), (iV a4)] 0)]))] rfl (fun w0 m0 => ?_)
  unfold M100 at h
  refine awp_seq ?_
  refine awp_region ?_
  refine aops_assign (iV 0) wants_none rfl rfl ?_
  refine aops_nil ?_
  refine awp_seq ?_
  refine awp_seq ?_
  refine awp_region ?_
  refine aops_move (V.lst 3 (a1.map encTExposure)) wants_none rfl rfl ?_
  refine aops_len (n := a1.length) tIsSl40 wants_none rfl (congrArg some (List.length_map ..)) rfl ?_
  refine aops_move (iV 0) wants_none rfl rfl ?_
  refine aops_nil ?_
  replace h := jn_elim h
  obtain ⟨k5, hk5, h⟩ := h
  refine awp_cut (fun _ : Unit => (⟨[], [], 0⟩ : St)) (fun _ : Unit => k5 = some r) ?_ ?_
  · clear hk5
    refine awp_block ?_
    refine awp_len (A := a1) 0 rfl (fun hA14 => ?_)
    refine awp_loop_ind (fun (p : Int) => (⟨[(0, (V.lst 3 (a1.map encTExposure))), (1, (V.fn (.func 83) [] [(V.iptr [(sV a2), (sV a3), (iV a4)] 0)])), (7, (iV ((a1.length : Nat) : Int))), (8, (iV p))], [], 0⟩ : St)) (fun n (p : Int) => RG a1 (fun tl nn => M100_L1 F a2 a3 a4 k5 tl nn = some r) n p) (fun p h => RG.zero h) (fun n ih1 p h => ?_) (a1.length + 1) 0 (RG.start h) (ghost_ren 0 (fun i => ([] : List Nat).getD i 0) _ _ (by decide) (EnvSub.get (.cons (Sub.imm (Imm.lst _ _)) (.cons (Sub.imm (Imm.fn .nil (.cons (Imm.iptr _ _) .nil))) (.cons (Sub.imm (Imm.con _)) (.cons (Sub.imm (Imm.con _)) .nil))))) (HpSub.get .nil) rfl)
    revert p
    intro n7 h
    refine awp_loop ?_
    refine awp_seq ?_
    refine awp_region ?_
    refine aops_bin (.bool (decide (n7 < ((a1.length : Nat) : Int)))) wants_none rfl rfl rfl rfl ?_
    refine aops_nil ?_
    refine awp_seq ?_
    refine awp_cond (decide (n7 < ((a1.length : Nat) : Int))) rfl (fun hb8 => ?_) (fun hb8 => ?_)
    · obtain ⟨x9, tl, hx10, h, hk1⟩ := RG.t hA14 h hb8
      unfold M100_L1 at h
      refine awp_skip ?_
      refine awp_seq ?_
      refine awp_block ?_
      refine awp_seq ?_
      refine awp_region ?_
      refine aops_move (iV n7) wants_none rfl rfl ?_
      refine aops_assign (iV n7) wants_none rfl rfl ?_
      refine aops_nil ?_
      refine awp_seq ?_
      refine awp_region ?_
      refine aops_move (V.fn (.func 83) [] [(V.iptr [(sV a2), (sV a3), (iV a4)] 0)]) wants_none rfl rfl ?_
      refine aops_move (V.lst 3 (a1.map encTExposure)) wants_none rfl rfl ?_
      refine aops_move (iV n7) wants_none rfl rfl ?_
      refine aops_index_lst [(sV x9.Advisory), (sV x9.Component), (iV x9.Severity)] tSl40 wants_none rfl rfl (idx_some hx10).1 (idx_map encTExposure hx10) rfl ?_
      refine aops_iload_agg (cs := [(sV x9.Advisory), (sV x9.Component), (iV x9.Severity)]) tA47 wants_none rfl rfl rfl rfl ?_
      replace h := bind_some h
      obtain ⟨y11, hx12, h⟩ := h
      refine aops_callv (bV y11) [(V.agg [(sV x9.Advisory), (sV x9.Component), (iV x9.Severity)]), (V.iptr [(sV a2), (sV a3), (iV a4)] 0)] fOk83 wants_none rfl rfl (.cons (Imm.agg (.cons (Imm.con _) (.cons (Imm.con _) (.cons (Imm.con _) .nil)))) (.cons (Imm.iptr _ _) .nil)) (W83 F x9 a2 a3 a4 y11 hx12) rfl ?_
      refine aops_nil ?_
      refine awp_cond y11 rfl (fun hb13 => ?_) (fun hb13 => ?_)
      · replace h := ite_t hb13 h
        refine awp_seq ?_
        refine awp_region ?_
        refine aops_move (iV n7) wants_none rfl rfl ?_
        refine aops_assign (iV n7) wants_none rfl rfl ?_
        refine aops_nil ?_
        refine awp_ret ?_
        obtain rfl := Option.some.inj h
        exact ⟨.inl rfl, .one (.tmp rfl (Imm.con _))⟩
      · replace h := ite_f hb13 h
        refine awp_skip ?_
        refine awp_region ?_
        refine aops_bin (.int .i64 (w64 (n7 + 1))) wants_none rfl rfl rfl rfl ?_
        refine aops_move (iV (w64 (n7 + 1))) wants_none rfl rfl ?_
        refine aops_nil ?_
        exact awp_back (ih1 (w64 (n7 + 1)) (hk1 _ h)) (ghost_ren 0 (fun i => ([] : List Nat).getD i 0) _ _ (by decide) (EnvSub.get (.cons (Sub.imm (Imm.lst _ _)) (.cons (Sub.imm (Imm.fn .nil (.cons (Imm.iptr _ _) .nil))) (.cons (Sub.imm (Imm.con _)) (.cons (Sub.imm (Imm.con _)) .nil))))) (HpSub.get .nil) rfl)
    · replace h := RG.f h hb8
      unfold M100_L1 at h
      refine awp_exit ?_
      exact ⟨(), h, (ghost_ren 0 (fun i => ([] : List Nat).getD i 0) _ _ (by decide) (EnvSub.get .nil) (HpSub.get .nil) rfl)⟩
  · clear h
    intro _ h
    subst hk5
    refine awp_seq ?_
    refine awp_region ?_
    refine aops_assign (iV (-1)) wants_none rfl rfl ?_
    refine aops_nil ?_
    refine awp_ret ?_
    obtain rfl := Option.some.inj h
    exact ⟨.inl rfl, .one (.tmp rfl (Imm.con _))⟩

theorem W43 (F : Nat) (a1 : (List TExposure)) (a2 : List UInt8) (a3 : List UInt8) (a4 : Int) (r : Bool) (h : M43 F a1 a2 a3 a4 = some r) : Pure Try.prog 43 [(V.lst 3 (a1.map encTExposure)), (V.fn (.func 83) [] [(V.iptr [(sV a2), (sV a3), (iV a4)] 0)])] (bV r) := by
  refine pure_enter Try.func43 rfl rfl (l := [.tmp 4]) rfl rfl [(0, (V.lst 3 (a1.map encTExposure))), (1, (V.fn (.func 83) [] [(V.iptr [(sV a2), (sV a3), (iV a4)] 0)]))] rfl (fun w0 m0 => ?_)
  unfold M43 at h
  refine awp_seq ?_
  refine awp_region ?_
  refine aops_assign (bV false) wants_none rfl rfl ?_
  refine aops_nil ?_
  refine awp_seq ?_
  refine awp_region ?_
  refine aops_move (V.lst 3 (a1.map encTExposure)) wants_none rfl rfl ?_
  refine aops_move (V.fn (.func 83) [] [(V.iptr [(sV a2), (sV a3), (iV a4)] 0)]) wants_none rfl rfl ?_
  replace h := bind_some h
  obtain ⟨y5, hx6, h⟩ := h
  refine aops_call (iV y5) [(V.lst 3 (a1.map encTExposure)), (V.fn (.func 83) [] [(V.iptr [(sV a2), (sV a3), (iV a4)] 0)])] fOk100 wants_none (evm_cons rfl (evm_cons rfl evm_nil)) (.cons (Imm.lst _ _) (.cons (Imm.fn .nil (.cons (Imm.iptr _ _) .nil)) .nil)) (W100 F a1 a2 a3 a4 y5 hx6) rfl ?_
  refine aops_bin (.bool (decide (y5 ≥ 0))) wants_none rfl rfl rfl rfl ?_
  refine aops_assign (bV (decide (y5 ≥ 0))) wants_none rfl rfl ?_
  refine aops_nil ?_
  refine awp_ret ?_
  obtain rfl := Option.some.inj h
  exact ⟨.inl rfl, .one (.tmp rfl (Imm.con _))⟩

theorem W82 (F : Nat) (a1 : (List TExposure)) (a2 : TExposure) (r : Bool) (h : M82 F a1 a2 = some r) : Pure Try.prog 82 [(V.lst 3 (a1.map encTExposure)), (V.agg [(sV a2.Advisory), (sV a2.Component), (iV a2.Severity)])] (bV r) := by
  refine pure_enter Try.func82 rfl rfl (l := [.tmp 4]) rfl rfl [(0, (V.lst 3 (a1.map encTExposure))), (1, (V.agg [(sV a2.Advisory), (sV a2.Component), (iV a2.Severity)]))] rfl (fun w0 m0 => ?_)
  unfold M82 at h
  refine awp_seq ?_
  refine awp_region ?_
  refine aops_box [(sV a2.Advisory), (sV a2.Component), (iV a2.Severity)] wants_none rfl rfl rfl rfl ?_
  refine aops_assign (bV false) wants_none rfl rfl ?_
  refine aops_nil ?_
  refine awp_seq ?_
  refine awp_region ?_
  refine aops_move (V.lst 3 (a1.map encTExposure)) wants_none rfl rfl ?_
  refine aops_makeFunc [(V.ptr 0 3 0 0)] wants_none (evm_cons rfl evm_nil) rfl ?_
  replace h := bind_some h
  obtain ⟨y3, hx4, h⟩ := h
  refine aops_lend_call (bV y3) [(V.lst 3 (a1.map encTExposure)), (V.fn (.func 83) [] [(V.iptr [(sV a2.Advisory), (sV a2.Component), (iV a2.Severity)] 0)])] fOk43 (ghost_frzV 0 6 (V.fn (.func 83) [] [(V.iptr [(sV a2.Advisory), (sV a2.Component), (iV a2.Severity)] 0)]) rfl (imms_rows (.cons (.cons (Imm.con _) (.cons (Imm.con _) (.cons (Imm.con _) .nil))) .nil)) rfl (Sub.fnc (.cons (Sub.frzptr rfl) .nil))) (Flat.con _) wants_none (evm_cons rfl (evm_cons rfl evm_nil)) (.cons (Imm.lst _ _) (.cons (Imm.fn .nil (.cons (Imm.iptr _ _) .nil)) .nil)) (W43 F a1 a2.Advisory a2.Component a2.Severity y3 hx4) rfl ?_
  refine aops_assign (bV y3) wants_none rfl rfl ?_
  refine aops_nil ?_
  refine awp_ret ?_
  obtain rfl := Option.some.inj h
  exact ⟨.inl rfl, .one (.tmp rfl (Imm.con _))⟩

theorem W28 (F : Nat) (a1 : TRelease) (a2 : TRelease) (r : ((List TExposure) × (List TExposure) × (List TExposure) × Int)) (h : M28 F a1 a2 = some r) : Pure Try.prog 28 [(V.agg [(sV a1.Version), (iV a1.Day), (V.lst 3 (a1.Exposures.map encTExposure))]), (V.agg [(sV a2.Version), (iV a2.Day), (V.lst 3 (a2.Exposures.map encTExposure))])] (V.tup [(V.lst 3 ((r.1).map encTExposure)), (V.lst 3 ((r.2.1).map encTExposure)), (V.lst 3 ((r.2.2.1).map encTExposure)), (iV (r.2.2.2))]) := by
  refine pure_enter Try.func28 rfl rfl (l := [.tmp 4, .tmp 5, .tmp 6, .tmp 7]) rfl rfl [(0, (V.agg [(sV a1.Version), (iV a1.Day), (V.lst 3 (a1.Exposures.map encTExposure))])), (1, (V.agg [(sV a2.Version), (iV a2.Day), (V.lst 3 (a2.Exposures.map encTExposure))]))] rfl (fun w0 m0 => ?_)
  unfold M28 at h
  refine awp_seq ?_
  refine awp_region ?_
  refine aops_box [(sV a1.Version), (iV a1.Day), (V.lst 3 (a1.Exposures.map encTExposure))] wants_none rfl rfl rfl rfl ?_
  refine aops_box [(sV a2.Version), (iV a2.Day), (V.lst 3 (a2.Exposures.map encTExposure))] wants_none rfl rfl rfl rfl ?_
  refine aops_assign nV wants_none rfl rfl ?_
  refine aops_assign nV wants_none rfl rfl ?_
  refine aops_assign nV wants_none rfl rfl ?_
  refine aops_assign (iV 0) wants_none rfl rfl ?_
  refine aops_nil ?_
  refine awp_seq ?_
  refine awp_seq ?_
  refine awp_region ?_
  refine aops_load_agg (cs := [(sV a1.Version), (iV a1.Day), (V.lst 3 (a1.Exposures.map encTExposure))]) tA42 wants_none rfl rfl rfl rfl rfl rfl ?_
  refine aops_load_agg (cs := [(sV a2.Version), (iV a2.Day), (V.lst 3 (a2.Exposures.map encTExposure))]) tA42 wants_none rfl rfl rfl rfl rfl rfl ?_
  refine aops_buildSlice [(0, (V.agg [(sV a1.Version), (iV a1.Day), (V.lst 3 (a1.Exposures.map encTExposure))])), (1, (V.agg [(sV a2.Version), (iV a2.Day), (V.lst 3 (a2.Exposures.map encTExposure))]))] [[(sV a1.Version), (iV a1.Day), (V.lst 3 (a1.Exposures.map encTExposure))], [(sV a2.Version), (iV a2.Day), (V.lst 3 (a2.Exposures.map encTExposure))]] tEl49 tZ42 rfl rfl rfl rfl wants_none (evp_cons rfl (evp_cons rfl evp_nil)) rfl rfl (by simp) rfl ?_
  refine aops_len (n := 2) tIsSl49 wants_none rfl rfl rfl ?_
  refine aops_move (iV 0) wants_none rfl rfl ?_
  refine aops_nil ?_
  replace h := jn_elim h
  obtain ⟨k3, hk3, h⟩ := h
  refine awp_cut (fun _ : Unit => (⟨[(2, (V.ptr 0 3 0 0)), (3, (V.ptr 1 3 0 0)), (4, nV), (5, nV), (6, nV)], [(0, (Ob.arr 42 3 [[(sV a1.Version), (iV a1.Day), (V.lst 3 (a1.Exposures.map encTExposure))]])), (1, (Ob.arr 42 3 [[(sV a2.Version), (iV a2.Day), (V.lst 3 (a2.Exposures.map encTExposure))]]))], 2⟩ : St)) (fun _ : Unit => k3 = some r) ?_ ?_
  · clear hk3
    refine awp_block ?_
    replace h := chk_some h
    obtain ⟨hA12, h⟩ := h
    refine awp_loop_ind (fun (p : Int) => (⟨[(2, (V.ptr 0 3 0 0)), (3, (V.ptr 1 3 0 0)), (4, nV), (5, nV), (6, nV), (18, (V.own 2 ([a1, a2] : List TRelease).length)), (19, (iV ((2 : Nat) : Int))), (20, (iV p))], [(0, (Ob.arr 42 3 [[(sV a1.Version), (iV a1.Day), (V.lst 3 (a1.Exposures.map encTExposure))]])), (1, (Ob.arr 42 3 [[(sV a2.Version), (iV a2.Day), (V.lst 3 (a2.Exposures.map encTExposure))]])), (2, (Ob.arr 42 3 (([a1, a2] : List TRelease).map encTRelease)))], 3⟩ : St)) (fun n (p : Int) => RC ((2 : Nat) : Int) (fun tl nn => M28_L1 F a1 a2 k3 tl nn = some r) n p) (fun p h => RC.zero h) (fun n ih1 p h => ?_) (Int.toNat ((2 : Nat) : Int) + 1) 0 (RC.start h) (ghost_ren 3 (fun i => ([0, 1, 2] : List Nat).getD i 0) _ _ (by decide) (EnvSub.get (.cons (Sub.ptr rfl rfl) (.cons (Sub.ptr rfl rfl) (.cons (Sub.imm (Imm.con _)) (.cons (Sub.imm (Imm.con _)) (.cons (Sub.imm (Imm.con _)) (.cons (Sub.ownE rfl rfl (by simp)) (.cons (Sub.imm (Imm.con _)) (.cons (Sub.imm (Imm.con _)) .nil))))))))) (HpSub.get (.cons rfl (ObSub.box (.cons (Sub.imm (Imm.con _)) (.cons (Sub.imm (Imm.con _)) (.cons (Sub.imm (Imm.lst _ _)) .nil)))) (.cons rfl (ObSub.box (.cons (Sub.imm (Imm.con _)) (.cons (Sub.imm (Imm.con _)) (.cons (Sub.imm (Imm.lst _ _)) .nil)))) (.cons rfl (ObSub.rows (rows_imm imms_encTRelease)) .nil)))) rfl)
    revert p
    intro n5 h
    refine awp_loop ?_
    refine awp_seq ?_
    refine awp_region ?_
    refine aops_bin (.bool (decide (n5 < ((2 : Nat) : Int)))) wants_none rfl rfl rfl rfl ?_
    refine aops_nil ?_
    refine awp_seq ?_
    refine awp_cond (decide (n5 < ((2 : Nat) : Int))) rfl (fun hb6 => ?_) (fun hb6 => ?_)
    · obtain ⟨tl, h, hk1⟩ := RC.t hA12 h hb6
      unfold M28_L1 at h
      refine awp_skip ?_
      refine awp_seq ?_
      refine awp_block ?_
      refine awp_seq ?_
      refine awp_region ?_
      replace h := bind_some h
      obtain ⟨x7, hx8, h⟩ := h
      refine aops_index_own tSl49 wants_none rfl rfl (idx_some hx8).1 (by simpa using idx_lt hx8) rfl ?_
      refine aops_load_agg (cs := [(sV x7.Version), (iV x7.Day), (V.lst 3 (x7.Exposures.map encTExposure))]) tA42 wants_none rfl rfl (idx_map encTRelease hx8) rfl rfl rfl ?_
      refine aops_alloc tZ42 rfl rfl wants_none rfl ?_
      refine aops_store [(sV x7.Version), (iV x7.Day), (V.lst 3 (x7.Exposures.map encTExposure))] [[(sV x7.Version), (iV x7.Day), (V.lst 3 (x7.Exposures.map encTExposure))]] tS42 wants_none rfl rfl rfl rfl rfl rfl rfl rfl ?_
      refine aops_nil ?_
      refine awp_seq ?_
      refine awp_region ?_
      refine aops_load_agg (cs := [(sV x7.Version), (iV x7.Day), (V.lst 3 (x7.Exposures.map encTExposure))]) tA42 wants_none rfl rfl rfl rfl rfl rfl ?_
      replace h := bind_some h
      obtain ⟨y9, hx10, h⟩ := h
      refine aops_call (iV y9) [(V.agg [(sV x7.Version), (iV x7.Day), (V.lst 3 (x7.Exposures.map encTExposure))])] fOk81 wants_none (evm_cons rfl evm_nil) (.cons (Imm.agg (.cons (Imm.con _) (.cons (Imm.con _) (.cons (Imm.lst _ _) .nil)))) .nil) (W81 F x7 y9 hx10) rfl ?_
      refine aops_assign (iV y9) wants_none rfl rfl ?_
      refine aops_nil ?_
      refine awp_seq ?_
      refine awp_region ?_
      refine aops_move (iV y9) wants_none rfl rfl ?_
      refine aops_bin (.bool (y9 != 0)) wants_none rfl rfl rfl rfl ?_
      refine aops_nil ?_
      refine awp_cond (y9 != 0) rfl (fun hb11 => ?_) (fun hb11 => ?_)
      · replace h := ite_t hb11 h
        refine awp_seq ?_
        refine awp_region ?_
        refine aops_move (iV y9) wants_none rfl rfl ?_
        refine aops_assign nV wants_none rfl rfl ?_
        refine aops_assign nV wants_none rfl rfl ?_
        refine aops_assign nV wants_none rfl rfl ?_
        refine aops_assign (iV y9) wants_none rfl rfl ?_
        refine aops_nil ?_
        refine awp_ghost (ghost_tell 4 (V.lst 3 (([] : List TExposure).map encTExposure)) rfl (Sub.nil _)) ?_
        refine awp_ghost (ghost_tell 5 (V.lst 3 (([] : List TExposure).map encTExposure)) rfl (Sub.nil _)) ?_
        refine awp_ghost (ghost_tell 6 (V.lst 3 (([] : List TExposure).map encTExposure)) rfl (Sub.nil _)) ?_
        refine awp_ret ?_
        obtain rfl := Option.some.inj h
        exact ⟨.inl rfl, .four (.tmp rfl (Imm.lst _ _)) (.tmp rfl (Imm.lst _ _)) (.tmp rfl (Imm.lst _ _)) (.tmp rfl (Imm.con _))⟩
      · replace h := ite_f hb11 h
        refine awp_skip ?_
        refine awp_region ?_
        refine aops_bin (.int .i64 (w64 (n5 + 1))) wants_none rfl rfl rfl rfl ?_
        refine aops_move (iV (w64 (n5 + 1))) wants_none rfl rfl ?_
        refine aops_nil ?_
        exact awp_back (ih1 (w64 (n5 + 1)) (hk1 _ h)) (ghost_ren 3 (fun i => ([0, 1, 2] : List Nat).getD i 0) _ _ (by decide) (EnvSub.get (.cons (Sub.ptr rfl rfl) (.cons (Sub.ptr rfl rfl) (.cons (Sub.imm (Imm.con _)) (.cons (Sub.imm (Imm.con _)) (.cons (Sub.imm (Imm.con _)) (.cons (Sub.own rfl rfl) (.cons (Sub.imm (Imm.con _)) (.cons (Sub.imm (Imm.con _)) .nil))))))))) (HpSub.get (.cons rfl (ObSub.box (.cons (Sub.imm (Imm.con _)) (.cons (Sub.imm (Imm.con _)) (.cons (Sub.imm (Imm.lst _ _)) .nil)))) (.cons rfl (ObSub.box (.cons (Sub.imm (Imm.con _)) (.cons (Sub.imm (Imm.con _)) (.cons (Sub.imm (Imm.lst _ _)) .nil)))) (.cons rfl (ObSub.rows (rows_imm imms_encTRelease)) .nil)))) rfl)
    · replace h := RC.f h hb6
      unfold M28_L1 at h
      refine awp_exit ?_
      exact ⟨(), h, (ghost_ren 2 (fun i => ([0, 1] : List Nat).getD i 0) _ _ (by decide) (EnvSub.get (.cons (Sub.ptr rfl rfl) (.cons (Sub.ptr rfl rfl) (.cons (Sub.imm (Imm.con _)) (.cons (Sub.imm (Imm.con _)) (.cons (Sub.imm (Imm.con _)) .nil)))))) (HpSub.get (.cons rfl (ObSub.box (.cons (Sub.imm (Imm.con _)) (.cons (Sub.imm (Imm.con _)) (.cons (Sub.imm (Imm.lst _ _)) .nil)))) (.cons rfl (ObSub.box (.cons (Sub.imm (Imm.con _)) (.cons (Sub.imm (Imm.con _)) (.cons (Sub.imm (Imm.lst _ _)) .nil)))) .nil))) rfl)⟩
  · clear h
    intro _ h
    subst hk3
    refine awp_seq ?_
    refine awp_region ?_
    refine aops_assign (V.fn (.func 82) [] []) wants_none rfl rfl ?_
    refine aops_nil ?_
    refine awp_seq ?_
    refine awp_seq ?_
    refine awp_region ?_
    refine aops_fieldAddr tF42_2 wants_none rfl rfl ?_
    refine aops_load_cell (V.lst 3 (a1.Exposures.map encTExposure)) tC40 wants_none rfl rfl rfl rfl rfl ?_
    refine aops_len (n := a1.Exposures.length) tIsSl40 wants_none rfl (congrArg some (List.length_map ..)) rfl ?_
    refine aops_move (iV 0) wants_none rfl rfl ?_
    refine aops_nil ?_
    replace h := jn_elim h
    obtain ⟨k13, hk13, h⟩ := h
    refine awp_cut (fun (p : (List TExposure)) => (⟨[(2, (V.ptr 0 3 0 0)), (3, (V.ptr 1 3 0 0)), (4, (V.own 2 p.length)), (5, nV), (6, nV), (11, (V.fn (.func 82) [] []))], [(0, (Ob.arr 42 3 [[(sV a1.Version), (iV a1.Day), (V.lst 3 (a1.Exposures.map encTExposure))]])), (1, (Ob.arr 42 3 [[(sV a2.Version), (iV a2.Day), (V.lst 3 (a2.Exposures.map encTExposure))]])), (2, (Ob.arr 47 3 (p.map encTExposure)))], 3⟩ : St)) (fun (p : (List TExposure)) => k13 p = some r) ?_ ?_
    · clear hk13
      refine awp_block ?_
      refine awp_len (A := a1.Exposures) 31 rfl (fun hA28 => ?_)
      refine awp_loop_ind (fun (p : Int × (List TExposure)) => (⟨[(2, (V.ptr 0 3 0 0)), (3, (V.ptr 1 3 0 0)), (4, (V.own 2 (p.2).length)), (5, nV), (6, nV), (11, (V.fn (.func 82) [] [])), (31, (V.lst 3 (a1.Exposures.map encTExposure))), (32, (iV ((a1.Exposures.length : Nat) : Int))), (33, (iV (p.1)))], [(0, (Ob.arr 42 3 [[(sV a1.Version), (iV a1.Day), (V.lst 3 (a1.Exposures.map encTExposure))]])), (1, (Ob.arr 42 3 [[(sV a2.Version), (iV a2.Day), (V.lst 3 (a2.Exposures.map encTExposure))]])), (2, (Ob.arr 47 3 ((p.2).map encTExposure)))], 3⟩ : St)) (fun n (p : Int × (List TExposure)) => RG a1.Exposures (fun tl nn => M28_L2 F a2 k13 tl p.2 = some r) n p.1) (fun p h => RG.zero h) (fun n ih2 p h => ?_) (a1.Exposures.length + 1) (0, ([] : List TExposure)) (RG.start h) (Ghost.trans (ghost_nilE 4 47 3 rfl) (ghost_ren 3 (fun i => ([0, 1, 2] : List Nat).getD i 0) _ _ (by decide) (EnvSub.get (.cons (Sub.ptr rfl rfl) (.cons (Sub.ptr rfl rfl) (.cons (Sub.ownE rfl rfl (by simp)) (.cons (Sub.imm (Imm.con _)) (.cons (Sub.imm (Imm.con _)) (.cons (Sub.imm (Imm.fn .nil .nil)) (.cons (Sub.imm (Imm.lst _ _)) (.cons (Sub.imm (Imm.con _)) (.cons (Sub.imm (Imm.con _)) .nil)))))))))) (HpSub.get (.cons rfl (ObSub.box (.cons (Sub.imm (Imm.con _)) (.cons (Sub.imm (Imm.con _)) (.cons (Sub.imm (Imm.lst _ _)) .nil)))) (.cons rfl (ObSub.box (.cons (Sub.imm (Imm.con _)) (.cons (Sub.imm (Imm.con _)) (.cons (Sub.imm (Imm.lst _ _)) .nil)))) (.cons rfl (ObSub.rows (rows_imm imms_encTExposure)) .nil)))) rfl))
      obtain ⟨n17, l18⟩ := p
      refine awp_loop ?_
      refine awp_seq ?_
      refine awp_region ?_
      refine aops_bin (.bool (decide (n17 < ((a1.Exposures.length : Nat) : Int)))) wants_none rfl rfl rfl rfl ?_
      refine aops_nil ?_
      refine awp_seq ?_
      refine awp_cond (decide (n17 < ((a1.Exposures.length : Nat) : Int))) rfl (fun hb19 => ?_) (fun hb19 => ?_)
      · obtain ⟨x20, tl, hx21, h, hk2⟩ := RG.t hA28 h hb19
        unfold M28_L2 at h
        refine awp_skip ?_
        refine awp_seq ?_
        refine awp_block ?_
        refine awp_seq ?_
        refine awp_region ?_
        refine aops_index_lst [(sV x20.Advisory), (sV x20.Component), (iV x20.Severity)] tSl40 wants_none rfl rfl (idx_some hx21).1 (idx_map encTExposure hx21) rfl ?_
        refine aops_iload_agg (cs := [(sV x20.Advisory), (sV x20.Component), (iV x20.Severity)]) tA47 wants_none rfl rfl rfl rfl ?_
        refine aops_alloc tZ47 rfl rfl wants_none rfl ?_
        refine aops_store [(sV x20.Advisory), (sV x20.Component), (iV x20.Severity)] [[(sV x20.Advisory), (sV x20.Component), (iV x20.Severity)]] tS47 wants_none rfl rfl rfl rfl rfl rfl rfl rfl ?_
        refine aops_nil ?_
        refine awp_seq ?_
        refine awp_region ?_
        refine aops_move (V.fn (.func 82) [] []) wants_none rfl rfl ?_
        refine aops_fieldAddr tF42_2 wants_none rfl rfl ?_
        refine aops_load_cell (V.lst 3 (a2.Exposures.map encTExposure)) tC40 wants_none rfl rfl rfl rfl rfl ?_
        refine aops_load_agg (cs := [(sV x20.Advisory), (sV x20.Component), (iV x20.Severity)]) tA47 wants_none rfl rfl rfl rfl rfl rfl ?_
        replace h := bind_some h
        obtain ⟨y22, hx23, h⟩ := h
        refine aops_callv (bV y22) [(V.lst 3 (a2.Exposures.map encTExposure)), (V.agg [(sV x20.Advisory), (sV x20.Component), (iV x20.Severity)])] fOk82 wants_none rfl rfl (.cons (Imm.lst _ _) (.cons (Imm.agg (.cons (Imm.con _) (.cons (Imm.con _) (.cons (Imm.con _) .nil)))) .nil)) (W82 F a2.Exposures x20 y22 hx23) rfl ?_
        refine aops_not wants_none rfl rfl ?_
        refine aops_nil ?_
        replace h := jn_elim h
        obtain ⟨k24, hk24, h⟩ := h
        refine awp_cut (fun (p : (List TExposure)) => (⟨[(2, (V.ptr 0 3 0 0)), (3, (V.ptr 1 3 0 0)), (4, (V.own 2 p.length)), (5, nV), (6, nV), (11, (V.fn (.func 82) [] [])), (31, (V.lst 3 (a1.Exposures.map encTExposure))), (32, (iV ((a1.Exposures.length : Nat) : Int))), (33, (iV n17))], [(0, (Ob.arr 42 3 [[(sV a1.Version), (iV a1.Day), (V.lst 3 (a1.Exposures.map encTExposure))]])), (1, (Ob.arr 42 3 [[(sV a2.Version), (iV a2.Day), (V.lst 3 (a2.Exposures.map encTExposure))]])), (2, (Ob.arr 47 3 (p.map encTExposure)))], 3⟩ : St)) (fun (p : (List TExposure)) => k24 p = some r) ?_ ?_
        · clear hk24
          refine awp_cond (!y22) rfl (fun hb26 => ?_) (fun hb26 => ?_)
          · replace h := ite_t hb26 h
            refine awp_region ?_
            refine aops_move (V.own 2 l18.length) wants_none rfl rfl ?_
            refine aops_load_agg (cs := [(sV x20.Advisory), (sV x20.Component), (iV x20.Severity)]) tA47 wants_none rfl rfl rfl rfl rfl rfl ?_
            refine aops_buildSlice [(0, (V.agg [(sV x20.Advisory), (sV x20.Component), (iV x20.Severity)]))] [[(sV x20.Advisory), (sV x20.Component), (iV x20.Severity)]] tEl40 tZ47 rfl rfl rfl rfl wants_none (evp_cons rfl evp_nil) rfl rfl (by simp) rfl ?_
            replace h := chk_some h
            obtain ⟨hc27, h⟩ := h
            refine aops_append [[(sV x20.Advisory), (sV x20.Component), (iV x20.Severity)]] ((l18 ++ ([x20] : List TExposure)).map encTExposure) tEl40 tIsSl40 rfl rfl wants_none rfl rfl (by simp) rfl (.own rfl (by simp)) (map_snoc encTExposure l18 ([x20] : List TExposure)) (List.length_map ..) hc27 rfl ?_
            refine aops_assign (V.own 5 (l18 ++ ([x20] : List TExposure)).length) wants_none rfl rfl ?_
            refine aops_nil ?_
            exact ⟨(l18 ++ ([x20] : List TExposure)), h, (ghost_ren 3 (fun i => ([0, 1, 5] : List Nat).getD i 0) _ _ (by decide) (EnvSub.get (.cons (Sub.ptr rfl rfl) (.cons (Sub.ptr rfl rfl) (.cons (Sub.own rfl rfl) (.cons (Sub.imm (Imm.con _)) (.cons (Sub.imm (Imm.con _)) (.cons (Sub.imm (Imm.fn .nil .nil)) (.cons (Sub.imm (Imm.lst _ _)) (.cons (Sub.imm (Imm.con _)) (.cons (Sub.imm (Imm.con _)) .nil)))))))))) (HpSub.get (.cons rfl (ObSub.box (.cons (Sub.imm (Imm.con _)) (.cons (Sub.imm (Imm.con _)) (.cons (Sub.imm (Imm.lst _ _)) .nil)))) (.cons rfl (ObSub.box (.cons (Sub.imm (Imm.con _)) (.cons (Sub.imm (Imm.con _)) (.cons (Sub.imm (Imm.lst _ _)) .nil)))) (.cons rfl (ObSub.rows (rows_imm imms_encTExposure)) .nil)))) rfl)⟩
          · replace h := ite_f hb26 h
            refine awp_skip ?_
            exact ⟨l18, h, (ghost_ren 3 (fun i => ([0, 1, 2] : List Nat).getD i 0) _ _ (by decide) (EnvSub.get (.cons (Sub.ptr rfl rfl) (.cons (Sub.ptr rfl rfl) (.cons (Sub.own rfl rfl) (.cons (Sub.imm (Imm.con _)) (.cons (Sub.imm (Imm.con _)) (.cons (Sub.imm (Imm.fn .nil .nil)) (.cons (Sub.imm (Imm.lst _ _)) (.cons (Sub.imm (Imm.con _)) (.cons (Sub.imm (Imm.con _)) .nil)))))))))) (HpSub.get (.cons rfl (ObSub.box (.cons (Sub.imm (Imm.con _)) (.cons (Sub.imm (Imm.con _)) (.cons (Sub.imm (Imm.lst _ _)) .nil)))) (.cons rfl (ObSub.box (.cons (Sub.imm (Imm.con _)) (.cons (Sub.imm (Imm.con _)) (.cons (Sub.imm (Imm.lst _ _)) .nil)))) (.cons rfl (ObSub.rows (rows_imm imms_encTExposure)) .nil)))) rfl)⟩
        · clear h
          intro l25 h
          subst hk24
          refine awp_region ?_
          refine aops_bin (.int .i64 (w64 (n17 + 1))) wants_none rfl rfl rfl rfl ?_
          refine aops_move (iV (w64 (n17 + 1))) wants_none rfl rfl ?_
          refine aops_nil ?_
          exact awp_back (ih2 ((w64 (n17 + 1)), l25) (hk2 _ h)) (ghost_ren 3 (fun i => ([0, 1, 2] : List Nat).getD i 0) _ _ (by decide) (EnvSub.get (.cons (Sub.ptr rfl rfl) (.cons (Sub.ptr rfl rfl) (.cons (Sub.own rfl rfl) (.cons (Sub.imm (Imm.con _)) (.cons (Sub.imm (Imm.con _)) (.cons (Sub.imm (Imm.fn .nil .nil)) (.cons (Sub.imm (Imm.lst _ _)) (.cons (Sub.imm (Imm.con _)) (.cons (Sub.imm (Imm.con _)) .nil)))))))))) (HpSub.get (.cons rfl (ObSub.box (.cons (Sub.imm (Imm.con _)) (.cons (Sub.imm (Imm.con _)) (.cons (Sub.imm (Imm.lst _ _)) .nil)))) (.cons rfl (ObSub.box (.cons (Sub.imm (Imm.con _)) (.cons (Sub.imm (Imm.con _)) (.cons (Sub.imm (Imm.lst _ _)) .nil)))) (.cons rfl (ObSub.rows (rows_imm imms_encTExposure)) .nil)))) rfl)
      · replace h := RG.f h hb19
        unfold M28_L2 at h
        refine awp_exit ?_
        exact ⟨l18, h, (ghost_ren 3 (fun i => ([0, 1, 2] : List Nat).getD i 0) _ _ (by decide) (EnvSub.get (.cons (Sub.ptr rfl rfl) (.cons (Sub.ptr rfl rfl) (.cons (Sub.own rfl rfl) (.cons (Sub.imm (Imm.con _)) (.cons (Sub.imm (Imm.con _)) (.cons (Sub.imm (Imm.fn .nil .nil)) .nil))))))) (HpSub.get (.cons rfl (ObSub.box (.cons (Sub.imm (Imm.con _)) (.cons (Sub.imm (Imm.con _)) (.cons (Sub.imm (Imm.lst _ _)) .nil)))) (.cons rfl (ObSub.box (.cons (Sub.imm (Imm.con _)) (.cons (Sub.imm (Imm.con _)) (.cons (Sub.imm (Imm.lst _ _)) .nil)))) (.cons rfl (ObSub.rows (rows_imm imms_encTExposure)) .nil)))) rfl)⟩
    · clear h
      intro l14 h
      subst hk13
      refine awp_seq ?_
      refine awp_seq ?_
      refine awp_region ?_
      refine aops_fieldAddr tF42_2 wants_none rfl rfl ?_
      refine aops_load_cell (V.lst 3 (a2.Exposures.map encTExposure)) tC40 wants_none rfl rfl rfl rfl rfl ?_
      refine aops_len (n := a2.Exposures.length) tIsSl40 wants_none rfl (congrArg some (List.length_map ..)) rfl ?_
      refine aops_move (iV 0) wants_none rfl rfl ?_
      refine aops_nil ?_
      replace h := jn_elim h
      obtain ⟨k29, hk29, h⟩ := h
      refine awp_cut (fun (p : (List TExposure) × (List TExposure)) => (⟨[(4, (V.own 0 l14.length)), (5, (V.own 1 (p.1).length)), (6, (V.own 2 (p.2).length))], [(0, (Ob.arr 47 3 (l14.map encTExposure))), (1, (Ob.arr 47 3 ((p.1).map encTExposure))), (2, (Ob.arr 47 3 ((p.2).map encTExposure)))], 3⟩ : St)) (fun (p : (List TExposure) × (List TExposure)) => k29 p.1 p.2 = some r) ?_ ?_
      · clear hk29
        refine awp_block ?_
        refine awp_len (A := a2.Exposures) 49 rfl (fun hA49 => ?_)
        refine awp_loop_ind (fun (p : Int × (List TExposure) × (List TExposure)) => (⟨[(2, (V.ptr 0 3 0 0)), (4, (V.own 1 l14.length)), (5, (V.own 2 (p.2.1).length)), (6, (V.own 3 (p.2.2).length)), (11, (V.fn (.func 82) [] [])), (49, (V.lst 3 (a2.Exposures.map encTExposure))), (50, (iV ((a2.Exposures.length : Nat) : Int))), (51, (iV (p.1)))], [(0, (Ob.arr 42 3 [[(sV a1.Version), (iV a1.Day), (V.lst 3 (a1.Exposures.map encTExposure))]])), (1, (Ob.arr 47 3 (l14.map encTExposure))), (2, (Ob.arr 47 3 ((p.2.1).map encTExposure))), (3, (Ob.arr 47 3 ((p.2.2).map encTExposure)))], 4⟩ : St)) (fun n (p : Int × (List TExposure) × (List TExposure)) => RG a2.Exposures (fun tl nn => M28_L3 F a1 k29 tl p.2.1 p.2.2 = some r) n p.1) (fun p h => RG.zero h) (fun n ih3 p h => ?_) (a2.Exposures.length + 1) (0, ([] : List TExposure), ([] : List TExposure)) (RG.start h) (Ghost.trans (ghost_nilE 5 47 3 rfl) (Ghost.trans (ghost_nilE 6 47 3 rfl) (ghost_ren 4 (fun i => ([0, 2, 3, 4] : List Nat).getD i 0) _ _ (by decide) (EnvSub.get (.cons (Sub.ptr rfl rfl) (.cons (Sub.own rfl rfl) (.cons (Sub.ownE rfl rfl (by simp)) (.cons (Sub.ownE rfl rfl (by simp)) (.cons (Sub.imm (Imm.fn .nil .nil)) (.cons (Sub.imm (Imm.lst _ _)) (.cons (Sub.imm (Imm.con _)) (.cons (Sub.imm (Imm.con _)) .nil))))))))) (HpSub.get (.cons rfl (ObSub.box (.cons (Sub.imm (Imm.con _)) (.cons (Sub.imm (Imm.con _)) (.cons (Sub.imm (Imm.lst _ _)) .nil)))) (.cons rfl (ObSub.rows (rows_imm imms_encTExposure)) (.cons rfl (ObSub.rows (rows_imm imms_encTExposure)) (.cons rfl (ObSub.rows (rows_imm imms_encTExposure)) .nil))))) rfl)))
        obtain ⟨n35, l36, l37⟩ := p
        refine awp_loop ?_
        refine awp_seq ?_
        refine awp_region ?_
        refine aops_bin (.bool (decide (n35 < ((a2.Exposures.length : Nat) : Int)))) wants_none rfl rfl rfl rfl ?_
        refine aops_nil ?_
        refine awp_seq ?_
        refine awp_cond (decide (n35 < ((a2.Exposures.length : Nat) : Int))) rfl (fun hb38 => ?_) (fun hb38 => ?_)
        · obtain ⟨x39, tl, hx40, h, hk3⟩ := RG.t hA49 h hb38
          unfold M28_L3 at h
          refine awp_skip ?_
          refine awp_seq ?_
          refine awp_block ?_
          refine awp_seq ?_
          refine awp_region ?_
          refine aops_index_lst [(sV x39.Advisory), (sV x39.Component), (iV x39.Severity)] tSl40 wants_none rfl rfl (idx_some hx40).1 (idx_map encTExposure hx40) rfl ?_
          refine aops_iload_agg (cs := [(sV x39.Advisory), (sV x39.Component), (iV x39.Severity)]) tA47 wants_none rfl rfl rfl rfl ?_
          refine aops_alloc tZ47 rfl rfl wants_none rfl ?_
          refine aops_store [(sV x39.Advisory), (sV x39.Component), (iV x39.Severity)] [[(sV x39.Advisory), (sV x39.Component), (iV x39.Severity)]] tS47 wants_none rfl rfl rfl rfl rfl rfl rfl rfl ?_
          refine aops_nil ?_
          refine awp_seq ?_
          refine awp_region ?_
          refine aops_move (V.fn (.func 82) [] []) wants_none rfl rfl ?_
          refine aops_fieldAddr tF42_2 wants_none rfl rfl ?_
          refine aops_load_cell (V.lst 3 (a1.Exposures.map encTExposure)) tC40 wants_none rfl rfl rfl rfl rfl ?_
          refine aops_load_agg (cs := [(sV x39.Advisory), (sV x39.Component), (iV x39.Severity)]) tA47 wants_none rfl rfl rfl rfl rfl rfl ?_
          replace h := bind_some h
          obtain ⟨y41, hx42, h⟩ := h
          refine aops_callv (bV y41) [(V.lst 3 (a1.Exposures.map encTExposure)), (V.agg [(sV x39.Advisory), (sV x39.Component), (iV x39.Severity)])] fOk82 wants_none rfl rfl (.cons (Imm.lst _ _) (.cons (Imm.agg (.cons (Imm.con _) (.cons (Imm.con _) (.cons (Imm.con _) .nil)))) .nil)) (W82 F a1.Exposures x39 y41 hx42) rfl ?_
          refine aops_nil ?_
          replace h := jn_elim h
          obtain ⟨k43, hk43, h⟩ := h
          refine awp_cut (fun (p : (List TExposure) × (List TExposure)) => (⟨[(2, (V.ptr 0 3 0 0)), (4, (V.own 1 l14.length)), (5, (V.own 2 (p.1).length)), (6, (V.own 3 (p.2).length)), (11, (V.fn (.func 82) [] [])), (49, (V.lst 3 (a2.Exposures.map encTExposure))), (50, (iV ((a2.Exposures.length : Nat) : Int))), (51, (iV n35))], [(0, (Ob.arr 42 3 [[(sV a1.Version), (iV a1.Day), (V.lst 3 (a1.Exposures.map encTExposure))]])), (1, (Ob.arr 47 3 (l14.map encTExposure))), (2, (Ob.arr 47 3 ((p.1).map encTExposure))), (3, (Ob.arr 47 3 ((p.2).map encTExposure)))], 4⟩ : St)) (fun (p : (List TExposure) × (List TExposure)) => k43 p.1 p.2 = some r) ?_ ?_
          · clear hk43
            refine awp_cond y41 rfl (fun hb46 => ?_) (fun hb46 => ?_)
            · replace h := ite_t hb46 h
              refine awp_region ?_
              refine aops_move (V.own 3 l37.length) wants_none rfl rfl ?_
              refine aops_load_agg (cs := [(sV x39.Advisory), (sV x39.Component), (iV x39.Severity)]) tA47 wants_none rfl rfl rfl rfl rfl rfl ?_
              refine aops_buildSlice [(0, (V.agg [(sV x39.Advisory), (sV x39.Component), (iV x39.Severity)]))] [[(sV x39.Advisory), (sV x39.Component), (iV x39.Severity)]] tEl40 tZ47 rfl rfl rfl rfl wants_none (evp_cons rfl evp_nil) rfl rfl (by simp) rfl ?_
              replace h := chk_some h
              obtain ⟨hc47, h⟩ := h
              refine aops_append [[(sV x39.Advisory), (sV x39.Component), (iV x39.Severity)]] ((l37 ++ ([x39] : List TExposure)).map encTExposure) tEl40 tIsSl40 rfl rfl wants_none rfl rfl (by simp) rfl (.own rfl (by simp)) (map_snoc encTExposure l37 ([x39] : List TExposure)) (List.length_map ..) hc47 rfl ?_
              refine aops_assign (V.own 6 (l37 ++ ([x39] : List TExposure)).length) wants_none rfl rfl ?_
              refine aops_nil ?_
              exact ⟨(l36, (l37 ++ ([x39] : List TExposure))), h, (ghost_ren 4 (fun i => ([0, 1, 2, 6] : List Nat).getD i 0) _ _ (by decide) (EnvSub.get (.cons (Sub.ptr rfl rfl) (.cons (Sub.own rfl rfl) (.cons (Sub.own rfl rfl) (.cons (Sub.own rfl rfl) (.cons (Sub.imm (Imm.fn .nil .nil)) (.cons (Sub.imm (Imm.lst _ _)) (.cons (Sub.imm (Imm.con _)) (.cons (Sub.imm (Imm.con _)) .nil))))))))) (HpSub.get (.cons rfl (ObSub.box (.cons (Sub.imm (Imm.con _)) (.cons (Sub.imm (Imm.con _)) (.cons (Sub.imm (Imm.lst _ _)) .nil)))) (.cons rfl (ObSub.rows (rows_imm imms_encTExposure)) (.cons rfl (ObSub.rows (rows_imm imms_encTExposure)) (.cons rfl (ObSub.rows (rows_imm imms_encTExposure)) .nil))))) rfl)⟩
            · replace h := ite_f hb46 h
              refine awp_region ?_
              refine aops_move (V.own 2 l36.length) wants_none rfl rfl ?_
              refine aops_load_agg (cs := [(sV x39.Advisory), (sV x39.Component), (iV x39.Severity)]) tA47 wants_none rfl rfl rfl rfl rfl rfl ?_
              refine aops_buildSlice [(0, (V.agg [(sV x39.Advisory), (sV x39.Component), (iV x39.Severity)]))] [[(sV x39.Advisory), (sV x39.Component), (iV x39.Severity)]] tEl40 tZ47 rfl rfl rfl rfl wants_none (evp_cons rfl evp_nil) rfl rfl (by simp) rfl ?_
              replace h := chk_some h
              obtain ⟨hc48, h⟩ := h
              refine aops_append [[(sV x39.Advisory), (sV x39.Component), (iV x39.Severity)]] ((l36 ++ ([x39] : List TExposure)).map encTExposure) tEl40 tIsSl40 rfl rfl wants_none rfl rfl (by simp) rfl (.own rfl (by simp)) (map_snoc encTExposure l36 ([x39] : List TExposure)) (List.length_map ..) hc48 rfl ?_
              refine aops_assign (V.own 6 (l36 ++ ([x39] : List TExposure)).length) wants_none rfl rfl ?_
              refine aops_nil ?_
              exact ⟨((l36 ++ ([x39] : List TExposure)), l37), h, (ghost_ren 4 (fun i => ([0, 1, 6, 3] : List Nat).getD i 0) _ _ (by decide) (EnvSub.get (.cons (Sub.ptr rfl rfl) (.cons (Sub.own rfl rfl) (.cons (Sub.own rfl rfl) (.cons (Sub.own rfl rfl) (.cons (Sub.imm (Imm.fn .nil .nil)) (.cons (Sub.imm (Imm.lst _ _)) (.cons (Sub.imm (Imm.con _)) (.cons (Sub.imm (Imm.con _)) .nil))))))))) (HpSub.get (.cons rfl (ObSub.box (.cons (Sub.imm (Imm.con _)) (.cons (Sub.imm (Imm.con _)) (.cons (Sub.imm (Imm.lst _ _)) .nil)))) (.cons rfl (ObSub.rows (rows_imm imms_encTExposure)) (.cons rfl (ObSub.rows (rows_imm imms_encTExposure)) (.cons rfl (ObSub.rows (rows_imm imms_encTExposure)) .nil))))) rfl)⟩
          · clear h
            rintro ⟨l44, l45⟩ h
            subst hk43
            refine awp_region ?_
            refine aops_bin (.int .i64 (w64 (n35 + 1))) wants_none rfl rfl rfl rfl ?_
            refine aops_move (iV (w64 (n35 + 1))) wants_none rfl rfl ?_
            refine aops_nil ?_
            exact awp_back (ih3 ((w64 (n35 + 1)), l44, l45) (hk3 _ h)) (ghost_ren 4 (fun i => ([0, 1, 2, 3] : List Nat).getD i 0) _ _ (by decide) (EnvSub.get (.cons (Sub.ptr rfl rfl) (.cons (Sub.own rfl rfl) (.cons (Sub.own rfl rfl) (.cons (Sub.own rfl rfl) (.cons (Sub.imm (Imm.fn .nil .nil)) (.cons (Sub.imm (Imm.lst _ _)) (.cons (Sub.imm (Imm.con _)) (.cons (Sub.imm (Imm.con _)) .nil))))))))) (HpSub.get (.cons rfl (ObSub.box (.cons (Sub.imm (Imm.con _)) (.cons (Sub.imm (Imm.con _)) (.cons (Sub.imm (Imm.lst _ _)) .nil)))) (.cons rfl (ObSub.rows (rows_imm imms_encTExposure)) (.cons rfl (ObSub.rows (rows_imm imms_encTExposure)) (.cons rfl (ObSub.rows (rows_imm imms_encTExposure)) .nil))))) rfl)
        · replace h := RG.f h hb38
          unfold M28_L3 at h
          refine awp_exit ?_
          exact ⟨(l36, l37), h, (ghost_ren 3 (fun i => ([1, 2, 3] : List Nat).getD i 0) _ _ (by decide) (EnvSub.get (.cons (Sub.own rfl rfl) (.cons (Sub.own rfl rfl) (.cons (Sub.own rfl rfl) .nil)))) (HpSub.get (.cons rfl (ObSub.rows (rows_imm imms_encTExposure)) (.cons rfl (ObSub.rows (rows_imm imms_encTExposure)) (.cons rfl (ObSub.rows (rows_imm imms_encTExposure)) .nil)))) rfl)⟩
      · clear h
        rintro ⟨l30, l31⟩ h
        subst hk29
        refine awp_seq ?_
        refine awp_region ?_
        refine aops_move (V.own 0 l14.length) wants_none rfl rfl ?_
        refine aops_move (V.own 1 l30.length) wants_none rfl rfl ?_
        refine aops_move (V.own 2 l31.length) wants_none rfl rfl ?_
        refine aops_assign (V.own 0 l14.length) wants_none rfl rfl ?_
        refine aops_assign (V.own 1 l30.length) wants_none rfl rfl ?_
        refine aops_assign (V.own 2 l31.length) wants_none rfl rfl ?_
        refine aops_assign (iV 0) wants_none rfl rfl ?_
        refine aops_nil ?_
        refine awp_ghost (ghost_frzE 0 4 rfl (rows_imm imms_encTExposure) rfl (List.length_map ..).symm) ?_
        refine awp_ghost (ghost_frzE 1 5 rfl (rows_imm imms_encTExposure) rfl (List.length_map ..).symm) ?_
        refine awp_ghost (ghost_frzE 2 6 rfl (rows_imm imms_encTExposure) rfl (List.length_map ..).symm) ?_
        refine awp_ret ?_
        obtain rfl := Option.some.inj h
        exact ⟨.inl rfl, .four (.tmp rfl (Imm.lst _ _)) (.tmp rfl (Imm.lst _ _)) (.tmp rfl (Imm.lst _ _)) (.tmp rfl (Imm.con _))⟩

theorem W95 (F : Nat) (a1 : (List UInt8)) (r : Bool) (h : M95 F a1 = some r) : Pure Try.prog 95 [(sV a1)] (bV r) := by
  refine pure_enter Try.func95 rfl rfl (l := [.tmp 2]) rfl rfl [(0, (sV a1))] rfl (fun w0 m0 => ?_)
  unfold M95 at h
  refine awp_seq ?_
  refine awp_region ?_
  refine aops_assign (bV false) wants_none rfl rfl ?_
  refine aops_nil ?_
  refine awp_seq ?_
  refine awp_seq ?_
  refine awp_region ?_
  refine aops_assign (iV 0) wants_none rfl rfl ?_
  refine aops_nil ?_
  replace h := jn_elim h
  obtain ⟨k2, hk2, h⟩ := h
  refine awp_cut (fun _ : Unit => (⟨[(0, (sV a1))], [], 0⟩ : St)) (fun _ : Unit => k2 = some r) ?_ ?_
  · clear hk2
    refine awp_block ?_
    replace h := chk_some h
    obtain ⟨hA12, h⟩ := h
    refine awp_loop_ind (fun (p : Int) => (⟨[(0, (sV a1)), (3, (iV p))], [], 0⟩ : St)) (fun n (p : Int) => RC (a1.length : Int) (fun tl nn => M95_L1 F a1 k2 tl nn = some r) n p) (fun p h => RC.zero h) (fun n ih1 p h => ?_) (Int.toNat (a1.length : Int) + 1) 0 (RC.start h) (ghost_ren 0 (fun i => ([] : List Nat).getD i 0) _ _ (by decide) (EnvSub.get (.cons (Sub.imm (Imm.con _)) (.cons (Sub.imm (Imm.con _)) .nil))) (HpSub.get .nil) rfl)
    revert p
    intro n4 h
    refine awp_loop ?_
    refine awp_seq ?_
    refine awp_seq ?_
    refine awp_region ?_
    refine aops_move (iV n4) wants_none rfl rfl ?_
    refine aops_move (sV a1) wants_none rfl rfl ?_
    refine aops_lenT tStr9 wants_none rfl rfl ?_
    refine aops_bin (.bool (decide (n4 < (a1.length : Int)))) wants_none rfl rfl rfl rfl ?_
    refine aops_nil ?_
    refine awp_cond (decide (n4 < (a1.length : Int))) rfl (fun hb5 => ?_) (fun hb5 => ?_)
    · obtain ⟨tl, h, hk1⟩ := RC.t hA12 h hb5
      unfold M95_L1 at h
      refine awp_skip ?_
      refine awp_seq ?_
      refine awp_block ?_
      refine awp_seq ?_
      refine awp_region ?_
      refine aops_move (sV a1) wants_none rfl rfl ?_
      refine aops_move (iV n4) wants_none rfl rfl ?_
      replace h := bind_some h
      obtain ⟨c6, hx7, h⟩ := h
      refine aops_indexT c6 tStr9 wants_none rfl rfl (idx_some hx7).1 (idx_some hx7).2 rfl ?_
      refine aops_bin (.bool (decide ((c6.toNat : Int) < 33))) wants_none rfl rfl rfl rfl ?_
      refine aops_move (bV (decide ((c6.toNat : Int) < 33))) wants_none rfl rfl ?_
      rcases Bool.eq_false_or_eq_true (decide ((c6.toNat : Int) < 33)) with hb8 | hb8
      · replace h := ite_t hb8 h
        refine aops_skip (wants_some (c := (decide ((c6.toNat : Int) < 33))) (b := true) 14 rfl rfl hb8) rfl rfl ?_
        refine aops_skip (wants_some (c := (decide ((c6.toNat : Int) < 33))) (b := true) 14 rfl rfl hb8) rfl rfl ?_
        refine aops_skip (wants_some (c := (decide ((c6.toNat : Int) < 33))) (b := true) 14 rfl rfl hb8) rfl rfl ?_
        refine aops_skip (wants_some (c := (decide ((c6.toNat : Int) < 33))) (b := true) 14 rfl rfl hb8) rfl rfl ?_
        refine aops_pick true (cb := (decide ((c6.toNat : Int) < 33))) (bV true) wants_none rfl hb8 rfl rfl ?_
        refine aops_nil ?_
        refine awp_cond_t rfl rfl ?_
        refine awp_seq ?_
        refine awp_region ?_
        refine aops_assign (bV false) wants_none rfl rfl ?_
        refine aops_nil ?_
        refine awp_ret ?_
        obtain rfl := Option.some.inj h
        exact ⟨.inl rfl, .one (.tmp rfl (Imm.con _))⟩
      · replace h := ite_f hb8 h
        refine aops_move (sV a1) (wants_some (c := (decide ((c6.toNat : Int) < 33))) (b := false) 14 rfl rfl hb8) rfl rfl ?_
        refine aops_move (iV n4) (wants_some (c := (decide ((c6.toNat : Int) < 33))) (b := false) 14 rfl rfl hb8) rfl rfl ?_
        replace h := bind_some h
        obtain ⟨c9, hx10, h⟩ := h
        refine aops_indexT c9 tStr9 (wants_some (c := (decide ((c6.toNat : Int) < 33))) (b := false) 14 rfl rfl hb8) rfl rfl (idx_some hx10).1 (idx_some hx10).2 rfl ?_
        refine aops_bin (.bool (decide ((c9.toNat : Int) > 126))) (wants_some (c := (decide ((c6.toNat : Int) < 33))) (b := false) 14 rfl rfl hb8) rfl rfl rfl rfl ?_
        refine aops_pick false (cb := (decide ((c6.toNat : Int) < 33))) (bV (decide ((c9.toNat : Int) > 126))) wants_none rfl hb8 rfl rfl ?_
        refine aops_nil ?_
        refine awp_cond (decide ((c9.toNat : Int) > 126)) rfl (fun hb11 => ?_) (fun hb11 => ?_)
        · replace h := ite_t hb11 h
          refine awp_seq ?_
          refine awp_region ?_
          refine aops_assign (bV false) wants_none rfl rfl ?_
          refine aops_nil ?_
          refine awp_ret ?_
          obtain rfl := Option.some.inj h
          exact ⟨.inl rfl, .one (.tmp rfl (Imm.con _))⟩
        · replace h := ite_f hb11 h
          refine awp_skip ?_
          refine awp_region ?_
          refine aops_move (iV n4) wants_none rfl rfl ?_
          refine aops_bin (.int .i64 (w64 (n4 + 1))) wants_none rfl rfl rfl rfl ?_
          refine aops_assign (iV (w64 (n4 + 1))) wants_none rfl rfl ?_
          refine aops_nil ?_
          exact awp_back (ih1 (w64 (n4 + 1)) (hk1 _ h)) (ghost_ren 0 (fun i => ([] : List Nat).getD i 0) _ _ (by decide) (EnvSub.get (.cons (Sub.imm (Imm.con _)) (.cons (Sub.imm (Imm.con _)) .nil))) (HpSub.get .nil) rfl)
    · replace h := RC.f h hb5
      unfold M95_L1 at h
      refine awp_exit ?_
      exact ⟨(), h, (ghost_ren 0 (fun i => ([] : List Nat).getD i 0) _ _ (by decide) (EnvSub.get (.cons (Sub.imm (Imm.con _)) .nil)) (HpSub.get .nil) rfl)⟩
  · clear h
    intro _ h
    subst hk2
    refine awp_seq ?_
    refine awp_region ?_
    refine aops_move (sV a1) wants_none rfl rfl ?_
    refine aops_lenT tStr9 wants_none rfl rfl ?_
    refine aops_bin (.bool (decide ((a1.length : Int) ≥ 1))) wants_none rfl rfl rfl rfl ?_
    refine aops_move (bV (decide ((a1.length : Int) ≥ 1))) wants_none rfl rfl ?_
    rcases Bool.eq_false_or_eq_true (decide ((a1.length : Int) ≥ 1)) with hb13 | hb13
    · replace h := ite_t hb13 h
      refine aops_move (sV a1) (wants_some (c := (decide ((a1.length : Int) ≥ 1))) (b := true) 23 rfl rfl hb13) rfl rfl ?_
      refine aops_lenT tStr9 (wants_some (c := (decide ((a1.length : Int) ≥ 1))) (b := true) 23 rfl rfl hb13) rfl rfl ?_
      refine aops_bin (.bool (decide ((a1.length : Int) ≤ 100))) (wants_some (c := (decide ((a1.length : Int) ≥ 1))) (b := true) 23 rfl rfl hb13) rfl rfl rfl rfl ?_
      refine aops_pick true (cb := (decide ((a1.length : Int) ≥ 1))) (bV (decide ((a1.length : Int) ≤ 100))) wants_none rfl hb13 rfl rfl ?_
      refine aops_assign (bV (decide ((a1.length : Int) ≤ 100))) wants_none rfl rfl ?_
      refine aops_nil ?_
      refine awp_ret ?_
      obtain rfl := Option.some.inj h
      exact ⟨.inl rfl, .one (.tmp rfl (Imm.con _))⟩
    · replace h := ite_f hb13 h
      refine aops_skip (wants_some (c := (decide ((a1.length : Int) ≥ 1))) (b := false) 23 rfl rfl hb13) rfl rfl ?_
      refine aops_skip (wants_some (c := (decide ((a1.length : Int) ≥ 1))) (b := false) 23 rfl rfl hb13) rfl rfl ?_
      refine aops_skip (wants_some (c := (decide ((a1.length : Int) ≥ 1))) (b := false) 23 rfl rfl hb13) rfl rfl ?_
      refine aops_pick false (cb := (decide ((a1.length : Int) ≥ 1))) (bV false) wants_none rfl hb13 rfl rfl ?_
      refine aops_assign (bV false) wants_none rfl rfl ?_
      refine aops_nil ?_
      refine awp_ret ?_
      obtain rfl := Option.some.inj h
      exact ⟨.inl rfl, .one (.tmp rfl (Imm.con _))⟩

theorem W132 (F : Nat) (a1 : TExposure) (a2 : TExposure) (r : Bool) (h : M132 F a1 a2 = some r) : Pure Try.prog 132 [(V.agg [(sV a1.Advisory), (sV a1.Component), (iV a1.Severity)]), (V.agg [(sV a2.Advisory), (sV a2.Component), (iV a2.Severity)])] (bV r) := by
  refine pure_enter Try.func132 rfl rfl (l := [.tmp 4]) rfl rfl [(0, (V.agg [(sV a1.Advisory), (sV a1.Component), (iV a1.Severity)])), (1, (V.agg [(sV a2.Advisory), (sV a2.Component), (iV a2.Severity)]))] rfl (fun w0 m0 => ?_)
  unfold M132 at h
  refine awp_seq ?_
  refine awp_region ?_
  refine aops_box [(sV a1.Advisory), (sV a1.Component), (iV a1.Severity)] wants_none rfl rfl rfl rfl ?_
  refine aops_box [(sV a2.Advisory), (sV a2.Component), (iV a2.Severity)] wants_none rfl rfl rfl rfl ?_
  refine aops_assign (bV false) wants_none rfl rfl ?_
  refine aops_nil ?_
  refine awp_seq ?_
  refine awp_region ?_
  refine aops_fieldAddr tF47_0 wants_none rfl rfl ?_
  refine aops_load_cell (sV a1.Advisory) tC9 wants_none rfl rfl rfl rfl rfl ?_
  refine aops_fieldAddr tF47_0 wants_none rfl rfl ?_
  refine aops_load_cell (sV a2.Advisory) tC9 wants_none rfl rfl rfl rfl rfl ?_
  refine aops_binT (.bool (Op.bytesLess a1.Advisory a2.Advisory)) wants_none rfl rfl rfl rfl ?_
  refine aops_move (bV (Op.bytesLess a1.Advisory a2.Advisory)) wants_none rfl rfl ?_
  rcases Bool.eq_false_or_eq_true (Op.bytesLess a1.Advisory a2.Advisory) with hb3 | hb3
  · replace h := ite_t hb3 h
    refine aops_skip (wants_some (c := (Op.bytesLess a1.Advisory a2.Advisory)) (b := true) 10 rfl rfl hb3) rfl rfl ?_
    refine aops_skip (wants_some (c := (Op.bytesLess a1.Advisory a2.Advisory)) (b := true) 10 rfl rfl hb3) rfl rfl ?_
    refine aops_skip (wants_some (c := (Op.bytesLess a1.Advisory a2.Advisory)) (b := true) 10 rfl rfl hb3) rfl rfl ?_
    refine aops_skip (wants_some (c := (Op.bytesLess a1.Advisory a2.Advisory)) (b := true) 10 rfl rfl hb3) rfl rfl ?_
    refine aops_skip (wants_some (c := (Op.bytesLess a1.Advisory a2.Advisory)) (b := true) 10 rfl rfl hb3) rfl rfl ?_
    refine aops_skip (wants_some (c := (Op.bytesLess a1.Advisory a2.Advisory)) (b := true) 10 rfl rfl hb3) rfl rfl ?_
    refine aops_skip (wants_undef 16 rfl rfl) rfl rfl ?_
    refine aops_skip (wants_undef 16 rfl rfl) rfl rfl ?_
    refine aops_skip (wants_undef 16 rfl rfl) rfl rfl ?_
    refine aops_skip (wants_undef 16 rfl rfl) rfl rfl ?_
    refine aops_skip (wants_undef 16 rfl rfl) rfl rfl ?_
    refine aops_skip (wants_some (c := (Op.bytesLess a1.Advisory a2.Advisory)) (b := true) 10 rfl rfl hb3) rfl rfl ?_
    refine aops_pick true (cb := (Op.bytesLess a1.Advisory a2.Advisory)) (bV true) wants_none rfl hb3 rfl rfl ?_
    refine aops_assign (bV true) wants_none rfl rfl ?_
    refine aops_nil ?_
    refine awp_ret ?_
    obtain rfl := Option.some.inj h
    exact ⟨.inl rfl, .one (.tmp rfl (Imm.con _))⟩
  · replace h := ite_f hb3 h
    refine aops_fieldAddr tF47_0 (wants_some (c := (Op.bytesLess a1.Advisory a2.Advisory)) (b := false) 10 rfl rfl hb3) rfl rfl ?_
    refine aops_load_cell (sV a1.Advisory) tC9 (wants_some (c := (Op.bytesLess a1.Advisory a2.Advisory)) (b := false) 10 rfl rfl hb3) rfl rfl rfl rfl rfl ?_
    refine aops_fieldAddr tF47_0 (wants_some (c := (Op.bytesLess a1.Advisory a2.Advisory)) (b := false) 10 rfl rfl hb3) rfl rfl ?_
    refine aops_load_cell (sV a2.Advisory) tC9 (wants_some (c := (Op.bytesLess a1.Advisory a2.Advisory)) (b := false) 10 rfl rfl hb3) rfl rfl rfl rfl rfl ?_
    refine aops_binT (.bool (a1.Advisory == a2.Advisory)) (wants_some (c := (Op.bytesLess a1.Advisory a2.Advisory)) (b := false) 10 rfl rfl hb3) rfl rfl rfl rfl ?_
    refine aops_move (bV (a1.Advisory == a2.Advisory)) (wants_some (c := (Op.bytesLess a1.Advisory a2.Advisory)) (b := false) 10 rfl rfl hb3) rfl rfl ?_
    rcases Bool.eq_false_or_eq_true (a1.Advisory == a2.Advisory) with hb4 | hb4
    · replace h := ite_t hb4 h
      refine aops_fieldAddr tF47_1 (wants_some (c := (a1.Advisory == a2.Advisory)) (b := true) 16 rfl rfl hb4) rfl rfl ?_
      refine aops_load_cell (sV a1.Component) tC9 (wants_some (c := (a1.Advisory == a2.Advisory)) (b := true) 16 rfl rfl hb4) rfl rfl rfl rfl rfl ?_
      refine aops_fieldAddr tF47_1 (wants_some (c := (a1.Advisory == a2.Advisory)) (b := true) 16 rfl rfl hb4) rfl rfl ?_
      refine aops_load_cell (sV a2.Component) tC9 (wants_some (c := (a1.Advisory == a2.Advisory)) (b := true) 16 rfl rfl hb4) rfl rfl rfl rfl rfl ?_
      refine aops_binT (.bool (Op.bytesLess a1.Component a2.Component)) (wants_some (c := (a1.Advisory == a2.Advisory)) (b := true) 16 rfl rfl hb4) rfl rfl rfl rfl ?_
      refine aops_pick true (cb := (a1.Advisory == a2.Advisory)) (bV (Op.bytesLess a1.Component a2.Component)) (wants_some (c := (Op.bytesLess a1.Advisory a2.Advisory)) (b := false) 10 rfl rfl hb3) rfl hb4 rfl rfl ?_
      refine aops_pick false (cb := (Op.bytesLess a1.Advisory a2.Advisory)) (bV (Op.bytesLess a1.Component a2.Component)) wants_none rfl hb3 rfl rfl ?_
      refine aops_assign (bV (Op.bytesLess a1.Component a2.Component)) wants_none rfl rfl ?_
      refine aops_nil ?_
      refine awp_ret ?_
      obtain rfl := Option.some.inj h
      exact ⟨.inl rfl, .one (.tmp rfl (Imm.con _))⟩
    · replace h := ite_f hb4 h
      refine aops_skip (wants_some (c := (a1.Advisory == a2.Advisory)) (b := false) 16 rfl rfl hb4) rfl rfl ?_
      refine aops_skip (wants_some (c := (a1.Advisory == a2.Advisory)) (b := false) 16 rfl rfl hb4) rfl rfl ?_
      refine aops_skip (wants_some (c := (a1.Advisory == a2.Advisory)) (b := false) 16 rfl rfl hb4) rfl rfl ?_
      refine aops_skip (wants_some (c := (a1.Advisory == a2.Advisory)) (b := false) 16 rfl rfl hb4) rfl rfl ?_
      refine aops_skip (wants_some (c := (a1.Advisory == a2.Advisory)) (b := false) 16 rfl rfl hb4) rfl rfl ?_
      refine aops_pick false (cb := (a1.Advisory == a2.Advisory)) (bV false) (wants_some (c := (Op.bytesLess a1.Advisory a2.Advisory)) (b := false) 10 rfl rfl hb3) rfl hb4 rfl rfl ?_
      refine aops_pick false (cb := (Op.bytesLess a1.Advisory a2.Advisory)) (bV false) wants_none rfl hb3 rfl rfl ?_
      refine aops_assign (bV false) wants_none rfl rfl ?_
      refine aops_nil ?_
      refine awp_ret ?_
      obtain rfl := Option.some.inj h
      exact ⟨.inl rfl, .one (.tmp rfl (Imm.con _))⟩

theorem W96 (F : Nat) (a1 : (List TExposure)) (r : Int) (h : M96 F a1 = some r) : Pure Try.prog 96 [(V.lst 3 (a1.map encTExposure))] (iV r) := by
  refine pure_enter Try.func96 rfl rfl (l := [.tmp 2]) rfl rfl [(0, (V.lst 3 (a1.map encTExposure)))] rfl (fun w0 m0 => ?_)
  unfold M96 at h
  refine awp_seq ?_
  refine awp_region ?_
  refine aops_assign (iV 0) wants_none rfl rfl ?_
  refine aops_nil ?_
  refine awp_seq ?_
  refine awp_seq ?_
  refine awp_region ?_
  refine aops_move (V.lst 3 (a1.map encTExposure)) wants_none rfl rfl ?_
  refine aops_len (n := a1.length) tIsSl40 wants_none rfl (congrArg some (List.length_map ..)) rfl ?_
  refine aops_bin (.bool (decide (((a1.length : Nat) : Int) > 500))) wants_none rfl rfl rfl rfl ?_
  refine aops_nil ?_
  refine awp_cond (decide (((a1.length : Nat) : Int) > 500)) rfl (fun hb2 => ?_) (fun hb2 => ?_)
  · replace h := ite_t hb2 h
    refine awp_seq ?_
    refine awp_region ?_
    refine aops_assign (iV 3) wants_none rfl rfl ?_
    refine aops_nil ?_
    refine awp_ret ?_
    obtain rfl := Option.some.inj h
    exact ⟨.inl rfl, .one (.tmp rfl (Imm.con _))⟩
  · replace h := ite_f hb2 h
    refine awp_skip ?_
    refine awp_seq ?_
    refine awp_seq ?_
    refine awp_region ?_
    refine aops_move (V.lst 3 (a1.map encTExposure)) wants_none rfl rfl ?_
    refine aops_len (n := a1.length) tIsSl40 wants_none rfl (congrArg some (List.length_map ..)) rfl ?_
    refine aops_move (iV 0) wants_none rfl rfl ?_
    refine aops_nil ?_
    replace h := jn_elim h
    obtain ⟨k3, hk3, h⟩ := h
    refine awp_cut (fun _ : Unit => (⟨[], [], 0⟩ : St)) (fun _ : Unit => k3 = some r) ?_ ?_
    · clear hk3
      refine awp_block ?_
      refine awp_len (A := a1) 0 rfl (fun hA24 => ?_)
      refine awp_loop_ind (fun (p : Int) => (⟨[(0, (V.lst 3 (a1.map encTExposure))), (8, (V.lst 3 (a1.map encTExposure))), (9, (iV ((a1.length : Nat) : Int))), (10, (iV p))], [], 0⟩ : St)) (fun n (p : Int) => RG a1 (fun tl nn => M96_L1 F a1 k3 tl nn = some r) n p) (fun p h => RG.zero h) (fun n ih1 p h => ?_) (a1.length + 1) 0 (RG.start h) (ghost_ren 0 (fun i => ([] : List Nat).getD i 0) _ _ (by decide) (EnvSub.get (.cons (Sub.imm (Imm.lst _ _)) (.cons (Sub.imm (Imm.lst _ _)) (.cons (Sub.imm (Imm.con _)) (.cons (Sub.imm (Imm.con _)) .nil))))) (HpSub.get .nil) rfl)
      revert p
      intro n5 h
      refine awp_loop ?_
      refine awp_seq ?_
      refine awp_region ?_
      refine aops_bin (.bool (decide (n5 < ((a1.length : Nat) : Int)))) wants_none rfl rfl rfl rfl ?_
      refine aops_nil ?_
      refine awp_seq ?_
      refine awp_cond (decide (n5 < ((a1.length : Nat) : Int))) rfl (fun hb6 => ?_) (fun hb6 => ?_)
      · obtain ⟨x7, tl, hx8, h, hk1⟩ := RG.t hA24 h hb6
        unfold M96_L1 at h
        refine awp_skip ?_
        refine awp_seq ?_
        refine awp_block ?_
        refine awp_seq ?_
        refine awp_region ?_
        refine aops_move (iV n5) wants_none rfl rfl ?_
        refine aops_index_lst [(sV x7.Advisory), (sV x7.Component), (iV x7.Severity)] tSl40 wants_none rfl rfl (idx_some hx8).1 (idx_map encTExposure hx8) rfl ?_
        refine aops_iload_agg (cs := [(sV x7.Advisory), (sV x7.Component), (iV x7.Severity)]) tA47 wants_none rfl rfl rfl rfl ?_
        refine aops_alloc tZ47 rfl rfl wants_none rfl ?_
        refine aops_assign (iV n5) wants_none rfl rfl ?_
        refine aops_store [(sV x7.Advisory), (sV x7.Component), (iV x7.Severity)] [[(sV x7.Advisory), (sV x7.Component), (iV x7.Severity)]] tS47 wants_none rfl rfl rfl rfl rfl rfl rfl rfl ?_
        refine aops_nil ?_
        refine awp_block ?_
        refine awp_seq ?_
        refine awp_region ?_
        refine aops_fieldAddr tF47_0 wants_none rfl rfl ?_
        refine aops_load_cell (sV x7.Advisory) tC9 wants_none rfl rfl rfl rfl rfl ?_
        replace h := bind_some h
        obtain ⟨y9, hx10, h⟩ := h
        refine aops_call (bV y9) [(sV x7.Advisory)] fOk95 wants_none (evm_cons rfl evm_nil) (.cons (Imm.con _) .nil) (W95 F x7.Advisory y9 hx10) rfl ?_
        refine aops_not wants_none rfl rfl ?_
        refine aops_move (bV (!y9)) wants_none rfl rfl ?_
        rcases Bool.eq_false_or_eq_true (!y9) with hb11 | hb11
        · replace h := ite_t hb11 h
          refine aops_skip (wants_some (c := (!y9)) (b := true) 20 rfl rfl hb11) rfl rfl ?_
          refine aops_skip (wants_some (c := (!y9)) (b := true) 20 rfl rfl hb11) rfl rfl ?_
          refine aops_skip (wants_some (c := (!y9)) (b := true) 20 rfl rfl hb11) rfl rfl ?_
          refine aops_skip (wants_some (c := (!y9)) (b := true) 20 rfl rfl hb11) rfl rfl ?_
          refine aops_pick true (cb := (!y9)) (bV true) wants_none rfl hb11 rfl rfl ?_
          refine aops_assign (bV true) wants_none rfl rfl ?_
          refine aops_nil ?_
          refine awp_cond_t rfl rfl ?_
          refine awp_seq ?_
          refine awp_region ?_
          refine aops_assign (iV 8) wants_none rfl rfl ?_
          refine aops_nil ?_
          refine awp_ret ?_
          obtain rfl := Option.some.inj h
          exact ⟨.inl rfl, .one (.tmp rfl (Imm.con _))⟩
        · replace h := ite_f hb11 h
          refine aops_fieldAddr tF47_1 (wants_some (c := (!y9)) (b := false) 20 rfl rfl hb11) rfl rfl ?_
          refine aops_load_cell (sV x7.Component) tC9 (wants_some (c := (!y9)) (b := false) 20 rfl rfl hb11) rfl rfl rfl rfl rfl ?_
          replace h := bind_some h
          obtain ⟨y12, hx13, h⟩ := h
          refine aops_call (bV y12) [(sV x7.Component)] fOk95 (wants_some (c := (!y9)) (b := false) 20 rfl rfl hb11) (evm_cons rfl evm_nil) (.cons (Imm.con _) .nil) (W95 F x7.Component y12 hx13) rfl ?_
          refine aops_not (wants_some (c := (!y9)) (b := false) 20 rfl rfl hb11) rfl rfl ?_
          refine aops_pick false (cb := (!y9)) (bV (!y12)) wants_none rfl hb11 rfl rfl ?_
          refine aops_assign (bV (!y12)) wants_none rfl rfl ?_
          refine aops_nil ?_
          replace h := jn_elim h
          obtain ⟨k14, hk14, h⟩ := h
          refine awp_cut (fun _ : Unit => (⟨[(0, (V.lst 3 (a1.map encTExposure))), (8, (V.lst 3 (a1.map encTExposure))), (9, (iV ((a1.length : Nat) : Int))), (10, (iV n5)), (21, (V.ptr 0 3 0 1)), (22, (sV x7.Component)), (23, (bV y12)), (24, (bV (!y12))), (31, (V.ptr 0 3 0 2)), (32, (iV x7.Severity)), (33, (bV (decide (x7.Severity > 100))))], [(0, (Ob.arr 47 3 [[(sV x7.Advisory), (sV x7.Component), (iV x7.Severity)]]))], 1⟩ : St)) (fun _ : Unit => k14 = some r) ?_ ?_
          · clear hk14
            refine awp_cond (!y12) rfl (fun hb15 => ?_) (fun hb15 => ?_)
            · replace h := ite_t hb15 h
              refine awp_seq ?_
              refine awp_region ?_
              refine aops_assign (iV 8) wants_none rfl rfl ?_
              refine aops_nil ?_
              refine awp_ret ?_
              obtain rfl := Option.some.inj h
              exact ⟨.inl rfl, .one (.tmp rfl (Imm.con _))⟩
            · replace h := ite_f hb15 h
              refine awp_seq ?_
              refine awp_region ?_
              refine aops_fieldAddr tF47_2 wants_none rfl rfl ?_
              refine aops_load_cell (iV x7.Severity) tC3 wants_none rfl rfl rfl rfl rfl ?_
              refine aops_bin (.bool (decide (x7.Severity < 0))) wants_none rfl rfl rfl rfl ?_
              refine aops_move (bV (decide (x7.Severity < 0))) wants_none rfl rfl ?_
              rcases Bool.eq_false_or_eq_true (decide (x7.Severity < 0)) with hb16 | hb16
              · replace h := ite_t hb16 h
                refine aops_skip (wants_some (c := (decide (x7.Severity < 0))) (b := true) 30 rfl rfl hb16) rfl rfl ?_
                refine aops_skip (wants_some (c := (decide (x7.Severity < 0))) (b := true) 30 rfl rfl hb16) rfl rfl ?_
                refine aops_skip (wants_some (c := (decide (x7.Severity < 0))) (b := true) 30 rfl rfl hb16) rfl rfl ?_
                refine aops_pick true (cb := (decide (x7.Severity < 0))) (bV true) wants_none rfl hb16 rfl rfl ?_
                refine aops_assign (bV true) wants_none rfl rfl ?_
                refine aops_nil ?_
                refine awp_cond_t rfl rfl ?_
                refine awp_seq ?_
                refine awp_region ?_
                refine aops_assign (iV 9) wants_none rfl rfl ?_
                refine aops_nil ?_
                refine awp_ret ?_
                obtain rfl := Option.some.inj h
                exact ⟨.inl rfl, .one (.tmp rfl (Imm.con _))⟩
              · replace h := ite_f hb16 h
                refine aops_fieldAddr tF47_2 (wants_some (c := (decide (x7.Severity < 0))) (b := false) 30 rfl rfl hb16) rfl rfl ?_
                refine aops_load_cell (iV x7.Severity) tC3 (wants_some (c := (decide (x7.Severity < 0))) (b := false) 30 rfl rfl hb16) rfl rfl rfl rfl rfl ?_
                refine aops_bin (.bool (decide (x7.Severity > 100))) (wants_some (c := (decide (x7.Severity < 0))) (b := false) 30 rfl rfl hb16) rfl rfl rfl rfl ?_
                refine aops_pick false (cb := (decide (x7.Severity < 0))) (bV (decide (x7.Severity > 100))) wants_none rfl hb16 rfl rfl ?_
                refine aops_assign (bV (decide (x7.Severity > 100))) wants_none rfl rfl ?_
                refine aops_nil ?_
                refine awp_cond (decide (x7.Severity > 100)) rfl (fun hb17 => ?_) (fun hb17 => ?_)
                · replace h := ite_t hb17 h
                  refine awp_seq ?_
                  refine awp_region ?_
                  refine aops_assign (iV 9) wants_none rfl rfl ?_
                  refine aops_nil ?_
                  refine awp_ret ?_
                  obtain rfl := Option.some.inj h
                  exact ⟨.inl rfl, .one (.tmp rfl (Imm.con _))⟩
                · replace h := ite_f hb17 h
                  refine awp_seq ?_
                  rcases Bool.eq_false_or_eq_true (decide (n5 > 0)) with hb18 | hb18
                  · replace h := ite_t hb18 h
                    replace h := bind_some h
                    obtain ⟨x19, hx20, h⟩ := h
                    replace h := bind_some h
                    obtain ⟨y21, hx22, h⟩ := h
                    refine awp_any [OD.mk [(3, (iV n5))] [] [(36, (iV n5))] [],
                          OD.mk [(36, (iV n5))] [] [(37, (bV (decide (n5 > 0))))] [],
                          OD.mk [(37, (bV (decide (n5 > 0))))] [] [(38, (bV (decide (n5 > 0))))] [],
                          OD.mk [(38, (bV (decide (n5 > 0)))), (0, (V.lst 3 (a1.map encTExposure)))] [] [(39, (V.lst 3 (a1.map encTExposure)))] [],
                          OD.mk [(38, (bV (decide (n5 > 0)))), (3, (iV n5))] [] [(40, (iV n5))] [],
                          OD.mk [(38, (bV (decide (n5 > 0)))), (40, (iV n5))] [] [(41, (iV (w64 (n5 - 1))))] [],
                          OD.mk [(38, (bV (decide (n5 > 0)))), (39, (V.lst 3 (a1.map encTExposure))), (41, (iV (w64 (n5 - 1))))] [] [(42, (V.iptr [(sV x19.Advisory), (sV x19.Component), (iV x19.Severity)] 0))] [],
                          OD.mk [(38, (bV (decide (n5 > 0)))), (42, (V.iptr [(sV x19.Advisory), (sV x19.Component), (iV x19.Severity)] 0))] [] [(43, (V.agg [(sV x19.Advisory), (sV x19.Component), (iV x19.Severity)]))] [],
                          OD.mk [(38, (bV (decide (n5 > 0)))), (4, (V.ptr 0 3 0 0))] [(0, (Ob.arr 47 3 [[(sV x7.Advisory), (sV x7.Component), (iV x7.Severity)]]))] [(44, (V.agg [(sV x7.Advisory), (sV x7.Component), (iV x7.Severity)]))] [],
                          OD.mk [(38, (bV (decide (n5 > 0)))), (43, (V.agg [(sV x19.Advisory), (sV x19.Component), (iV x19.Severity)])), (44, (V.agg [(sV x7.Advisory), (sV x7.Component), (iV x7.Severity)]))] [] [(45, (bV y21))] [],
                          OD.mk [(38, (bV (decide (n5 > 0)))), (45, (bV y21))] [] [(46, (bV (!y21)))] [],
                          OD.mk [(38, (bV (decide (n5 > 0)))), (46, (bV (!y21)))] [] [(47, (bV (!y21)))] [],
                          OD.mk [(47, (bV (!y21)))] [] [(35, (bV (!y21)))] []] mixed ⟨⟨rfl, trivial⟩, trivial, ⟨⟨rfl, trivial⟩, trivial, ⟨⟨rfl, trivial⟩, trivial, ⟨⟨rfl, rfl, trivial⟩, trivial, ⟨⟨rfl, rfl, trivial⟩, trivial, ⟨⟨rfl, rfl, trivial⟩, trivial, ⟨⟨rfl, rfl, rfl, trivial⟩, trivial, ⟨⟨rfl, rfl, trivial⟩, trivial, ⟨⟨rfl, rfl, trivial⟩, ⟨rfl, trivial⟩, ⟨⟨rfl, rfl, rfl, trivial⟩, trivial, ⟨⟨rfl, rfl, trivial⟩, trivial, ⟨⟨rfl, rfl, trivial⟩, trivial, ⟨⟨rfl, trivial⟩, trivial, trivial⟩⟩⟩⟩⟩⟩⟩⟩⟩⟩⟩⟩⟩ (by kernel_rfl) (.cons (fun S hn h hh => aops_move (iV n5) wants_none h.1 rfl (aops_nil ⟨rfl, rfl⟩)) (.cons (fun S hn h hh => aops_bin (.bool (decide (n5 > 0))) wants_none h.1 rfl rfl rfl (aops_nil ⟨rfl, rfl⟩)) (.cons (fun S hn h hh => aops_move (bV (decide (n5 > 0))) wants_none h.1 rfl (aops_nil ⟨rfl, rfl⟩)) (.cons (fun S hn h hh => aops_move (V.lst 3 (a1.map encTExposure)) (wants_some (c := (decide (n5 > 0))) (b := true) 38 rfl h.1 hb18) h.2.1 rfl (aops_nil ⟨rfl, rfl⟩)) (.cons (fun S hn h hh => aops_move (iV n5) (wants_some (c := (decide (n5 > 0))) (b := true) 38 rfl h.1 hb18) h.2.1 rfl (aops_nil ⟨rfl, rfl⟩)) (.cons (fun S hn h hh => aops_bin (.int .i64 (w64 (n5 - 1))) (wants_some (c := (decide (n5 > 0))) (b := true) 38 rfl h.1 hb18) h.2.1 rfl rfl rfl (aops_nil ⟨rfl, rfl⟩)) (.cons (fun S hn h hh => aops_index_lst [(sV x19.Advisory), (sV x19.Component), (iV x19.Severity)] tSl40 (wants_some (c := (decide (n5 > 0))) (b := true) 38 rfl h.1 hb18) h.2.1 h.2.2.1 (idx_some hx20).1 (idx_map encTExposure hx20) rfl (aops_nil ⟨rfl, rfl⟩)) (.cons (fun S hn h hh => aops_iload_agg (cs := [(sV x19.Advisory), (sV x19.Component), (iV x19.Severity)]) tA47 (wants_some (c := (decide (n5 > 0))) (b := true) 38 rfl h.1 hb18) h.2.1 rfl rfl rfl (aops_nil ⟨rfl, rfl⟩)) (.cons (fun S hn h hh => aops_load_agg (cs := [(sV x7.Advisory), (sV x7.Component), (iV x7.Severity)]) tA47 (wants_some (c := (decide (n5 > 0))) (b := true) 38 rfl h.1 hb18) h.2.1 hh.1 rfl rfl rfl rfl (aops_nil ⟨rfl, rfl⟩)) (.cons (fun S hn h hh => aops_call (bV y21) [(V.agg [(sV x19.Advisory), (sV x19.Component), (iV x19.Severity)]), (V.agg [(sV x7.Advisory), (sV x7.Component), (iV x7.Severity)])] fOk132 (wants_some (c := (decide (n5 > 0))) (b := true) 38 rfl h.1 hb18) (evm_cons h.2.1 (evm_cons h.2.2.1 evm_nil)) (.cons (Imm.agg (.cons (Imm.con _) (.cons (Imm.con _) (.cons (Imm.con _) .nil)))) (.cons (Imm.agg (.cons (Imm.con _) (.cons (Imm.con _) (.cons (Imm.con _) .nil)))) .nil)) (W132 F x19 x7 y21 hx22) rfl (aops_nil ⟨rfl, rfl⟩)) (.cons (fun S hn h hh => aops_not (wants_some (c := (decide (n5 > 0))) (b := true) 38 rfl h.1 hb18) h.2.1 rfl (aops_nil ⟨rfl, rfl⟩)) (.cons (fun S hn h hh => aops_pick true (cb := (decide (n5 > 0))) (bV (!y21)) wants_none h.1 hb18 h.2.1 rfl (aops_nil ⟨rfl, rfl⟩)) (.cons (fun S hn h hh => aops_assign (bV (!y21)) wants_none h.1 rfl (aops_nil ⟨rfl, rfl⟩)) .nil))))))))))))) ?_
                    refine awp_cond (!y21) rfl (fun hb23 => ?_) (fun hb23 => ?_)
                    · replace h := ite_t hb23 h
                      refine awp_seq ?_
                      refine awp_region ?_
                      refine aops_assign (iV 10) wants_none rfl rfl ?_
                      refine aops_nil ?_
                      refine awp_ret ?_
                      obtain rfl := Option.some.inj h
                      exact ⟨.inl rfl, .one (.tmp rfl (Imm.con _))⟩
                    · replace h := ite_f hb23 h
                      refine awp_skip ?_
                      exact ⟨(), h, (ghost_ren 1 (fun i => ([0] : List Nat).getD i 0) _ _ (by decide) (EnvSub.get (.cons (Sub.imm (Imm.lst _ _)) (.cons (Sub.imm (Imm.lst _ _)) (.cons (Sub.imm (Imm.con _)) (.cons (Sub.imm (Imm.con _)) (.cons (Sub.ptr rfl rfl) (.cons (Sub.imm (Imm.con _)) (.cons (Sub.imm (Imm.con _)) (.cons (Sub.imm (Imm.con _)) (.cons (Sub.ptr rfl rfl) (.cons (Sub.imm (Imm.con _)) (.cons (Sub.imm (Imm.con _)) .nil)))))))))))) (HpSub.get (.cons rfl (ObSub.box (.cons (Sub.imm (Imm.con _)) (.cons (Sub.imm (Imm.con _)) (.cons (Sub.imm (Imm.con _)) .nil)))) .nil)) rfl)⟩
                  · replace h := ite_f hb18 h
                    refine awp_any [OD.mk [(3, (iV n5))] [] [(36, (iV n5))] [],
                          OD.mk [(36, (iV n5))] [] [(37, (bV (decide (n5 > 0))))] [],
                          OD.mk [(37, (bV (decide (n5 > 0))))] [] [(38, (bV (decide (n5 > 0))))] [],
                          OD.mk [(38, (bV (decide (n5 > 0))))] [] [(39, (V.con undef))] [],
                          OD.mk [(38, (bV (decide (n5 > 0))))] [] [(40, (V.con undef))] [],
                          OD.mk [(38, (bV (decide (n5 > 0))))] [] [(41, (V.con undef))] [],
                          OD.mk [(38, (bV (decide (n5 > 0))))] [] [(42, (V.con undef))] [],
                          OD.mk [(38, (bV (decide (n5 > 0))))] [] [(43, (V.con undef))] [],
                          OD.mk [(38, (bV (decide (n5 > 0))))] [] [(44, (V.con undef))] [],
                          OD.mk [(38, (bV (decide (n5 > 0))))] [] [(45, (V.con undef))] [],
                          OD.mk [(38, (bV (decide (n5 > 0))))] [] [(46, (V.con undef))] [],
                          OD.mk [(38, (bV (decide (n5 > 0))))] [] [(47, (bV false))] [],
                          OD.mk [(47, (bV false))] [] [(35, (bV false))] []] mixed ⟨⟨rfl, trivial⟩, trivial, ⟨⟨rfl, trivial⟩, trivial, ⟨⟨rfl, trivial⟩, trivial, ⟨⟨rfl, trivial⟩, trivial, ⟨⟨rfl, trivial⟩, trivial, ⟨⟨rfl, trivial⟩, trivial, ⟨⟨rfl, trivial⟩, trivial, ⟨⟨rfl, trivial⟩, trivial, ⟨⟨rfl, trivial⟩, trivial, ⟨⟨rfl, trivial⟩, trivial, ⟨⟨rfl, trivial⟩, trivial, ⟨⟨rfl, trivial⟩, trivial, ⟨⟨rfl, trivial⟩, trivial, trivial⟩⟩⟩⟩⟩⟩⟩⟩⟩⟩⟩⟩⟩ (by kernel_rfl) (.cons (fun S hn h hh => aops_move (iV n5) wants_none h.1 rfl (aops_nil ⟨rfl, rfl⟩)) (.cons (fun S hn h hh => aops_bin (.bool (decide (n5 > 0))) wants_none h.1 rfl rfl rfl (aops_nil ⟨rfl, rfl⟩)) (.cons (fun S hn h hh => aops_move (bV (decide (n5 > 0))) wants_none h.1 rfl (aops_nil ⟨rfl, rfl⟩)) (.cons (fun S hn h hh => aops_skip (wants_some (c := (decide (n5 > 0))) (b := false) 38 rfl h.1 hb18) rfl rfl (aops_nil ⟨rfl, rfl⟩)) (.cons (fun S hn h hh => aops_skip (wants_some (c := (decide (n5 > 0))) (b := false) 38 rfl h.1 hb18) rfl rfl (aops_nil ⟨rfl, rfl⟩)) (.cons (fun S hn h hh => aops_skip (wants_some (c := (decide (n5 > 0))) (b := false) 38 rfl h.1 hb18) rfl rfl (aops_nil ⟨rfl, rfl⟩)) (.cons (fun S hn h hh => aops_skip (wants_some (c := (decide (n5 > 0))) (b := false) 38 rfl h.1 hb18) rfl rfl (aops_nil ⟨rfl, rfl⟩)) (.cons (fun S hn h hh => aops_skip (wants_some (c := (decide (n5 > 0))) (b := false) 38 rfl h.1 hb18) rfl rfl (aops_nil ⟨rfl, rfl⟩)) (.cons (fun S hn h hh => aops_skip (wants_some (c := (decide (n5 > 0))) (b := false) 38 rfl h.1 hb18) rfl rfl (aops_nil ⟨rfl, rfl⟩)) (.cons (fun S hn h hh => aops_skip (wants_some (c := (decide (n5 > 0))) (b := false) 38 rfl h.1 hb18) rfl rfl (aops_nil ⟨rfl, rfl⟩)) (.cons (fun S hn h hh => aops_skip (wants_some (c := (decide (n5 > 0))) (b := false) 38 rfl h.1 hb18) rfl rfl (aops_nil ⟨rfl, rfl⟩)) (.cons (fun S hn h hh => aops_pick false (cb := (decide (n5 > 0))) (bV false) wants_none h.1 hb18 rfl rfl (aops_nil ⟨rfl, rfl⟩)) (.cons (fun S hn h hh => aops_assign (bV false) wants_none h.1 rfl (aops_nil ⟨rfl, rfl⟩)) .nil))))))))))))) ?_
                    refine awp_cond_f rfl rfl ?_
                    refine awp_skip ?_
                    exact ⟨(), h, (ghost_ren 1 (fun i => ([0] : List Nat).getD i 0) _ _ (by decide) (EnvSub.get (.cons (Sub.imm (Imm.lst _ _)) (.cons (Sub.imm (Imm.lst _ _)) (.cons (Sub.imm (Imm.con _)) (.cons (Sub.imm (Imm.con _)) (.cons (Sub.ptr rfl rfl) (.cons (Sub.imm (Imm.con _)) (.cons (Sub.imm (Imm.con _)) (.cons (Sub.imm (Imm.con _)) (.cons (Sub.ptr rfl rfl) (.cons (Sub.imm (Imm.con _)) (.cons (Sub.imm (Imm.con _)) .nil)))))))))))) (HpSub.get (.cons rfl (ObSub.box (.cons (Sub.imm (Imm.con _)) (.cons (Sub.imm (Imm.con _)) (.cons (Sub.imm (Imm.con _)) .nil)))) .nil)) rfl)⟩
          · clear h
            intro _ h
            subst hk14
            refine awp_region ?_
            refine aops_bin (.int .i64 (w64 (n5 + 1))) wants_none rfl rfl rfl rfl ?_
            refine aops_move (iV (w64 (n5 + 1))) wants_none rfl rfl ?_
            refine aops_nil ?_
            exact awp_back (ih1 (w64 (n5 + 1)) (hk1 _ h)) (ghost_ren 0 (fun i => ([] : List Nat).getD i 0) _ _ (by decide) (EnvSub.get (.cons (Sub.imm (Imm.lst _ _)) (.cons (Sub.imm (Imm.lst _ _)) (.cons (Sub.imm (Imm.con _)) (.cons (Sub.imm (Imm.con _)) .nil))))) (HpSub.get .nil) rfl)
      · replace h := RG.f h hb6
        unfold M96_L1 at h
        refine awp_exit ?_
        exact ⟨(), h, (ghost_ren 0 (fun i => ([] : List Nat).getD i 0) _ _ (by decide) (EnvSub.get .nil) (HpSub.get .nil) rfl)⟩
    · clear h
      intro _ h
      subst hk3
      refine awp_seq ?_
      refine awp_region ?_
      refine aops_assign (iV 0) wants_none rfl rfl ?_
      refine aops_nil ?_
      refine awp_ret ?_
      obtain rfl := Option.some.inj h
      exact ⟨.inl rfl, .one (.tmp rfl (Imm.con _))⟩

theorem W85 (F : Nat) (a1 : TRelease) (r : Int) (h : M85 F a1 = some r) : Pure Try.prog 85 [(V.agg [(sV a1.Version), (iV a1.Day), (V.lst 3 (a1.Exposures.map encTExposure))])] (iV r) := by
  refine pure_enter Try.func85 rfl rfl (l := [.tmp 2]) rfl rfl [(0, (V.agg [(sV a1.Version), (iV a1.Day), (V.lst 3 (a1.Exposures.map encTExposure))]))] rfl (fun w0 m0 => ?_)
  unfold M85 at h
  refine awp_seq ?_
  refine awp_region ?_
  refine aops_box [(sV a1.Version), (iV a1.Day), (V.lst 3 (a1.Exposures.map encTExposure))] wants_none rfl rfl rfl rfl ?_
  refine aops_assign (iV 0) wants_none rfl rfl ?_
  refine aops_nil ?_
  refine awp_seq ?_
  refine awp_seq ?_
  refine awp_region ?_
  refine aops_fieldAddr tF42_0 wants_none rfl rfl ?_
  refine aops_load_cell (sV a1.Version) tC9 wants_none rfl rfl rfl rfl rfl ?_
  replace h := bind_some h
  obtain ⟨y2, hx3, h⟩ := h
  refine aops_call (bV y2) [(sV a1.Version)] fOk95 wants_none (evm_cons rfl evm_nil) (.cons (Imm.con _) .nil) (W95 F a1.Version y2 hx3) rfl ?_
  refine aops_not wants_none rfl rfl ?_
  refine aops_nil ?_
  refine awp_cond (!y2) rfl (fun hb4 => ?_) (fun hb4 => ?_)
  · replace h := ite_t hb4 h
    refine awp_seq ?_
    refine awp_region ?_
    refine aops_assign (iV 8) wants_none rfl rfl ?_
    refine aops_nil ?_
    refine awp_ret ?_
    obtain rfl := Option.some.inj h
    exact ⟨.inl rfl, .one (.tmp rfl (Imm.con _))⟩
  · replace h := ite_f hb4 h
    refine awp_skip ?_
    refine awp_seq ?_
    refine awp_seq ?_
    refine awp_region ?_
    refine aops_fieldAddr tF42_1 wants_none rfl rfl ?_
    refine aops_load_cell (iV a1.Day) tC3 wants_none rfl rfl rfl rfl rfl ?_
    replace h := bind_some h
    obtain ⟨y5, hx6, h⟩ := h
    refine aops_call (bV y5) [(iV a1.Day)] fOk72 wants_none (evm_cons rfl evm_nil) (.cons (Imm.con _) .nil) (W72 F a1.Day y5 hx6) rfl ?_
    refine aops_not wants_none rfl rfl ?_
    refine aops_nil ?_
    refine awp_cond (!y5) rfl (fun hb7 => ?_) (fun hb7 => ?_)
    · replace h := ite_t hb7 h
      refine awp_seq ?_
      refine awp_region ?_
      refine aops_assign (iV 9) wants_none rfl rfl ?_
      refine aops_nil ?_
      refine awp_ret ?_
      obtain rfl := Option.some.inj h
      exact ⟨.inl rfl, .one (.tmp rfl (Imm.con _))⟩
    · replace h := ite_f hb7 h
      refine awp_skip ?_
      refine awp_seq ?_
      refine awp_region ?_
      refine aops_fieldAddr tF42_2 wants_none rfl rfl ?_
      refine aops_load_cell (V.lst 3 (a1.Exposures.map encTExposure)) tC40 wants_none rfl rfl rfl rfl rfl ?_
      replace h := bind_some h
      obtain ⟨y8, hx9, h⟩ := h
      refine aops_call (iV y8) [(V.lst 3 (a1.Exposures.map encTExposure))] fOk96 wants_none (evm_cons rfl evm_nil) (.cons (Imm.lst _ _) .nil) (W96 F a1.Exposures y8 hx9) rfl ?_
      refine aops_assign (iV y8) wants_none rfl rfl ?_
      refine aops_nil ?_
      refine awp_ret ?_
      obtain rfl := Option.some.inj h
      exact ⟨.inl rfl, .one (.tmp rfl (Imm.con _))⟩

theorem W128 (F : Nat) (a1 : TExposure) (a2 : TExposure) (r : Bool) (h : M128 F a1 a2 = some r) : Pure Try.prog 128 [(V.agg [(sV a1.Advisory), (sV a1.Component), (iV a1.Severity)]), (V.agg [(sV a2.Advisory), (sV a2.Component), (iV a2.Severity)])] (bV r) := by
  refine pure_enter Try.func128 rfl rfl (l := [.tmp 4]) rfl rfl [(0, (V.agg [(sV a1.Advisory), (sV a1.Component), (iV a1.Severity)])), (1, (V.agg [(sV a2.Advisory), (sV a2.Component), (iV a2.Severity)]))] rfl (fun w0 m0 => ?_)
  unfold M128 at h
  refine awp_seq ?_
  refine awp_region ?_
  refine aops_box [(sV a1.Advisory), (sV a1.Component), (iV a1.Severity)] wants_none rfl rfl rfl rfl ?_
  refine aops_box [(sV a2.Advisory), (sV a2.Component), (iV a2.Severity)] wants_none rfl rfl rfl rfl ?_
  refine aops_assign (bV false) wants_none rfl rfl ?_
  refine aops_nil ?_
  refine awp_seq ?_
  refine awp_region ?_
  refine aops_fieldAddr tF47_0 wants_none rfl rfl ?_
  refine aops_load_cell (sV a1.Advisory) tC9 wants_none rfl rfl rfl rfl rfl ?_
  refine aops_fieldAddr tF47_0 wants_none rfl rfl ?_
  refine aops_load_cell (sV a2.Advisory) tC9 wants_none rfl rfl rfl rfl rfl ?_
  refine aops_binT (.bool (a1.Advisory == a2.Advisory)) wants_none rfl rfl rfl rfl ?_
  refine aops_move (bV (a1.Advisory == a2.Advisory)) wants_none rfl rfl ?_
  rcases Bool.eq_false_or_eq_true (a1.Advisory == a2.Advisory) with hb3 | hb3
  · replace h := ite_t hb3 h
    refine aops_fieldAddr tF47_1 (wants_some (c := (a1.Advisory == a2.Advisory)) (b := true) 10 rfl rfl hb3) rfl rfl ?_
    refine aops_load_cell (sV a1.Component) tC9 (wants_some (c := (a1.Advisory == a2.Advisory)) (b := true) 10 rfl rfl hb3) rfl rfl rfl rfl rfl ?_
    refine aops_fieldAddr tF47_1 (wants_some (c := (a1.Advisory == a2.Advisory)) (b := true) 10 rfl rfl hb3) rfl rfl ?_
    refine aops_load_cell (sV a2.Component) tC9 (wants_some (c := (a1.Advisory == a2.Advisory)) (b := true) 10 rfl rfl hb3) rfl rfl rfl rfl rfl ?_
    refine aops_binT (.bool (a1.Component == a2.Component)) (wants_some (c := (a1.Advisory == a2.Advisory)) (b := true) 10 rfl rfl hb3) rfl rfl rfl rfl ?_
    refine aops_pick true (cb := (a1.Advisory == a2.Advisory)) (bV (a1.Component == a2.Component)) wants_none rfl hb3 rfl rfl ?_
    refine aops_assign (bV (a1.Component == a2.Component)) wants_none rfl rfl ?_
    refine aops_nil ?_
    refine awp_ret ?_
    obtain rfl := Option.some.inj h
    exact ⟨.inl rfl, .one (.tmp rfl (Imm.con _))⟩
  · replace h := ite_f hb3 h
    refine aops_skip (wants_some (c := (a1.Advisory == a2.Advisory)) (b := false) 10 rfl rfl hb3) rfl rfl ?_
    refine aops_skip (wants_some (c := (a1.Advisory == a2.Advisory)) (b := false) 10 rfl rfl hb3) rfl rfl ?_
    refine aops_skip (wants_some (c := (a1.Advisory == a2.Advisory)) (b := false) 10 rfl rfl hb3) rfl rfl ?_
    refine aops_skip (wants_some (c := (a1.Advisory == a2.Advisory)) (b := false) 10 rfl rfl hb3) rfl rfl ?_
    refine aops_skip (wants_some (c := (a1.Advisory == a2.Advisory)) (b := false) 10 rfl rfl hb3) rfl rfl ?_
    refine aops_pick false (cb := (a1.Advisory == a2.Advisory)) (bV false) wants_none rfl hb3 rfl rfl ?_
    refine aops_assign (bV false) wants_none rfl rfl ?_
    refine aops_nil ?_
    refine awp_ret ?_
    obtain rfl := Option.some.inj h
    exact ⟨.inl rfl, .one (.tmp rfl (Imm.con _))⟩

theorem W86 (F : Nat) (a1 : (List TExposure)) (a2 : TExposure) (r : Bool) (h : M86 F a1 a2 = some r) : Pure Try.prog 86 [(V.lst 3 (a1.map encTExposure)), (V.agg [(sV a2.Advisory), (sV a2.Component), (iV a2.Severity)])] (bV r) := by
  refine pure_enter Try.func86 rfl rfl (l := [.tmp 4]) rfl rfl [(0, (V.lst 3 (a1.map encTExposure))), (1, (V.agg [(sV a2.Advisory), (sV a2.Component), (iV a2.Severity)]))] rfl (fun w0 m0 => ?_)
  unfold M86 at h
  refine awp_seq ?_
  refine awp_region ?_
  refine aops_box [(sV a2.Advisory), (sV a2.Component), (iV a2.Severity)] wants_none rfl rfl rfl rfl ?_
  refine aops_assign (bV false) wants_none rfl rfl ?_
  refine aops_nil ?_
  refine awp_seq ?_
  refine awp_seq ?_
  refine awp_region ?_
  refine aops_move (V.lst 3 (a1.map encTExposure)) wants_none rfl rfl ?_
  refine aops_len (n := a1.length) tIsSl40 wants_none rfl (congrArg some (List.length_map ..)) rfl ?_
  refine aops_move (iV 0) wants_none rfl rfl ?_
  refine aops_nil ?_
  replace h := jn_elim h
  obtain ⟨k3, hk3, h⟩ := h
  refine awp_cut (fun _ : Unit => (⟨[], [], 0⟩ : St)) (fun _ : Unit => k3 = some r) ?_ ?_
  · clear hk3
    refine awp_block ?_
    refine awp_len (A := a1) 0 rfl (fun hA12 => ?_)
    refine awp_loop_ind (fun (p : Int) => (⟨[(3, (V.ptr 0 3 0 0)), (7, (V.lst 3 (a1.map encTExposure))), (8, (iV ((a1.length : Nat) : Int))), (9, (iV p))], [(0, (Ob.arr 47 3 [[(sV a2.Advisory), (sV a2.Component), (iV a2.Severity)]]))], 1⟩ : St)) (fun n (p : Int) => RG a1 (fun tl nn => M86_L1 F a2 k3 tl = some r) n p) (fun p h => RG.zero h) (fun n ih1 p h => ?_) (a1.length + 1) 0 (RG.start h) (ghost_ren 1 (fun i => ([0] : List Nat).getD i 0) _ _ (by decide) (EnvSub.get (.cons (Sub.ptr rfl rfl) (.cons (Sub.imm (Imm.lst _ _)) (.cons (Sub.imm (Imm.con _)) (.cons (Sub.imm (Imm.con _)) .nil))))) (HpSub.get (.cons rfl (ObSub.box (.cons (Sub.imm (Imm.con _)) (.cons (Sub.imm (Imm.con _)) (.cons (Sub.imm (Imm.con _)) .nil)))) .nil)) rfl)
    revert p
    intro n5 h
    refine awp_loop ?_
    refine awp_seq ?_
    refine awp_region ?_
    refine aops_bin (.bool (decide (n5 < ((a1.length : Nat) : Int)))) wants_none rfl rfl rfl rfl ?_
    refine aops_nil ?_
    refine awp_seq ?_
    refine awp_cond (decide (n5 < ((a1.length : Nat) : Int))) rfl (fun hb6 => ?_) (fun hb6 => ?_)
    · obtain ⟨x7, tl, hx8, h, hk1⟩ := RG.t hA12 h hb6
      unfold M86_L1 at h
      refine awp_skip ?_
      refine awp_seq ?_
      refine awp_block ?_
      refine awp_seq ?_
      refine awp_region ?_
      refine aops_index_lst [(sV x7.Advisory), (sV x7.Component), (iV x7.Severity)] tSl40 wants_none rfl rfl (idx_some hx8).1 (idx_map encTExposure hx8) rfl ?_
      refine aops_iload_agg (cs := [(sV x7.Advisory), (sV x7.Component), (iV x7.Severity)]) tA47 wants_none rfl rfl rfl rfl ?_
      refine aops_alloc tZ47 rfl rfl wants_none rfl ?_
      refine aops_store [(sV x7.Advisory), (sV x7.Component), (iV x7.Severity)] [[(sV x7.Advisory), (sV x7.Component), (iV x7.Severity)]] tS47 wants_none rfl rfl rfl rfl rfl rfl rfl rfl ?_
      refine aops_nil ?_
      refine awp_seq ?_
      refine awp_region ?_
      refine aops_load_agg (cs := [(sV a2.Advisory), (sV a2.Component), (iV a2.Severity)]) tA47 wants_none rfl rfl rfl rfl rfl rfl ?_
      refine aops_load_agg (cs := [(sV x7.Advisory), (sV x7.Component), (iV x7.Severity)]) tA47 wants_none rfl rfl rfl rfl rfl rfl ?_
      replace h := bind_some h
      obtain ⟨y9, hx10, h⟩ := h
      refine aops_call (bV y9) [(V.agg [(sV a2.Advisory), (sV a2.Component), (iV a2.Severity)]), (V.agg [(sV x7.Advisory), (sV x7.Component), (iV x7.Severity)])] fOk128 wants_none (evm_cons rfl (evm_cons rfl evm_nil)) (.cons (Imm.agg (.cons (Imm.con _) (.cons (Imm.con _) (.cons (Imm.con _) .nil)))) (.cons (Imm.agg (.cons (Imm.con _) (.cons (Imm.con _) (.cons (Imm.con _) .nil)))) .nil)) (W128 F a2 x7 y9 hx10) rfl ?_
      refine aops_nil ?_
      refine awp_cond y9 rfl (fun hb11 => ?_) (fun hb11 => ?_)
      · replace h := ite_t hb11 h
        refine awp_seq ?_
        refine awp_region ?_
        refine aops_assign (bV true) wants_none rfl rfl ?_
        refine aops_nil ?_
        refine awp_ret ?_
        obtain rfl := Option.some.inj h
        exact ⟨.inl rfl, .one (.tmp rfl (Imm.con _))⟩
      · replace h := ite_f hb11 h
        refine awp_skip ?_
        refine awp_region ?_
        refine aops_bin (.int .i64 (w64 (n5 + 1))) wants_none rfl rfl rfl rfl ?_
        refine aops_move (iV (w64 (n5 + 1))) wants_none rfl rfl ?_
        refine aops_nil ?_
        exact awp_back (ih1 (w64 (n5 + 1)) (hk1 _ h)) (ghost_ren 1 (fun i => ([0] : List Nat).getD i 0) _ _ (by decide) (EnvSub.get (.cons (Sub.ptr rfl rfl) (.cons (Sub.imm (Imm.lst _ _)) (.cons (Sub.imm (Imm.con _)) (.cons (Sub.imm (Imm.con _)) .nil))))) (HpSub.get (.cons rfl (ObSub.box (.cons (Sub.imm (Imm.con _)) (.cons (Sub.imm (Imm.con _)) (.cons (Sub.imm (Imm.con _)) .nil)))) .nil)) rfl)
    · replace h := RG.f h hb6
      unfold M86_L1 at h
      refine awp_exit ?_
      exact ⟨(), h, (ghost_ren 0 (fun i => ([] : List Nat).getD i 0) _ _ (by decide) (EnvSub.get .nil) (HpSub.get .nil) rfl)⟩
  · clear h
    intro _ h
    subst hk3
    refine awp_seq ?_
    refine awp_region ?_
    refine aops_assign (bV false) wants_none rfl rfl ?_
    refine aops_nil ?_
    refine awp_ret ?_
    obtain rfl := Option.some.inj h
    exact ⟨.inl rfl, .one (.tmp rfl (Imm.con _))⟩

theorem W29 (F : Nat) (a1 : TRelease) (a2 : TRelease) (r : ((List TExposure) × (List TExposure) × (List TExposure) × Int)) (h : M29 F a1 a2 = some r) : Pure Try.prog 29 [(V.agg [(sV a1.Version), (iV a1.Day), (V.lst 3 (a1.Exposures.map encTExposure))]), (V.agg [(sV a2.Version), (iV a2.Day), (V.lst 3 (a2.Exposures.map encTExposure))])] (V.tup [(V.lst 3 ((r.1).map encTExposure)), (V.lst 3 ((r.2.1).map encTExposure)), (V.lst 3 ((r.2.2.1).map encTExposure)), (iV (r.2.2.2))]) := by
  refine pure_enter Try.func29 rfl rfl (l := [.tmp 4, .tmp 5, .tmp 6, .tmp 7]) rfl rfl [(0, (V.agg [(sV a1.Version), (iV a1.Day), (V.lst 3 (a1.Exposures.map encTExposure))])), (1, (V.agg [(sV a2.Version), (iV a2.Day), (V.lst 3 (a2.Exposures.map encTExposure))]))] rfl (fun w0 m0 => ?_)
  unfold M29 at h
  refine awp_seq ?_
  refine awp_region ?_
  refine aops_box [(sV a1.Version), (iV a1.Day), (V.lst 3 (a1.Exposures.map encTExposure))] wants_none rfl rfl rfl rfl ?_
  refine aops_box [(sV a2.Version), (iV a2.Day), (V.lst 3 (a2.Exposures.map encTExposure))] wants_none rfl rfl rfl rfl ?_
  refine aops_assign nV wants_none rfl rfl ?_
  refine aops_assign nV wants_none rfl rfl ?_
  refine aops_assign nV wants_none rfl rfl ?_
  refine aops_assign (iV 0) wants_none rfl rfl ?_
  refine aops_nil ?_
  refine awp_seq ?_
  refine awp_seq ?_
  refine awp_region ?_
  refine aops_load_agg (cs := [(sV a1.Version), (iV a1.Day), (V.lst 3 (a1.Exposures.map encTExposure))]) tA42 wants_none rfl rfl rfl rfl rfl rfl ?_
  refine aops_load_agg (cs := [(sV a2.Version), (iV a2.Day), (V.lst 3 (a2.Exposures.map encTExposure))]) tA42 wants_none rfl rfl rfl rfl rfl rfl ?_
  refine aops_buildSlice [(0, (V.agg [(sV a1.Version), (iV a1.Day), (V.lst 3 (a1.Exposures.map encTExposure))])), (1, (V.agg [(sV a2.Version), (iV a2.Day), (V.lst 3 (a2.Exposures.map encTExposure))]))] [[(sV a1.Version), (iV a1.Day), (V.lst 3 (a1.Exposures.map encTExposure))], [(sV a2.Version), (iV a2.Day), (V.lst 3 (a2.Exposures.map encTExposure))]] tEl49 tZ42 rfl rfl rfl rfl wants_none (evp_cons rfl (evp_cons rfl evp_nil)) rfl rfl (by simp) rfl ?_
  refine aops_len (n := 2) tIsSl49 wants_none rfl rfl rfl ?_
  refine aops_move (iV 0) wants_none rfl rfl ?_
  refine aops_nil ?_
  replace h := jn_elim h
  obtain ⟨k3, hk3, h⟩ := h
  refine awp_cut (fun _ : Unit => (⟨[(2, (V.ptr 0 3 0 0)), (3, (V.ptr 1 3 0 0)), (4, nV), (5, nV), (6, nV)], [(0, (Ob.arr 42 3 [[(sV a1.Version), (iV a1.Day), (V.lst 3 (a1.Exposures.map encTExposure))]])), (1, (Ob.arr 42 3 [[(sV a2.Version), (iV a2.Day), (V.lst 3 (a2.Exposures.map encTExposure))]]))], 2⟩ : St)) (fun _ : Unit => k3 = some r) ?_ ?_
  · clear hk3
    refine awp_block ?_
    replace h := chk_some h
    obtain ⟨hA12, h⟩ := h
    refine awp_loop_ind (fun (p : Int) => (⟨[(2, (V.ptr 0 3 0 0)), (3, (V.ptr 1 3 0 0)), (4, nV), (5, nV), (6, nV), (17, (V.own 2 ([a1, a2] : List TRelease).length)), (18, (iV ((2 : Nat) : Int))), (19, (iV p))], [(0, (Ob.arr 42 3 [[(sV a1.Version), (iV a1.Day), (V.lst 3 (a1.Exposures.map encTExposure))]])), (1, (Ob.arr 42 3 [[(sV a2.Version), (iV a2.Day), (V.lst 3 (a2.Exposures.map encTExposure))]])), (2, (Ob.arr 42 3 (([a1, a2] : List TRelease).map encTRelease)))], 3⟩ : St)) (fun n (p : Int) => RC ((2 : Nat) : Int) (fun tl nn => M29_L1 F a1 a2 k3 tl nn = some r) n p) (fun p h => RC.zero h) (fun n ih1 p h => ?_) (Int.toNat ((2 : Nat) : Int) + 1) 0 (RC.start h) (ghost_ren 3 (fun i => ([0, 1, 2] : List Nat).getD i 0) _ _ (by decide) (EnvSub.get (.cons (Sub.ptr rfl rfl) (.cons (Sub.ptr rfl rfl) (.cons (Sub.imm (Imm.con _)) (.cons (Sub.imm (Imm.con _)) (.cons (Sub.imm (Imm.con _)) (.cons (Sub.ownE rfl rfl (by simp)) (.cons (Sub.imm (Imm.con _)) (.cons (Sub.imm (Imm.con _)) .nil))))))))) (HpSub.get (.cons rfl (ObSub.box (.cons (Sub.imm (Imm.con _)) (.cons (Sub.imm (Imm.con _)) (.cons (Sub.imm (Imm.lst _ _)) .nil)))) (.cons rfl (ObSub.box (.cons (Sub.imm (Imm.con _)) (.cons (Sub.imm (Imm.con _)) (.cons (Sub.imm (Imm.lst _ _)) .nil)))) (.cons rfl (ObSub.rows (rows_imm imms_encTRelease)) .nil)))) rfl)
    revert p
    intro n5 h
    refine awp_loop ?_
    refine awp_seq ?_
    refine awp_region ?_
    refine aops_bin (.bool (decide (n5 < ((2 : Nat) : Int)))) wants_none rfl rfl rfl rfl ?_
    refine aops_nil ?_
    refine awp_seq ?_
    refine awp_cond (decide (n5 < ((2 : Nat) : Int))) rfl (fun hb6 => ?_) (fun hb6 => ?_)
    · obtain ⟨tl, h, hk1⟩ := RC.t hA12 h hb6
      unfold M29_L1 at h
      refine awp_skip ?_
      refine awp_seq ?_
      refine awp_block ?_
      refine awp_seq ?_
      refine awp_region ?_
      replace h := bind_some h
      obtain ⟨x7, hx8, h⟩ := h
      refine aops_index_own tSl49 wants_none rfl rfl (idx_some hx8).1 (by simpa using idx_lt hx8) rfl ?_
      refine aops_load_agg (cs := [(sV x7.Version), (iV x7.Day), (V.lst 3 (x7.Exposures.map encTExposure))]) tA42 wants_none rfl rfl (idx_map encTRelease hx8) rfl rfl rfl ?_
      refine aops_alloc tZ42 rfl rfl wants_none rfl ?_
      refine aops_store [(sV x7.Version), (iV x7.Day), (V.lst 3 (x7.Exposures.map encTExposure))] [[(sV x7.Version), (iV x7.Day), (V.lst 3 (x7.Exposures.map encTExposure))]] tS42 wants_none rfl rfl rfl rfl rfl rfl rfl rfl ?_
      refine aops_nil ?_
      refine awp_seq ?_
      refine awp_region ?_
      refine aops_load_agg (cs := [(sV x7.Version), (iV x7.Day), (V.lst 3 (x7.Exposures.map encTExposure))]) tA42 wants_none rfl rfl rfl rfl rfl rfl ?_
      replace h := bind_some h
      obtain ⟨y9, hx10, h⟩ := h
      refine aops_call (iV y9) [(V.agg [(sV x7.Version), (iV x7.Day), (V.lst 3 (x7.Exposures.map encTExposure))])] fOk85 wants_none (evm_cons rfl evm_nil) (.cons (Imm.agg (.cons (Imm.con _) (.cons (Imm.con _) (.cons (Imm.lst _ _) .nil)))) .nil) (W85 F x7 y9 hx10) rfl ?_
      refine aops_assign (iV y9) wants_none rfl rfl ?_
      refine aops_nil ?_
      refine awp_seq ?_
      refine awp_region ?_
      refine aops_move (iV y9) wants_none rfl rfl ?_
      refine aops_bin (.bool (y9 != 0)) wants_none rfl rfl rfl rfl ?_
      refine aops_nil ?_
      refine awp_cond (y9 != 0) rfl (fun hb11 => ?_) (fun hb11 => ?_)
      · replace h := ite_t hb11 h
        refine awp_seq ?_
        refine awp_region ?_
        refine aops_move (iV y9) wants_none rfl rfl ?_
        refine aops_assign nV wants_none rfl rfl ?_
        refine aops_assign nV wants_none rfl rfl ?_
        refine aops_assign nV wants_none rfl rfl ?_
        refine aops_assign (iV y9) wants_none rfl rfl ?_
        refine aops_nil ?_
        refine awp_ghost (ghost_tell 4 (V.lst 3 (([] : List TExposure).map encTExposure)) rfl (Sub.nil _)) ?_
        refine awp_ghost (ghost_tell 5 (V.lst 3 (([] : List TExposure).map encTExposure)) rfl (Sub.nil _)) ?_
        refine awp_ghost (ghost_tell 6 (V.lst 3 (([] : List TExposure).map encTExposure)) rfl (Sub.nil _)) ?_
        refine awp_ret ?_
        obtain rfl := Option.some.inj h
        exact ⟨.inl rfl, .four (.tmp rfl (Imm.lst _ _)) (.tmp rfl (Imm.lst _ _)) (.tmp rfl (Imm.lst _ _)) (.tmp rfl (Imm.con _))⟩
      · replace h := ite_f hb11 h
        refine awp_skip ?_
        refine awp_region ?_
        refine aops_bin (.int .i64 (w64 (n5 + 1))) wants_none rfl rfl rfl rfl ?_
        refine aops_move (iV (w64 (n5 + 1))) wants_none rfl rfl ?_
        refine aops_nil ?_
        exact awp_back (ih1 (w64 (n5 + 1)) (hk1 _ h)) (ghost_ren 3 (fun i => ([0, 1, 2] : List Nat).getD i 0) _ _ (by decide) (EnvSub.get (.cons (Sub.ptr rfl rfl) (.cons (Sub.ptr rfl rfl) (.cons (Sub.imm (Imm.con _)) (.cons (Sub.imm (Imm.con _)) (.cons (Sub.imm (Imm.con _)) (.cons (Sub.own rfl rfl) (.cons (Sub.imm (Imm.con _)) (.cons (Sub.imm (Imm.con _)) .nil))))))))) (HpSub.get (.cons rfl (ObSub.box (.cons (Sub.imm (Imm.con _)) (.cons (Sub.imm (Imm.con _)) (.cons (Sub.imm (Imm.lst _ _)) .nil)))) (.cons rfl (ObSub.box (.cons (Sub.imm (Imm.con _)) (.cons (Sub.imm (Imm.con _)) (.cons (Sub.imm (Imm.lst _ _)) .nil)))) (.cons rfl (ObSub.rows (rows_imm imms_encTRelease)) .nil)))) rfl)
    · replace h := RC.f h hb6
      unfold M29_L1 at h
      refine awp_exit ?_
      exact ⟨(), h, (ghost_ren 2 (fun i => ([0, 1] : List Nat).getD i 0) _ _ (by decide) (EnvSub.get (.cons (Sub.ptr rfl rfl) (.cons (Sub.ptr rfl rfl) (.cons (Sub.imm (Imm.con _)) (.cons (Sub.imm (Imm.con _)) (.cons (Sub.imm (Imm.con _)) .nil)))))) (HpSub.get (.cons rfl (ObSub.box (.cons (Sub.imm (Imm.con _)) (.cons (Sub.imm (Imm.con _)) (.cons (Sub.imm (Imm.lst _ _)) .nil)))) (.cons rfl (ObSub.box (.cons (Sub.imm (Imm.con _)) (.cons (Sub.imm (Imm.con _)) (.cons (Sub.imm (Imm.lst _ _)) .nil)))) .nil))) rfl)⟩
  · clear h
    intro _ h
    subst hk3
    refine awp_seq ?_
    refine awp_seq ?_
    refine awp_region ?_
    refine aops_fieldAddr tF42_2 wants_none rfl rfl ?_
    refine aops_load_cell (V.lst 3 (a1.Exposures.map encTExposure)) tC40 wants_none rfl rfl rfl rfl rfl ?_
    refine aops_len (n := a1.Exposures.length) tIsSl40 wants_none rfl (congrArg some (List.length_map ..)) rfl ?_
    refine aops_move (iV 0) wants_none rfl rfl ?_
    refine aops_nil ?_
    replace h := jn_elim h
    obtain ⟨k13, hk13, h⟩ := h
    refine awp_cut (fun (p : (List TExposure)) => (⟨[(2, (V.ptr 0 3 0 0)), (3, (V.ptr 1 3 0 0)), (4, (V.own 2 p.length)), (5, nV), (6, nV)], [(0, (Ob.arr 42 3 [[(sV a1.Version), (iV a1.Day), (V.lst 3 (a1.Exposures.map encTExposure))]])), (1, (Ob.arr 42 3 [[(sV a2.Version), (iV a2.Day), (V.lst 3 (a2.Exposures.map encTExposure))]])), (2, (Ob.arr 47 3 (p.map encTExposure)))], 3⟩ : St)) (fun (p : (List TExposure)) => k13 p = some r) ?_ ?_
    · clear hk13
      refine awp_block ?_
      refine awp_len (A := a1.Exposures) 30 rfl (fun hA28 => ?_)
      refine awp_loop_ind (fun (p : Int × (List TExposure)) => (⟨[(2, (V.ptr 0 3 0 0)), (3, (V.ptr 1 3 0 0)), (4, (V.own 2 (p.2).length)), (5, nV), (6, nV), (30, (V.lst 3 (a1.Exposures.map encTExposure))), (31, (iV ((a1.Exposures.length : Nat) : Int))), (32, (iV (p.1)))], [(0, (Ob.arr 42 3 [[(sV a1.Version), (iV a1.Day), (V.lst 3 (a1.Exposures.map encTExposure))]])), (1, (Ob.arr 42 3 [[(sV a2.Version), (iV a2.Day), (V.lst 3 (a2.Exposures.map encTExposure))]])), (2, (Ob.arr 47 3 ((p.2).map encTExposure)))], 3⟩ : St)) (fun n (p : Int × (List TExposure)) => RG a1.Exposures (fun tl nn => M29_L2 F a2 k13 tl p.2 = some r) n p.1) (fun p h => RG.zero h) (fun n ih2 p h => ?_) (a1.Exposures.length + 1) (0, ([] : List TExposure)) (RG.start h) (Ghost.trans (ghost_nilE 4 47 3 rfl) (ghost_ren 3 (fun i => ([0, 1, 2] : List Nat).getD i 0) _ _ (by decide) (EnvSub.get (.cons (Sub.ptr rfl rfl) (.cons (Sub.ptr rfl rfl) (.cons (Sub.ownE rfl rfl (by simp)) (.cons (Sub.imm (Imm.con _)) (.cons (Sub.imm (Imm.con _)) (.cons (Sub.imm (Imm.lst _ _)) (.cons (Sub.imm (Imm.con _)) (.cons (Sub.imm (Imm.con _)) .nil))))))))) (HpSub.get (.cons rfl (ObSub.box (.cons (Sub.imm (Imm.con _)) (.cons (Sub.imm (Imm.con _)) (.cons (Sub.imm (Imm.lst _ _)) .nil)))) (.cons rfl (ObSub.box (.cons (Sub.imm (Imm.con _)) (.cons (Sub.imm (Imm.con _)) (.cons (Sub.imm (Imm.lst _ _)) .nil)))) (.cons rfl (ObSub.rows (rows_imm imms_encTExposure)) .nil)))) rfl))
      obtain ⟨n17, l18⟩ := p
      refine awp_loop ?_
      refine awp_seq ?_
      refine awp_region ?_
      refine aops_bin (.bool (decide (n17 < ((a1.Exposures.length : Nat) : Int)))) wants_none rfl rfl rfl rfl ?_
      refine aops_nil ?_
      refine awp_seq ?_
      refine awp_cond (decide (n17 < ((a1.Exposures.length : Nat) : Int))) rfl (fun hb19 => ?_) (fun hb19 => ?_)
      · obtain ⟨x20, tl, hx21, h, hk2⟩ := RG.t hA28 h hb19
        unfold M29_L2 at h
        refine awp_skip ?_
        refine awp_seq ?_
        refine awp_block ?_
        refine awp_seq ?_
        refine awp_region ?_
        refine aops_index_lst [(sV x20.Advisory), (sV x20.Component), (iV x20.Severity)] tSl40 wants_none rfl rfl (idx_some hx21).1 (idx_map encTExposure hx21) rfl ?_
        refine aops_iload_agg (cs := [(sV x20.Advisory), (sV x20.Component), (iV x20.Severity)]) tA47 wants_none rfl rfl rfl rfl ?_
        refine aops_alloc tZ47 rfl rfl wants_none rfl ?_
        refine aops_store [(sV x20.Advisory), (sV x20.Component), (iV x20.Severity)] [[(sV x20.Advisory), (sV x20.Component), (iV x20.Severity)]] tS47 wants_none rfl rfl rfl rfl rfl rfl rfl rfl ?_
        refine aops_nil ?_
        refine awp_seq ?_
        refine awp_region ?_
        refine aops_fieldAddr tF42_2 wants_none rfl rfl ?_
        refine aops_load_cell (V.lst 3 (a2.Exposures.map encTExposure)) tC40 wants_none rfl rfl rfl rfl rfl ?_
        refine aops_load_agg (cs := [(sV x20.Advisory), (sV x20.Component), (iV x20.Severity)]) tA47 wants_none rfl rfl rfl rfl rfl rfl ?_
        replace h := bind_some h
        obtain ⟨y22, hx23, h⟩ := h
        refine aops_call (bV y22) [(V.lst 3 (a2.Exposures.map encTExposure)), (V.agg [(sV x20.Advisory), (sV x20.Component), (iV x20.Severity)])] fOk86 wants_none (evm_cons rfl (evm_cons rfl evm_nil)) (.cons (Imm.lst _ _) (.cons (Imm.agg (.cons (Imm.con _) (.cons (Imm.con _) (.cons (Imm.con _) .nil)))) .nil)) (W86 F a2.Exposures x20 y22 hx23) rfl ?_
        refine aops_not wants_none rfl rfl ?_
        refine aops_nil ?_
        replace h := jn_elim h
        obtain ⟨k24, hk24, h⟩ := h
        refine awp_cut (fun (p : (List TExposure)) => (⟨[(2, (V.ptr 0 3 0 0)), (3, (V.ptr 1 3 0 0)), (4, (V.own 2 p.length)), (5, nV), (6, nV), (30, (V.lst 3 (a1.Exposures.map encTExposure))), (31, (iV ((a1.Exposures.length : Nat) : Int))), (32, (iV n17))], [(0, (Ob.arr 42 3 [[(sV a1.Version), (iV a1.Day), (V.lst 3 (a1.Exposures.map encTExposure))]])), (1, (Ob.arr 42 3 [[(sV a2.Version), (iV a2.Day), (V.lst 3 (a2.Exposures.map encTExposure))]])), (2, (Ob.arr 47 3 (p.map encTExposure)))], 3⟩ : St)) (fun (p : (List TExposure)) => k24 p = some r) ?_ ?_
        · clear hk24
          refine awp_cond (!y22) rfl (fun hb26 => ?_) (fun hb26 => ?_)
          · replace h := ite_t hb26 h
            refine awp_region ?_
            refine aops_move (V.own 2 l18.length) wants_none rfl rfl ?_
            refine aops_load_agg (cs := [(sV x20.Advisory), (sV x20.Component), (iV x20.Severity)]) tA47 wants_none rfl rfl rfl rfl rfl rfl ?_
            refine aops_buildSlice [(0, (V.agg [(sV x20.Advisory), (sV x20.Component), (iV x20.Severity)]))] [[(sV x20.Advisory), (sV x20.Component), (iV x20.Severity)]] tEl40 tZ47 rfl rfl rfl rfl wants_none (evp_cons rfl evp_nil) rfl rfl (by simp) rfl ?_
            replace h := chk_some h
            obtain ⟨hc27, h⟩ := h
            refine aops_append [[(sV x20.Advisory), (sV x20.Component), (iV x20.Severity)]] ((l18 ++ ([x20] : List TExposure)).map encTExposure) tEl40 tIsSl40 rfl rfl wants_none rfl rfl (by simp) rfl (.own rfl (by simp)) (map_snoc encTExposure l18 ([x20] : List TExposure)) (List.length_map ..) hc27 rfl ?_
            refine aops_assign (V.own 5 (l18 ++ ([x20] : List TExposure)).length) wants_none rfl rfl ?_
            refine aops_nil ?_
            exact ⟨(l18 ++ ([x20] : List TExposure)), h, (ghost_ren 3 (fun i => ([0, 1, 5] : List Nat).getD i 0) _ _ (by decide) (EnvSub.get (.cons (Sub.ptr rfl rfl) (.cons (Sub.ptr rfl rfl) (.cons (Sub.own rfl rfl) (.cons (Sub.imm (Imm.con _)) (.cons (Sub.imm (Imm.con _)) (.cons (Sub.imm (Imm.lst _ _)) (.cons (Sub.imm (Imm.con _)) (.cons (Sub.imm (Imm.con _)) .nil))))))))) (HpSub.get (.cons rfl (ObSub.box (.cons (Sub.imm (Imm.con _)) (.cons (Sub.imm (Imm.con _)) (.cons (Sub.imm (Imm.lst _ _)) .nil)))) (.cons rfl (ObSub.box (.cons (Sub.imm (Imm.con _)) (.cons (Sub.imm (Imm.con _)) (.cons (Sub.imm (Imm.lst _ _)) .nil)))) (.cons rfl (ObSub.rows (rows_imm imms_encTExposure)) .nil)))) rfl)⟩
          · replace h := ite_f hb26 h
            refine awp_skip ?_
            exact ⟨l18, h, (ghost_ren 3 (fun i => ([0, 1, 2] : List Nat).getD i 0) _ _ (by decide) (EnvSub.get (.cons (Sub.ptr rfl rfl) (.cons (Sub.ptr rfl rfl) (.cons (Sub.own rfl rfl) (.cons (Sub.imm (Imm.con _)) (.cons (Sub.imm (Imm.con _)) (.cons (Sub.imm (Imm.lst _ _)) (.cons (Sub.imm (Imm.con _)) (.cons (Sub.imm (Imm.con _)) .nil))))))))) (HpSub.get (.cons rfl (ObSub.box (.cons (Sub.imm (Imm.con _)) (.cons (Sub.imm (Imm.con _)) (.cons (Sub.imm (Imm.lst _ _)) .nil)))) (.cons rfl (ObSub.box (.cons (Sub.imm (Imm.con _)) (.cons (Sub.imm (Imm.con _)) (.cons (Sub.imm (Imm.lst _ _)) .nil)))) (.cons rfl (ObSub.rows (rows_imm imms_encTExposure)) .nil)))) rfl)⟩
        · clear h
          intro l25 h
          subst hk24
          refine awp_region ?_
          refine aops_bin (.int .i64 (w64 (n17 + 1))) wants_none rfl rfl rfl rfl ?_
          refine aops_move (iV (w64 (n17 + 1))) wants_none rfl rfl ?_
          refine aops_nil ?_
          exact awp_back (ih2 ((w64 (n17 + 1)), l25) (hk2 _ h)) (ghost_ren 3 (fun i => ([0, 1, 2] : List Nat).getD i 0) _ _ (by decide) (EnvSub.get (.cons (Sub.ptr rfl rfl) (.cons (Sub.ptr rfl rfl) (.cons (Sub.own rfl rfl) (.cons (Sub.imm (Imm.con _)) (.cons (Sub.imm (Imm.con _)) (.cons (Sub.imm (Imm.lst _ _)) (.cons (Sub.imm (Imm.con _)) (.cons (Sub.imm (Imm.con _)) .nil))))))))) (HpSub.get (.cons rfl (ObSub.box (.cons (Sub.imm (Imm.con _)) (.cons (Sub.imm (Imm.con _)) (.cons (Sub.imm (Imm.lst _ _)) .nil)))) (.cons rfl (ObSub.box (.cons (Sub.imm (Imm.con _)) (.cons (Sub.imm (Imm.con _)) (.cons (Sub.imm (Imm.lst _ _)) .nil)))) (.cons rfl (ObSub.rows (rows_imm imms_encTExposure)) .nil)))) rfl)
      · replace h := RG.f h hb19
        unfold M29_L2 at h
        refine awp_exit ?_
        exact ⟨l18, h, (ghost_ren 3 (fun i => ([0, 1, 2] : List Nat).getD i 0) _ _ (by decide) (EnvSub.get (.cons (Sub.ptr rfl rfl) (.cons (Sub.ptr rfl rfl) (.cons (Sub.own rfl rfl) (.cons (Sub.imm (Imm.con _)) (.cons (Sub.imm (Imm.con _)) .nil)))))) (HpSub.get (.cons rfl (ObSub.box (.cons (Sub.imm (Imm.con _)) (.cons (Sub.imm (Imm.con _)) (.cons (Sub.imm (Imm.lst _ _)) .nil)))) (.cons rfl (ObSub.box (.cons (Sub.imm (Imm.con _)) (.cons (Sub.imm (Imm.con _)) (.cons (Sub.imm (Imm.lst _ _)) .nil)))) (.cons rfl (ObSub.rows (rows_imm imms_encTExposure)) .nil)))) rfl)⟩
    · clear h
      intro l14 h
      subst hk13
      refine awp_seq ?_
      refine awp_seq ?_
      refine awp_region ?_
      refine aops_fieldAddr tF42_2 wants_none rfl rfl ?_
      refine aops_load_cell (V.lst 3 (a2.Exposures.map encTExposure)) tC40 wants_none rfl rfl rfl rfl rfl ?_
      refine aops_len (n := a2.Exposures.length) tIsSl40 wants_none rfl (congrArg some (List.length_map ..)) rfl ?_
      refine aops_move (iV 0) wants_none rfl rfl ?_
      refine aops_nil ?_
      replace h := jn_elim h
      obtain ⟨k29, hk29, h⟩ := h
      refine awp_cut (fun (p : (List TExposure) × (List TExposure)) => (⟨[(4, (V.own 0 l14.length)), (5, (V.own 1 (p.1).length)), (6, (V.own 2 (p.2).length))], [(0, (Ob.arr 47 3 (l14.map encTExposure))), (1, (Ob.arr 47 3 ((p.1).map encTExposure))), (2, (Ob.arr 47 3 ((p.2).map encTExposure)))], 3⟩ : St)) (fun (p : (List TExposure) × (List TExposure)) => k29 p.1 p.2 = some r) ?_ ?_
      · clear hk29
        refine awp_block ?_
        refine awp_len (A := a2.Exposures) 47 rfl (fun hA49 => ?_)
        refine awp_loop_ind (fun (p : Int × (List TExposure) × (List TExposure)) => (⟨[(2, (V.ptr 0 3 0 0)), (4, (V.own 1 l14.length)), (5, (V.own 2 (p.2.1).length)), (6, (V.own 3 (p.2.2).length)), (47, (V.lst 3 (a2.Exposures.map encTExposure))), (48, (iV ((a2.Exposures.length : Nat) : Int))), (49, (iV (p.1)))], [(0, (Ob.arr 42 3 [[(sV a1.Version), (iV a1.Day), (V.lst 3 (a1.Exposures.map encTExposure))]])), (1, (Ob.arr 47 3 (l14.map encTExposure))), (2, (Ob.arr 47 3 ((p.2.1).map encTExposure))), (3, (Ob.arr 47 3 ((p.2.2).map encTExposure)))], 4⟩ : St)) (fun n (p : Int × (List TExposure) × (List TExposure)) => RG a2.Exposures (fun tl nn => M29_L3 F a1 k29 tl p.2.1 p.2.2 = some r) n p.1) (fun p h => RG.zero h) (fun n ih3 p h => ?_) (a2.Exposures.length + 1) (0, ([] : List TExposure), ([] : List TExposure)) (RG.start h) (Ghost.trans (ghost_nilE 5 47 3 rfl) (Ghost.trans (ghost_nilE 6 47 3 rfl) (ghost_ren 4 (fun i => ([0, 2, 3, 4] : List Nat).getD i 0) _ _ (by decide) (EnvSub.get (.cons (Sub.ptr rfl rfl) (.cons (Sub.own rfl rfl) (.cons (Sub.ownE rfl rfl (by simp)) (.cons (Sub.ownE rfl rfl (by simp)) (.cons (Sub.imm (Imm.lst _ _)) (.cons (Sub.imm (Imm.con _)) (.cons (Sub.imm (Imm.con _)) .nil)))))))) (HpSub.get (.cons rfl (ObSub.box (.cons (Sub.imm (Imm.con _)) (.cons (Sub.imm (Imm.con _)) (.cons (Sub.imm (Imm.lst _ _)) .nil)))) (.cons rfl (ObSub.rows (rows_imm imms_encTExposure)) (.cons rfl (ObSub.rows (rows_imm imms_encTExposure)) (.cons rfl (ObSub.rows (rows_imm imms_encTExposure)) .nil))))) rfl)))
        obtain ⟨n35, l36, l37⟩ := p
        refine awp_loop ?_
        refine awp_seq ?_
        refine awp_region ?_
        refine aops_bin (.bool (decide (n35 < ((a2.Exposures.length : Nat) : Int)))) wants_none rfl rfl rfl rfl ?_
        refine aops_nil ?_
        refine awp_seq ?_
        refine awp_cond (decide (n35 < ((a2.Exposures.length : Nat) : Int))) rfl (fun hb38 => ?_) (fun hb38 => ?_)
        · obtain ⟨x39, tl, hx40, h, hk3⟩ := RG.t hA49 h hb38
          unfold M29_L3 at h
          refine awp_skip ?_
          refine awp_seq ?_
          refine awp_block ?_
          refine awp_seq ?_
          refine awp_region ?_
          refine aops_index_lst [(sV x39.Advisory), (sV x39.Component), (iV x39.Severity)] tSl40 wants_none rfl rfl (idx_some hx40).1 (idx_map encTExposure hx40) rfl ?_
          refine aops_iload_agg (cs := [(sV x39.Advisory), (sV x39.Component), (iV x39.Severity)]) tA47 wants_none rfl rfl rfl rfl ?_
          refine aops_alloc tZ47 rfl rfl wants_none rfl ?_
          refine aops_store [(sV x39.Advisory), (sV x39.Component), (iV x39.Severity)] [[(sV x39.Advisory), (sV x39.Component), (iV x39.Severity)]] tS47 wants_none rfl rfl rfl rfl rfl rfl rfl rfl ?_
          refine aops_nil ?_
          refine awp_seq ?_
          refine awp_region ?_
          refine aops_fieldAddr tF42_2 wants_none rfl rfl ?_
          refine aops_load_cell (V.lst 3 (a1.Exposures.map encTExposure)) tC40 wants_none rfl rfl rfl rfl rfl ?_
          refine aops_load_agg (cs := [(sV x39.Advisory), (sV x39.Component), (iV x39.Severity)]) tA47 wants_none rfl rfl rfl rfl rfl rfl ?_
          replace h := bind_some h
          obtain ⟨y41, hx42, h⟩ := h
          refine aops_call (bV y41) [(V.lst 3 (a1.Exposures.map encTExposure)), (V.agg [(sV x39.Advisory), (sV x39.Component), (iV x39.Severity)])] fOk86 wants_none (evm_cons rfl (evm_cons rfl evm_nil)) (.cons (Imm.lst _ _) (.cons (Imm.agg (.cons (Imm.con _) (.cons (Imm.con _) (.cons (Imm.con _) .nil)))) .nil)) (W86 F a1.Exposures x39 y41 hx42) rfl ?_
          refine aops_nil ?_
          replace h := jn_elim h
          obtain ⟨k43, hk43, h⟩ := h
          refine awp_cut (fun (p : (List TExposure) × (List TExposure)) => (⟨[(2, (V.ptr 0 3 0 0)), (4, (V.own 1 l14.length)), (5, (V.own 2 (p.1).length)), (6, (V.own 3 (p.2).length)), (47, (V.lst 3 (a2.Exposures.map encTExposure))), (48, (iV ((a2.Exposures.length : Nat) : Int))), (49, (iV n35))], [(0, (Ob.arr 42 3 [[(sV a1.Version), (iV a1.Day), (V.lst 3 (a1.Exposures.map encTExposure))]])), (1, (Ob.arr 47 3 (l14.map encTExposure))), (2, (Ob.arr 47 3 ((p.1).map encTExposure))), (3, (Ob.arr 47 3 ((p.2).map encTExposure)))], 4⟩ : St)) (fun (p : (List TExposure) × (List TExposure)) => k43 p.1 p.2 = some r) ?_ ?_
          · clear hk43
            refine awp_cond y41 rfl (fun hb46 => ?_) (fun hb46 => ?_)
            · replace h := ite_t hb46 h
              refine awp_region ?_
              refine aops_move (V.own 3 l37.length) wants_none rfl rfl ?_
              refine aops_load_agg (cs := [(sV x39.Advisory), (sV x39.Component), (iV x39.Severity)]) tA47 wants_none rfl rfl rfl rfl rfl rfl ?_
              refine aops_buildSlice [(0, (V.agg [(sV x39.Advisory), (sV x39.Component), (iV x39.Severity)]))] [[(sV x39.Advisory), (sV x39.Component), (iV x39.Severity)]] tEl40 tZ47 rfl rfl rfl rfl wants_none (evp_cons rfl evp_nil) rfl rfl (by simp) rfl ?_
              replace h := chk_some h
              obtain ⟨hc47, h⟩ := h
              refine aops_append [[(sV x39.Advisory), (sV x39.Component), (iV x39.Severity)]] ((l37 ++ ([x39] : List TExposure)).map encTExposure) tEl40 tIsSl40 rfl rfl wants_none rfl rfl (by simp) rfl (.own rfl (by simp)) (map_snoc encTExposure l37 ([x39] : List TExposure)) (List.length_map ..) hc47 rfl ?_
              refine aops_assign (V.own 6 (l37 ++ ([x39] : List TExposure)).length) wants_none rfl rfl ?_
              refine aops_nil ?_
              exact ⟨(l36, (l37 ++ ([x39] : List TExposure))), h, (ghost_ren 4 (fun i => ([0, 1, 2, 6] : List Nat).getD i 0) _ _ (by decide) (EnvSub.get (.cons (Sub.ptr rfl rfl) (.cons (Sub.own rfl rfl) (.cons (Sub.own rfl rfl) (.cons (Sub.own rfl rfl) (.cons (Sub.imm (Imm.lst _ _)) (.cons (Sub.imm (Imm.con _)) (.cons (Sub.imm (Imm.con _)) .nil)))))))) (HpSub.get (.cons rfl (ObSub.box (.cons (Sub.imm (Imm.con _)) (.cons (Sub.imm (Imm.con _)) (.cons (Sub.imm (Imm.lst _ _)) .nil)))) (.cons rfl (ObSub.rows (rows_imm imms_encTExposure)) (.cons rfl (ObSub.rows (rows_imm imms_encTExposure)) (.cons rfl (ObSub.rows (rows_imm imms_encTExposure)) .nil))))) rfl)⟩
            · replace h := ite_f hb46 h
              refine awp_region ?_
              refine aops_move (V.own 2 l36.length) wants_none rfl rfl ?_
              refine aops_load_agg (cs := [(sV x39.Advisory), (sV x39.Component), (iV x39.Severity)]) tA47 wants_none rfl rfl rfl rfl rfl rfl ?_
              refine aops_buildSlice [(0, (V.agg [(sV x39.Advisory), (sV x39.Component), (iV x39.Severity)]))] [[(sV x39.Advisory), (sV x39.Component), (iV x39.Severity)]] tEl40 tZ47 rfl rfl rfl rfl wants_none (evp_cons rfl evp_nil) rfl rfl (by simp) rfl ?_
              replace h := chk_some h
              obtain ⟨hc48, h⟩ := h
              refine aops_append [[(sV x39.Advisory), (sV x39.Component), (iV x39.Severity)]] ((l36 ++ ([x39] : List TExposure)).map encTExposure) tEl40 tIsSl40 rfl rfl wants_none rfl rfl (by simp) rfl (.own rfl (by simp)) (map_snoc encTExposure l36 ([x39] : List TExposure)) (List.length_map ..) hc48 rfl ?_
              refine aops_assign (V.own 6 (l36 ++ ([x39] : List TExposure)).length) wants_none rfl rfl ?_
              refine aops_nil ?_
              exact ⟨((l36 ++ ([x39] : List TExposure)), l37), h, (ghost_ren 4 (fun i => ([0, 1, 6, 3] : List Nat).getD i 0) _ _ (by decide) (EnvSub.get (.cons (Sub.ptr rfl rfl) (.cons (Sub.own rfl rfl) (.cons (Sub.own rfl rfl) (.cons (Sub.own rfl rfl) (.cons (Sub.imm (Imm.lst _ _)) (.cons (Sub.imm (Imm.con _)) (.cons (Sub.imm (Imm.con _)) .nil)))))))) (HpSub.get (.cons rfl (ObSub.box (.cons (Sub.imm (Imm.con _)) (.cons (Sub.imm (Imm.con _)) (.cons (Sub.imm (Imm.lst _ _)) .nil)))) (.cons rfl (ObSub.rows (rows_imm imms_encTExposure)) (.cons rfl (ObSub.rows (rows_imm imms_encTExposure)) (.cons rfl (ObSub.rows (rows_imm imms_encTExposure)) .nil))))) rfl)⟩
          · clear h
            rintro ⟨l44, l45⟩ h
            subst hk43
            refine awp_region ?_
            refine aops_bin (.int .i64 (w64 (n35 + 1))) wants_none rfl rfl rfl rfl ?_
            refine aops_move (iV (w64 (n35 + 1))) wants_none rfl rfl ?_
            refine aops_nil ?_
            exact awp_back (ih3 ((w64 (n35 + 1)), l44, l45) (hk3 _ h)) (ghost_ren 4 (fun i => ([0, 1, 2, 3] : List Nat).getD i 0) _ _ (by decide) (EnvSub.get (.cons (Sub.ptr rfl rfl) (.cons (Sub.own rfl rfl) (.cons (Sub.own rfl rfl) (.cons (Sub.own rfl rfl) (.cons (Sub.imm (Imm.lst _ _)) (.cons (Sub.imm (Imm.con _)) (.cons (Sub.imm (Imm.con _)) .nil)))))))) (HpSub.get (.cons rfl (ObSub.box (.cons (Sub.imm (Imm.con _)) (.cons (Sub.imm (Imm.con _)) (.cons (Sub.imm (Imm.lst _ _)) .nil)))) (.cons rfl (ObSub.rows (rows_imm imms_encTExposure)) (.cons rfl (ObSub.rows (rows_imm imms_encTExposure)) (.cons rfl (ObSub.rows (rows_imm imms_encTExposure)) .nil))))) rfl)
        · replace h := RG.f h hb38
          unfold M29_L3 at h
          refine awp_exit ?_
          exact ⟨(l36, l37), h, (ghost_ren 3 (fun i => ([1, 2, 3] : List Nat).getD i 0) _ _ (by decide) (EnvSub.get (.cons (Sub.own rfl rfl) (.cons (Sub.own rfl rfl) (.cons (Sub.own rfl rfl) .nil)))) (HpSub.get (.cons rfl (ObSub.rows (rows_imm imms_encTExposure)) (.cons rfl (ObSub.rows (rows_imm imms_encTExposure)) (.cons rfl (ObSub.rows (rows_imm imms_encTExposure)) .nil)))) rfl)⟩
      · clear h
        rintro ⟨l30, l31⟩ h
        subst hk29
        refine awp_seq ?_
        refine awp_region ?_
        refine aops_move (V.own 0 l14.length) wants_none rfl rfl ?_
        refine aops_move (V.own 1 l30.length) wants_none rfl rfl ?_
        refine aops_move (V.own 2 l31.length) wants_none rfl rfl ?_
        refine aops_assign (V.own 0 l14.length) wants_none rfl rfl ?_
        refine aops_assign (V.own 1 l30.length) wants_none rfl rfl ?_
        refine aops_assign (V.own 2 l31.length) wants_none rfl rfl ?_
        refine aops_assign (iV 0) wants_none rfl rfl ?_
        refine aops_nil ?_
        refine awp_ghost (ghost_frzE 0 4 rfl (rows_imm imms_encTExposure) rfl (List.length_map ..).symm) ?_
        refine awp_ghost (ghost_frzE 1 5 rfl (rows_imm imms_encTExposure) rfl (List.length_map ..).symm) ?_
        refine awp_ghost (ghost_frzE 2 6 rfl (rows_imm imms_encTExposure) rfl (List.length_map ..).symm) ?_
        refine awp_ret ?_
        obtain rfl := Option.some.inj h
        exact ⟨.inl rfl, .four (.tmp rfl (Imm.lst _ _)) (.tmp rfl (Imm.lst _ _)) (.tmp rfl (Imm.lst _ _)) (.tmp rfl (Imm.con _))⟩

theorem W30 (F : Nat) (a1 : (List TExposure)) (a2 : (List TExposure)) (r : Bool) (h : M30 F a1 a2 = some r) : Pure Try.prog 30 [(V.lst 3 (a1.map encTExposure)), (V.lst 3 (a2.map encTExposure))] (bV r) := by
  refine pure_enter Try.func30 rfl rfl (l := [.tmp 4]) rfl rfl [(0, (V.lst 3 (a1.map encTExposure))), (1, (V.lst 3 (a2.map encTExposure)))] rfl (fun w0 m0 => ?_)
  unfold M30 at h
  refine awp_seq ?_
  refine awp_region ?_
  refine aops_assign (bV false) wants_none rfl rfl ?_
  refine aops_nil ?_
  refine awp_seq ?_
  refine awp_seq ?_
  refine awp_region ?_
  refine aops_move (V.lst 3 (a1.map encTExposure)) wants_none rfl rfl ?_
  refine aops_len (n := a1.length) tIsSl40 wants_none rfl (congrArg some (List.length_map ..)) rfl ?_
  refine aops_move (V.lst 3 (a2.map encTExposure)) wants_none rfl rfl ?_
  refine aops_len (n := a2.length) tIsSl40 wants_none rfl (congrArg some (List.length_map ..)) rfl ?_
  refine aops_bin (.bool (((a1.length : Nat) : Int) != ((a2.length : Nat) : Int))) wants_none rfl rfl rfl rfl ?_
  refine aops_nil ?_
  refine awp_cond (((a1.length : Nat) : Int) != ((a2.length : Nat) : Int)) rfl (fun hb3 => ?_) (fun hb3 => ?_)
  · replace h := ite_t hb3 h
    refine awp_seq ?_
    refine awp_region ?_
    refine aops_assign (bV false) wants_none rfl rfl ?_
    refine aops_nil ?_
    refine awp_ret ?_
    obtain rfl := Option.some.inj h
    exact ⟨.inl rfl, .one (.tmp rfl (Imm.con _))⟩
  · replace h := ite_f hb3 h
    refine awp_skip ?_
    refine awp_seq ?_
    refine awp_seq ?_
    refine awp_region ?_
    refine aops_move (V.lst 3 (a1.map encTExposure)) wants_none rfl rfl ?_
    refine aops_len (n := a1.length) tIsSl40 wants_none rfl (congrArg some (List.length_map ..)) rfl ?_
    refine aops_move (iV 0) wants_none rfl rfl ?_
    refine aops_nil ?_
    replace h := jn_elim h
    obtain ⟨k4, hk4, h⟩ := h
    refine awp_cut (fun _ : Unit => (⟨[], [], 0⟩ : St)) (fun _ : Unit => k4 = some r) ?_ ?_
    · clear hk4
      refine awp_block ?_
      refine awp_len (A := a1) 0 rfl (fun hA13 => ?_)
      refine awp_loop_ind (fun (p : Int) => (⟨[(0, (V.lst 3 (a1.map encTExposure))), (1, (V.lst 3 (a2.map encTExposure))), (12, (iV ((a1.length : Nat) : Int))), (13, (iV p))], [], 0⟩ : St)) (fun n (p : Int) => RG a1 (fun tl nn => M30_L1 F a2 k4 tl nn = some r) n p) (fun p h => RG.zero h) (fun n ih1 p h => ?_) (a1.length + 1) 0 (RG.start h) (ghost_ren 0 (fun i => ([] : List Nat).getD i 0) _ _ (by decide) (EnvSub.get (.cons (Sub.imm (Imm.lst _ _)) (.cons (Sub.imm (Imm.lst _ _)) (.cons (Sub.imm (Imm.con _)) (.cons (Sub.imm (Imm.con _)) .nil))))) (HpSub.get .nil) rfl)
      revert p
      intro n6 h
      refine awp_loop ?_
      refine awp_seq ?_
      refine awp_region ?_
      refine aops_bin (.bool (decide (n6 < ((a1.length : Nat) : Int)))) wants_none rfl rfl rfl rfl ?_
      refine aops_nil ?_
      refine awp_seq ?_
      refine awp_cond (decide (n6 < ((a1.length : Nat) : Int))) rfl (fun hb7 => ?_) (fun hb7 => ?_)
      · obtain ⟨x8, tl, hx9, h, hk1⟩ := RG.t hA13 h hb7
        unfold M30_L1 at h
        refine awp_skip ?_
        refine awp_seq ?_
        refine awp_block ?_
        refine awp_seq ?_
        refine awp_region ?_
        refine aops_move (iV n6) wants_none rfl rfl ?_
        refine aops_assign (iV n6) wants_none rfl rfl ?_
        refine aops_nil ?_
        refine awp_seq ?_
        replace h := bind_some h
        obtain ⟨x10, hx11, h⟩ := h
        refine awp_any [OD.mk [(0, (V.lst 3 (a1.map encTExposure)))] [] [(16, (V.lst 3 (a1.map encTExposure)))] [],
              OD.mk [(5, (iV n6))] [] [(17, (iV n6))] [],
              OD.mk [(16, (V.lst 3 (a1.map encTExposure))), (17, (iV n6))] [] [(18, (V.iptr [(sV x8.Advisory), (sV x8.Component), (iV x8.Severity)] 0))] [],
              OD.mk [(18, (V.iptr [(sV x8.Advisory), (sV x8.Component), (iV x8.Severity)] 0))] [] [(19, (V.agg [(sV x8.Advisory), (sV x8.Component), (iV x8.Severity)]))] [],
              OD.mk [(1, (V.lst 3 (a2.map encTExposure)))] [] [(20, (V.lst 3 (a2.map encTExposure)))] [],
              OD.mk [(5, (iV n6))] [] [(21, (iV n6))] [],
              OD.mk [(20, (V.lst 3 (a2.map encTExposure))), (21, (iV n6))] [] [(22, (V.iptr [(sV x10.Advisory), (sV x10.Component), (iV x10.Severity)] 0))] [],
              OD.mk [(22, (V.iptr [(sV x10.Advisory), (sV x10.Component), (iV x10.Severity)] 0))] [] [(23, (V.agg [(sV x10.Advisory), (sV x10.Component), (iV x10.Severity)]))] [],
              OD.mk [(19, (V.agg [(sV x8.Advisory), (sV x8.Component), (iV x8.Severity)])), (23, (V.agg [(sV x10.Advisory), (sV x10.Component), (iV x10.Severity)]))] [] [(24, (bV (!(decide (x8 = x10)))))] []] mixed ⟨⟨rfl, trivial⟩, trivial, ⟨⟨rfl, trivial⟩, trivial, ⟨⟨rfl, rfl, trivial⟩, trivial, ⟨⟨rfl, trivial⟩, trivial, ⟨⟨rfl, trivial⟩, trivial, ⟨⟨rfl, trivial⟩, trivial, ⟨⟨rfl, rfl, trivial⟩, trivial, ⟨⟨rfl, trivial⟩, trivial, ⟨⟨rfl, rfl, trivial⟩, trivial, trivial⟩⟩⟩⟩⟩⟩⟩⟩⟩ (by kernel_rfl) (.cons (fun S hn h hh => aops_move (V.lst 3 (a1.map encTExposure)) wants_none h.1 rfl (aops_nil ⟨rfl, rfl⟩)) (.cons (fun S hn h hh => aops_move (iV n6) wants_none h.1 rfl (aops_nil ⟨rfl, rfl⟩)) (.cons (fun S hn h hh => aops_index_lst [(sV x8.Advisory), (sV x8.Component), (iV x8.Severity)] tSl40 wants_none h.1 h.2.1 (idx_some hx9).1 (idx_map encTExposure hx9) rfl (aops_nil ⟨rfl, rfl⟩)) (.cons (fun S hn h hh => aops_iload_agg (cs := [(sV x8.Advisory), (sV x8.Component), (iV x8.Severity)]) tA47 wants_none h.1 rfl rfl rfl (aops_nil ⟨rfl, rfl⟩)) (.cons (fun S hn h hh => aops_move (V.lst 3 (a2.map encTExposure)) wants_none h.1 rfl (aops_nil ⟨rfl, rfl⟩)) (.cons (fun S hn h hh => aops_move (iV n6) wants_none h.1 rfl (aops_nil ⟨rfl, rfl⟩)) (.cons (fun S hn h hh => aops_index_lst [(sV x10.Advisory), (sV x10.Component), (iV x10.Severity)] tSl40 wants_none h.1 h.2.1 (idx_some hx11).1 (idx_map encTExposure hx11) rfl (aops_nil ⟨rfl, rfl⟩)) (.cons (fun S hn h hh => aops_iload_agg (cs := [(sV x10.Advisory), (sV x10.Component), (iV x10.Severity)]) tA47 wants_none h.1 rfl rfl rfl (aops_nil ⟨rfl, rfl⟩)) (.cons (fun S hn h hh => aops_eqS true (xs := cv47 x8) (ys := cv47 x10) (b := (decide (x8 = x10))) eqk47 ⟨_, rfl⟩ ⟨_, rfl⟩ (eq_b cv47 _ _ (inj_cv47 _ _)) tEqG47 wants_none h.1 h.2.1 rfl (aops_nil ⟨rfl, rfl⟩)) .nil))))))))) ?_
        refine awp_cond (!(decide (x8 = x10))) rfl (fun hb12 => ?_) (fun hb12 => ?_)
        · replace h := ite_t hb12 h
          refine awp_seq ?_
          refine awp_region ?_
          refine aops_assign (bV false) wants_none rfl rfl ?_
          refine aops_nil ?_
          refine awp_ret ?_
          obtain rfl := Option.some.inj h
          exact ⟨.inl rfl, .one (.tmp rfl (Imm.con _))⟩
        · replace h := ite_f hb12 h
          refine awp_skip ?_
          refine awp_region ?_
          refine aops_bin (.int .i64 (w64 (n6 + 1))) wants_none rfl rfl rfl rfl ?_
          refine aops_move (iV (w64 (n6 + 1))) wants_none rfl rfl ?_
          refine aops_nil ?_
          exact awp_back (ih1 (w64 (n6 + 1)) (hk1 _ h)) (ghost_ren 0 (fun i => ([] : List Nat).getD i 0) _ _ (by decide) (EnvSub.get (.cons (Sub.imm (Imm.lst _ _)) (.cons (Sub.imm (Imm.lst _ _)) (.cons (Sub.imm (Imm.con _)) (.cons (Sub.imm (Imm.con _)) .nil))))) (HpSub.get .nil) rfl)
      · replace h := RG.f h hb7
        unfold M30_L1 at h
        refine awp_exit ?_
        exact ⟨(), h, (ghost_ren 0 (fun i => ([] : List Nat).getD i 0) _ _ (by decide) (EnvSub.get .nil) (HpSub.get .nil) rfl)⟩
    · clear h
      intro _ h
      subst hk4
      refine awp_seq ?_
      refine awp_region ?_
      refine aops_assign (bV true) wants_none rfl rfl ?_
      refine aops_nil ?_
      refine awp_ret ?_
      obtain rfl := Option.some.inj h
      exact ⟨.inl rfl, .one (.tmp rfl (Imm.con _))⟩

theorem W6 (F : Nat) (a1 : TRelease) (a2 : TRelease) (r : Bool) (h : M6 F a1 a2 = some r) : Pure Try.prog 6 [(V.agg [(sV a1.Version), (iV a1.Day), (V.lst 3 (a1.Exposures.map encTExposure))]), (V.agg [(sV a2.Version), (iV a2.Day), (V.lst 3 (a2.Exposures.map encTExposure))])] (bV r) := by
  refine pure_enter Try.func6 rfl rfl (l := [.tmp 4]) rfl rfl [(0, (V.agg [(sV a1.Version), (iV a1.Day), (V.lst 3 (a1.Exposures.map encTExposure))])), (1, (V.agg [(sV a2.Version), (iV a2.Day), (V.lst 3 (a2.Exposures.map encTExposure))]))] rfl (fun w0 m0 => ?_)
  unfold M6 at h
  refine awp_seq ?_
  refine awp_region ?_
  refine aops_box [(sV a1.Version), (iV a1.Day), (V.lst 3 (a1.Exposures.map encTExposure))] wants_none rfl rfl rfl rfl ?_
  refine aops_box [(sV a2.Version), (iV a2.Day), (V.lst 3 (a2.Exposures.map encTExposure))] wants_none rfl rfl rfl rfl ?_
  refine aops_assign (bV false) wants_none rfl rfl ?_
  refine aops_nil ?_
  refine awp_seq ?_
  refine awp_region ?_
  refine aops_load_agg (cs := [(sV a1.Version), (iV a1.Day), (V.lst 3 (a1.Exposures.map encTExposure))]) tA42 wants_none rfl rfl rfl rfl rfl rfl ?_
  refine aops_load_agg (cs := [(sV a2.Version), (iV a2.Day), (V.lst 3 (a2.Exposures.map encTExposure))]) tA42 wants_none rfl rfl rfl rfl rfl rfl ?_
  replace h := bind_some h
  obtain ⟨y3, hx4, h⟩ := h
  refine aops_call (V.tup [(V.lst 3 ((y3.1).map encTExposure)), (V.lst 3 ((y3.2.1).map encTExposure)), (V.lst 3 ((y3.2.2.1).map encTExposure)), (iV (y3.2.2.2))]) [(V.agg [(sV a1.Version), (iV a1.Day), (V.lst 3 (a1.Exposures.map encTExposure))]), (V.agg [(sV a2.Version), (iV a2.Day), (V.lst 3 (a2.Exposures.map encTExposure))])] fOk28 wants_none (evm_cons rfl (evm_cons rfl evm_nil)) (.cons (Imm.agg (.cons (Imm.con _) (.cons (Imm.con _) (.cons (Imm.lst _ _) .nil)))) (.cons (Imm.agg (.cons (Imm.con _) (.cons (Imm.con _) (.cons (Imm.lst _ _) .nil)))) .nil)) (W28 F a1 a2 y3 hx4) rfl ?_
  refine aops_move (V.tup [(V.lst 3 ((y3.1).map encTExposure)), (V.lst 3 ((y3.2.1).map encTExposure)), (V.lst 3 ((y3.2.2.1).map encTExposure)), (iV (y3.2.2.2))]) wants_none rfl rfl ?_
  refine aops_extract (V.lst 3 ((y3.1).map encTExposure)) wants_none rfl rfl rfl ?_
  refine aops_extract (V.lst 3 ((y3.2.1).map encTExposure)) wants_none rfl rfl rfl ?_
  refine aops_extract (V.lst 3 ((y3.2.2.1).map encTExposure)) wants_none rfl rfl rfl ?_
  refine aops_extract (iV (y3.2.2.2)) wants_none rfl rfl rfl ?_
  refine aops_assign (V.lst 3 ((y3.1).map encTExposure)) wants_none rfl rfl ?_
  refine aops_assign (V.lst 3 ((y3.2.1).map encTExposure)) wants_none rfl rfl ?_
  refine aops_assign (V.lst 3 ((y3.2.2.1).map encTExposure)) wants_none rfl rfl ?_
  refine aops_assign (iV (y3.2.2.2)) wants_none rfl rfl ?_
  refine aops_nil ?_
  refine awp_seq ?_
  refine awp_region ?_
  refine aops_load_agg (cs := [(sV a1.Version), (iV a1.Day), (V.lst 3 (a1.Exposures.map encTExposure))]) tA42 wants_none rfl rfl rfl rfl rfl rfl ?_
  refine aops_load_agg (cs := [(sV a2.Version), (iV a2.Day), (V.lst 3 (a2.Exposures.map encTExposure))]) tA42 wants_none rfl rfl rfl rfl rfl rfl ?_
  replace h := bind_some h
  obtain ⟨y5, hx6, h⟩ := h
  refine aops_call (V.tup [(V.lst 3 ((y5.1).map encTExposure)), (V.lst 3 ((y5.2.1).map encTExposure)), (V.lst 3 ((y5.2.2.1).map encTExposure)), (iV (y5.2.2.2))]) [(V.agg [(sV a1.Version), (iV a1.Day), (V.lst 3 (a1.Exposures.map encTExposure))]), (V.agg [(sV a2.Version), (iV a2.Day), (V.lst 3 (a2.Exposures.map encTExposure))])] fOk29 wants_none (evm_cons rfl (evm_cons rfl evm_nil)) (.cons (Imm.agg (.cons (Imm.con _) (.cons (Imm.con _) (.cons (Imm.lst _ _) .nil)))) (.cons (Imm.agg (.cons (Imm.con _) (.cons (Imm.con _) (.cons (Imm.lst _ _) .nil)))) .nil)) (W29 F a1 a2 y5 hx6) rfl ?_
  refine aops_move (V.tup [(V.lst 3 ((y5.1).map encTExposure)), (V.lst 3 ((y5.2.1).map encTExposure)), (V.lst 3 ((y5.2.2.1).map encTExposure)), (iV (y5.2.2.2))]) wants_none rfl rfl ?_
  refine aops_extract (V.lst 3 ((y5.1).map encTExposure)) wants_none rfl rfl rfl ?_
  refine aops_extract (V.lst 3 ((y5.2.1).map encTExposure)) wants_none rfl rfl rfl ?_
  refine aops_extract (V.lst 3 ((y5.2.2.1).map encTExposure)) wants_none rfl rfl rfl ?_
  refine aops_extract (iV (y5.2.2.2)) wants_none rfl rfl rfl ?_
  refine aops_assign (V.lst 3 ((y5.1).map encTExposure)) wants_none rfl rfl ?_
  refine aops_assign (V.lst 3 ((y5.2.1).map encTExposure)) wants_none rfl rfl ?_
  refine aops_assign (V.lst 3 ((y5.2.2.1).map encTExposure)) wants_none rfl rfl ?_
  refine aops_assign (iV (y5.2.2.2)) wants_none rfl rfl ?_
  refine aops_nil ?_
  refine awp_seq ?_
  refine awp_seq ?_
  refine awp_region ?_
  refine aops_move (V.lst 3 ((y3.1).map encTExposure)) wants_none rfl rfl ?_
  refine aops_move (V.lst 3 ((y5.1).map encTExposure)) wants_none rfl rfl ?_
  replace h := bind_some h
  obtain ⟨y7, hx8, h⟩ := h
  refine aops_call (bV y7) [(V.lst 3 ((y3.1).map encTExposure)), (V.lst 3 ((y5.1).map encTExposure))] fOk30 wants_none (evm_cons rfl (evm_cons rfl evm_nil)) (.cons (Imm.lst _ _) (.cons (Imm.lst _ _) .nil)) (W30 F (y3.1) (y5.1) y7 hx8) rfl ?_
  refine aops_not wants_none rfl rfl ?_
  refine aops_move (bV (!y7)) wants_none rfl rfl ?_
  rcases Bool.eq_false_or_eq_true (!y7) with hb9 | hb9
  · replace h := ite_t hb9 h
    refine aops_skip (wants_some (c := (!y7)) (b := true) 37 rfl rfl hb9) rfl rfl ?_
    refine aops_skip (wants_some (c := (!y7)) (b := true) 37 rfl rfl hb9) rfl rfl ?_
    refine aops_skip (wants_some (c := (!y7)) (b := true) 37 rfl rfl hb9) rfl rfl ?_
    refine aops_skip (wants_some (c := (!y7)) (b := true) 37 rfl rfl hb9) rfl rfl ?_
    refine aops_pick true (cb := (!y7)) (bV true) wants_none rfl hb9 rfl rfl ?_
    refine aops_move (bV true) wants_none rfl rfl ?_
    refine aops_skip (wants_some (c := true) (b := true) 43 rfl rfl rfl) rfl rfl ?_
    refine aops_skip (wants_some (c := true) (b := true) 43 rfl rfl rfl) rfl rfl ?_
    refine aops_skip (wants_some (c := true) (b := true) 43 rfl rfl rfl) rfl rfl ?_
    refine aops_skip (wants_some (c := true) (b := true) 43 rfl rfl rfl) rfl rfl ?_
    refine aops_pick true (cb := true) (bV true) wants_none rfl rfl rfl rfl ?_
    refine aops_move (bV true) wants_none rfl rfl ?_
    refine aops_skip (wants_some (c := true) (b := true) 49 rfl rfl rfl) rfl rfl ?_
    refine aops_skip (wants_some (c := true) (b := true) 49 rfl rfl rfl) rfl rfl ?_
    refine aops_skip (wants_some (c := true) (b := true) 49 rfl rfl rfl) rfl rfl ?_
    refine aops_pick true (cb := true) (bV true) wants_none rfl rfl rfl rfl ?_
    refine aops_nil ?_
    refine awp_cond_t rfl rfl ?_
    refine awp_seq ?_
    refine awp_region ?_
    refine aops_assign (bV false) wants_none rfl rfl ?_
    refine aops_nil ?_
    refine awp_ret ?_
    obtain rfl := Option.some.inj h
    exact ⟨.inl rfl, .one (.tmp rfl (Imm.con _))⟩
  · replace h := ite_f hb9 h
    refine aops_move (V.lst 3 ((y3.2.1).map encTExposure)) (wants_some (c := (!y7)) (b := false) 37 rfl rfl hb9) rfl rfl ?_
    refine aops_move (V.lst 3 ((y5.2.1).map encTExposure)) (wants_some (c := (!y7)) (b := false) 37 rfl rfl hb9) rfl rfl ?_
    replace h := bind_some h
    obtain ⟨y10, hx11, h⟩ := h
    refine aops_call (bV y10) [(V.lst 3 ((y3.2.1).map encTExposure)), (V.lst 3 ((y5.2.1).map encTExposure))] fOk30 (wants_some (c := (!y7)) (b := false) 37 rfl rfl hb9) (evm_cons rfl (evm_cons rfl evm_nil)) (.cons (Imm.lst _ _) (.cons (Imm.lst _ _) .nil)) (W30 F (y3.2.1) (y5.2.1) y10 hx11) rfl ?_
    refine aops_not (wants_some (c := (!y7)) (b := false) 37 rfl rfl hb9) rfl rfl ?_
    refine aops_pick false (cb := (!y7)) (bV (!y10)) wants_none rfl hb9 rfl rfl ?_
    refine aops_move (bV (!y10)) wants_none rfl rfl ?_
    rcases Bool.eq_false_or_eq_true (!y10) with hb12 | hb12
    · replace h := ite_t hb12 h
      refine aops_skip (wants_some (c := (!y10)) (b := true) 43 rfl rfl hb12) rfl rfl ?_
      refine aops_skip (wants_some (c := (!y10)) (b := true) 43 rfl rfl hb12) rfl rfl ?_
      refine aops_skip (wants_some (c := (!y10)) (b := true) 43 rfl rfl hb12) rfl rfl ?_
      refine aops_skip (wants_some (c := (!y10)) (b := true) 43 rfl rfl hb12) rfl rfl ?_
      refine aops_pick true (cb := (!y10)) (bV true) wants_none rfl hb12 rfl rfl ?_
      refine aops_move (bV true) wants_none rfl rfl ?_
      refine aops_skip (wants_some (c := true) (b := true) 49 rfl rfl rfl) rfl rfl ?_
      refine aops_skip (wants_some (c := true) (b := true) 49 rfl rfl rfl) rfl rfl ?_
      refine aops_skip (wants_some (c := true) (b := true) 49 rfl rfl rfl) rfl rfl ?_
      refine aops_pick true (cb := true) (bV true) wants_none rfl rfl rfl rfl ?_
      refine aops_nil ?_
      refine awp_cond_t rfl rfl ?_
      refine awp_seq ?_
      refine awp_region ?_
      refine aops_assign (bV false) wants_none rfl rfl ?_
      refine aops_nil ?_
      refine awp_ret ?_
      obtain rfl := Option.some.inj h
      exact ⟨.inl rfl, .one (.tmp rfl (Imm.con _))⟩
    · replace h := ite_f hb12 h
      refine aops_move (V.lst 3 ((y3.2.2.1).map encTExposure)) (wants_some (c := (!y10)) (b := false) 43 rfl rfl hb12) rfl rfl ?_
      refine aops_move (V.lst 3 ((y5.2.2.1).map encTExposure)) (wants_some (c := (!y10)) (b := false) 43 rfl rfl hb12) rfl rfl ?_
      replace h := bind_some h
      obtain ⟨y13, hx14, h⟩ := h
      refine aops_call (bV y13) [(V.lst 3 ((y3.2.2.1).map encTExposure)), (V.lst 3 ((y5.2.2.1).map encTExposure))] fOk30 (wants_some (c := (!y10)) (b := false) 43 rfl rfl hb12) (evm_cons rfl (evm_cons rfl evm_nil)) (.cons (Imm.lst _ _) (.cons (Imm.lst _ _) .nil)) (W30 F (y3.2.2.1) (y5.2.2.1) y13 hx14) rfl ?_
      refine aops_not (wants_some (c := (!y10)) (b := false) 43 rfl rfl hb12) rfl rfl ?_
      refine aops_pick false (cb := (!y10)) (bV (!y13)) wants_none rfl hb12 rfl rfl ?_
      refine aops_move (bV (!y13)) wants_none rfl rfl ?_
      rcases Bool.eq_false_or_eq_true (!y13) with hb15 | hb15
      · replace h := ite_t hb15 h
        refine aops_skip (wants_some (c := (!y13)) (b := true) 49 rfl rfl hb15) rfl rfl ?_
        refine aops_skip (wants_some (c := (!y13)) (b := true) 49 rfl rfl hb15) rfl rfl ?_
        refine aops_skip (wants_some (c := (!y13)) (b := true) 49 rfl rfl hb15) rfl rfl ?_
        refine aops_pick true (cb := (!y13)) (bV true) wants_none rfl hb15 rfl rfl ?_
        refine aops_nil ?_
        refine awp_cond_t rfl rfl ?_
        refine awp_seq ?_
        refine awp_region ?_
        refine aops_assign (bV false) wants_none rfl rfl ?_
        refine aops_nil ?_
        refine awp_ret ?_
        obtain rfl := Option.some.inj h
        exact ⟨.inl rfl, .one (.tmp rfl (Imm.con _))⟩
      · replace h := ite_f hb15 h
        refine aops_move (iV (y3.2.2.2)) (wants_some (c := (!y13)) (b := false) 49 rfl rfl hb15) rfl rfl ?_
        refine aops_move (iV (y5.2.2.2)) (wants_some (c := (!y13)) (b := false) 49 rfl rfl hb15) rfl rfl ?_
        refine aops_bin (.bool ((y3.2.2.2) != (y5.2.2.2))) (wants_some (c := (!y13)) (b := false) 49 rfl rfl hb15) rfl rfl rfl rfl ?_
        refine aops_pick false (cb := (!y13)) (bV ((y3.2.2.2) != (y5.2.2.2))) wants_none rfl hb15 rfl rfl ?_
        refine aops_nil ?_
        refine awp_cond ((y3.2.2.2) != (y5.2.2.2)) rfl (fun hb16 => ?_) (fun hb16 => ?_)
        · replace h := ite_t hb16 h
          refine awp_seq ?_
          refine awp_region ?_
          refine aops_assign (bV false) wants_none rfl rfl ?_
          refine aops_nil ?_
          refine awp_ret ?_
          obtain rfl := Option.some.inj h
          exact ⟨.inl rfl, .one (.tmp rfl (Imm.con _))⟩
        · replace h := ite_f hb16 h
          refine awp_skip ?_
          refine awp_seq ?_
          refine awp_seq ?_
          refine awp_region ?_
          refine aops_move (iV (y3.2.2.2)) wants_none rfl rfl ?_
          refine aops_bin (.bool ((y3.2.2.2) == 0)) wants_none rfl rfl rfl rfl ?_
          refine aops_nil ?_
          replace h := jn_elim h
          obtain ⟨k17, hk17, h⟩ := h
          refine awp_cut (fun _ : Unit => (⟨[], [], 0⟩ : St)) (fun _ : Unit => k17 = some r) ?_ ?_
          · clear hk17
            refine awp_cond ((y3.2.2.2) == 0) rfl (fun hb18 => ?_) (fun hb18 => ?_)
            · replace h := ite_t hb18 h
              refine awp_seq ?_
              refine awp_region ?_
              refine aops_load_agg (cs := [(sV a2.Version), (iV a2.Day), (V.lst 3 (a2.Exposures.map encTExposure))]) tA42 wants_none rfl rfl rfl rfl rfl rfl ?_
              refine aops_load_agg (cs := [(sV a1.Version), (iV a1.Day), (V.lst 3 (a1.Exposures.map encTExposure))]) tA42 wants_none rfl rfl rfl rfl rfl rfl ?_
              replace h := bind_some h
              obtain ⟨y19, hx20, h⟩ := h
              refine aops_call (V.tup [(V.lst 3 ((y19.1).map encTExposure)), (V.lst 3 ((y19.2.1).map encTExposure)), (V.lst 3 ((y19.2.2.1).map encTExposure)), (iV (y19.2.2.2))]) [(V.agg [(sV a2.Version), (iV a2.Day), (V.lst 3 (a2.Exposures.map encTExposure))]), (V.agg [(sV a1.Version), (iV a1.Day), (V.lst 3 (a1.Exposures.map encTExposure))])] fOk28 wants_none (evm_cons rfl (evm_cons rfl evm_nil)) (.cons (Imm.agg (.cons (Imm.con _) (.cons (Imm.con _) (.cons (Imm.lst _ _) .nil)))) (.cons (Imm.agg (.cons (Imm.con _) (.cons (Imm.con _) (.cons (Imm.lst _ _) .nil)))) .nil)) (W28 F a2 a1 y19 hx20) rfl ?_
              refine aops_move (V.tup [(V.lst 3 ((y19.1).map encTExposure)), (V.lst 3 ((y19.2.1).map encTExposure)), (V.lst 3 ((y19.2.2.1).map encTExposure)), (iV (y19.2.2.2))]) wants_none rfl rfl ?_
              refine aops_extract (V.lst 3 ((y19.1).map encTExposure)) wants_none rfl rfl rfl ?_
              refine aops_extract (V.lst 3 ((y19.2.1).map encTExposure)) wants_none rfl rfl rfl ?_
              refine aops_extract (V.lst 3 ((y19.2.2.1).map encTExposure)) wants_none rfl rfl rfl ?_
              refine aops_extract (iV (y19.2.2.2)) wants_none rfl rfl rfl ?_
              refine aops_assign (V.lst 3 ((y19.1).map encTExposure)) wants_none rfl rfl ?_
              refine aops_assign (V.lst 3 ((y19.2.1).map encTExposure)) wants_none rfl rfl ?_
              refine aops_assign (V.lst 3 ((y19.2.2.1).map encTExposure)) wants_none rfl rfl ?_
              refine aops_assign (iV (y19.2.2.2)) wants_none rfl rfl ?_
              refine aops_nil ?_
              refine awp_seq ?_
              refine awp_region ?_
              refine aops_move (iV (y19.2.2.2)) wants_none rfl rfl ?_
              refine aops_bin (.bool ((y19.2.2.2) != 0)) wants_none rfl rfl rfl rfl ?_
              refine aops_move (bV ((y19.2.2.2) != 0)) wants_none rfl rfl ?_
              rcases Bool.eq_false_or_eq_true ((y19.2.2.2) != 0) with hb21 | hb21
              · replace h := ite_t hb21 h
                refine aops_skip (wants_some (c := ((y19.2.2.2) != 0)) (b := true) 66 rfl rfl hb21) rfl rfl ?_
                refine aops_skip (wants_some (c := ((y19.2.2.2) != 0)) (b := true) 66 rfl rfl hb21) rfl rfl ?_
                refine aops_skip (wants_some (c := ((y19.2.2.2) != 0)) (b := true) 66 rfl rfl hb21) rfl rfl ?_
                refine aops_skip (wants_some (c := ((y19.2.2.2) != 0)) (b := true) 66 rfl rfl hb21) rfl rfl ?_
                refine aops_pick true (cb := ((y19.2.2.2) != 0)) (bV true) wants_none rfl hb21 rfl rfl ?_
                refine aops_move (bV true) wants_none rfl rfl ?_
                refine aops_skip (wants_some (c := true) (b := true) 72 rfl rfl rfl) rfl rfl ?_
                refine aops_skip (wants_some (c := true) (b := true) 72 rfl rfl rfl) rfl rfl ?_
                refine aops_skip (wants_some (c := true) (b := true) 72 rfl rfl rfl) rfl rfl ?_
                refine aops_skip (wants_some (c := true) (b := true) 72 rfl rfl rfl) rfl rfl ?_
                refine aops_pick true (cb := true) (bV true) wants_none rfl rfl rfl rfl ?_
                refine aops_move (bV true) wants_none rfl rfl ?_
                refine aops_skip (wants_some (c := true) (b := true) 78 rfl rfl rfl) rfl rfl ?_
                refine aops_skip (wants_some (c := true) (b := true) 78 rfl rfl rfl) rfl rfl ?_
                refine aops_skip (wants_some (c := true) (b := true) 78 rfl rfl rfl) rfl rfl ?_
                refine aops_skip (wants_some (c := true) (b := true) 78 rfl rfl rfl) rfl rfl ?_
                refine aops_skip (wants_some (c := true) (b := true) 78 rfl rfl rfl) rfl rfl ?_
                refine aops_pick true (cb := true) (bV true) wants_none rfl rfl rfl rfl ?_
                refine aops_nil ?_
                refine awp_cond_t rfl rfl ?_
                refine awp_seq ?_
                refine awp_region ?_
                refine aops_assign (bV false) wants_none rfl rfl ?_
                refine aops_nil ?_
                refine awp_ret ?_
                obtain rfl := Option.some.inj h
                exact ⟨.inl rfl, .one (.tmp rfl (Imm.con _))⟩
              · replace h := ite_f hb21 h
                refine aops_move (V.lst 3 ((y19.1).map encTExposure)) (wants_some (c := ((y19.2.2.2) != 0)) (b := false) 66 rfl rfl hb21) rfl rfl ?_
                refine aops_move (V.lst 3 ((y3.2.1).map encTExposure)) (wants_some (c := ((y19.2.2.2) != 0)) (b := false) 66 rfl rfl hb21) rfl rfl ?_
                replace h := bind_some h
                obtain ⟨y22, hx23, h⟩ := h
                refine aops_call (bV y22) [(V.lst 3 ((y19.1).map encTExposure)), (V.lst 3 ((y3.2.1).map encTExposure))] fOk30 (wants_some (c := ((y19.2.2.2) != 0)) (b := false) 66 rfl rfl hb21) (evm_cons rfl (evm_cons rfl evm_nil)) (.cons (Imm.lst _ _) (.cons (Imm.lst _ _) .nil)) (W30 F (y19.1) (y3.2.1) y22 hx23) rfl ?_
                refine aops_not (wants_some (c := ((y19.2.2.2) != 0)) (b := false) 66 rfl rfl hb21) rfl rfl ?_
                refine aops_pick false (cb := ((y19.2.2.2) != 0)) (bV (!y22)) wants_none rfl hb21 rfl rfl ?_
                refine aops_move (bV (!y22)) wants_none rfl rfl ?_
                rcases Bool.eq_false_or_eq_true (!y22) with hb24 | hb24
                · replace h := ite_t hb24 h
                  refine aops_skip (wants_some (c := (!y22)) (b := true) 72 rfl rfl hb24) rfl rfl ?_
                  refine aops_skip (wants_some (c := (!y22)) (b := true) 72 rfl rfl hb24) rfl rfl ?_
                  refine aops_skip (wants_some (c := (!y22)) (b := true) 72 rfl rfl hb24) rfl rfl ?_
                  refine aops_skip (wants_some (c := (!y22)) (b := true) 72 rfl rfl hb24) rfl rfl ?_
                  refine aops_pick true (cb := (!y22)) (bV true) wants_none rfl hb24 rfl rfl ?_
                  refine aops_move (bV true) wants_none rfl rfl ?_
                  refine aops_skip (wants_some (c := true) (b := true) 78 rfl rfl rfl) rfl rfl ?_
                  refine aops_skip (wants_some (c := true) (b := true) 78 rfl rfl rfl) rfl rfl ?_
                  refine aops_skip (wants_some (c := true) (b := true) 78 rfl rfl rfl) rfl rfl ?_
                  refine aops_skip (wants_some (c := true) (b := true) 78 rfl rfl rfl) rfl rfl ?_
                  refine aops_skip (wants_some (c := true) (b := true) 78 rfl rfl rfl) rfl rfl ?_
                  refine aops_pick true (cb := true) (bV true) wants_none rfl rfl rfl rfl ?_
                  refine aops_nil ?_
                  refine awp_cond_t rfl rfl ?_
                  refine awp_seq ?_
                  refine awp_region ?_
                  refine aops_assign (bV false) wants_none rfl rfl ?_
                  refine aops_nil ?_
                  refine awp_ret ?_
                  obtain rfl := Option.some.inj h
                  exact ⟨.inl rfl, .one (.tmp rfl (Imm.con _))⟩
                · replace h := ite_f hb24 h
                  refine aops_move (V.lst 3 ((y19.2.1).map encTExposure)) (wants_some (c := (!y22)) (b := false) 72 rfl rfl hb24) rfl rfl ?_
                  refine aops_move (V.lst 3 ((y3.1).map encTExposure)) (wants_some (c := (!y22)) (b := false) 72 rfl rfl hb24) rfl rfl ?_
                  replace h := bind_some h
                  obtain ⟨y25, hx26, h⟩ := h
                  refine aops_call (bV y25) [(V.lst 3 ((y19.2.1).map encTExposure)), (V.lst 3 ((y3.1).map encTExposure))] fOk30 (wants_some (c := (!y22)) (b := false) 72 rfl rfl hb24) (evm_cons rfl (evm_cons rfl evm_nil)) (.cons (Imm.lst _ _) (.cons (Imm.lst _ _) .nil)) (W30 F (y19.2.1) (y3.1) y25 hx26) rfl ?_
                  refine aops_not (wants_some (c := (!y22)) (b := false) 72 rfl rfl hb24) rfl rfl ?_
                  refine aops_pick false (cb := (!y22)) (bV (!y25)) wants_none rfl hb24 rfl rfl ?_
                  refine aops_move (bV (!y25)) wants_none rfl rfl ?_
                  rcases Bool.eq_false_or_eq_true (!y25) with hb27 | hb27
                  · replace h := ite_t hb27 h
                    refine aops_skip (wants_some (c := (!y25)) (b := true) 78 rfl rfl hb27) rfl rfl ?_
                    refine aops_skip (wants_some (c := (!y25)) (b := true) 78 rfl rfl hb27) rfl rfl ?_
                    refine aops_skip (wants_some (c := (!y25)) (b := true) 78 rfl rfl hb27) rfl rfl ?_
                    refine aops_skip (wants_some (c := (!y25)) (b := true) 78 rfl rfl hb27) rfl rfl ?_
                    refine aops_skip (wants_some (c := (!y25)) (b := true) 78 rfl rfl hb27) rfl rfl ?_
                    refine aops_pick true (cb := (!y25)) (bV true) wants_none rfl hb27 rfl rfl ?_
                    refine aops_nil ?_
                    refine awp_cond_t rfl rfl ?_
                    refine awp_seq ?_
                    refine awp_region ?_
                    refine aops_assign (bV false) wants_none rfl rfl ?_
                    refine aops_nil ?_
                    refine awp_ret ?_
                    obtain rfl := Option.some.inj h
                    exact ⟨.inl rfl, .one (.tmp rfl (Imm.con _))⟩
                  · replace h := ite_f hb27 h
                    refine aops_move (V.lst 3 ((y19.2.2.1).map encTExposure)) (wants_some (c := (!y25)) (b := false) 78 rfl rfl hb27) rfl rfl ?_
                    refine aops_len (n := (y19.2.2.1).length) tIsSl40 (wants_some (c := (!y25)) (b := false) 78 rfl rfl hb27) rfl (congrArg some (List.length_map ..)) rfl ?_
                    refine aops_move (V.lst 3 ((y3.2.2.1).map encTExposure)) (wants_some (c := (!y25)) (b := false) 78 rfl rfl hb27) rfl rfl ?_
                    refine aops_len (n := (y3.2.2.1).length) tIsSl40 (wants_some (c := (!y25)) (b := false) 78 rfl rfl hb27) rfl (congrArg some (List.length_map ..)) rfl ?_
                    refine aops_bin (.bool ((((y19.2.2.1).length : Nat) : Int) != (((y3.2.2.1).length : Nat) : Int))) (wants_some (c := (!y25)) (b := false) 78 rfl rfl hb27) rfl rfl rfl rfl ?_
                    refine aops_pick false (cb := (!y25)) (bV ((((y19.2.2.1).length : Nat) : Int) != (((y3.2.2.1).length : Nat) : Int))) wants_none rfl hb27 rfl rfl ?_
                    refine aops_nil ?_
                    refine awp_cond ((((y19.2.2.1).length : Nat) : Int) != (((y3.2.2.1).length : Nat) : Int)) rfl (fun hb28 => ?_) (fun hb28 => ?_)
                    · replace h := ite_t hb28 h
                      refine awp_seq ?_
                      refine awp_region ?_
                      refine aops_assign (bV false) wants_none rfl rfl ?_
                      refine aops_nil ?_
                      refine awp_ret ?_
                      obtain rfl := Option.some.inj h
                      exact ⟨.inl rfl, .one (.tmp rfl (Imm.con _))⟩
                    · replace h := ite_f hb28 h
                      refine awp_skip ?_
                      exact ⟨(), h, (ghost_ren 0 (fun i => ([] : List Nat).getD i 0) _ _ (by decide) (EnvSub.get .nil) (HpSub.get .nil) rfl)⟩
            · replace h := ite_f hb18 h
              refine awp_skip ?_
              exact ⟨(), h, (ghost_ren 0 (fun i => ([] : List Nat).getD i 0) _ _ (by decide) (EnvSub.get .nil) (HpSub.get .nil) rfl)⟩
          · clear h
            intro _ h
            subst hk17
            refine awp_seq ?_
            refine awp_region ?_
            replace h := bind_some h
            obtain ⟨y29, hx30, h⟩ := h
            refine aops_call (bV y29) [] fOk23 wants_none evm_nil .nil (W23 F  y29 hx30) rfl ?_
            refine aops_assign (bV y29) wants_none rfl rfl ?_
            refine aops_nil ?_
            refine awp_ret ?_
            obtain rfl := Option.some.inj h
            exact ⟨.inl rfl, .one (.tmp rfl (Imm.con _))⟩

end Go.Proofs.Ytkciogeafbbggaa
