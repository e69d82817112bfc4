/- Part of the proof: HW6a. -/
import Derived.Test.YtkciogeafbbggaaJHM
import Derived.Test.YtkciogeafbbggaaJHW3a
import Derived.KernelRfl
namespace Go.Proofs.Ytkciogeafbbggaa
open Go Go.Pv
set_option linter.unusedVariables false
set_option maxRecDepth 100000
theorem W131 (F : Nat) (a1 : (List UInt8)) (r : Bool) (h : M131 F a1 = some r) : Pure Try.prog 131 [(sV a1)] (bV r) := by
  refine pure_enter Try.func131 rfl rfl (l := [.tmp 2]) rfl rfl [(0, (sV a1))] rfl (fun w0 m0 => ?_)
  unfold M131 at h
  refine sr ?_
  refine aa (bV false) rfl rfl ?_
  refine an ?_
  refine sq ?_
  refine sr ?_
  refine am (sV a1) rfl rfl ?_
  refine aops_lenT tStr9 wants_none rfl rfl ?_
  refine am (iV 0) rfl rfl ?_
  refine an ?_
  replace h := jn_elim h
  obtain ⟨k2, hk2, h⟩ := h
  refine awp_cut (fun _ : Unit => (⟨[(0, (sV a1))], [], 0⟩ : St)) (fun _ : Unit => k2 = some r) ?_ ?_
  · clear hk2
    refine awp_block ?_
    replace h := chk_some h
    obtain ⟨hA12, h⟩ := h
    refine awp_loop_ind (fun (p : Int) => (⟨[(0, (sV a1)), (5, (iV (a1.length : Int))), (6, (iV p))], [], 0⟩ : St)) (fun n (p : Int) => RC (a1.length : Int) (fun tl nn => M131_L1 F a1 k2 tl nn = some r) n p) (fun p h => RC.zero h) (fun n ih1 p h => ?_) (Int.toNat (a1.length : Int) + 1) 0 (RC.start h) (ghost_ren 0 (fun i => ([] : List Nat).getD i 0) _ _ (by decide) (EnvSub.get (.cons (Sub.imm (Imm.con _)) (.cons (Sub.imm (Imm.con _)) (.cons (Sub.imm (Imm.con _)) .nil)))) (HpSub.get .nil) rfl)
    revert p
    intro n4 h
    refine awp_loop ?_
    refine sr ?_
    refine aops_bin (.bool (decide (n4 < (a1.length : Int)))) wants_none rfl rfl rfl rfl ?_
    refine an ?_
    refine sq ?_
    refine awp_cond (decide (n4 < (a1.length : Int))) rfl (fun hb5 => ?_) (fun hb5 => ?_)
    · obtain ⟨tl, h, hk1⟩ := RC.t hA12 h hb5
      unfold M131_L1 at h
      refine awp_skip ?_
      refine sq ?_
      refine awp_block ?_
      refine sr ?_
      refine am (iV n4) rfl rfl ?_
      refine aa (iV n4) rfl rfl ?_
      refine an ?_
      refine sr ?_
      refine am (sV a1) rfl rfl ?_
      refine am (iV n4) rfl rfl ?_
      replace h := bind_some h
      obtain ⟨c6, hx7, h⟩ := h
      refine aops_indexT c6 tStr9 wants_none rfl rfl (idx_some hx7).1 (idx_some hx7).2 rfl ?_
      refine aops_bin (.bool (decide ((c6.toNat : Int) < 33))) wants_none rfl rfl rfl rfl ?_
      refine am (bV (decide ((c6.toNat : Int) < 33))) rfl rfl ?_
      refine bsp (decide ((c6.toNat : Int) < 33)) (fun hb8 => ?_) (fun hb8 => ?_)
      · replace h := ite_t hb8 h
        refine aops_skips 4 4 13 false (c := (decide ((c6.toNat : Int) < 33))) (b := true) rfl rfl hb8 rfl rfl ?_
        refine aops_pick true (cb := (decide ((c6.toNat : Int) < 33))) (bV true) wants_none rfl hb8 rfl rfl ?_
        refine an ?_
        refine awp_cond_t rfl rfl ?_
        refine sr ?_
        refine aa (bV false) rfl rfl ?_
        refine an ?_
        refine awp_ret ?_
        replace h := Option.some.inj h
        subst h
        exact ⟨.inl rfl, .one (.tmp rfl (Imm.con _))⟩
      replace h := ite_f hb8 h
      refine aops_move (sV a1) (wants_some (c := (decide ((c6.toNat : Int) < 33))) (b := false) 13 rfl rfl hb8) rfl rfl ?_
      refine aops_move (iV n4) (wants_some (c := (decide ((c6.toNat : Int) < 33))) (b := false) 13 rfl rfl hb8) rfl rfl ?_
      replace h := bind_some h
      obtain ⟨c9, hx10, h⟩ := h
      refine aops_indexT c9 tStr9 (wants_some (c := (decide ((c6.toNat : Int) < 33))) (b := false) 13 rfl rfl hb8) rfl rfl (idx_some hx10).1 (idx_some hx10).2 rfl ?_
      refine aops_bin (.bool (decide ((c9.toNat : Int) > 126))) (wants_some (c := (decide ((c6.toNat : Int) < 33))) (b := false) 13 rfl rfl hb8) rfl rfl rfl rfl ?_
      refine aops_pick false (cb := (decide ((c6.toNat : Int) < 33))) (bV (decide ((c9.toNat : Int) > 126))) wants_none rfl hb8 rfl rfl ?_
      refine an ?_
      refine awp_cond (decide ((c9.toNat : Int) > 126)) rfl (fun hb11 => ?_) (fun hb11 => ?_)
      · replace h := ite_t hb11 h
        refine sr ?_
        refine aa (bV false) rfl rfl ?_
        refine an ?_
        refine awp_ret ?_
        replace h := Option.some.inj h
        subst h
        exact ⟨.inl rfl, .one (.tmp rfl (Imm.con _))⟩
      replace h := ite_f hb11 h
      refine awp_skip ?_
      refine rg ?_
      refine aops_bin (.int .i64 (w64 (n4 + 1))) wants_none rfl rfl rfl rfl ?_
      refine am (iV (w64 (n4 + 1))) rfl rfl ?_
      refine an ?_
      exact awp_back (ih1 (w64 (n4 + 1)) (hk1 _ h)) (ghost_ren 0 (fun i => ([] : List Nat).getD i 0) _ _ (by decide) (EnvSub.get (.cons (Sub.imm (Imm.con _)) (.cons (Sub.imm (Imm.con _)) (.cons (Sub.imm (Imm.con _)) .nil)))) (HpSub.get .nil) rfl)
    replace h := RC.f h hb5
    unfold M131_L1 at h
    refine awp_exit ?_
    exact ⟨(), h, (ghost_ren 0 (fun i => ([] : List Nat).getD i 0) _ _ (by decide) (EnvSub.get (.cons (Sub.imm (Imm.con _)) .nil)) (HpSub.get .nil) rfl)⟩
  clear h
  intro _ h
  subst hk2
  refine sr ?_
  refine am (sV a1) rfl rfl ?_
  refine aops_binT (.bool (!(a1 == ([] : List UInt8)))) wants_none rfl rfl rfl rfl ?_
  refine aa (bV (!(a1 == ([] : List UInt8)))) rfl rfl ?_
  refine an ?_
  refine awp_ret ?_
  replace h := Option.some.inj h
  subst h
  exact ⟨.inl rfl, .one (.tmp rfl (Imm.con _))⟩
theorem W93 (F : Nat) (a1 : (List UInt8)) (r : Bool) (h : M93 F a1 = some r) : Pure Try.prog 93 [(sV a1)] (bV r) := by
  refine pure_enter Try.func93 rfl rfl (l := [.tmp 2]) rfl rfl [(0, (sV a1))] rfl (fun w0 m0 => ?_)
  unfold M93 at h
  refine sr ?_
  refine aa (bV false) rfl rfl ?_
  refine an ?_
  refine sr ?_
  refine am (sV a1) rfl rfl ?_
  replace h := bind_some h
  obtain ⟨y2, hx3, h⟩ := h
  refine aops_call (bV y2) [(sV a1)] fOk131 wants_none (evm_cons rfl evm_nil) (.cons (Imm.con _) .nil) (W131 F a1 y2 hx3) rfl ?_
  refine am (bV y2) rfl rfl ?_
  refine bsp y2 (fun hb4 => ?_) (fun hb4 => ?_)
  · replace h := ite_t hb4 h
    refine aops_move (sV a1) (wants_some (c := y2) (b := true) 5 rfl rfl hb4) rfl rfl ?_
    refine aops_lenT tStr9 (wants_some (c := y2) (b := true) 5 rfl rfl hb4) rfl rfl ?_
    refine aops_bin (.bool (decide ((a1.length : Int) ≤ 100))) (wants_some (c := y2) (b := true) 5 rfl rfl hb4) rfl rfl rfl rfl ?_
    refine aops_pick true (cb := y2) (bV (decide ((a1.length : Int) ≤ 100))) wants_none rfl hb4 rfl rfl ?_
    refine aa (bV (decide ((a1.length : Int) ≤ 100))) rfl rfl ?_
    refine an ?_
    refine awp_ret ?_
    replace h := Option.some.inj h
    subst h
    exact ⟨.inl rfl, .one (.tmp rfl (Imm.con _))⟩
  replace h := ite_f hb4 h
  refine aops_skips 3 2 5 true (c := y2) (b := false) rfl rfl hb4 rfl rfl ?_
  refine aops_pick false (cb := y2) (bV false) wants_none rfl hb4 rfl rfl ?_
  refine aa (bV false) rfl rfl ?_
  refine an ?_
  refine awp_ret ?_
  replace h := Option.some.inj h
  subst h
  exact ⟨.inl rfl, .one (.tmp rfl (Imm.con _))⟩
theorem W84 (F : Nat) (a1 : TExposure) (r : Thistory_key) (h : M84 F a1 = some r) : Pure Try.prog 84 [(V.agg (encTExposure a1))] (V.agg (encThistory_key r)) := by
  refine pure_enter Try.func84 rfl rfl (l := [.cell 2 118]) rfl rfl [(0, (V.agg (encTExposure a1)))] rfl (fun w0 m0 => ?_)
  unfold M84 at h
  refine sr ?_
  refine aops_box (encTExposure a1) wants_none rfl rfl rfl rfl ?_
  refine aops_alloc tZ118 rfl rfl wants_none rfl ?_
  refine an ?_
  refine sr ?_
  refine aops_fieldAddr tF47_0 wants_none rfl rfl ?_
  refine aops_load_cell (sV a1.Advisory) tC9 wants_none rfl rfl rfl rfl rfl ?_
  refine aops_fieldAddr tF47_1 wants_none rfl rfl ?_
  refine aops_load_cell (sV a1.Component) tC9 wants_none rfl rfl rfl rfl rfl ?_
  refine aops_build [(0, (sV a1.Advisory)), (1, (sV a1.Component))] [(sV a1.Advisory), (sV a1.Component)] tZ118 tPl118 rfl wants_none (evp_cons rfl (evp_cons rfl evp_nil)) rfl rfl ?_
  refine aops_store [(sV a1.Advisory), (sV a1.Component)] [[(sV a1.Advisory), (sV a1.Component)]] tS118 wants_none rfl rfl rfl rfl rfl rfl rfl rfl ?_
  refine an ?_
  refine awp_ret ?_
  replace h := Option.some.inj h
  subst h
  exact ⟨.inl rfl, .one (.agg tA118 rfl rfl rfl rfl rfl (.cons (Imm.con _) (.cons (Imm.con _) .nil)))⟩
theorem W152 (F : Nat) (a1 : (List UInt8)) (r : Bool) (h : M152 F a1 = some r) : Pure Try.prog 152 [(sV a1)] (bV r) := by
  refine pure_enter Try.func152 rfl rfl (l := [.tmp 2]) rfl rfl [(0, (sV a1))] rfl (fun w0 m0 => ?_)
  unfold M152 at h
  refine sr ?_
  refine aa (bV false) rfl rfl ?_
  refine an ?_
  refine sr ?_
  refine am (sV a1) rfl rfl ?_
  refine am (sV a1) rfl rfl ?_
  refine aops_binT (.bool (!(a1 == a1))) wants_none rfl rfl rfl rfl ?_
  refine aa (bV (!(a1 == a1))) rfl rfl ?_
  refine an ?_
  refine awp_ret ?_
  replace h := Option.some.inj h
  subst h
  exact ⟨.inl rfl, .one (.tmp rfl (Imm.con _))⟩
theorem W138 (F : Nat) (a1 : (List UInt8)) (a2 : (List UInt8)) (r : Int) (h : M138 F a1 a2 = some r) : Pure Try.prog 138 [(sV a1), (sV a2)] (iV r) := by
  refine pure_enter Try.func138 rfl rfl (l := [.tmp 4]) rfl rfl [(0, (sV a1)), (1, (sV a2))] rfl (fun w0 m0 => ?_)
  unfold M138 at h
  refine sr ?_
  refine aa (iV 0) rfl rfl ?_
  refine an ?_
  refine sr ?_
  refine am (sV a1) rfl rfl ?_
  replace h := bind_some h
  obtain ⟨y3, hx4, h⟩ := h
  refine aops_call (bV y3) [(sV a1)] fOk152 wants_none (evm_cons rfl evm_nil) (.cons (Imm.con _) .nil) (W152 F a1 y3 hx4) rfl ?_
  refine aa (bV y3) rfl rfl ?_
  refine an ?_
  refine sr ?_
  refine am (sV a2) rfl rfl ?_
  replace h := bind_some h
  obtain ⟨y5, hx6, h⟩ := h
  refine aops_call (bV y5) [(sV a2)] fOk152 wants_none (evm_cons rfl evm_nil) (.cons (Imm.con _) .nil) (W152 F a2 y5 hx6) rfl ?_
  refine aa (bV y5) rfl rfl ?_
  refine an ?_
  refine sq ?_
  refine sr ?_
  refine am (bV y3) rfl rfl ?_
  refine an ?_
  refine awp_cond y3 rfl (fun hb7 => ?_) (fun hb7 => ?_)
  · replace h := ite_t hb7 h
    refine sq ?_
    refine sr ?_
    refine am (bV y5) rfl rfl ?_
    refine an ?_
    refine awp_cond y5 rfl (fun hb8 => ?_) (fun hb8 => ?_)
    · replace h := ite_t hb8 h
      refine sr ?_
      refine aa (iV 0) rfl rfl ?_
      refine an ?_
      refine awp_ret ?_
      replace h := Option.some.inj h
      subst h
      exact ⟨.inl rfl, .one (.tmp rfl (Imm.con _))⟩
    replace h := ite_f hb8 h
    refine awp_skip ?_
    refine sr ?_
    refine aa (iV (-1)) rfl rfl ?_
    refine an ?_
    refine awp_ret ?_
    replace h := Option.some.inj h
    subst h
    exact ⟨.inl rfl, .one (.tmp rfl (Imm.con _))⟩
  replace h := ite_f hb7 h
  refine awp_skip ?_
  refine sq ?_
  refine sr ?_
  refine am (bV y5) rfl rfl ?_
  refine an ?_
  refine awp_cond y5 rfl (fun hb9 => ?_) (fun hb9 => ?_)
  · replace h := ite_t hb9 h
    refine sr ?_
    refine aa (iV 1) rfl rfl ?_
    refine an ?_
    refine awp_ret ?_
    replace h := Option.some.inj h
    subst h
    exact ⟨.inl rfl, .one (.tmp rfl (Imm.con _))⟩
  replace h := ite_f hb9 h
  refine awp_skip ?_
  refine sq ?_
  refine sr ?_
  refine am (sV a1) rfl rfl ?_
  refine am (sV a2) rfl rfl ?_
  refine aops_binT (.bool (Op.bytesLess a1 a2)) wants_none rfl rfl rfl rfl ?_
  refine an ?_
  refine awp_cond (Op.bytesLess a1 a2) rfl (fun hb10 => ?_) (fun hb10 => ?_)
  · replace h := ite_t hb10 h
    refine sr ?_
    refine aa (iV (-1)) rfl rfl ?_
    refine an ?_
    refine awp_ret ?_
    replace h := Option.some.inj h
    subst h
    exact ⟨.inl rfl, .one (.tmp rfl (Imm.con _))⟩
  replace h := ite_f hb10 h
  refine awp_skip ?_
  refine sq ?_
  refine sr ?_
  refine am (sV a1) rfl rfl ?_
  refine am (sV a2) rfl rfl ?_
  refine aops_binT (.bool (!(Op.bytesLess a1 a2 || a1 == a2))) wants_none rfl rfl rfl rfl ?_
  refine an ?_
  refine awp_cond (!(Op.bytesLess a1 a2 || a1 == a2)) rfl (fun hb11 => ?_) (fun hb11 => ?_)
  · replace h := ite_t hb11 h
    refine sr ?_
    refine aa (iV 1) rfl rfl ?_
    refine an ?_
    refine awp_ret ?_
    replace h := Option.some.inj h
    subst h
    exact ⟨.inl rfl, .one (.tmp rfl (Imm.con _))⟩
  replace h := ite_f hb11 h
  refine awp_skip ?_
  refine sr ?_
  refine aa (iV 0) rfl rfl ?_
  refine an ?_
  refine awp_ret ?_
  replace h := Option.some.inj h
  subst h
  exact ⟨.inl rfl, .one (.tmp rfl (Imm.con _))⟩
theorem W149 (F : Nat) (a1 : (List Int)) (r : Int) (h : M149 F a1 = some r) : Pure Try.prog 149 [(V.lst 1 (a1.map encI_i64))] (iV r) := by
  refine pure_enter Try.func149 rfl rfl (l := [.tmp 2]) rfl rfl [(0, (V.lst 1 (a1.map encI_i64)))] rfl (fun w0 m0 => ?_)
  unfold M149 at h
  refine sr ?_
  refine aa (iV 0) rfl rfl ?_
  refine an ?_
  refine sr ?_
  refine aa (iV 0) rfl rfl ?_
  refine an ?_
  refine sq ?_
  refine sr ?_
  refine am (V.lst 1 (a1.map encI_i64)) rfl rfl ?_
  refine aops_len (n := a1.length) tIsSl22 wants_none rfl (congrArg some (List.length_map ..)) rfl ?_
  refine am (iV 0) rfl rfl ?_
  refine an ?_
  replace h := jn_elim h
  obtain ⟨k2, hk2, h⟩ := h
  refine awp_cut (fun _ : Unit => (⟨[(3, (iV 0))], [], 0⟩ : St)) (fun _ : Unit => k2 = some r) ?_ ?_
  · clear hk2
    refine awp_block ?_
    refine awp_len (A := a1) 0 rfl (fun hA9 => ?_)
    refine awp_loop_ind (fun (p : Int) => (⟨[(3, (iV 0)), (6, (V.lst 1 (a1.map encI_i64))), (7, (iV ((a1.length : Nat) : Int))), (8, (iV p))], [], 0⟩ : St)) (fun n (p : Int) => RG a1 (fun tl nn => M149_L1 F k2 tl = some r) n p) (fun p h => RG.zero h) (fun n ih1 p h => ?_) (a1.length + 1) 0 (RG.start h) (ghost_ren 0 (fun i => ([] : List Nat).getD i 0) _ _ (by decide) (EnvSub.get (.cons (Sub.imm (Imm.con _)) (.cons (Sub.imm (Imm.lst _ _)) (.cons (Sub.imm (Imm.con _)) (.cons (Sub.imm (Imm.con _)) .nil))))) (HpSub.get .nil) rfl)
    revert p
    intro n4 h
    refine awp_loop ?_
    refine sr ?_
    refine aops_bin (.bool (decide (n4 < ((a1.length : Nat) : Int)))) wants_none rfl rfl rfl rfl ?_
    refine an ?_
    refine sq ?_
    refine awp_cond (decide (n4 < ((a1.length : Nat) : Int))) rfl (fun hb5 => ?_) (fun hb5 => ?_)
    · obtain ⟨x6, tl, hx7, h, hk1⟩ := RG.t hA9 h hb5
      unfold M149_L1 at h
      refine awp_skip ?_
      refine sq ?_
      refine awp_block ?_
      refine sr ?_
      refine aops_index_lst [(iV x6)] tSl22 wants_none rfl rfl (idx_some hx7).1 (idx_map encI_i64 hx7) rfl ?_
      refine aops_iload_cell (iV x6) tC3 wants_none rfl rfl rfl ?_
      refine aa (iV x6) rfl rfl ?_
      refine an ?_
      refine sr ?_
      refine am (iV x6) rfl rfl ?_
      refine am (iV 0) rfl rfl ?_
      refine aops_bin (.bool (x6 != 0)) wants_none rfl rfl rfl rfl ?_
      refine an ?_
      refine awp_cond (x6 != 0) rfl (fun hb8 => ?_) (fun hb8 => ?_)
      · replace h := ite_t hb8 h
        refine sr ?_
        refine am (iV x6) rfl rfl ?_
        refine aa (iV x6) rfl rfl ?_
        refine an ?_
        refine awp_ret ?_
        replace h := Option.some.inj h
        subst h
        exact ⟨.inl rfl, .one (.tmp rfl (Imm.con _))⟩
      replace h := ite_f hb8 h
      refine awp_skip ?_
      refine rg ?_
      refine aops_bin (.int .i64 (w64 (n4 + 1))) wants_none rfl rfl rfl rfl ?_
      refine am (iV (w64 (n4 + 1))) rfl rfl ?_
      refine an ?_
      exact awp_back (ih1 (w64 (n4 + 1)) (hk1 _ h)) (ghost_ren 0 (fun i => ([] : List Nat).getD i 0) _ _ (by decide) (EnvSub.get (.cons (Sub.imm (Imm.con _)) (.cons (Sub.imm (Imm.lst _ _)) (.cons (Sub.imm (Imm.con _)) (.cons (Sub.imm (Imm.con _)) .nil))))) (HpSub.get .nil) rfl)
    replace h := RG.f h hb5
    unfold M149_L1 at h
    refine awp_exit ?_
    exact ⟨(), h, (ghost_ren 0 (fun i => ([] : List Nat).getD i 0) _ _ (by decide) (EnvSub.get (.cons (Sub.imm (Imm.con _)) .nil)) (HpSub.get .nil) rfl)⟩
  clear h
  intro _ h
  subst hk2
  refine sr ?_
  refine am (iV 0) rfl rfl ?_
  refine aa (iV 0) rfl rfl ?_
  refine an ?_
  refine awp_ret ?_
  replace h := Option.some.inj h
  subst h
  exact ⟨.inl rfl, .one (.tmp rfl (Imm.con _))⟩
theorem W146 (F : Nat) (a1 : Thistory_key) (a2 : Thistory_key) (r : Int) (h : M146 F a1 a2 = some r) : Pure Try.prog 146 [(V.agg (encThistory_key a1)), (V.agg (encThistory_key a2))] (iV r) := by
  refine pure_enter Try.func146 rfl rfl (l := [.tmp 4]) rfl rfl [(0, (V.agg (encThistory_key a1))), (1, (V.agg (encThistory_key a2)))] rfl (fun w0 m0 => ?_)
  unfold M146 at h
  refine sr ?_
  refine aops_box (encThistory_key a1) wants_none rfl rfl rfl rfl ?_
  refine aops_box (encThistory_key a2) wants_none rfl rfl rfl rfl ?_
  refine aa (iV 0) rfl rfl ?_
  refine an ?_
  refine sq ?_
  replace h := bind_some h
  obtain ⟨y3, hx4, h⟩ := h
  replace h := bind_some h
  obtain ⟨y5, hx6, h⟩ := h
  replace h := bind_some h
  obtain ⟨y7, hx8, h⟩ := h
  refine awp_any [OD.mk [(2, (V.ptr 0 2 0 0))] [] [(5, (V.ptr 0 2 0 0))] [],
        OD.mk [(5, (V.ptr 0 2 0 0))] [(0, (Ob.arr 118 2 [(encThistory_key a1)]))] [(6, (sV a1.advisory))] [],
        OD.mk [(3, (V.ptr 1 2 0 0))] [] [(7, (V.ptr 1 2 0 0))] [],
        OD.mk [(7, (V.ptr 1 2 0 0))] [(1, (Ob.arr 118 2 [(encThistory_key a2)]))] [(8, (sV a2.advisory))] [],
        OD.mk [(6, (sV a1.advisory)), (8, (sV a2.advisory))] [] [(9, (iV y3))] [],
        OD.mk [(2, (V.ptr 0 2 0 0))] [] [(10, (V.ptr 0 2 0 1))] [],
        OD.mk [(10, (V.ptr 0 2 0 1))] [(0, (Ob.arr 118 2 [(encThistory_key a1)]))] [(11, (sV a1.component))] [],
        OD.mk [(3, (V.ptr 1 2 0 0))] [] [(12, (V.ptr 1 2 0 1))] [],
        OD.mk [(12, (V.ptr 1 2 0 1))] [(1, (Ob.arr 118 2 [(encThistory_key a2)]))] [(13, (sV a2.component))] [],
        OD.mk [(11, (sV a1.component)), (13, (sV a2.component))] [] [(14, (iV y5))] [],
        OD.mk [(9, (iV y3)), (14, (iV y5))] [] [(15, (V.lst 1 (([y3, y5] : List Int).map encI_i64)))] [],
        OD.mk [(15, (V.lst 1 (([y3, y5] : List Int).map encI_i64)))] [] [(16, (iV y7))] [],
        OD.mk [(16, (iV y7))] [] [(4, (iV y7))] []] mixed ⟨⟨rfl, trivial⟩, trivial, ⟨⟨rfl, trivial⟩, ⟨rfl, trivial⟩, ⟨⟨rfl, trivial⟩, trivial, ⟨⟨rfl, trivial⟩, ⟨rfl, trivial⟩, ⟨⟨rfl, rfl, trivial⟩, trivial, ⟨⟨rfl, trivial⟩, trivial, ⟨⟨rfl, trivial⟩, ⟨rfl, trivial⟩, ⟨⟨rfl, trivial⟩, trivial, ⟨⟨rfl, trivial⟩, ⟨rfl, trivial⟩, ⟨⟨rfl, rfl, trivial⟩, trivial, ⟨⟨rfl, rfl, trivial⟩, trivial, ⟨⟨rfl, trivial⟩, trivial, ⟨⟨rfl, trivial⟩, trivial, trivial⟩⟩⟩⟩⟩⟩⟩⟩⟩⟩⟩⟩⟩ (by kernel_rfl) (.cons (fun S hn h hh => aops_fieldAddr tF118_0 wants_none h.1 rfl (an ⟨rfl, rfl⟩)) (.cons (fun S hn h hh => aops_load_cell (sV a1.advisory) tC9 wants_none h.1 hh.1 rfl rfl rfl (an ⟨rfl, rfl⟩)) (.cons (fun S hn h hh => aops_fieldAddr tF118_0 wants_none h.1 rfl (an ⟨rfl, rfl⟩)) (.cons (fun S hn h hh => aops_load_cell (sV a2.advisory) tC9 wants_none h.1 hh.1 rfl rfl rfl (an ⟨rfl, rfl⟩)) (.cons (fun S hn h hh => aops_call (iV y3) [(sV a1.advisory), (sV a2.advisory)] fOk138 wants_none (evm_cons h.1 (evm_cons h.2.1 evm_nil)) (.cons (Imm.con _) (.cons (Imm.con _) .nil)) (W138 F a1.advisory a2.advisory y3 hx4) rfl (an ⟨rfl, rfl⟩)) (.cons (fun S hn h hh => aops_fieldAddr tF118_1 wants_none h.1 rfl (an ⟨rfl, rfl⟩)) (.cons (fun S hn h hh => aops_load_cell (sV a1.component) tC9 wants_none h.1 hh.1 rfl rfl rfl (an ⟨rfl, rfl⟩)) (.cons (fun S hn h hh => aops_fieldAddr tF118_1 wants_none h.1 rfl (an ⟨rfl, rfl⟩)) (.cons (fun S hn h hh => aops_load_cell (sV a2.component) tC9 wants_none h.1 hh.1 rfl rfl rfl (an ⟨rfl, rfl⟩)) (.cons (fun S hn h hh => aops_call (iV y5) [(sV a1.component), (sV a2.component)] fOk138 wants_none (evm_cons h.1 (evm_cons h.2.1 evm_nil)) (.cons (Imm.con _) (.cons (Imm.con _) .nil)) (W138 F a1.component a2.component y5 hx6) rfl (an ⟨rfl, rfl⟩)) (.cons (fun S hn h hh => aops_buildSlice_imm [(0, (iV y3)), (1, (iV y5))] [[(iV y3)], [(iV y5)]] tEl22 tZ3 wants_none rfl rfl rfl rfl (evp_cons h.1 (evp_cons h.2.1 evp_nil)) rfl rfl (by simp) (imms_rows (.cons (.cons (Imm.con _) .nil) (.cons (.cons (Imm.con _) .nil) .nil))) rfl (an ⟨rfl, rfl⟩)) (.cons (fun S hn h hh => aops_call (iV y7) [(V.lst 1 (([y3, y5] : List Int).map encI_i64))] fOk149 wants_none (evm_cons h.1 evm_nil) (.cons (Imm.lst _ _) .nil) (W149 F ([y3, y5] : List Int) y7 hx8) rfl (an ⟨rfl, rfl⟩)) (.cons (fun S hn h hh => aops_assign (iV y7) wants_none h.1 rfl (an ⟨rfl, rfl⟩)) .nil))))))))))))) ?_
  refine awp_ret ?_
  replace h := Option.some.inj h
  subst h
  exact ⟨.inl rfl, .one (.tmp rfl (Imm.con _))⟩
theorem W127 (F : Nat) (a1 : (List TExposure)) (r : Int) (h : M127 F a1 = some r) : Pure Try.prog 127 [(V.lst 3 (a1.map encTExposure))] (iV r) := by
  refine pure_enter Try.func127 rfl rfl (l := [.tmp 2]) rfl rfl [(0, (V.lst 3 (a1.map encTExposure)))] rfl (fun w0 m0 => ?_)
  unfold M127 at h
  refine sr ?_
  refine aa (iV 0) rfl rfl ?_
  refine an ?_
  refine sq ?_
  refine sr ?_
  refine am (V.lst 3 (a1.map encTExposure)) rfl rfl ?_
  refine aops_len (n := a1.length) tIsSl40 wants_none rfl (congrArg some (List.length_map ..)) rfl ?_
  refine aops_bin (.bool (decide (((a1.length : Nat) : Int) > 500))) wants_none rfl rfl rfl rfl ?_
  refine an ?_
  refine awp_cond (decide (((a1.length : Nat) : Int) > 500)) rfl (fun hb2 => ?_) (fun hb2 => ?_)
  · replace h := ite_t hb2 h
    refine sr ?_
    refine aa (iV 3) rfl rfl ?_
    refine an ?_
    refine awp_ret ?_
    replace h := Option.some.inj h
    subst h
    exact ⟨.inl rfl, .one (.tmp rfl (Imm.con _))⟩
  replace h := ite_f hb2 h
  refine awp_skip ?_
  refine sq ?_
  refine sr ?_
  refine am (V.lst 3 (a1.map encTExposure)) rfl rfl ?_
  refine aops_len (n := a1.length) tIsSl40 wants_none rfl (congrArg some (List.length_map ..)) rfl ?_
  refine am (iV 0) rfl rfl ?_
  refine an ?_
  replace h := jn_elim h
  obtain ⟨k3, hk3, h⟩ := h
  refine awp_cut (fun _ : Unit => (⟨[], [], 0⟩ : St)) (fun _ : Unit => k3 = some r) ?_ ?_
  · clear hk3
    refine awp_block ?_
    refine awp_len (A := a1) 0 rfl (fun hA28 => ?_)
    refine awp_loop_ind (fun (p : Int) => (⟨[(0, (V.lst 3 (a1.map encTExposure))), (8, (V.lst 3 (a1.map encTExposure))), (9, (iV ((a1.length : Nat) : Int))), (10, (iV p))], [], 0⟩ : St)) (fun n (p : Int) => RG a1 (fun tl nn => M127_L1 F a1 k3 tl nn = some r) n p) (fun p h => RG.zero h) (fun n ih1 p h => ?_) (a1.length + 1) 0 (RG.start h) (ghost_ren 0 (fun i => ([] : List Nat).getD i 0) _ _ (by decide) (EnvSub.get (.cons (Sub.imm (Imm.lst _ _)) (.cons (Sub.imm (Imm.lst _ _)) (.cons (Sub.imm (Imm.con _)) (.cons (Sub.imm (Imm.con _)) .nil))))) (HpSub.get .nil) rfl)
    revert p
    intro n5 h
    refine awp_loop ?_
    refine sr ?_
    refine aops_bin (.bool (decide (n5 < ((a1.length : Nat) : Int)))) wants_none rfl rfl rfl rfl ?_
    refine an ?_
    refine sq ?_
    refine awp_cond (decide (n5 < ((a1.length : Nat) : Int))) rfl (fun hb6 => ?_) (fun hb6 => ?_)
    · obtain ⟨x7, tl, hx8, h, hk1⟩ := RG.t hA28 h hb6
      unfold M127_L1 at h
      refine awp_skip ?_
      refine sq ?_
      refine awp_block ?_
      refine sr ?_
      refine am (iV n5) rfl rfl ?_
      refine aops_index_lst (encTExposure x7) tSl40 wants_none rfl rfl (idx_some hx8).1 (idx_map encTExposure hx8) rfl ?_
      refine aops_iload_agg (cs := (encTExposure x7)) tA47 wants_none rfl rfl rfl rfl ?_
      refine aops_alloc tZ47 rfl rfl wants_none rfl ?_
      refine aa (iV n5) rfl rfl ?_
      refine aops_store (encTExposure x7) [(encTExposure x7)] tS47 wants_none rfl rfl rfl rfl rfl rfl rfl rfl ?_
      refine an ?_
      refine awp_block ?_
      refine sr ?_
      refine aops_fieldAddr tF47_0 wants_none rfl rfl ?_
      refine aops_load_cell (sV x7.Advisory) tC9 wants_none rfl rfl rfl rfl rfl ?_
      replace h := bind_some h
      obtain ⟨y9, hx10, h⟩ := h
      refine aops_call (bV y9) [(sV x7.Advisory)] fOk93 wants_none (evm_cons rfl evm_nil) (.cons (Imm.con _) .nil) (W93 F x7.Advisory y9 hx10) rfl ?_
      refine aops_not wants_none rfl rfl ?_
      refine am (bV (!y9)) rfl rfl ?_
      refine bsp (!y9) (fun hb11 => ?_) (fun hb11 => ?_)
      · replace h := ite_t hb11 h
        refine aops_skips 4 4 20 false (c := (!y9)) (b := true) rfl rfl hb11 rfl rfl ?_
        refine aops_pick true (cb := (!y9)) (bV true) wants_none rfl hb11 rfl rfl ?_
        refine aa (bV true) rfl rfl ?_
        refine an ?_
        refine awp_cond_t rfl rfl ?_
        refine sr ?_
        refine aa (iV 8) rfl rfl ?_
        refine an ?_
        refine awp_ret ?_
        replace h := Option.some.inj h
        subst h
        exact ⟨.inl rfl, .one (.tmp rfl (Imm.con _))⟩
      replace h := ite_f hb11 h
      refine aops_fieldAddr tF47_1 (wants_some (c := (!y9)) (b := false) 20 rfl rfl hb11) rfl rfl ?_
      refine aops_load_cell (sV x7.Component) tC9 (wants_some (c := (!y9)) (b := false) 20 rfl rfl hb11) rfl rfl rfl rfl rfl ?_
      replace h := bind_some h
      obtain ⟨y12, hx13, h⟩ := h
      refine aops_call (bV y12) [(sV x7.Component)] fOk93 (wants_some (c := (!y9)) (b := false) 20 rfl rfl hb11) (evm_cons rfl evm_nil) (.cons (Imm.con _) .nil) (W93 F x7.Component y12 hx13) rfl ?_
      refine aops_not (wants_some (c := (!y9)) (b := false) 20 rfl rfl hb11) rfl rfl ?_
      refine aops_pick false (cb := (!y9)) (bV (!y12)) wants_none rfl hb11 rfl rfl ?_
      refine aa (bV (!y12)) rfl rfl ?_
      refine an ?_
      replace h := jn_elim h
      obtain ⟨k14, hk14, h⟩ := h
      refine awp_cut (fun _ : Unit => (⟨[(0, (V.lst 3 (a1.map encTExposure))), (8, (V.lst 3 (a1.map encTExposure))), (9, (iV ((a1.length : Nat) : Int))), (10, (iV n5)), (21, (V.ptr 0 3 0 1)), (22, (sV x7.Component)), (23, (bV y12)), (24, (bV (!y12))), (31, (V.ptr 0 3 0 2)), (32, (iV x7.Severity)), (33, (bV (decide (x7.Severity > 100))))], [(0, (Ob.arr 47 3 [(encTExposure x7)]))], 1⟩ : St)) (fun _ : Unit => k14 = some r) ?_ ?_
      · clear hk14
        refine awp_cond (!y12) rfl (fun hb15 => ?_) (fun hb15 => ?_)
        · replace h := ite_t hb15 h
          refine sr ?_
          refine aa (iV 8) rfl rfl ?_
          refine an ?_
          refine awp_ret ?_
          replace h := Option.some.inj h
          subst h
          exact ⟨.inl rfl, .one (.tmp rfl (Imm.con _))⟩
        replace h := ite_f hb15 h
        refine sr ?_
        refine aops_fieldAddr tF47_2 wants_none rfl rfl ?_
        refine aops_load_cell (iV x7.Severity) tC3 wants_none rfl rfl rfl rfl rfl ?_
        refine aops_bin (.bool (decide (x7.Severity < 0))) wants_none rfl rfl rfl rfl ?_
        refine am (bV (decide (x7.Severity < 0))) rfl rfl ?_
        refine bsp (decide (x7.Severity < 0)) (fun hb16 => ?_) (fun hb16 => ?_)
        · replace h := ite_t hb16 h
          refine aops_skips 3 3 30 false (c := (decide (x7.Severity < 0))) (b := true) rfl rfl hb16 rfl rfl ?_
          refine aops_pick true (cb := (decide (x7.Severity < 0))) (bV true) wants_none rfl hb16 rfl rfl ?_
          refine aa (bV true) rfl rfl ?_
          refine an ?_
          refine awp_cond_t rfl rfl ?_
          refine sr ?_
          refine aa (iV 9) rfl rfl ?_
          refine an ?_
          refine awp_ret ?_
          replace h := Option.some.inj h
          subst h
          exact ⟨.inl rfl, .one (.tmp rfl (Imm.con _))⟩
        replace h := ite_f hb16 h
        refine aops_fieldAddr tF47_2 (wants_some (c := (decide (x7.Severity < 0))) (b := false) 30 rfl rfl hb16) rfl rfl ?_
        refine aops_load_cell (iV x7.Severity) tC3 (wants_some (c := (decide (x7.Severity < 0))) (b := false) 30 rfl rfl hb16) rfl rfl rfl rfl rfl ?_
        refine aops_bin (.bool (decide (x7.Severity > 100))) (wants_some (c := (decide (x7.Severity < 0))) (b := false) 30 rfl rfl hb16) rfl rfl rfl rfl ?_
        refine aops_pick false (cb := (decide (x7.Severity < 0))) (bV (decide (x7.Severity > 100))) wants_none rfl hb16 rfl rfl ?_
        refine aa (bV (decide (x7.Severity > 100))) rfl rfl ?_
        refine an ?_
        refine awp_cond (decide (x7.Severity > 100)) rfl (fun hb17 => ?_) (fun hb17 => ?_)
        · replace h := ite_t hb17 h
          refine sr ?_
          refine aa (iV 9) rfl rfl ?_
          refine an ?_
          refine awp_ret ?_
          replace h := Option.some.inj h
          subst h
          exact ⟨.inl rfl, .one (.tmp rfl (Imm.con _))⟩
        replace h := ite_f hb17 h
        refine sq ?_
        refine bsp (decide (n5 > 0)) (fun hb18 => ?_) (fun hb18 => ?_)
        · replace h := ite_t hb18 h
          replace h := bind_some h
          obtain ⟨x19, hx20, h⟩ := h
          replace h := bind_some h
          obtain ⟨y21, hx22, h⟩ := h
          replace h := bind_some h
          obtain ⟨y23, hx24, h⟩ := h
          replace h := bind_some h
          obtain ⟨y25, hx26, h⟩ := h
          refine awp_any [OD.mk [(3, (iV n5))] [] [(36, (iV n5))] [],
                OD.mk [(36, (iV n5))] [] [(37, (bV (decide (n5 > 0))))] [],
                OD.mk [(37, (bV (decide (n5 > 0))))] [] [(38, (bV (decide (n5 > 0))))] [],
                OD.mk [(38, (bV (decide (n5 > 0)))), (0, (V.lst 3 (a1.map encTExposure)))] [] [(39, (V.lst 3 (a1.map encTExposure)))] [],
                OD.mk [(38, (bV (decide (n5 > 0)))), (3, (iV n5))] [] [(40, (iV n5))] [],
                OD.mk [(38, (bV (decide (n5 > 0)))), (40, (iV n5))] [] [(41, (iV (w64 (n5 - 1))))] [],
                OD.mk [(38, (bV (decide (n5 > 0)))), (39, (V.lst 3 (a1.map encTExposure))), (41, (iV (w64 (n5 - 1))))] [] [(42, (V.iptr (encTExposure x19) 0))] [],
                OD.mk [(38, (bV (decide (n5 > 0)))), (42, (V.iptr (encTExposure x19) 0))] [] [(43, (V.agg (encTExposure x19)))] [],
                OD.mk [(38, (bV (decide (n5 > 0)))), (43, (V.agg (encTExposure x19)))] [] [(44, (V.agg (encThistory_key y21)))] [],
                OD.mk [(38, (bV (decide (n5 > 0)))), (4, (V.ptr 0 3 0 0))] [(0, (Ob.arr 47 3 [(encTExposure x7)]))] [(45, (V.agg (encTExposure x7)))] [],
                OD.mk [(38, (bV (decide (n5 > 0)))), (45, (V.agg (encTExposure x7)))] [] [(46, (V.agg (encThistory_key y23)))] [],
                OD.mk [(38, (bV (decide (n5 > 0)))), (44, (V.agg (encThistory_key y21))), (46, (V.agg (encThistory_key y23)))] [] [(47, (iV y25))] [],
                OD.mk [(38, (bV (decide (n5 > 0)))), (47, (iV y25))] [] [(48, (bV (decide (y25 ≥ 0))))] [],
                OD.mk [(38, (bV (decide (n5 > 0)))), (48, (bV (decide (y25 ≥ 0))))] [] [(49, (bV (decide (y25 ≥ 0))))] [],
                OD.mk [(49, (bV (decide (y25 ≥ 0))))] [] [(35, (bV (decide (y25 ≥ 0))))] []] mixed ⟨⟨rfl, trivial⟩, trivial, ⟨⟨rfl, trivial⟩, trivial, ⟨⟨rfl, trivial⟩, trivial, ⟨⟨rfl, rfl, trivial⟩, trivial, ⟨⟨rfl, rfl, trivial⟩, trivial, ⟨⟨rfl, rfl, trivial⟩, trivial, ⟨⟨rfl, rfl, rfl, trivial⟩, trivial, ⟨⟨rfl, rfl, trivial⟩, trivial, ⟨⟨rfl, rfl, trivial⟩, trivial, ⟨⟨rfl, rfl, trivial⟩, ⟨rfl, trivial⟩, ⟨⟨rfl, rfl, trivial⟩, trivial, ⟨⟨rfl, rfl, rfl, trivial⟩, trivial, ⟨⟨rfl, rfl, trivial⟩, trivial, ⟨⟨rfl, rfl, trivial⟩, trivial, ⟨⟨rfl, trivial⟩, trivial, trivial⟩⟩⟩⟩⟩⟩⟩⟩⟩⟩⟩⟩⟩⟩⟩ (by kernel_rfl) (.cons (fun S hn h hh => aops_move (iV n5) wants_none h.1 rfl (an ⟨rfl, rfl⟩)) (.cons (fun S hn h hh => aops_bin (.bool (decide (n5 > 0))) wants_none h.1 rfl rfl rfl (an ⟨rfl, rfl⟩)) (.cons (fun S hn h hh => aops_move (bV (decide (n5 > 0))) wants_none h.1 rfl (an ⟨rfl, rfl⟩)) (.cons (fun S hn h hh => aops_move (V.lst 3 (a1.map encTExposure)) (wants_some (c := (decide (n5 > 0))) (b := true) 38 rfl h.1 hb18) h.2.1 rfl (an ⟨rfl, rfl⟩)) (.cons (fun S hn h hh => aops_move (iV n5) (wants_some (c := (decide (n5 > 0))) (b := true) 38 rfl h.1 hb18) h.2.1 rfl (an ⟨rfl, rfl⟩)) (.cons (fun S hn h hh => aops_bin (.int .i64 (w64 (n5 - 1))) (wants_some (c := (decide (n5 > 0))) (b := true) 38 rfl h.1 hb18) h.2.1 rfl rfl rfl (an ⟨rfl, rfl⟩)) (.cons (fun S hn h hh => aops_index_lst (encTExposure x19) tSl40 (wants_some (c := (decide (n5 > 0))) (b := true) 38 rfl h.1 hb18) h.2.1 h.2.2.1 (idx_some hx20).1 (idx_map encTExposure hx20) rfl (an ⟨rfl, rfl⟩)) (.cons (fun S hn h hh => aops_iload_agg (cs := (encTExposure x19)) tA47 (wants_some (c := (decide (n5 > 0))) (b := true) 38 rfl h.1 hb18) h.2.1 rfl rfl rfl (an ⟨rfl, rfl⟩)) (.cons (fun S hn h hh => aops_call (V.agg (encThistory_key y21)) [(V.agg (encTExposure x19))] fOk84 (wants_some (c := (decide (n5 > 0))) (b := true) 38 rfl h.1 hb18) (evm_cons h.2.1 evm_nil) (.cons (Imm.agg (imms_encTExposure _)) .nil) (W84 F x19 y21 hx22) rfl (an ⟨rfl, rfl⟩)) (.cons (fun S hn h hh => aops_load_agg (cs := (encTExposure x7)) tA47 (wants_some (c := (decide (n5 > 0))) (b := true) 38 rfl h.1 hb18) h.2.1 hh.1 rfl rfl rfl rfl (an ⟨rfl, rfl⟩)) (.cons (fun S hn h hh => aops_call (V.agg (encThistory_key y23)) [(V.agg (encTExposure x7))] fOk84 (wants_some (c := (decide (n5 > 0))) (b := true) 38 rfl h.1 hb18) (evm_cons h.2.1 evm_nil) (.cons (Imm.agg (imms_encTExposure _)) .nil) (W84 F x7 y23 hx24) rfl (an ⟨rfl, rfl⟩)) (.cons (fun S hn h hh => aops_call (iV y25) [(V.agg (encThistory_key y21)), (V.agg (encThistory_key y23))] fOk146 (wants_some (c := (decide (n5 > 0))) (b := true) 38 rfl h.1 hb18) (evm_cons h.2.1 (evm_cons h.2.2.1 evm_nil)) (.cons (Imm.agg (imms_encThistory_key _)) (.cons (Imm.agg (imms_encThistory_key _)) .nil)) (W146 F y21 y23 y25 hx26) rfl (an ⟨rfl, rfl⟩)) (.cons (fun S hn h hh => aops_bin (.bool (decide (y25 ≥ 0))) (wants_some (c := (decide (n5 > 0))) (b := true) 38 rfl h.1 hb18) h.2.1 rfl rfl rfl (an ⟨rfl, rfl⟩)) (.cons (fun S hn h hh => aops_pick true (cb := (decide (n5 > 0))) (bV (decide (y25 ≥ 0))) wants_none h.1 hb18 h.2.1 rfl (an ⟨rfl, rfl⟩)) (.cons (fun S hn h hh => aops_assign (bV (decide (y25 ≥ 0))) wants_none h.1 rfl (an ⟨rfl, rfl⟩)) .nil))))))))))))))) ?_
          refine awp_cond (decide (y25 ≥ 0)) rfl (fun hb27 => ?_) (fun hb27 => ?_)
          · replace h := ite_t hb27 h
            refine sr ?_
            refine aa (iV 10) rfl rfl ?_
            refine an ?_
            refine awp_ret ?_
            replace h := Option.some.inj h
            subst h
            exact ⟨.inl rfl, .one (.tmp rfl (Imm.con _))⟩
          replace h := ite_f hb27 h
          refine awp_skip ?_
          exact ⟨(), h, (ghost_ren 1 (fun i => ([0] : List Nat).getD i 0) _ _ (by decide) (EnvSub.get (.cons (Sub.imm (Imm.lst _ _)) (.cons (Sub.imm (Imm.lst _ _)) (.cons (Sub.imm (Imm.con _)) (.cons (Sub.imm (Imm.con _)) (.cons (Sub.ptr rfl rfl) (.cons (Sub.imm (Imm.con _)) (.cons (Sub.imm (Imm.con _)) (.cons (Sub.imm (Imm.con _)) (.cons (Sub.ptr rfl rfl) (.cons (Sub.imm (Imm.con _)) (.cons (Sub.imm (Imm.con _)) .nil)))))))))))) (HpSub.get (.cons rfl (ObSub.box (.cons (Sub.imm (Imm.con _)) (.cons (Sub.imm (Imm.con _)) (.cons (Sub.imm (Imm.con _)) .nil)))) .nil)) rfl)⟩
        replace h := ite_f hb18 h
        refine awp_any [OD.mk [(3, (iV n5))] [] [(36, (iV n5))] [],
              OD.mk [(36, (iV n5))] [] [(37, (bV (decide (n5 > 0))))] [],
              OD.mk [(37, (bV (decide (n5 > 0))))] [] [(38, (bV (decide (n5 > 0))))] [],
              OD.mk [(38, (bV (decide (n5 > 0))))] [] [(39, (V.con undef))] [],
              OD.mk [(38, (bV (decide (n5 > 0))))] [] [(40, (V.con undef))] [],
              OD.mk [(38, (bV (decide (n5 > 0))))] [] [(41, (V.con undef))] [],
              OD.mk [(38, (bV (decide (n5 > 0))))] [] [(42, (V.con undef))] [],
              OD.mk [(38, (bV (decide (n5 > 0))))] [] [(43, (V.con undef))] [],
              OD.mk [(38, (bV (decide (n5 > 0))))] [] [(44, (V.con undef))] [],
              OD.mk [(38, (bV (decide (n5 > 0))))] [] [(45, (V.con undef))] [],
              OD.mk [(38, (bV (decide (n5 > 0))))] [] [(46, (V.con undef))] [],
              OD.mk [(38, (bV (decide (n5 > 0))))] [] [(47, (V.con undef))] [],
              OD.mk [(38, (bV (decide (n5 > 0))))] [] [(48, (V.con undef))] [],
              OD.mk [(38, (bV (decide (n5 > 0))))] [] [(49, (bV false))] [],
              OD.mk [(49, (bV false))] [] [(35, (bV false))] []] mixed ⟨⟨rfl, trivial⟩, trivial, ⟨⟨rfl, trivial⟩, trivial, ⟨⟨rfl, trivial⟩, trivial, ⟨⟨rfl, trivial⟩, trivial, ⟨⟨rfl, trivial⟩, trivial, ⟨⟨rfl, trivial⟩, trivial, ⟨⟨rfl, trivial⟩, trivial, ⟨⟨rfl, trivial⟩, trivial, ⟨⟨rfl, trivial⟩, trivial, ⟨⟨rfl, trivial⟩, trivial, ⟨⟨rfl, trivial⟩, trivial, ⟨⟨rfl, trivial⟩, trivial, ⟨⟨rfl, trivial⟩, trivial, ⟨⟨rfl, trivial⟩, trivial, ⟨⟨rfl, trivial⟩, trivial, trivial⟩⟩⟩⟩⟩⟩⟩⟩⟩⟩⟩⟩⟩⟩⟩ (by kernel_rfl) (.cons (fun S hn h hh => aops_move (iV n5) wants_none h.1 rfl (an ⟨rfl, rfl⟩)) (.cons (fun S hn h hh => aops_bin (.bool (decide (n5 > 0))) wants_none h.1 rfl rfl rfl (an ⟨rfl, rfl⟩)) (.cons (fun S hn h hh => aops_move (bV (decide (n5 > 0))) wants_none h.1 rfl (an ⟨rfl, rfl⟩)) (.cons (fun S hn h hh => aops_skip (wants_some (c := (decide (n5 > 0))) (b := false) 38 rfl h.1 hb18) rfl rfl (an ⟨rfl, rfl⟩)) (.cons (fun S hn h hh => aops_skip (wants_some (c := (decide (n5 > 0))) (b := false) 38 rfl h.1 hb18) rfl rfl (an ⟨rfl, rfl⟩)) (.cons (fun S hn h hh => aops_skip (wants_some (c := (decide (n5 > 0))) (b := false) 38 rfl h.1 hb18) rfl rfl (an ⟨rfl, rfl⟩)) (.cons (fun S hn h hh => aops_skip (wants_some (c := (decide (n5 > 0))) (b := false) 38 rfl h.1 hb18) rfl rfl (an ⟨rfl, rfl⟩)) (.cons (fun S hn h hh => aops_skip (wants_some (c := (decide (n5 > 0))) (b := false) 38 rfl h.1 hb18) rfl rfl (an ⟨rfl, rfl⟩)) (.cons (fun S hn h hh => aops_skip (wants_some (c := (decide (n5 > 0))) (b := false) 38 rfl h.1 hb18) rfl rfl (an ⟨rfl, rfl⟩)) (.cons (fun S hn h hh => aops_skip (wants_some (c := (decide (n5 > 0))) (b := false) 38 rfl h.1 hb18) rfl rfl (an ⟨rfl, rfl⟩)) (.cons (fun S hn h hh => aops_skip (wants_some (c := (decide (n5 > 0))) (b := false) 38 rfl h.1 hb18) rfl rfl (an ⟨rfl, rfl⟩)) (.cons (fun S hn h hh => aops_skip (wants_some (c := (decide (n5 > 0))) (b := false) 38 rfl h.1 hb18) rfl rfl (an ⟨rfl, rfl⟩)) (.cons (fun S hn h hh => aops_skip (wants_some (c := (decide (n5 > 0))) (b := false) 38 rfl h.1 hb18) rfl rfl (an ⟨rfl, rfl⟩)) (.cons (fun S hn h hh => aops_pick false (cb := (decide (n5 > 0))) (bV false) wants_none h.1 hb18 rfl rfl (an ⟨rfl, rfl⟩)) (.cons (fun S hn h hh => aops_assign (bV false) wants_none h.1 rfl (an ⟨rfl, rfl⟩)) .nil))))))))))))))) ?_
        refine awp_cond_f rfl rfl ?_
        refine awp_skip ?_
        exact ⟨(), h, (ghost_ren 1 (fun i => ([0] : List Nat).getD i 0) _ _ (by decide) (EnvSub.get (.cons (Sub.imm (Imm.lst _ _)) (.cons (Sub.imm (Imm.lst _ _)) (.cons (Sub.imm (Imm.con _)) (.cons (Sub.imm (Imm.con _)) (.cons (Sub.ptr rfl rfl) (.cons (Sub.imm (Imm.con _)) (.cons (Sub.imm (Imm.con _)) (.cons (Sub.imm (Imm.con _)) (.cons (Sub.ptr rfl rfl) (.cons (Sub.imm (Imm.con _)) (.cons (Sub.imm (Imm.con _)) .nil)))))))))))) (HpSub.get (.cons rfl (ObSub.box (.cons (Sub.imm (Imm.con _)) (.cons (Sub.imm (Imm.con _)) (.cons (Sub.imm (Imm.con _)) .nil)))) .nil)) rfl)⟩
      clear h
      intro _ h
      subst hk14
      refine rg ?_
      refine aops_bin (.int .i64 (w64 (n5 + 1))) wants_none rfl rfl rfl rfl ?_
      refine am (iV (w64 (n5 + 1))) rfl rfl ?_
      refine an ?_
      exact awp_back (ih1 (w64 (n5 + 1)) (hk1 _ h)) (ghost_ren 0 (fun i => ([] : List Nat).getD i 0) _ _ (by decide) (EnvSub.get (.cons (Sub.imm (Imm.lst _ _)) (.cons (Sub.imm (Imm.lst _ _)) (.cons (Sub.imm (Imm.con _)) (.cons (Sub.imm (Imm.con _)) .nil))))) (HpSub.get .nil) rfl)
    replace h := RG.f h hb6
    unfold M127_L1 at h
    refine awp_exit ?_
    exact ⟨(), h, (ghost_ren 0 (fun i => ([] : List Nat).getD i 0) _ _ (by decide) (EnvSub.get .nil) (HpSub.get .nil) rfl)⟩
  clear h
  intro _ h
  subst hk3
  refine sr ?_
  refine aa (iV 0) rfl rfl ?_
  refine an ?_
  refine awp_ret ?_
  replace h := Option.some.inj h
  subst h
  exact ⟨.inl rfl, .one (.tmp rfl (Imm.con _))⟩
theorem W95 (F : Nat) (a1 : (List UInt8)) (r : Bool) (h : M95 F a1 = some r) : Pure Try.prog 95 [(sV a1)] (bV r) := by
  refine pure_enter Try.func95 rfl rfl (l := [.tmp 2]) rfl rfl [(0, (sV a1))] rfl (fun w0 m0 => ?_)
  unfold M95 at h
  refine sr ?_
  refine aa (bV false) rfl rfl ?_
  refine an ?_
  refine sq ?_
  refine sr ?_
  refine aa (iV 0) rfl rfl ?_
  refine an ?_
  replace h := jn_elim h
  obtain ⟨k2, hk2, h⟩ := h
  refine awp_cut (fun _ : Unit => (⟨[(0, (sV a1))], [], 0⟩ : St)) (fun _ : Unit => k2 = some r) ?_ ?_
  · clear hk2
    refine awp_block ?_
    replace h := chk_some h
    obtain ⟨hA12, h⟩ := h
    refine awp_loop_ind (fun (p : Int) => (⟨[(0, (sV a1)), (3, (iV p))], [], 0⟩ : St)) (fun n (p : Int) => RC (a1.length : Int) (fun tl nn => M95_L1 F a1 k2 tl nn = some r) n p) (fun p h => RC.zero h) (fun n ih1 p h => ?_) (Int.toNat (a1.length : Int) + 1) 0 (RC.start h) (ghost_ren 0 (fun i => ([] : List Nat).getD i 0) _ _ (by decide) (EnvSub.get (.cons (Sub.imm (Imm.con _)) (.cons (Sub.imm (Imm.con _)) .nil))) (HpSub.get .nil) rfl)
    revert p
    intro n4 h
    refine awp_loop ?_
    refine sq ?_
    refine sr ?_
    refine am (iV n4) rfl rfl ?_
    refine am (sV a1) rfl rfl ?_
    refine aops_lenT tStr9 wants_none rfl rfl ?_
    refine aops_bin (.bool (decide (n4 < (a1.length : Int)))) wants_none rfl rfl rfl rfl ?_
    refine an ?_
    refine awp_cond (decide (n4 < (a1.length : Int))) rfl (fun hb5 => ?_) (fun hb5 => ?_)
    · obtain ⟨tl, h, hk1⟩ := RC.t hA12 h hb5
      unfold M95_L1 at h
      refine awp_skip ?_
      refine sq ?_
      refine awp_block ?_
      refine sr ?_
      refine am (sV a1) rfl rfl ?_
      refine am (iV n4) rfl rfl ?_
      replace h := bind_some h
      obtain ⟨c6, hx7, h⟩ := h
      refine aops_indexT c6 tStr9 wants_none rfl rfl (idx_some hx7).1 (idx_some hx7).2 rfl ?_
      refine aops_bin (.bool (decide ((c6.toNat : Int) < 33))) wants_none rfl rfl rfl rfl ?_
      refine am (bV (decide ((c6.toNat : Int) < 33))) rfl rfl ?_
      refine bsp (decide ((c6.toNat : Int) < 33)) (fun hb8 => ?_) (fun hb8 => ?_)
      · replace h := ite_t hb8 h
        refine aops_skips 4 4 14 false (c := (decide ((c6.toNat : Int) < 33))) (b := true) rfl rfl hb8 rfl rfl ?_
        refine aops_pick true (cb := (decide ((c6.toNat : Int) < 33))) (bV true) wants_none rfl hb8 rfl rfl ?_
        refine an ?_
        refine awp_cond_t rfl rfl ?_
        refine sr ?_
        refine aa (bV false) rfl rfl ?_
        refine an ?_
        refine awp_ret ?_
        replace h := Option.some.inj h
        subst h
        exact ⟨.inl rfl, .one (.tmp rfl (Imm.con _))⟩
      replace h := ite_f hb8 h
      refine aops_move (sV a1) (wants_some (c := (decide ((c6.toNat : Int) < 33))) (b := false) 14 rfl rfl hb8) rfl rfl ?_
      refine aops_move (iV n4) (wants_some (c := (decide ((c6.toNat : Int) < 33))) (b := false) 14 rfl rfl hb8) rfl rfl ?_
      replace h := bind_some h
      obtain ⟨c9, hx10, h⟩ := h
      refine aops_indexT c9 tStr9 (wants_some (c := (decide ((c6.toNat : Int) < 33))) (b := false) 14 rfl rfl hb8) rfl rfl (idx_some hx10).1 (idx_some hx10).2 rfl ?_
      refine aops_bin (.bool (decide ((c9.toNat : Int) > 126))) (wants_some (c := (decide ((c6.toNat : Int) < 33))) (b := false) 14 rfl rfl hb8) rfl rfl rfl rfl ?_
      refine aops_pick false (cb := (decide ((c6.toNat : Int) < 33))) (bV (decide ((c9.toNat : Int) > 126))) wants_none rfl hb8 rfl rfl ?_
      refine an ?_
      refine awp_cond (decide ((c9.toNat : Int) > 126)) rfl (fun hb11 => ?_) (fun hb11 => ?_)
      · replace h := ite_t hb11 h
        refine sr ?_
        refine aa (bV false) rfl rfl ?_
        refine an ?_
        refine awp_ret ?_
        replace h := Option.some.inj h
        subst h
        exact ⟨.inl rfl, .one (.tmp rfl (Imm.con _))⟩
      replace h := ite_f hb11 h
      refine awp_skip ?_
      refine rg ?_
      refine am (iV n4) rfl rfl ?_
      refine aops_bin (.int .i64 (w64 (n4 + 1))) wants_none rfl rfl rfl rfl ?_
      refine aa (iV (w64 (n4 + 1))) rfl rfl ?_
      refine an ?_
      exact awp_back (ih1 (w64 (n4 + 1)) (hk1 _ h)) (ghost_ren 0 (fun i => ([] : List Nat).getD i 0) _ _ (by decide) (EnvSub.get (.cons (Sub.imm (Imm.con _)) (.cons (Sub.imm (Imm.con _)) .nil))) (HpSub.get .nil) rfl)
    replace h := RC.f h hb5
    unfold M95_L1 at h
    refine awp_exit ?_
    exact ⟨(), h, (ghost_ren 0 (fun i => ([] : List Nat).getD i 0) _ _ (by decide) (EnvSub.get (.cons (Sub.imm (Imm.con _)) .nil)) (HpSub.get .nil) rfl)⟩
  clear h
  intro _ h
  subst hk2
  refine sr ?_
  refine am (sV a1) rfl rfl ?_
  refine aops_lenT tStr9 wants_none rfl rfl ?_
  refine aops_bin (.bool (decide ((a1.length : Int) ≥ 1))) wants_none rfl rfl rfl rfl ?_
  refine am (bV (decide ((a1.length : Int) ≥ 1))) rfl rfl ?_
  refine bsp (decide ((a1.length : Int) ≥ 1)) (fun hb13 => ?_) (fun hb13 => ?_)
  · replace h := ite_t hb13 h
    refine aops_move (sV a1) (wants_some (c := (decide ((a1.length : Int) ≥ 1))) (b := true) 23 rfl rfl hb13) rfl rfl ?_
    refine aops_lenT tStr9 (wants_some (c := (decide ((a1.length : Int) ≥ 1))) (b := true) 23 rfl rfl hb13) rfl rfl ?_
    refine aops_bin (.bool (decide ((a1.length : Int) ≤ 100))) (wants_some (c := (decide ((a1.length : Int) ≥ 1))) (b := true) 23 rfl rfl hb13) rfl rfl rfl rfl ?_
    refine aops_pick true (cb := (decide ((a1.length : Int) ≥ 1))) (bV (decide ((a1.length : Int) ≤ 100))) wants_none rfl hb13 rfl rfl ?_
    refine aa (bV (decide ((a1.length : Int) ≤ 100))) rfl rfl ?_
    refine an ?_
    refine awp_ret ?_
    replace h := Option.some.inj h
    subst h
    exact ⟨.inl rfl, .one (.tmp rfl (Imm.con _))⟩
  replace h := ite_f hb13 h
  refine aops_skips 3 3 23 true (c := (decide ((a1.length : Int) ≥ 1))) (b := false) rfl rfl hb13 rfl rfl ?_
  refine aops_pick false (cb := (decide ((a1.length : Int) ≥ 1))) (bV false) wants_none rfl hb13 rfl rfl ?_
  refine aa (bV false) rfl rfl ?_
  refine an ?_
  refine awp_ret ?_
  replace h := Option.some.inj h
  subst h
  exact ⟨.inl rfl, .one (.tmp rfl (Imm.con _))⟩
theorem W132 (F : Nat) (a1 : TExposure) (a2 : TExposure) (r : Bool) (h : M132 F a1 a2 = some r) : Pure Try.prog 132 [(V.agg (encTExposure a1)), (V.agg (encTExposure a2))] (bV r) := by
  refine pure_enter Try.func132 rfl rfl (l := [.tmp 4]) rfl rfl [(0, (V.agg (encTExposure a1))), (1, (V.agg (encTExposure a2)))] rfl (fun w0 m0 => ?_)
  unfold M132 at h
  refine sr ?_
  refine aops_box (encTExposure a1) wants_none rfl rfl rfl rfl ?_
  refine aops_box (encTExposure a2) wants_none rfl rfl rfl rfl ?_
  refine aa (bV false) rfl rfl ?_
  refine an ?_
  refine sr ?_
  refine aops_fieldAddr tF47_0 wants_none rfl rfl ?_
  refine aops_load_cell (sV a1.Advisory) tC9 wants_none rfl rfl rfl rfl rfl ?_
  refine aops_fieldAddr tF47_0 wants_none rfl rfl ?_
  refine aops_load_cell (sV a2.Advisory) tC9 wants_none rfl rfl rfl rfl rfl ?_
  refine aops_binT (.bool (Op.bytesLess a1.Advisory a2.Advisory)) wants_none rfl rfl rfl rfl ?_
  refine am (bV (Op.bytesLess a1.Advisory a2.Advisory)) rfl rfl ?_
  refine bsp (Op.bytesLess a1.Advisory a2.Advisory) (fun hb3 => ?_) (fun hb3 => ?_)
  · replace h := ite_t hb3 h
    refine aops_skips 6 5 10 false (c := (Op.bytesLess a1.Advisory a2.Advisory)) (b := true) rfl rfl hb3 rfl rfl ?_
    refine aops_skip (wants_undef 16 rfl rfl) rfl rfl ?_
    refine aops_skip (wants_undef 16 rfl rfl) rfl rfl ?_
    refine aops_skip (wants_undef 16 rfl rfl) rfl rfl ?_
    refine aops_skip (wants_undef 16 rfl rfl) rfl rfl ?_
    refine aops_skip (wants_undef 16 rfl rfl) rfl rfl ?_
    refine aops_skip (wants_some (c := (Op.bytesLess a1.Advisory a2.Advisory)) (b := true) 10 rfl rfl hb3) rfl rfl ?_
    refine aops_pick true (cb := (Op.bytesLess a1.Advisory a2.Advisory)) (bV true) wants_none rfl hb3 rfl rfl ?_
    refine aa (bV true) rfl rfl ?_
    refine an ?_
    refine awp_ret ?_
    replace h := Option.some.inj h
    subst h
    exact ⟨.inl rfl, .one (.tmp rfl (Imm.con _))⟩
  replace h := ite_f hb3 h
  refine aops_fieldAddr tF47_0 (wants_some (c := (Op.bytesLess a1.Advisory a2.Advisory)) (b := false) 10 rfl rfl hb3) rfl rfl ?_
  refine aops_load_cell (sV a1.Advisory) tC9 (wants_some (c := (Op.bytesLess a1.Advisory a2.Advisory)) (b := false) 10 rfl rfl hb3) rfl rfl rfl rfl rfl ?_
  refine aops_fieldAddr tF47_0 (wants_some (c := (Op.bytesLess a1.Advisory a2.Advisory)) (b := false) 10 rfl rfl hb3) rfl rfl ?_
  refine aops_load_cell (sV a2.Advisory) tC9 (wants_some (c := (Op.bytesLess a1.Advisory a2.Advisory)) (b := false) 10 rfl rfl hb3) rfl rfl rfl rfl rfl ?_
  refine aops_binT (.bool (a1.Advisory == a2.Advisory)) (wants_some (c := (Op.bytesLess a1.Advisory a2.Advisory)) (b := false) 10 rfl rfl hb3) rfl rfl rfl rfl ?_
  refine aops_move (bV (a1.Advisory == a2.Advisory)) (wants_some (c := (Op.bytesLess a1.Advisory a2.Advisory)) (b := false) 10 rfl rfl hb3) rfl rfl ?_
  refine bsp (a1.Advisory == a2.Advisory) (fun hb4 => ?_) (fun hb4 => ?_)
  · replace h := ite_t hb4 h
    refine aops_fieldAddr tF47_1 (wants_some (c := (a1.Advisory == a2.Advisory)) (b := true) 16 rfl rfl hb4) rfl rfl ?_
    refine aops_load_cell (sV a1.Component) tC9 (wants_some (c := (a1.Advisory == a2.Advisory)) (b := true) 16 rfl rfl hb4) rfl rfl rfl rfl rfl ?_
    refine aops_fieldAddr tF47_1 (wants_some (c := (a1.Advisory == a2.Advisory)) (b := true) 16 rfl rfl hb4) rfl rfl ?_
    refine aops_load_cell (sV a2.Component) tC9 (wants_some (c := (a1.Advisory == a2.Advisory)) (b := true) 16 rfl rfl hb4) rfl rfl rfl rfl rfl ?_
    refine aops_binT (.bool (Op.bytesLess a1.Component a2.Component)) (wants_some (c := (a1.Advisory == a2.Advisory)) (b := true) 16 rfl rfl hb4) rfl rfl rfl rfl ?_
    refine aops_pick true (cb := (a1.Advisory == a2.Advisory)) (bV (Op.bytesLess a1.Component a2.Component)) (wants_some (c := (Op.bytesLess a1.Advisory a2.Advisory)) (b := false) 10 rfl rfl hb3) rfl hb4 rfl rfl ?_
    refine aops_pick false (cb := (Op.bytesLess a1.Advisory a2.Advisory)) (bV (Op.bytesLess a1.Component a2.Component)) wants_none rfl hb3 rfl rfl ?_
    refine aa (bV (Op.bytesLess a1.Component a2.Component)) rfl rfl ?_
    refine an ?_
    refine awp_ret ?_
    replace h := Option.some.inj h
    subst h
    exact ⟨.inl rfl, .one (.tmp rfl (Imm.con _))⟩
  replace h := ite_f hb4 h
  refine aops_skips 5 11 16 true (c := (a1.Advisory == a2.Advisory)) (b := false) rfl rfl hb4 rfl rfl ?_
  refine aops_pick false (cb := (a1.Advisory == a2.Advisory)) (bV false) (wants_some (c := (Op.bytesLess a1.Advisory a2.Advisory)) (b := false) 10 rfl rfl hb3) rfl hb4 rfl rfl ?_
  refine aops_pick false (cb := (Op.bytesLess a1.Advisory a2.Advisory)) (bV false) wants_none rfl hb3 rfl rfl ?_
  refine aa (bV false) rfl rfl ?_
  refine an ?_
  refine awp_ret ?_
  replace h := Option.some.inj h
  subst h
  exact ⟨.inl rfl, .one (.tmp rfl (Imm.con _))⟩
theorem W96 (F : Nat) (a1 : (List TExposure)) (r : Int) (h : M96 F a1 = some r) : Pure Try.prog 96 [(V.lst 3 (a1.map encTExposure))] (iV r) := by
  refine pure_enter Try.func96 rfl rfl (l := [.tmp 2]) rfl rfl [(0, (V.lst 3 (a1.map encTExposure)))] rfl (fun w0 m0 => ?_)
  unfold M96 at h
  refine sr ?_
  refine aa (iV 0) rfl rfl ?_
  refine an ?_
  refine sq ?_
  refine sr ?_
  refine am (V.lst 3 (a1.map encTExposure)) rfl rfl ?_
  refine aops_len (n := a1.length) tIsSl40 wants_none rfl (congrArg some (List.length_map ..)) rfl ?_
  refine aops_bin (.bool (decide (((a1.length : Nat) : Int) > 500))) wants_none rfl rfl rfl rfl ?_
  refine an ?_
  refine awp_cond (decide (((a1.length : Nat) : Int) > 500)) rfl (fun hb2 => ?_) (fun hb2 => ?_)
  · replace h := ite_t hb2 h
    refine sr ?_
    refine aa (iV 3) rfl rfl ?_
    refine an ?_
    refine awp_ret ?_
    replace h := Option.some.inj h
    subst h
    exact ⟨.inl rfl, .one (.tmp rfl (Imm.con _))⟩
  replace h := ite_f hb2 h
  refine awp_skip ?_
  refine sq ?_
  refine sr ?_
  refine am (V.lst 3 (a1.map encTExposure)) rfl rfl ?_
  refine aops_len (n := a1.length) tIsSl40 wants_none rfl (congrArg some (List.length_map ..)) rfl ?_
  refine am (iV 0) rfl rfl ?_
  refine an ?_
  replace h := jn_elim h
  obtain ⟨k3, hk3, h⟩ := h
  refine awp_cut (fun _ : Unit => (⟨[], [], 0⟩ : St)) (fun _ : Unit => k3 = some r) ?_ ?_
  · clear hk3
    refine awp_block ?_
    refine awp_len (A := a1) 0 rfl (fun hA24 => ?_)
    refine awp_loop_ind (fun (p : Int) => (⟨[(0, (V.lst 3 (a1.map encTExposure))), (8, (V.lst 3 (a1.map encTExposure))), (9, (iV ((a1.length : Nat) : Int))), (10, (iV p))], [], 0⟩ : St)) (fun n (p : Int) => RG a1 (fun tl nn => M96_L1 F a1 k3 tl nn = some r) n p) (fun p h => RG.zero h) (fun n ih1 p h => ?_) (a1.length + 1) 0 (RG.start h) (ghost_ren 0 (fun i => ([] : List Nat).getD i 0) _ _ (by decide) (EnvSub.get (.cons (Sub.imm (Imm.lst _ _)) (.cons (Sub.imm (Imm.lst _ _)) (.cons (Sub.imm (Imm.con _)) (.cons (Sub.imm (Imm.con _)) .nil))))) (HpSub.get .nil) rfl)
    revert p
    intro n5 h
    refine awp_loop ?_
    refine sr ?_
    refine aops_bin (.bool (decide (n5 < ((a1.length : Nat) : Int)))) wants_none rfl rfl rfl rfl ?_
    refine an ?_
    refine sq ?_
    refine awp_cond (decide (n5 < ((a1.length : Nat) : Int))) rfl (fun hb6 => ?_) (fun hb6 => ?_)
    · obtain ⟨x7, tl, hx8, h, hk1⟩ := RG.t hA24 h hb6
      unfold M96_L1 at h
      refine awp_skip ?_
      refine sq ?_
      refine awp_block ?_
      refine sr ?_
      refine am (iV n5) rfl rfl ?_
      refine aops_index_lst (encTExposure x7) tSl40 wants_none rfl rfl (idx_some hx8).1 (idx_map encTExposure hx8) rfl ?_
      refine aops_iload_agg (cs := (encTExposure x7)) tA47 wants_none rfl rfl rfl rfl ?_
      refine aops_alloc tZ47 rfl rfl wants_none rfl ?_
      refine aa (iV n5) rfl rfl ?_
      refine aops_store (encTExposure x7) [(encTExposure x7)] tS47 wants_none rfl rfl rfl rfl rfl rfl rfl rfl ?_
      refine an ?_
      refine awp_block ?_
      refine sr ?_
      refine aops_fieldAddr tF47_0 wants_none rfl rfl ?_
      refine aops_load_cell (sV x7.Advisory) tC9 wants_none rfl rfl rfl rfl rfl ?_
      replace h := bind_some h
      obtain ⟨y9, hx10, h⟩ := h
      refine aops_call (bV y9) [(sV x7.Advisory)] fOk95 wants_none (evm_cons rfl evm_nil) (.cons (Imm.con _) .nil) (W95 F x7.Advisory y9 hx10) rfl ?_
      refine aops_not wants_none rfl rfl ?_
      refine am (bV (!y9)) rfl rfl ?_
      refine bsp (!y9) (fun hb11 => ?_) (fun hb11 => ?_)
      · replace h := ite_t hb11 h
        refine aops_skips 4 4 20 false (c := (!y9)) (b := true) rfl rfl hb11 rfl rfl ?_
        refine aops_pick true (cb := (!y9)) (bV true) wants_none rfl hb11 rfl rfl ?_
        refine aa (bV true) rfl rfl ?_
        refine an ?_
        refine awp_cond_t rfl rfl ?_
        refine sr ?_
        refine aa (iV 8) rfl rfl ?_
        refine an ?_
        refine awp_ret ?_
        replace h := Option.some.inj h
        subst h
        exact ⟨.inl rfl, .one (.tmp rfl (Imm.con _))⟩
      replace h := ite_f hb11 h
      refine aops_fieldAddr tF47_1 (wants_some (c := (!y9)) (b := false) 20 rfl rfl hb11) rfl rfl ?_
      refine aops_load_cell (sV x7.Component) tC9 (wants_some (c := (!y9)) (b := false) 20 rfl rfl hb11) rfl rfl rfl rfl rfl ?_
      replace h := bind_some h
      obtain ⟨y12, hx13, h⟩ := h
      refine aops_call (bV y12) [(sV x7.Component)] fOk95 (wants_some (c := (!y9)) (b := false) 20 rfl rfl hb11) (evm_cons rfl evm_nil) (.cons (Imm.con _) .nil) (W95 F x7.Component y12 hx13) rfl ?_
      refine aops_not (wants_some (c := (!y9)) (b := false) 20 rfl rfl hb11) rfl rfl ?_
      refine aops_pick false (cb := (!y9)) (bV (!y12)) wants_none rfl hb11 rfl rfl ?_
      refine aa (bV (!y12)) rfl rfl ?_
      refine an ?_
      replace h := jn_elim h
      obtain ⟨k14, hk14, h⟩ := h
      refine awp_cut (fun _ : Unit => (⟨[(0, (V.lst 3 (a1.map encTExposure))), (8, (V.lst 3 (a1.map encTExposure))), (9, (iV ((a1.length : Nat) : Int))), (10, (iV n5)), (21, (V.ptr 0 3 0 1)), (22, (sV x7.Component)), (23, (bV y12)), (24, (bV (!y12))), (31, (V.ptr 0 3 0 2)), (32, (iV x7.Severity)), (33, (bV (decide (x7.Severity > 100))))], [(0, (Ob.arr 47 3 [(encTExposure x7)]))], 1⟩ : St)) (fun _ : Unit => k14 = some r) ?_ ?_
      · clear hk14
        refine awp_cond (!y12) rfl (fun hb15 => ?_) (fun hb15 => ?_)
        · replace h := ite_t hb15 h
          refine sr ?_
          refine aa (iV 8) rfl rfl ?_
          refine an ?_
          refine awp_ret ?_
          replace h := Option.some.inj h
          subst h
          exact ⟨.inl rfl, .one (.tmp rfl (Imm.con _))⟩
        replace h := ite_f hb15 h
        refine sr ?_
        refine aops_fieldAddr tF47_2 wants_none rfl rfl ?_
        refine aops_load_cell (iV x7.Severity) tC3 wants_none rfl rfl rfl rfl rfl ?_
        refine aops_bin (.bool (decide (x7.Severity < 0))) wants_none rfl rfl rfl rfl ?_
        refine am (bV (decide (x7.Severity < 0))) rfl rfl ?_
        refine bsp (decide (x7.Severity < 0)) (fun hb16 => ?_) (fun hb16 => ?_)
        · replace h := ite_t hb16 h
          refine aops_skips 3 3 30 false (c := (decide (x7.Severity < 0))) (b := true) rfl rfl hb16 rfl rfl ?_
          refine aops_pick true (cb := (decide (x7.Severity < 0))) (bV true) wants_none rfl hb16 rfl rfl ?_
          refine aa (bV true) rfl rfl ?_
          refine an ?_
          refine awp_cond_t rfl rfl ?_
          refine sr ?_
          refine aa (iV 9) rfl rfl ?_
          refine an ?_
          refine awp_ret ?_
          replace h := Option.some.inj h
          subst h
          exact ⟨.inl rfl, .one (.tmp rfl (Imm.con _))⟩
        replace h := ite_f hb16 h
        refine aops_fieldAddr tF47_2 (wants_some (c := (decide (x7.Severity < 0))) (b := false) 30 rfl rfl hb16) rfl rfl ?_
        refine aops_load_cell (iV x7.Severity) tC3 (wants_some (c := (decide (x7.Severity < 0))) (b := false) 30 rfl rfl hb16) rfl rfl rfl rfl rfl ?_
        refine aops_bin (.bool (decide (x7.Severity > 100))) (wants_some (c := (decide (x7.Severity < 0))) (b := false) 30 rfl rfl hb16) rfl rfl rfl rfl ?_
        refine aops_pick false (cb := (decide (x7.Severity < 0))) (bV (decide (x7.Severity > 100))) wants_none rfl hb16 rfl rfl ?_
        refine aa (bV (decide (x7.Severity > 100))) rfl rfl ?_
        refine an ?_
        refine awp_cond (decide (x7.Severity > 100)) rfl (fun hb17 => ?_) (fun hb17 => ?_)
        · replace h := ite_t hb17 h
          refine sr ?_
          refine aa (iV 9) rfl rfl ?_
          refine an ?_
          refine awp_ret ?_
          replace h := Option.some.inj h
          subst h
          exact ⟨.inl rfl, .one (.tmp rfl (Imm.con _))⟩
        replace h := ite_f hb17 h
        refine sq ?_
        refine bsp (decide (n5 > 0)) (fun hb18 => ?_) (fun hb18 => ?_)
        · replace h := ite_t hb18 h
          replace h := bind_some h
          obtain ⟨x19, hx20, h⟩ := h
          replace h := bind_some h
          obtain ⟨y21, hx22, h⟩ := h
          refine awp_any [OD.mk [(3, (iV n5))] [] [(36, (iV n5))] [],
                OD.mk [(36, (iV n5))] [] [(37, (bV (decide (n5 > 0))))] [],
                OD.mk [(37, (bV (decide (n5 > 0))))] [] [(38, (bV (decide (n5 > 0))))] [],
                OD.mk [(38, (bV (decide (n5 > 0)))), (0, (V.lst 3 (a1.map encTExposure)))] [] [(39, (V.lst 3 (a1.map encTExposure)))] [],
                OD.mk [(38, (bV (decide (n5 > 0)))), (3, (iV n5))] [] [(40, (iV n5))] [],
                OD.mk [(38, (bV (decide (n5 > 0)))), (40, (iV n5))] [] [(41, (iV (w64 (n5 - 1))))] [],
                OD.mk [(38, (bV (decide (n5 > 0)))), (39, (V.lst 3 (a1.map encTExposure))), (41, (iV (w64 (n5 - 1))))] [] [(42, (V.iptr (encTExposure x19) 0))] [],
                OD.mk [(38, (bV (decide (n5 > 0)))), (42, (V.iptr (encTExposure x19) 0))] [] [(43, (V.agg (encTExposure x19)))] [],
                OD.mk [(38, (bV (decide (n5 > 0)))), (4, (V.ptr 0 3 0 0))] [(0, (Ob.arr 47 3 [(encTExposure x7)]))] [(44, (V.agg (encTExposure x7)))] [],
                OD.mk [(38, (bV (decide (n5 > 0)))), (43, (V.agg (encTExposure x19))), (44, (V.agg (encTExposure x7)))] [] [(45, (bV y21))] [],
                OD.mk [(38, (bV (decide (n5 > 0)))), (45, (bV y21))] [] [(46, (bV (!y21)))] [],
                OD.mk [(38, (bV (decide (n5 > 0)))), (46, (bV (!y21)))] [] [(47, (bV (!y21)))] [],
                OD.mk [(47, (bV (!y21)))] [] [(35, (bV (!y21)))] []] mixed ⟨⟨rfl, trivial⟩, trivial, ⟨⟨rfl, trivial⟩, trivial, ⟨⟨rfl, trivial⟩, trivial, ⟨⟨rfl, rfl, trivial⟩, trivial, ⟨⟨rfl, rfl, trivial⟩, trivial, ⟨⟨rfl, rfl, trivial⟩, trivial, ⟨⟨rfl, rfl, rfl, trivial⟩, trivial, ⟨⟨rfl, rfl, trivial⟩, trivial, ⟨⟨rfl, rfl, trivial⟩, ⟨rfl, trivial⟩, ⟨⟨rfl, rfl, rfl, trivial⟩, trivial, ⟨⟨rfl, rfl, trivial⟩, trivial, ⟨⟨rfl, rfl, trivial⟩, trivial, ⟨⟨rfl, trivial⟩, trivial, trivial⟩⟩⟩⟩⟩⟩⟩⟩⟩⟩⟩⟩⟩ (by kernel_rfl) (.cons (fun S hn h hh => aops_move (iV n5) wants_none h.1 rfl (an ⟨rfl, rfl⟩)) (.cons (fun S hn h hh => aops_bin (.bool (decide (n5 > 0))) wants_none h.1 rfl rfl rfl (an ⟨rfl, rfl⟩)) (.cons (fun S hn h hh => aops_move (bV (decide (n5 > 0))) wants_none h.1 rfl (an ⟨rfl, rfl⟩)) (.cons (fun S hn h hh => aops_move (V.lst 3 (a1.map encTExposure)) (wants_some (c := (decide (n5 > 0))) (b := true) 38 rfl h.1 hb18) h.2.1 rfl (an ⟨rfl, rfl⟩)) (.cons (fun S hn h hh => aops_move (iV n5) (wants_some (c := (decide (n5 > 0))) (b := true) 38 rfl h.1 hb18) h.2.1 rfl (an ⟨rfl, rfl⟩)) (.cons (fun S hn h hh => aops_bin (.int .i64 (w64 (n5 - 1))) (wants_some (c := (decide (n5 > 0))) (b := true) 38 rfl h.1 hb18) h.2.1 rfl rfl rfl (an ⟨rfl, rfl⟩)) (.cons (fun S hn h hh => aops_index_lst (encTExposure x19) tSl40 (wants_some (c := (decide (n5 > 0))) (b := true) 38 rfl h.1 hb18) h.2.1 h.2.2.1 (idx_some hx20).1 (idx_map encTExposure hx20) rfl (an ⟨rfl, rfl⟩)) (.cons (fun S hn h hh => aops_iload_agg (cs := (encTExposure x19)) tA47 (wants_some (c := (decide (n5 > 0))) (b := true) 38 rfl h.1 hb18) h.2.1 rfl rfl rfl (an ⟨rfl, rfl⟩)) (.cons (fun S hn h hh => aops_load_agg (cs := (encTExposure x7)) tA47 (wants_some (c := (decide (n5 > 0))) (b := true) 38 rfl h.1 hb18) h.2.1 hh.1 rfl rfl rfl rfl (an ⟨rfl, rfl⟩)) (.cons (fun S hn h hh => aops_call (bV y21) [(V.agg (encTExposure x19)), (V.agg (encTExposure x7))] fOk132 (wants_some (c := (decide (n5 > 0))) (b := true) 38 rfl h.1 hb18) (evm_cons h.2.1 (evm_cons h.2.2.1 evm_nil)) (.cons (Imm.agg (imms_encTExposure _)) (.cons (Imm.agg (imms_encTExposure _)) .nil)) (W132 F x19 x7 y21 hx22) rfl (an ⟨rfl, rfl⟩)) (.cons (fun S hn h hh => aops_not (wants_some (c := (decide (n5 > 0))) (b := true) 38 rfl h.1 hb18) h.2.1 rfl (an ⟨rfl, rfl⟩)) (.cons (fun S hn h hh => aops_pick true (cb := (decide (n5 > 0))) (bV (!y21)) wants_none h.1 hb18 h.2.1 rfl (an ⟨rfl, rfl⟩)) (.cons (fun S hn h hh => aops_assign (bV (!y21)) wants_none h.1 rfl (an ⟨rfl, rfl⟩)) .nil))))))))))))) ?_
          refine awp_cond (!y21) rfl (fun hb23 => ?_) (fun hb23 => ?_)
          · replace h := ite_t hb23 h
            refine sr ?_
            refine aa (iV 10) rfl rfl ?_
            refine an ?_
            refine awp_ret ?_
            replace h := Option.some.inj h
            subst h
            exact ⟨.inl rfl, .one (.tmp rfl (Imm.con _))⟩
          replace h := ite_f hb23 h
          refine awp_skip ?_
          exact ⟨(), h, (ghost_ren 1 (fun i => ([0] : List Nat).getD i 0) _ _ (by decide) (EnvSub.get (.cons (Sub.imm (Imm.lst _ _)) (.cons (Sub.imm (Imm.lst _ _)) (.cons (Sub.imm (Imm.con _)) (.cons (Sub.imm (Imm.con _)) (.cons (Sub.ptr rfl rfl) (.cons (Sub.imm (Imm.con _)) (.cons (Sub.imm (Imm.con _)) (.cons (Sub.imm (Imm.con _)) (.cons (Sub.ptr rfl rfl) (.cons (Sub.imm (Imm.con _)) (.cons (Sub.imm (Imm.con _)) .nil)))))))))))) (HpSub.get (.cons rfl (ObSub.box (.cons (Sub.imm (Imm.con _)) (.cons (Sub.imm (Imm.con _)) (.cons (Sub.imm (Imm.con _)) .nil)))) .nil)) rfl)⟩
        replace h := ite_f hb18 h
        refine awp_any [OD.mk [(3, (iV n5))] [] [(36, (iV n5))] [],
              OD.mk [(36, (iV n5))] [] [(37, (bV (decide (n5 > 0))))] [],
              OD.mk [(37, (bV (decide (n5 > 0))))] [] [(38, (bV (decide (n5 > 0))))] [],
              OD.mk [(38, (bV (decide (n5 > 0))))] [] [(39, (V.con undef))] [],
              OD.mk [(38, (bV (decide (n5 > 0))))] [] [(40, (V.con undef))] [],
              OD.mk [(38, (bV (decide (n5 > 0))))] [] [(41, (V.con undef))] [],
              OD.mk [(38, (bV (decide (n5 > 0))))] [] [(42, (V.con undef))] [],
              OD.mk [(38, (bV (decide (n5 > 0))))] [] [(43, (V.con undef))] [],
              OD.mk [(38, (bV (decide (n5 > 0))))] [] [(44, (V.con undef))] [],
              OD.mk [(38, (bV (decide (n5 > 0))))] [] [(45, (V.con undef))] [],
              OD.mk [(38, (bV (decide (n5 > 0))))] [] [(46, (V.con undef))] [],
              OD.mk [(38, (bV (decide (n5 > 0))))] [] [(47, (bV false))] [],
              OD.mk [(47, (bV false))] [] [(35, (bV false))] []] mixed ⟨⟨rfl, trivial⟩, trivial, ⟨⟨rfl, trivial⟩, trivial, ⟨⟨rfl, trivial⟩, trivial, ⟨⟨rfl, trivial⟩, trivial, ⟨⟨rfl, trivial⟩, trivial, ⟨⟨rfl, trivial⟩, trivial, ⟨⟨rfl, trivial⟩, trivial, ⟨⟨rfl, trivial⟩, trivial, ⟨⟨rfl, trivial⟩, trivial, ⟨⟨rfl, trivial⟩, trivial, ⟨⟨rfl, trivial⟩, trivial, ⟨⟨rfl, trivial⟩, trivial, ⟨⟨rfl, trivial⟩, trivial, trivial⟩⟩⟩⟩⟩⟩⟩⟩⟩⟩⟩⟩⟩ (by kernel_rfl) (.cons (fun S hn h hh => aops_move (iV n5) wants_none h.1 rfl (an ⟨rfl, rfl⟩)) (.cons (fun S hn h hh => aops_bin (.bool (decide (n5 > 0))) wants_none h.1 rfl rfl rfl (an ⟨rfl, rfl⟩)) (.cons (fun S hn h hh => aops_move (bV (decide (n5 > 0))) wants_none h.1 rfl (an ⟨rfl, rfl⟩)) (.cons (fun S hn h hh => aops_skip (wants_some (c := (decide (n5 > 0))) (b := false) 38 rfl h.1 hb18) rfl rfl (an ⟨rfl, rfl⟩)) (.cons (fun S hn h hh => aops_skip (wants_some (c := (decide (n5 > 0))) (b := false) 38 rfl h.1 hb18) rfl rfl (an ⟨rfl, rfl⟩)) (.cons (fun S hn h hh => aops_skip (wants_some (c := (decide (n5 > 0))) (b := false) 38 rfl h.1 hb18) rfl rfl (an ⟨rfl, rfl⟩)) (.cons (fun S hn h hh => aops_skip (wants_some (c := (decide (n5 > 0))) (b := false) 38 rfl h.1 hb18) rfl rfl (an ⟨rfl, rfl⟩)) (.cons (fun S hn h hh => aops_skip (wants_some (c := (decide (n5 > 0))) (b := false) 38 rfl h.1 hb18) rfl rfl (an ⟨rfl, rfl⟩)) (.cons (fun S hn h hh => aops_skip (wants_some (c := (decide (n5 > 0))) (b := false) 38 rfl h.1 hb18) rfl rfl (an ⟨rfl, rfl⟩)) (.cons (fun S hn h hh => aops_skip (wants_some (c := (decide (n5 > 0))) (b := false) 38 rfl h.1 hb18) rfl rfl (an ⟨rfl, rfl⟩)) (.cons (fun S hn h hh => aops_skip (wants_some (c := (decide (n5 > 0))) (b := false) 38 rfl h.1 hb18) rfl rfl (an ⟨rfl, rfl⟩)) (.cons (fun S hn h hh => aops_pick false (cb := (decide (n5 > 0))) (bV false) wants_none h.1 hb18 rfl rfl (an ⟨rfl, rfl⟩)) (.cons (fun S hn h hh => aops_assign (bV false) wants_none h.1 rfl (an ⟨rfl, rfl⟩)) .nil))))))))))))) ?_
        refine awp_cond_f rfl rfl ?_
        refine awp_skip ?_
        exact ⟨(), h, (ghost_ren 1 (fun i => ([0] : List Nat).getD i 0) _ _ (by decide) (EnvSub.get (.cons (Sub.imm (Imm.lst _ _)) (.cons (Sub.imm (Imm.lst _ _)) (.cons (Sub.imm (Imm.con _)) (.cons (Sub.imm (Imm.con _)) (.cons (Sub.ptr rfl rfl) (.cons (Sub.imm (Imm.con _)) (.cons (Sub.imm (Imm.con _)) (.cons (Sub.imm (Imm.con _)) (.cons (Sub.ptr rfl rfl) (.cons (Sub.imm (Imm.con _)) (.cons (Sub.imm (Imm.con _)) .nil)))))))))))) (HpSub.get (.cons rfl (ObSub.box (.cons (Sub.imm (Imm.con _)) (.cons (Sub.imm (Imm.con _)) (.cons (Sub.imm (Imm.con _)) .nil)))) .nil)) rfl)⟩
      clear h
      intro _ h
      subst hk14
      refine rg ?_
      refine aops_bin (.int .i64 (w64 (n5 + 1))) wants_none rfl rfl rfl rfl ?_
      refine am (iV (w64 (n5 + 1))) rfl rfl ?_
      refine an ?_
      exact awp_back (ih1 (w64 (n5 + 1)) (hk1 _ h)) (ghost_ren 0 (fun i => ([] : List Nat).getD i 0) _ _ (by decide) (EnvSub.get (.cons (Sub.imm (Imm.lst _ _)) (.cons (Sub.imm (Imm.lst _ _)) (.cons (Sub.imm (Imm.con _)) (.cons (Sub.imm (Imm.con _)) .nil))))) (HpSub.get .nil) rfl)
    replace h := RG.f h hb6
    unfold M96_L1 at h
    refine awp_exit ?_
    exact ⟨(), h, (ghost_ren 0 (fun i => ([] : List Nat).getD i 0) _ _ (by decide) (EnvSub.get .nil) (HpSub.get .nil) rfl)⟩
  clear h
  intro _ h
  subst hk3
  refine sr ?_
  refine aa (iV 0) rfl rfl ?_
  refine an ?_
  refine awp_ret ?_
  replace h := Option.some.inj h
  subst h
  exact ⟨.inl rfl, .one (.tmp rfl (Imm.con _))⟩
theorem W30 (F : Nat) (a1 : (List TExposure)) (a2 : (List TExposure)) (r : Bool) (h : M30 F a1 a2 = some r) : Pure Try.prog 30 [(V.lst 3 (a1.map encTExposure)), (V.lst 3 (a2.map encTExposure))] (bV r) := by
  refine pure_enter Try.func30 rfl rfl (l := [.tmp 4]) rfl rfl [(0, (V.lst 3 (a1.map encTExposure))), (1, (V.lst 3 (a2.map encTExposure)))] rfl (fun w0 m0 => ?_)
  unfold M30 at h
  refine sr ?_
  refine aa (bV false) rfl rfl ?_
  refine an ?_
  refine sq ?_
  refine sr ?_
  refine am (V.lst 3 (a1.map encTExposure)) rfl rfl ?_
  refine aops_len (n := a1.length) tIsSl40 wants_none rfl (congrArg some (List.length_map ..)) rfl ?_
  refine am (V.lst 3 (a2.map encTExposure)) rfl rfl ?_
  refine aops_len (n := a2.length) tIsSl40 wants_none rfl (congrArg some (List.length_map ..)) rfl ?_
  refine aops_bin (.bool (((a1.length : Nat) : Int) != ((a2.length : Nat) : Int))) wants_none rfl rfl rfl rfl ?_
  refine an ?_
  refine awp_cond (((a1.length : Nat) : Int) != ((a2.length : Nat) : Int)) rfl (fun hb3 => ?_) (fun hb3 => ?_)
  · replace h := ite_t hb3 h
    refine sr ?_
    refine aa (bV false) rfl rfl ?_
    refine an ?_
    refine awp_ret ?_
    replace h := Option.some.inj h
    subst h
    exact ⟨.inl rfl, .one (.tmp rfl (Imm.con _))⟩
  replace h := ite_f hb3 h
  refine awp_skip ?_
  refine sq ?_
  refine sr ?_
  refine am (V.lst 3 (a1.map encTExposure)) rfl rfl ?_
  refine aops_len (n := a1.length) tIsSl40 wants_none rfl (congrArg some (List.length_map ..)) rfl ?_
  refine am (iV 0) rfl rfl ?_
  refine an ?_
  replace h := jn_elim h
  obtain ⟨k4, hk4, h⟩ := h
  refine awp_cut (fun _ : Unit => (⟨[], [], 0⟩ : St)) (fun _ : Unit => k4 = some r) ?_ ?_
  · clear hk4
    refine awp_block ?_
    refine awp_len (A := a1) 0 rfl (fun hA13 => ?_)
    refine awp_loop_ind (fun (p : Int) => (⟨[(0, (V.lst 3 (a1.map encTExposure))), (1, (V.lst 3 (a2.map encTExposure))), (12, (iV ((a1.length : Nat) : Int))), (13, (iV p))], [], 0⟩ : St)) (fun n (p : Int) => RG a1 (fun tl nn => M30_L1 F a2 k4 tl nn = some r) n p) (fun p h => RG.zero h) (fun n ih1 p h => ?_) (a1.length + 1) 0 (RG.start h) (ghost_ren 0 (fun i => ([] : List Nat).getD i 0) _ _ (by decide) (EnvSub.get (.cons (Sub.imm (Imm.lst _ _)) (.cons (Sub.imm (Imm.lst _ _)) (.cons (Sub.imm (Imm.con _)) (.cons (Sub.imm (Imm.con _)) .nil))))) (HpSub.get .nil) rfl)
    revert p
    intro n6 h
    refine awp_loop ?_
    refine sr ?_
    refine aops_bin (.bool (decide (n6 < ((a1.length : Nat) : Int)))) wants_none rfl rfl rfl rfl ?_
    refine an ?_
    refine sq ?_
    refine awp_cond (decide (n6 < ((a1.length : Nat) : Int))) rfl (fun hb7 => ?_) (fun hb7 => ?_)
    · obtain ⟨x8, tl, hx9, h, hk1⟩ := RG.t hA13 h hb7
      unfold M30_L1 at h
      refine awp_skip ?_
      refine sq ?_
      refine awp_block ?_
      refine sr ?_
      refine am (iV n6) rfl rfl ?_
      refine aa (iV n6) rfl rfl ?_
      refine an ?_
      refine sq ?_
      replace h := bind_some h
      obtain ⟨x10, hx11, h⟩ := h
      refine awp_any [OD.mk [(0, (V.lst 3 (a1.map encTExposure)))] [] [(16, (V.lst 3 (a1.map encTExposure)))] [],
            OD.mk [(5, (iV n6))] [] [(17, (iV n6))] [],
            OD.mk [(16, (V.lst 3 (a1.map encTExposure))), (17, (iV n6))] [] [(18, (V.iptr (encTExposure x8) 0))] [],
            OD.mk [(18, (V.iptr (encTExposure x8) 0))] [] [(19, (V.agg (encTExposure x8)))] [],
            OD.mk [(1, (V.lst 3 (a2.map encTExposure)))] [] [(20, (V.lst 3 (a2.map encTExposure)))] [],
            OD.mk [(5, (iV n6))] [] [(21, (iV n6))] [],
            OD.mk [(20, (V.lst 3 (a2.map encTExposure))), (21, (iV n6))] [] [(22, (V.iptr (encTExposure x10) 0))] [],
            OD.mk [(22, (V.iptr (encTExposure x10) 0))] [] [(23, (V.agg (encTExposure x10)))] [],
            OD.mk [(19, (V.agg (encTExposure x8))), (23, (V.agg (encTExposure x10)))] [] [(24, (bV (!(decide (x8 = x10)))))] []] mixed ⟨⟨rfl, trivial⟩, trivial, ⟨⟨rfl, trivial⟩, trivial, ⟨⟨rfl, rfl, trivial⟩, trivial, ⟨⟨rfl, trivial⟩, trivial, ⟨⟨rfl, trivial⟩, trivial, ⟨⟨rfl, trivial⟩, trivial, ⟨⟨rfl, rfl, trivial⟩, trivial, ⟨⟨rfl, trivial⟩, trivial, ⟨⟨rfl, rfl, trivial⟩, trivial, trivial⟩⟩⟩⟩⟩⟩⟩⟩⟩ (by kernel_rfl) (.cons (fun S hn h hh => aops_move (V.lst 3 (a1.map encTExposure)) wants_none h.1 rfl (an ⟨rfl, rfl⟩)) (.cons (fun S hn h hh => aops_move (iV n6) wants_none h.1 rfl (an ⟨rfl, rfl⟩)) (.cons (fun S hn h hh => aops_index_lst (encTExposure x8) tSl40 wants_none h.1 h.2.1 (idx_some hx9).1 (idx_map encTExposure hx9) rfl (an ⟨rfl, rfl⟩)) (.cons (fun S hn h hh => aops_iload_agg (cs := (encTExposure x8)) tA47 wants_none h.1 rfl rfl rfl (an ⟨rfl, rfl⟩)) (.cons (fun S hn h hh => aops_move (V.lst 3 (a2.map encTExposure)) wants_none h.1 rfl (an ⟨rfl, rfl⟩)) (.cons (fun S hn h hh => aops_move (iV n6) wants_none h.1 rfl (an ⟨rfl, rfl⟩)) (.cons (fun S hn h hh => aops_index_lst (encTExposure x10) tSl40 wants_none h.1 h.2.1 (idx_some hx11).1 (idx_map encTExposure hx11) rfl (an ⟨rfl, rfl⟩)) (.cons (fun S hn h hh => aops_iload_agg (cs := (encTExposure x10)) tA47 wants_none h.1 rfl rfl rfl (an ⟨rfl, rfl⟩)) (.cons (fun S hn h hh => aops_eqS true (xs := cv47 x8) (ys := cv47 x10) (b := (decide (x8 = x10))) eqk47 ⟨_, rfl⟩ ⟨_, rfl⟩ (eq_b cv47 _ _ (inj_cv47 _ _)) tEqG47 wants_none h.1 h.2.1 rfl (an ⟨rfl, rfl⟩)) .nil))))))))) ?_
      refine awp_cond (!(decide (x8 = x10))) rfl (fun hb12 => ?_) (fun hb12 => ?_)
      · replace h := ite_t hb12 h
        refine sr ?_
        refine aa (bV false) rfl rfl ?_
        refine an ?_
        refine awp_ret ?_
        replace h := Option.some.inj h
        subst h
        exact ⟨.inl rfl, .one (.tmp rfl (Imm.con _))⟩
      replace h := ite_f hb12 h
      refine awp_skip ?_
      refine rg ?_
      refine aops_bin (.int .i64 (w64 (n6 + 1))) wants_none rfl rfl rfl rfl ?_
      refine am (iV (w64 (n6 + 1))) rfl rfl ?_
      refine an ?_
      exact awp_back (ih1 (w64 (n6 + 1)) (hk1 _ h)) (ghost_ren 0 (fun i => ([] : List Nat).getD i 0) _ _ (by decide) (EnvSub.get (.cons (Sub.imm (Imm.lst _ _)) (.cons (Sub.imm (Imm.lst _ _)) (.cons (Sub.imm (Imm.con _)) (.cons (Sub.imm (Imm.con _)) .nil))))) (HpSub.get .nil) rfl)
    replace h := RG.f h hb7
    unfold M30_L1 at h
    refine awp_exit ?_
    exact ⟨(), h, (ghost_ren 0 (fun i => ([] : List Nat).getD i 0) _ _ (by decide) (EnvSub.get .nil) (HpSub.get .nil) rfl)⟩
  clear h
  intro _ h
  subst hk4
  refine sr ?_
  refine aa (bV true) rfl rfl ?_
  refine an ?_
  refine awp_ret ?_
  replace h := Option.some.inj h
  subst h
  exact ⟨.inl rfl, .one (.tmp rfl (Imm.con _))⟩
end Go.Proofs.Ytkciogeafbbggaa
