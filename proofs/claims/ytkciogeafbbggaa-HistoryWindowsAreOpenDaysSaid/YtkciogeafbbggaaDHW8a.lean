/- Part of the proof: HW8a. -/
import Derived.Test.YtkciogeafbbggaaDHM
import Derived.Test.YtkciogeafbbggaaDHW3a
import Derived.Test.YtkciogeafbbggaaDHW6a
import Derived.Test.YtkciogeafbbggaaDHW7a
import Derived.KernelRfl
namespace Go.Proofs.Ytkciogeafbbggaa
open Go Go.Pv
set_option linter.unusedVariables false
set_option maxRecDepth 100000
theorem W147 (F : Nat) (a1 : (List TWindow)) (r : (List TWindow)) (h : M147 F a1 = some r) : Mut Try.prog 147 [(V.lst 6 (a1.map encTWindow))] 0 [] (resV [(V.own 0 r.length)]) 1 [(0, (Ob.arr 35 6 (r.map encTWindow)))] := by
  refine mut_enter Try.func147 rfl rfl (l := [.tmp 2]) rfl rfl [(0, (V.lst 6 (a1.map encTWindow)))] rfl (fun w0 m0 β0 => ?_)
  unfold M147 at h
  refine sr ?_
  refine aa nV rfl rfl ?_
  refine an ?_
  refine sq ?_
  refine sr ?_
  refine am (V.lst 6 (a1.map encTWindow)) rfl rfl ?_
  refine aops_isNil (n := a1.length) false tIsSl59 wants_none rfl rfl (congrArg some (List.length_map ..)) rfl (fun b7 hn8 => ?_)
  replace h := nilq_elim h hn8
  refine an ?_
  refine awp_cond b7 rfl (fun hb9 => ?_) (fun hb9 => ?_)
  · replace h := ite_t hb9 h
    refine sr ?_
    refine aa nV rfl rfl ?_
    refine an ?_
    refine awp_ret ?_
    obtain rfl := Option.some.inj h
    exact ⟨.inl rfl, [(2, (V.own 0 ([] : List TWindow).length))], (Ghost.trans (ghost_nilE 2 35 6 rfl) (ghost_ren 1 (fun i => ([0] : List Nat).getD i 0) _ _ (by decide) (EnvSub.get (.cons (Sub.ownE rfl rfl (by simp)) .nil)) (HpSub.get (.cons rfl (ObSub.rows (rows_imm imms_encTWindow)) .nil)) rfl)), (.cons (.tmp rfl) .nil)⟩
  replace h := ite_f hb9 h
  refine awp_skip ?_
  refine sr ?_
  refine aops_emptySlice tEl59 wants_none rfl ?_
  refine am (V.lst 6 (a1.map encTWindow)) rfl rfl ?_
  replace h := chk_some h
  obtain ⟨hc10, h⟩ := h
  refine aops_append (a1.map encTWindow) ((([] : List TWindow) ++ a1).map encTWindow) tEl59 tIsSl59 rfl rfl wants_none rfl rfl (by simp) rfl (.lst (rows_one one_encTWindow)) (map_snoc encTWindow ([] : List TWindow) a1) (List.length_map ..) hc10 rfl ?_
  refine aa (V.own 1 (([] : List TWindow) ++ a1).length) rfl rfl ?_
  refine an ?_
  refine awp_ret ?_
  obtain rfl := Option.some.inj h
  exact ⟨.inl rfl, [(2, (V.own 0 (([] : List TWindow) ++ a1).length))], (ghost_ren 1 (fun i => ([1] : List Nat).getD i 0) _ _ (by decide) (EnvSub.get (.cons (Sub.own rfl rfl) .nil)) (HpSub.get (.cons rfl (ObSub.rows (rows_imm imms_encTWindow)) .nil)) rfl), (.cons (.tmp rfl) .nil)⟩
theorem W116 (F : Nat) (a1 : Int) (a2 : Int) (r : Int) (h : M116 F a1 a2 = some r) : Pure Try.prog 116 [(iV a1), (iV a2)] (iV r) := by
  refine pure_enter Try.func116 rfl rfl (l := [.tmp 4]) rfl rfl [(0, (iV a1)), (1, (iV a2))] rfl (fun w0 m0 => ?_)
  unfold M116 at h
  refine sr ?_
  refine aa (iV 0) rfl rfl ?_
  refine an ?_
  refine sr ?_
  refine am (iV a1) rfl rfl ?_
  replace h := bind_some h
  obtain ⟨y3, hx4, h⟩ := h
  refine aops_call (bV y3) [(iV a1)] fOk140 wants_none (evm_cons rfl evm_nil) (.cons (Imm.con _) .nil) (W140 F a1 y3 hx4) rfl ?_
  refine aa (bV y3) rfl rfl ?_
  refine an ?_
  refine sr ?_
  refine am (iV a2) rfl rfl ?_
  replace h := bind_some h
  obtain ⟨y5, hx6, h⟩ := h
  refine aops_call (bV y5) [(iV a2)] fOk140 wants_none (evm_cons rfl evm_nil) (.cons (Imm.con _) .nil) (W140 F a2 y5 hx6) rfl ?_
  refine aa (bV y5) rfl rfl ?_
  refine an ?_
  refine sq ?_
  refine sr ?_
  refine am (bV y3) rfl rfl ?_
  refine an ?_
  refine awp_cond y3 rfl (fun hb7 => ?_) (fun hb7 => ?_)
  · replace h := ite_t hb7 h
    refine sq ?_
    refine sr ?_
    refine am (bV y5) rfl rfl ?_
    refine an ?_
    refine awp_cond y5 rfl (fun hb8 => ?_) (fun hb8 => ?_)
    · replace h := ite_t hb8 h
      refine sr ?_
      refine aa (iV 0) rfl rfl ?_
      refine an ?_
      refine awp_ret ?_
      obtain rfl := Option.some.inj h
      exact ⟨.inl rfl, .one (.tmp rfl (Imm.con _))⟩
    replace h := ite_f hb8 h
    refine awp_skip ?_
    refine sr ?_
    refine aa (iV (-1)) rfl rfl ?_
    refine an ?_
    refine awp_ret ?_
    obtain rfl := Option.some.inj h
    exact ⟨.inl rfl, .one (.tmp rfl (Imm.con _))⟩
  replace h := ite_f hb7 h
  refine awp_skip ?_
  refine sq ?_
  refine sr ?_
  refine am (bV y5) rfl rfl ?_
  refine an ?_
  refine awp_cond y5 rfl (fun hb9 => ?_) (fun hb9 => ?_)
  · replace h := ite_t hb9 h
    refine sr ?_
    refine aa (iV 1) rfl rfl ?_
    refine an ?_
    refine awp_ret ?_
    obtain rfl := Option.some.inj h
    exact ⟨.inl rfl, .one (.tmp rfl (Imm.con _))⟩
  replace h := ite_f hb9 h
  refine awp_skip ?_
  refine sq ?_
  refine sr ?_
  refine am (iV a1) rfl rfl ?_
  refine am (iV a2) rfl rfl ?_
  refine aops_bin (.bool (decide (a1 < a2))) wants_none rfl rfl rfl rfl ?_
  refine an ?_
  refine awp_cond (decide (a1 < a2)) rfl (fun hb10 => ?_) (fun hb10 => ?_)
  · replace h := ite_t hb10 h
    refine sr ?_
    refine aa (iV (-1)) rfl rfl ?_
    refine an ?_
    refine awp_ret ?_
    obtain rfl := Option.some.inj h
    exact ⟨.inl rfl, .one (.tmp rfl (Imm.con _))⟩
  replace h := ite_f hb10 h
  refine awp_skip ?_
  refine sq ?_
  refine sr ?_
  refine am (iV a1) rfl rfl ?_
  refine am (iV a2) rfl rfl ?_
  refine aops_bin (.bool (decide (a1 > a2))) wants_none rfl rfl rfl rfl ?_
  refine an ?_
  refine awp_cond (decide (a1 > a2)) rfl (fun hb11 => ?_) (fun hb11 => ?_)
  · replace h := ite_t hb11 h
    refine sr ?_
    refine aa (iV 1) rfl rfl ?_
    refine an ?_
    refine awp_ret ?_
    obtain rfl := Option.some.inj h
    exact ⟨.inl rfl, .one (.tmp rfl (Imm.con _))⟩
  replace h := ite_f hb11 h
  refine awp_skip ?_
  refine sr ?_
  refine aa (iV 0) rfl rfl ?_
  refine an ?_
  refine awp_ret ?_
  obtain rfl := Option.some.inj h
  exact ⟨.inl rfl, .one (.tmp rfl (Imm.con _))⟩
theorem W134 (F : Nat) (a1 : TWindow) (a2 : TWindow) (r : Int) (h : M134 F a1 a2 = some r) : Pure Try.prog 134 [(V.agg (encTWindow a1)), (V.agg (encTWindow a2))] (iV r) := by
  refine pure_enter Try.func134 rfl rfl (l := [.tmp 4]) rfl rfl [(0, (V.agg (encTWindow a1))), (1, (V.agg (encTWindow a2)))] rfl (fun w0 m0 => ?_)
  unfold M134 at h
  refine sr ?_
  refine aops_box (encTWindow a1) wants_none rfl rfl rfl rfl ?_
  refine aops_box (encTWindow a2) wants_none rfl rfl rfl rfl ?_
  refine aa (iV 0) rfl rfl ?_
  refine an ?_
  refine sq ?_
  replace h := bind_some h
  obtain ⟨y3, hx4, h⟩ := h
  replace h := bind_some h
  obtain ⟨y5, hx6, h⟩ := h
  replace h := bind_some h
  obtain ⟨y7, hx8, h⟩ := h
  replace h := bind_some h
  obtain ⟨y9, hx10, h⟩ := h
  refine awp_any [OD.mk [(2, (V.ptr 0 6 0 0))] [] [(5, (V.ptr 0 6 0 3))] [],
        OD.mk [(5, (V.ptr 0 6 0 3))] [(0, (Ob.arr 35 6 [(encTWindow a1)]))] [(6, (iV a1.From))] [],
        OD.mk [(3, (V.ptr 1 6 0 0))] [] [(7, (V.ptr 1 6 0 3))] [],
        OD.mk [(7, (V.ptr 1 6 0 3))] [(1, (Ob.arr 35 6 [(encTWindow a2)]))] [(8, (iV a2.From))] [],
        OD.mk [(6, (iV a1.From)), (8, (iV a2.From))] [] [(9, (iV y3))] [],
        OD.mk [(2, (V.ptr 0 6 0 0))] [] [(10, (V.ptr 0 6 0 0))] [],
        OD.mk [(10, (V.ptr 0 6 0 0))] [(0, (Ob.arr 35 6 [(encTWindow a1)]))] [(11, (sV a1.Advisory))] [],
        OD.mk [(3, (V.ptr 1 6 0 0))] [] [(12, (V.ptr 1 6 0 0))] [],
        OD.mk [(12, (V.ptr 1 6 0 0))] [(1, (Ob.arr 35 6 [(encTWindow a2)]))] [(13, (sV a2.Advisory))] [],
        OD.mk [(11, (sV a1.Advisory)), (13, (sV a2.Advisory))] [] [(14, (iV y5))] [],
        OD.mk [(2, (V.ptr 0 6 0 0))] [] [(15, (V.ptr 0 6 0 1))] [],
        OD.mk [(15, (V.ptr 0 6 0 1))] [(0, (Ob.arr 35 6 [(encTWindow a1)]))] [(16, (sV a1.Component))] [],
        OD.mk [(3, (V.ptr 1 6 0 0))] [] [(17, (V.ptr 1 6 0 1))] [],
        OD.mk [(17, (V.ptr 1 6 0 1))] [(1, (Ob.arr 35 6 [(encTWindow a2)]))] [(18, (sV a2.Component))] [],
        OD.mk [(16, (sV a1.Component)), (18, (sV a2.Component))] [] [(19, (iV y7))] [],
        OD.mk [(9, (iV y3)), (14, (iV y5)), (19, (iV y7))] [] [(20, (V.lst 1 (([y3, y5, y7] : List Int).map encI_i64)))] [],
        OD.mk [(20, (V.lst 1 (([y3, y5, y7] : List Int).map encI_i64)))] [] [(21, (iV y9))] [],
        OD.mk [(21, (iV y9))] [] [(4, (iV y9))] []] mixed ⟨⟨rfl, trivial⟩, trivial, ⟨⟨rfl, trivial⟩, ⟨rfl, trivial⟩, ⟨⟨rfl, trivial⟩, trivial, ⟨⟨rfl, trivial⟩, ⟨rfl, trivial⟩, ⟨⟨rfl, rfl, trivial⟩, trivial, ⟨⟨rfl, trivial⟩, trivial, ⟨⟨rfl, trivial⟩, ⟨rfl, trivial⟩, ⟨⟨rfl, trivial⟩, trivial, ⟨⟨rfl, trivial⟩, ⟨rfl, trivial⟩, ⟨⟨rfl, rfl, trivial⟩, trivial, ⟨⟨rfl, trivial⟩, trivial, ⟨⟨rfl, trivial⟩, ⟨rfl, trivial⟩, ⟨⟨rfl, trivial⟩, trivial, ⟨⟨rfl, trivial⟩, ⟨rfl, trivial⟩, ⟨⟨rfl, rfl, trivial⟩, trivial, ⟨⟨rfl, rfl, rfl, trivial⟩, trivial, ⟨⟨rfl, trivial⟩, trivial, ⟨⟨rfl, trivial⟩, trivial, trivial⟩⟩⟩⟩⟩⟩⟩⟩⟩⟩⟩⟩⟩⟩⟩⟩⟩⟩ (by kernel_rfl) (.cons (fun S hn h hh => aops_fieldAddr tF35_3 wants_none h.1 rfl (an ⟨rfl, rfl⟩)) (.cons (fun S hn h hh => aops_load_cell (iV a1.From) tC3 wants_none h.1 hh.1 rfl rfl rfl (an ⟨rfl, rfl⟩)) (.cons (fun S hn h hh => aops_fieldAddr tF35_3 wants_none h.1 rfl (an ⟨rfl, rfl⟩)) (.cons (fun S hn h hh => aops_load_cell (iV a2.From) tC3 wants_none h.1 hh.1 rfl rfl rfl (an ⟨rfl, rfl⟩)) (.cons (fun S hn h hh => aops_call (iV y3) [(iV a1.From), (iV a2.From)] fOk116 wants_none (evm_cons h.1 (evm_cons h.2.1 evm_nil)) (.cons (Imm.con _) (.cons (Imm.con _) .nil)) (W116 F a1.From a2.From y3 hx4) rfl (an ⟨rfl, rfl⟩)) (.cons (fun S hn h hh => aops_fieldAddr tF35_0 wants_none h.1 rfl (an ⟨rfl, rfl⟩)) (.cons (fun S hn h hh => aops_load_cell (sV a1.Advisory) tC9 wants_none h.1 hh.1 rfl rfl rfl (an ⟨rfl, rfl⟩)) (.cons (fun S hn h hh => aops_fieldAddr tF35_0 wants_none h.1 rfl (an ⟨rfl, rfl⟩)) (.cons (fun S hn h hh => aops_load_cell (sV a2.Advisory) tC9 wants_none h.1 hh.1 rfl rfl rfl (an ⟨rfl, rfl⟩)) (.cons (fun S hn h hh => aops_call (iV y5) [(sV a1.Advisory), (sV a2.Advisory)] fOk138 wants_none (evm_cons h.1 (evm_cons h.2.1 evm_nil)) (.cons (Imm.con _) (.cons (Imm.con _) .nil)) (W138 F a1.Advisory a2.Advisory y5 hx6) rfl (an ⟨rfl, rfl⟩)) (.cons (fun S hn h hh => aops_fieldAddr tF35_1 wants_none h.1 rfl (an ⟨rfl, rfl⟩)) (.cons (fun S hn h hh => aops_load_cell (sV a1.Component) tC9 wants_none h.1 hh.1 rfl rfl rfl (an ⟨rfl, rfl⟩)) (.cons (fun S hn h hh => aops_fieldAddr tF35_1 wants_none h.1 rfl (an ⟨rfl, rfl⟩)) (.cons (fun S hn h hh => aops_load_cell (sV a2.Component) tC9 wants_none h.1 hh.1 rfl rfl rfl (an ⟨rfl, rfl⟩)) (.cons (fun S hn h hh => aops_call (iV y7) [(sV a1.Component), (sV a2.Component)] fOk138 wants_none (evm_cons h.1 (evm_cons h.2.1 evm_nil)) (.cons (Imm.con _) (.cons (Imm.con _) .nil)) (W138 F a1.Component a2.Component y7 hx8) rfl (an ⟨rfl, rfl⟩)) (.cons (fun S hn h hh => aops_buildSlice_imm [(0, (iV y3)), (1, (iV y5)), (2, (iV y7))] [[(iV y3)], [(iV y5)], [(iV y7)]] tEl22 tZ3 wants_none rfl rfl rfl rfl (evp_cons h.1 (evp_cons h.2.1 (evp_cons h.2.2.1 evp_nil))) rfl rfl (by simp) (imms_rows (.cons (.cons (Imm.con _) .nil) (.cons (.cons (Imm.con _) .nil) (.cons (.cons (Imm.con _) .nil) .nil)))) rfl (an ⟨rfl, rfl⟩)) (.cons (fun S hn h hh => aops_call (iV y9) [(V.lst 1 (([y3, y5, y7] : List Int).map encI_i64))] fOk149 wants_none (evm_cons h.1 evm_nil) (.cons (Imm.lst _ _) .nil) (W149 F ([y3, y5, y7] : List Int) y9 hx10) rfl (an ⟨rfl, rfl⟩)) (.cons (fun S hn h hh => aops_assign (iV y9) wants_none h.1 rfl (an ⟨rfl, rfl⟩)) .nil)))))))))))))))))) ?_
  refine awp_ret ?_
  obtain rfl := Option.some.inj h
  exact ⟨.inl rfl, .one (.tmp rfl (Imm.con _))⟩
theorem W171 (F : Nat) (a1 : Int) (a2 : Int) (a3 : List TWindow) (r : (List TWindow)) (h : M171 F a1 a2 a3 = some r) : Mut Try.prog 171 [(V.own 0 a3.length), (iV a1), (iV a2), (V.fn (.func 134) [] [])] 1 [(0, (Ob.arr 35 6 (a3.map encTWindow)))] (resV []) 1 [(0, (Ob.arr 35 6 (r.map encTWindow)))] := by
  refine mut_enter Try.func171 rfl rfl (l := []) rfl rfl [(0, (V.own 0 a3.length)), (1, (iV a1)), (2, (iV a2)), (3, (V.fn (.func 134) [] []))] rfl (fun w0 m0 β0 => ?_)
  unfold M171 at h
  refine sr ?_
  refine am (iV a1) rfl rfl ?_
  refine aops_bin (.int .i64 (w64 (a1 + 1))) wants_none rfl rfl rfl rfl ?_
  refine aa (iV (w64 (a1 + 1))) rfl rfl ?_
  refine an ?_
  refine awp_block ?_
  refine awp_loop_ind (fun (p : Int × (List TWindow)) => (⟨[(0, (V.own 0 (p.2).length)), (1, (iV a1)), (2, (iV a2)), (3, (V.fn (.func 134) [] [])), (8, (iV (p.1)))], [(0, (Ob.arr 35 6 ((p.2).map encTWindow)))], 1⟩ : St)) (fun n (p : Int × (List TWindow)) => M171_L1 F a1 a2 n p.1 p.2 = some r) (fun p h => by simp [M171_L1] at h) (fun n ih1 p h => ?_) F ((w64 (a1 + 1)), a3) h (ghost_ren 1 (fun i => ([0] : List Nat).getD i 0) _ _ (by decide) (EnvSub.get (.cons (Sub.own rfl rfl) (.cons (Sub.imm (Imm.con _)) (.cons (Sub.imm (Imm.con _)) (.cons (Sub.imm (Imm.fn .nil .nil)) (.cons (Sub.imm (Imm.con _)) .nil)))))) (HpSub.get (.cons rfl (ObSub.rows (rows_imm imms_encTWindow)) .nil)) rfl)
  obtain ⟨n36, l37⟩ := p
  unfold M171_L1 at h
  refine awp_loop ?_
  refine sq ?_
  refine sr ?_
  refine am (iV n36) rfl rfl ?_
  refine am (iV a2) rfl rfl ?_
  refine aops_bin (.bool (decide (n36 < a2))) wants_none rfl rfl rfl rfl ?_
  refine an ?_
  refine awp_cond (decide (n36 < a2)) rfl (fun hb38 => ?_) (fun hb38 => ?_)
  · replace h := ite_t hb38 h
    refine awp_skip ?_
    refine sq ?_
    replace h := jn_elim h
    obtain ⟨k39, hk39, h⟩ := h
    refine awp_cut (fun (p : (List TWindow)) => (⟨[(0, (V.own 0 p.length)), (1, (iV a1)), (2, (iV a2)), (3, (V.fn (.func 134) [] [])), (8, (iV n36))], [(0, (Ob.arr 35 6 (p.map encTWindow)))], 1⟩ : St)) (fun (p : (List TWindow)) => k39 p = some r) ?_ ?_
    · clear hk39
      refine awp_block ?_
      refine sr ?_
      refine am (iV n36) rfl rfl ?_
      refine aa (iV n36) rfl rfl ?_
      refine an ?_
      replace h := jn_elim h
      obtain ⟨k41, hk41, h⟩ := h
      refine awp_cut (fun (p : (List TWindow)) => (⟨[(0, (V.own 0 p.length)), (1, (iV a1)), (2, (iV a2)), (3, (V.fn (.func 134) [] [])), (8, (iV n36))], [(0, (Ob.arr 35 6 (p.map encTWindow)))], 1⟩ : St)) (fun (p : (List TWindow)) => k41 p = some r) ?_ ?_
      · clear hk41
        refine awp_block ?_
        refine awp_loop_ind (fun (p : Int × (List TWindow)) => (⟨[(0, (V.own 0 (p.2).length)), (1, (iV a1)), (2, (iV a2)), (3, (V.fn (.func 134) [] [])), (8, (iV n36)), (9, (iV (p.1)))], [(0, (Ob.arr 35 6 ((p.2).map encTWindow)))], 1⟩ : St)) (fun n (p : Int × (List TWindow)) => M171_L2 F a1 k41 n p.1 p.2 = some r) (fun p h => by simp [M171_L2] at h) (fun n ih2 p h => ?_) F (n36, l37) h (ghost_ren 1 (fun i => ([0] : List Nat).getD i 0) _ _ (by decide) (EnvSub.get (.cons (Sub.own rfl rfl) (.cons (Sub.imm (Imm.con _)) (.cons (Sub.imm (Imm.con _)) (.cons (Sub.imm (Imm.fn .nil .nil)) (.cons (Sub.imm (Imm.con _)) (.cons (Sub.imm (Imm.con _)) .nil))))))) (HpSub.get (.cons rfl (ObSub.rows (rows_imm imms_encTWindow)) .nil)) rfl)
        obtain ⟨n45, l46⟩ := p
        unfold M171_L2 at h
        refine awp_loop ?_
        refine sq ?_
        refine sq ?_
        rcases Bool.eq_false_or_eq_true (decide (n45 > a1)) with hb47 | hb47
        · replace h := ite_t hb47 h
          replace h := bind_some h
          obtain ⟨x48, hx49, h⟩ := h
          replace h := bind_some h
          obtain ⟨x50, hx51, h⟩ := h
          replace h := bind_some h
          obtain ⟨y52, hx53, h⟩ := h
          refine awp_any [OD.mk [(9, (iV n45))] [] [(18, (iV n45))] [],
                OD.mk [(1, (iV a1))] [] [(19, (iV a1))] [],
                OD.mk [(18, (iV n45)), (19, (iV a1))] [] [(20, (bV (decide (n45 > a1))))] [],
                OD.mk [(20, (bV (decide (n45 > a1))))] [] [(21, (bV (decide (n45 > a1))))] [],
                OD.mk [(21, (bV (decide (n45 > a1)))), (3, (V.fn (.func 134) [] []))] [] [(22, (V.fn (.func 134) [] []))] [],
                OD.mk [(21, (bV (decide (n45 > a1)))), (0, (V.own 0 l46.length))] [] [(23, (V.own 0 l46.length))] [],
                OD.mk [(21, (bV (decide (n45 > a1)))), (9, (iV n45))] [] [(24, (iV n45))] [],
                OD.mk [(21, (bV (decide (n45 > a1)))), (23, (V.own 0 l46.length)), (24, (iV n45))] [] [(25, (V.ptr 0 6 n45.toNat 0))] [],
                OD.mk [(21, (bV (decide (n45 > a1)))), (25, (V.ptr 0 6 n45.toNat 0))] [(0, (Ob.arr 35 6 (l46.map encTWindow)))] [(26, (V.agg (encTWindow x48)))] [],
                OD.mk [(21, (bV (decide (n45 > a1)))), (0, (V.own 0 l46.length))] [] [(27, (V.own 0 l46.length))] [],
                OD.mk [(21, (bV (decide (n45 > a1)))), (9, (iV n45))] [] [(28, (iV n45))] [],
                OD.mk [(21, (bV (decide (n45 > a1)))), (28, (iV n45))] [] [(29, (iV (w64 (n45 - 1))))] [],
                OD.mk [(21, (bV (decide (n45 > a1)))), (27, (V.own 0 l46.length)), (29, (iV (w64 (n45 - 1))))] [] [(30, (V.ptr 0 6 (w64 (n45 - 1)).toNat 0))] [],
                OD.mk [(21, (bV (decide (n45 > a1)))), (30, (V.ptr 0 6 (w64 (n45 - 1)).toNat 0))] [(0, (Ob.arr 35 6 (l46.map encTWindow)))] [(31, (V.agg (encTWindow x50)))] [],
                OD.mk [(21, (bV (decide (n45 > a1)))), (22, (V.fn (.func 134) [] [])), (26, (V.agg (encTWindow x48))), (31, (V.agg (encTWindow x50)))] [] [(32, (iV y52))] [],
                OD.mk [(21, (bV (decide (n45 > a1)))), (32, (iV y52))] [] [(33, (bV (decide (y52 < 0))))] [],
                OD.mk [(21, (bV (decide (n45 > a1)))), (33, (bV (decide (y52 < 0))))] [] [(34, (bV (decide (y52 < 0))))] []] mixed ⟨⟨rfl, trivial⟩, trivial, ⟨⟨rfl, trivial⟩, trivial, ⟨⟨rfl, rfl, trivial⟩, trivial, ⟨⟨rfl, trivial⟩, trivial, ⟨⟨rfl, rfl, trivial⟩, trivial, ⟨⟨rfl, rfl, trivial⟩, trivial, ⟨⟨rfl, rfl, trivial⟩, trivial, ⟨⟨rfl, rfl, rfl, trivial⟩, trivial, ⟨⟨rfl, rfl, trivial⟩, ⟨rfl, trivial⟩, ⟨⟨rfl, rfl, trivial⟩, trivial, ⟨⟨rfl, rfl, trivial⟩, trivial, ⟨⟨rfl, rfl, trivial⟩, trivial, ⟨⟨rfl, rfl, rfl, trivial⟩, trivial, ⟨⟨rfl, rfl, trivial⟩, ⟨rfl, trivial⟩, ⟨⟨rfl, rfl, rfl, rfl, trivial⟩, trivial, ⟨⟨rfl, rfl, trivial⟩, trivial, ⟨⟨rfl, rfl, trivial⟩, trivial, trivial⟩⟩⟩⟩⟩⟩⟩⟩⟩⟩⟩⟩⟩⟩⟩⟩⟩ (by kernel_rfl) (.cons (fun S hn h hh => aops_move (iV n45) wants_none h.1 rfl (an ⟨rfl, rfl⟩)) (.cons (fun S hn h hh => aops_move (iV a1) wants_none h.1 rfl (an ⟨rfl, rfl⟩)) (.cons (fun S hn h hh => aops_bin (.bool (decide (n45 > a1))) wants_none h.1 h.2.1 rfl rfl (an ⟨rfl, rfl⟩)) (.cons (fun S hn h hh => aops_move (bV (decide (n45 > a1))) wants_none h.1 rfl (an ⟨rfl, rfl⟩)) (.cons (fun S hn h hh => aops_move (V.fn (.func 134) [] []) (wants_some (c := (decide (n45 > a1))) (b := true) 21 rfl h.1 hb47) h.2.1 rfl (an ⟨rfl, rfl⟩)) (.cons (fun S hn h hh => aops_move (V.own 0 l46.length) (wants_some (c := (decide (n45 > a1))) (b := true) 21 rfl h.1 hb47) h.2.1 rfl (an ⟨rfl, rfl⟩)) (.cons (fun S hn h hh => aops_move (iV n45) (wants_some (c := (decide (n45 > a1))) (b := true) 21 rfl h.1 hb47) h.2.1 rfl (an ⟨rfl, rfl⟩)) (.cons (fun S hn h hh => aops_index_own tSl59 (wants_some (c := (decide (n45 > a1))) (b := true) 21 rfl h.1 hb47) h.2.1 h.2.2.1 (idx_some hx49).1 (by simpa using idx_lt hx49) rfl (an ⟨rfl, rfl⟩)) (.cons (fun S hn h hh => aops_load_agg (cs := (encTWindow x48)) tA35 (wants_some (c := (decide (n45 > a1))) (b := true) 21 rfl h.1 hb47) h.2.1 hh.1 (idx_map encTWindow hx49) rfl rfl rfl (an ⟨rfl, rfl⟩)) (.cons (fun S hn h hh => aops_move (V.own 0 l46.length) (wants_some (c := (decide (n45 > a1))) (b := true) 21 rfl h.1 hb47) h.2.1 rfl (an ⟨rfl, rfl⟩)) (.cons (fun S hn h hh => aops_move (iV n45) (wants_some (c := (decide (n45 > a1))) (b := true) 21 rfl h.1 hb47) h.2.1 rfl (an ⟨rfl, rfl⟩)) (.cons (fun S hn h hh => aops_bin (.int .i64 (w64 (n45 - 1))) (wants_some (c := (decide (n45 > a1))) (b := true) 21 rfl h.1 hb47) h.2.1 rfl rfl rfl (an ⟨rfl, rfl⟩)) (.cons (fun S hn h hh => aops_index_own tSl59 (wants_some (c := (decide (n45 > a1))) (b := true) 21 rfl h.1 hb47) h.2.1 h.2.2.1 (idx_some hx51).1 (by simpa using idx_lt hx51) rfl (an ⟨rfl, rfl⟩)) (.cons (fun S hn h hh => aops_load_agg (cs := (encTWindow x50)) tA35 (wants_some (c := (decide (n45 > a1))) (b := true) 21 rfl h.1 hb47) h.2.1 hh.1 (idx_map encTWindow hx51) rfl rfl rfl (an ⟨rfl, rfl⟩)) (.cons (fun S hn h hh => aops_callv (iV y52) [(V.agg (encTWindow x48)), (V.agg (encTWindow x50))] fOk134 (wants_some (c := (decide (n45 > a1))) (b := true) 21 rfl h.1 hb47) h.2.1 (evmc (S := S) (first := []) (captured := []) (vs := [(V.agg (encTWindow x48)), (V.agg (encTWindow x50))]) (evm_cons h.2.2.1 (evm_cons h.2.2.2.1 evm_nil))) (.cons (Imm.agg (imms_encTWindow _)) (.cons (Imm.agg (imms_encTWindow _)) .nil)) (W134 F x48 x50 y52 hx53) rfl (an ⟨rfl, rfl⟩)) (.cons (fun S hn h hh => aops_bin (.bool (decide (y52 < 0))) (wants_some (c := (decide (n45 > a1))) (b := true) 21 rfl h.1 hb47) h.2.1 rfl rfl rfl (an ⟨rfl, rfl⟩)) (.cons (fun S hn h hh => aops_pick true (cb := (decide (n45 > a1))) (bV (decide (y52 < 0))) wants_none h.1 hb47 h.2.1 rfl (an ⟨rfl, rfl⟩)) .nil))))))))))))))))) ?_
          refine awp_cond (decide (y52 < 0)) rfl (fun hb54 => ?_) (fun hb54 => ?_)
          · replace h := ite_t hb54 h
            refine awp_skip ?_
            refine sq ?_
            refine awp_block ?_
            replace h := bind_some h
            obtain ⟨x55, hx56, h⟩ := h
            replace h := bind_some h
            obtain ⟨x57, hx58, h⟩ := h
            replace h := bind_some h
            obtain ⟨x59, hx60, h⟩ := h
            replace h := bind_some h
            obtain ⟨x61, hx62, h⟩ := h
            refine awp_any [OD.mk [(0, (V.own 0 l46.length))] [] [(37, (V.own 0 l46.length))] [],
                  OD.mk [(9, (iV n45))] [] [(38, (iV n45))] [],
                  OD.mk [(0, (V.own 0 l46.length))] [] [(39, (V.own 0 l46.length))] [],
                  OD.mk [(9, (iV n45))] [] [(40, (iV n45))] [],
                  OD.mk [(40, (iV n45))] [] [(41, (iV (w64 (n45 - 1))))] [],
                  OD.mk [(0, (V.own 0 l46.length))] [] [(42, (V.own 0 l46.length))] [],
                  OD.mk [(9, (iV n45))] [] [(43, (iV n45))] [],
                  OD.mk [(43, (iV n45))] [] [(44, (iV (w64 (n45 - 1))))] [],
                  OD.mk [(42, (V.own 0 l46.length)), (44, (iV (w64 (n45 - 1))))] [] [(45, (V.ptr 0 6 (w64 (n45 - 1)).toNat 0))] [],
                  OD.mk [(45, (V.ptr 0 6 (w64 (n45 - 1)).toNat 0))] [(0, (Ob.arr 35 6 (l46.map encTWindow)))] [(46, (V.agg (encTWindow x55)))] [],
                  OD.mk [(0, (V.own 0 l46.length))] [] [(47, (V.own 0 l46.length))] [],
                  OD.mk [(9, (iV n45))] [] [(48, (iV n45))] [],
                  OD.mk [(47, (V.own 0 l46.length)), (48, (iV n45))] [] [(49, (V.ptr 0 6 n45.toNat 0))] [],
                  OD.mk [(49, (V.ptr 0 6 n45.toNat 0))] [(0, (Ob.arr 35 6 (l46.map encTWindow)))] [(50, (V.agg (encTWindow x57)))] [],
                  OD.mk [(37, (V.own 0 l46.length)), (38, (iV n45))] [] [(51, (V.ptr 0 6 n45.toNat 0))] [],
                  OD.mk [(51, (V.ptr 0 6 n45.toNat 0)), (46, (V.agg (encTWindow x55)))] [(0, (Ob.arr 35 6 (l46.map encTWindow)))] [] [(0, (Ob.arr 35 6 ((l46.set n45.toNat x55).map encTWindow)))],
                  OD.mk [(39, (V.own 0 l46.length)), (41, (iV (w64 (n45 - 1))))] [] [(52, (V.ptr 0 6 (w64 (n45 - 1)).toNat 0))] [],
                  OD.mk [(52, (V.ptr 0 6 (w64 (n45 - 1)).toNat 0)), (50, (V.agg (encTWindow x57)))] [(0, (Ob.arr 35 6 ((l46.set n45.toNat x55).map encTWindow)))] [] [(0, (Ob.arr 35 6 (((l46.set n45.toNat x55).set (w64 (n45 - 1)).toNat x57).map encTWindow)))]] mixed ⟨⟨rfl, trivial⟩, trivial, ⟨⟨rfl, trivial⟩, trivial, ⟨⟨rfl, trivial⟩, trivial, ⟨⟨rfl, trivial⟩, trivial, ⟨⟨rfl, trivial⟩, trivial, ⟨⟨rfl, trivial⟩, trivial, ⟨⟨rfl, trivial⟩, trivial, ⟨⟨rfl, trivial⟩, trivial, ⟨⟨rfl, rfl, trivial⟩, trivial, ⟨⟨rfl, trivial⟩, ⟨rfl, trivial⟩, ⟨⟨rfl, trivial⟩, trivial, ⟨⟨rfl, trivial⟩, trivial, ⟨⟨rfl, rfl, trivial⟩, trivial, ⟨⟨rfl, trivial⟩, ⟨rfl, trivial⟩, ⟨⟨rfl, rfl, trivial⟩, trivial, ⟨⟨rfl, rfl, trivial⟩, ⟨rfl, trivial⟩, ⟨⟨rfl, rfl, trivial⟩, trivial, ⟨⟨rfl, rfl, trivial⟩, ⟨rfl, trivial⟩, trivial⟩⟩⟩⟩⟩⟩⟩⟩⟩⟩⟩⟩⟩⟩⟩⟩⟩⟩ (by kernel_rfl) (.cons (fun S hn h hh => aops_move (V.own 0 l46.length) wants_none h.1 rfl (an ⟨rfl, rfl⟩)) (.cons (fun S hn h hh => aops_move (iV n45) wants_none h.1 rfl (an ⟨rfl, rfl⟩)) (.cons (fun S hn h hh => aops_move (V.own 0 l46.length) wants_none h.1 rfl (an ⟨rfl, rfl⟩)) (.cons (fun S hn h hh => aops_move (iV n45) wants_none h.1 rfl (an ⟨rfl, rfl⟩)) (.cons (fun S hn h hh => aops_bin (.int .i64 (w64 (n45 - 1))) wants_none h.1 rfl rfl rfl (an ⟨rfl, rfl⟩)) (.cons (fun S hn h hh => aops_move (V.own 0 l46.length) wants_none h.1 rfl (an ⟨rfl, rfl⟩)) (.cons (fun S hn h hh => aops_move (iV n45) wants_none h.1 rfl (an ⟨rfl, rfl⟩)) (.cons (fun S hn h hh => aops_bin (.int .i64 (w64 (n45 - 1))) wants_none h.1 rfl rfl rfl (an ⟨rfl, rfl⟩)) (.cons (fun S hn h hh => aops_index_own tSl59 wants_none h.1 h.2.1 (idx_some hx56).1 (by simpa using idx_lt hx56) rfl (an ⟨rfl, rfl⟩)) (.cons (fun S hn h hh => aops_load_agg (cs := (encTWindow x55)) tA35 wants_none h.1 hh.1 (idx_map encTWindow hx56) rfl rfl rfl (an ⟨rfl, rfl⟩)) (.cons (fun S hn h hh => aops_move (V.own 0 l46.length) wants_none h.1 rfl (an ⟨rfl, rfl⟩)) (.cons (fun S hn h hh => aops_move (iV n45) wants_none h.1 rfl (an ⟨rfl, rfl⟩)) (.cons (fun S hn h hh => aops_index_own tSl59 wants_none h.1 h.2.1 (idx_some hx58).1 (by simpa using idx_lt hx58) rfl (an ⟨rfl, rfl⟩)) (.cons (fun S hn h hh => aops_load_agg (cs := (encTWindow x57)) tA35 wants_none h.1 hh.1 (idx_map encTWindow hx58) rfl rfl rfl (an ⟨rfl, rfl⟩)) (.cons (fun S hn h hh => aops_index_own tSl59 wants_none h.1 h.2.1 (idx_some hx60).1 (by simpa using idx_lt hx60) rfl (an ⟨rfl, rfl⟩)) (.cons (fun S hn h hh => aops_store (encTWindow x55) ((l46.set n45.toNat x55).map encTWindow) tS35 wants_none h.1 h.2.1 rfl rfl hh.1 (idx_map encTWindow hx60) rfl (map_set encTWindow l46 _ x55) (an ⟨rfl, rfl⟩)) (.cons (fun S hn h hh => aops_index_own tSl59 wants_none h.1 h.2.1 (idx_some hx62).1 (by simpa using idx_lt hx62) rfl (an ⟨rfl, rfl⟩)) (.cons (fun S hn h hh => aops_store (encTWindow x57) (((l46.set n45.toNat x55).set (w64 (n45 - 1)).toNat x57).map encTWindow) tS35 wants_none h.1 h.2.1 rfl rfl hh.1 (idx_map encTWindow hx62) rfl (map_set encTWindow (l46.set n45.toNat x55) _ x57) (an ⟨rfl, rfl⟩)) .nil)))))))))))))))))) ?_
            refine rg ?_
            refine am (iV n45) rfl rfl ?_
            refine aops_bin (.int .i64 (w64 (n45 - 1))) wants_none rfl rfl rfl rfl ?_
            refine aa (iV (w64 (n45 - 1))) rfl rfl ?_
            refine an ?_
            exact awp_back (ih2 ((w64 (n45 - 1)), ((l46.set n45.toNat x55).set (w64 (n45 - 1)).toNat x57)) h) (ghost_ren 1 (fun i => ([0] : List Nat).getD i 0) _ _ (by decide) (EnvSub.get (.cons (Sub.ownE rfl rfl (by simp)) (.cons (Sub.imm (Imm.con _)) (.cons (Sub.imm (Imm.con _)) (.cons (Sub.imm (Imm.fn .nil .nil)) (.cons (Sub.imm (Imm.con _)) (.cons (Sub.imm (Imm.con _)) .nil))))))) (HpSub.get (.cons rfl (ObSub.rows (rows_imm imms_encTWindow)) .nil)) rfl)
          replace h := ite_f hb54 h
          refine awp_exit ?_
          exact ⟨l46, h, (ghost_ren 1 (fun i => ([0] : List Nat).getD i 0) _ _ (by decide) (EnvSub.get (.cons (Sub.own rfl rfl) (.cons (Sub.imm (Imm.con _)) (.cons (Sub.imm (Imm.con _)) (.cons (Sub.imm (Imm.fn .nil .nil)) (.cons (Sub.imm (Imm.con _)) .nil)))))) (HpSub.get (.cons rfl (ObSub.rows (rows_imm imms_encTWindow)) .nil)) rfl)⟩
        replace h := ite_f hb47 h
        refine awp_any [OD.mk [(9, (iV n45))] [] [(18, (iV n45))] [],
              OD.mk [(1, (iV a1))] [] [(19, (iV a1))] [],
              OD.mk [(18, (iV n45)), (19, (iV a1))] [] [(20, (bV (decide (n45 > a1))))] [],
              OD.mk [(20, (bV (decide (n45 > a1))))] [] [(21, (bV (decide (n45 > a1))))] [],
              OD.mk [(21, (bV (decide (n45 > a1))))] [] [(22, (V.con undef))] [],
              OD.mk [(21, (bV (decide (n45 > a1))))] [] [(23, (V.con undef))] [],
              OD.mk [(21, (bV (decide (n45 > a1))))] [] [(24, (V.con undef))] [],
              OD.mk [(21, (bV (decide (n45 > a1))))] [] [(25, (V.con undef))] [],
              OD.mk [(21, (bV (decide (n45 > a1))))] [] [(26, (V.con undef))] [],
              OD.mk [(21, (bV (decide (n45 > a1))))] [] [(27, (V.con undef))] [],
              OD.mk [(21, (bV (decide (n45 > a1))))] [] [(28, (V.con undef))] [],
              OD.mk [(21, (bV (decide (n45 > a1))))] [] [(29, (V.con undef))] [],
              OD.mk [(21, (bV (decide (n45 > a1))))] [] [(30, (V.con undef))] [],
              OD.mk [(21, (bV (decide (n45 > a1))))] [] [(31, (V.con undef))] [],
              OD.mk [(21, (bV (decide (n45 > a1))))] [] [(32, (V.con undef))] [],
              OD.mk [(21, (bV (decide (n45 > a1))))] [] [(33, (V.con undef))] [],
              OD.mk [(21, (bV (decide (n45 > a1))))] [] [(34, (bV false))] []] mixed ⟨⟨rfl, trivial⟩, trivial, ⟨⟨rfl, trivial⟩, trivial, ⟨⟨rfl, rfl, trivial⟩, trivial, ⟨⟨rfl, trivial⟩, trivial, ⟨⟨rfl, trivial⟩, trivial, ⟨⟨rfl, trivial⟩, trivial, ⟨⟨rfl, trivial⟩, trivial, ⟨⟨rfl, trivial⟩, trivial, ⟨⟨rfl, trivial⟩, trivial, ⟨⟨rfl, trivial⟩, trivial, ⟨⟨rfl, trivial⟩, trivial, ⟨⟨rfl, trivial⟩, trivial, ⟨⟨rfl, trivial⟩, trivial, ⟨⟨rfl, trivial⟩, trivial, ⟨⟨rfl, trivial⟩, trivial, ⟨⟨rfl, trivial⟩, trivial, ⟨⟨rfl, trivial⟩, trivial, trivial⟩⟩⟩⟩⟩⟩⟩⟩⟩⟩⟩⟩⟩⟩⟩⟩⟩ (by kernel_rfl) (.cons (fun S hn h hh => aops_move (iV n45) wants_none h.1 rfl (an ⟨rfl, rfl⟩)) (.cons (fun S hn h hh => aops_move (iV a1) wants_none h.1 rfl (an ⟨rfl, rfl⟩)) (.cons (fun S hn h hh => aops_bin (.bool (decide (n45 > a1))) wants_none h.1 h.2.1 rfl rfl (an ⟨rfl, rfl⟩)) (.cons (fun S hn h hh => aops_move (bV (decide (n45 > a1))) wants_none h.1 rfl (an ⟨rfl, rfl⟩)) (.cons (fun S hn h hh => aops_skip (wants_some (c := (decide (n45 > a1))) (b := false) 21 rfl h.1 hb47) rfl rfl (an ⟨rfl, rfl⟩)) (.cons (fun S hn h hh => aops_skip (wants_some (c := (decide (n45 > a1))) (b := false) 21 rfl h.1 hb47) rfl rfl (an ⟨rfl, rfl⟩)) (.cons (fun S hn h hh => aops_skip (wants_some (c := (decide (n45 > a1))) (b := false) 21 rfl h.1 hb47) rfl rfl (an ⟨rfl, rfl⟩)) (.cons (fun S hn h hh => aops_skip (wants_some (c := (decide (n45 > a1))) (b := false) 21 rfl h.1 hb47) rfl rfl (an ⟨rfl, rfl⟩)) (.cons (fun S hn h hh => aops_skip (wants_some (c := (decide (n45 > a1))) (b := false) 21 rfl h.1 hb47) rfl rfl (an ⟨rfl, rfl⟩)) (.cons (fun S hn h hh => aops_skip (wants_some (c := (decide (n45 > a1))) (b := false) 21 rfl h.1 hb47) rfl rfl (an ⟨rfl, rfl⟩)) (.cons (fun S hn h hh => aops_skip (wants_some (c := (decide (n45 > a1))) (b := false) 21 rfl h.1 hb47) rfl rfl (an ⟨rfl, rfl⟩)) (.cons (fun S hn h hh => aops_skip (wants_some (c := (decide (n45 > a1))) (b := false) 21 rfl h.1 hb47) rfl rfl (an ⟨rfl, rfl⟩)) (.cons (fun S hn h hh => aops_skip (wants_some (c := (decide (n45 > a1))) (b := false) 21 rfl h.1 hb47) rfl rfl (an ⟨rfl, rfl⟩)) (.cons (fun S hn h hh => aops_skip (wants_some (c := (decide (n45 > a1))) (b := false) 21 rfl h.1 hb47) rfl rfl (an ⟨rfl, rfl⟩)) (.cons (fun S hn h hh => aops_skip (wants_some (c := (decide (n45 > a1))) (b := false) 21 rfl h.1 hb47) rfl rfl (an ⟨rfl, rfl⟩)) (.cons (fun S hn h hh => aops_skip (wants_some (c := (decide (n45 > a1))) (b := false) 21 rfl h.1 hb47) rfl rfl (an ⟨rfl, rfl⟩)) (.cons (fun S hn h hh => aops_pick false (cb := (decide (n45 > a1))) (bV false) wants_none h.1 hb47 rfl rfl (an ⟨rfl, rfl⟩)) .nil))))))))))))))))) ?_
        refine awp_cond_f rfl rfl ?_
        refine awp_exit ?_
        exact ⟨l46, h, (ghost_ren 1 (fun i => ([0] : List Nat).getD i 0) _ _ (by decide) (EnvSub.get (.cons (Sub.own rfl rfl) (.cons (Sub.imm (Imm.con _)) (.cons (Sub.imm (Imm.con _)) (.cons (Sub.imm (Imm.fn .nil .nil)) (.cons (Sub.imm (Imm.con _)) .nil)))))) (HpSub.get (.cons rfl (ObSub.rows (rows_imm imms_encTWindow)) .nil)) rfl)⟩
      clear h
      intro l42 h
      subst hk41
      exact ⟨l42, h, (ghost_ren 1 (fun i => ([0] : List Nat).getD i 0) _ _ (by decide) (EnvSub.get (.cons (Sub.own rfl rfl) (.cons (Sub.imm (Imm.con _)) (.cons (Sub.imm (Imm.con _)) (.cons (Sub.imm (Imm.fn .nil .nil)) (.cons (Sub.imm (Imm.con _)) .nil)))))) (HpSub.get (.cons rfl (ObSub.rows (rows_imm imms_encTWindow)) .nil)) rfl)⟩
    clear h
    intro l40 h
    subst hk39
    refine rg ?_
    refine am (iV n36) rfl rfl ?_
    refine aops_bin (.int .i64 (w64 (n36 + 1))) wants_none rfl rfl rfl rfl ?_
    refine aa (iV (w64 (n36 + 1))) rfl rfl ?_
    refine an ?_
    exact awp_back (ih1 ((w64 (n36 + 1)), l40) h) (ghost_ren 1 (fun i => ([0] : List Nat).getD i 0) _ _ (by decide) (EnvSub.get (.cons (Sub.own rfl rfl) (.cons (Sub.imm (Imm.con _)) (.cons (Sub.imm (Imm.con _)) (.cons (Sub.imm (Imm.fn .nil .nil)) (.cons (Sub.imm (Imm.con _)) .nil)))))) (HpSub.get (.cons rfl (ObSub.rows (rows_imm imms_encTWindow)) .nil)) rfl)
  replace h := ite_f hb38 h
  refine awp_exit ?_
  obtain rfl := Option.some.inj h
  exact ⟨.inr rfl, [], (ghost_ren 1 (fun i => ([0] : List Nat).getD i 0) _ _ (by decide) (EnvSub.get .nil) (HpSub.get (.cons rfl (ObSub.rows (rows_imm imms_encTWindow)) .nil)) rfl), .nil⟩
theorem W185 (F : Nat) (a1 : Int) (a2 : Int) (a3 : Int) (a4 : List TWindow) (r : (List TWindow)) (h : M185 F a1 a2 a3 a4 = some r) : Mut Try.prog 185 [(V.own 0 a4.length), (iV a1), (iV a2), (iV a3), (V.fn (.func 134) [] [])] 1 [(0, (Ob.arr 35 6 (a4.map encTWindow)))] (resV []) 1 [(0, (Ob.arr 35 6 (r.map encTWindow)))] := by
  refine mut_enter Try.func185 rfl rfl (l := []) rfl rfl [(0, (V.own 0 a4.length)), (1, (iV a1)), (2, (iV a2)), (3, (iV a3)), (4, (V.fn (.func 134) [] []))] rfl (fun w0 m0 β0 => ?_)
  unfold M185 at h
  refine sr ?_
  refine aa (iV 0) rfl rfl ?_
  refine an ?_
  refine awp_block ?_
  replace h := chk_some h
  obtain ⟨hA33, h⟩ := h
  refine awp_loop_ind (fun (p : Int × (List TWindow)) => (⟨[(0, (V.own 0 (p.2).length)), (1, (iV a1)), (2, (iV a2)), (3, (iV a3)), (10, (iV (p.1)))], [(0, (Ob.arr 35 6 ((p.2).map encTWindow)))], 1⟩ : St)) (fun n (p : Int × (List TWindow)) => RC a3 (fun tl nn => M185_L1 F a1 a2 tl nn p.2 = some r) n p.1) (fun p h => RC.zero h) (fun n ih1 p h => ?_) (Int.toNat a3 + 1) (0, a4) (RC.start h) (ghost_ren 1 (fun i => ([0] : List Nat).getD i 0) _ _ (by decide) (EnvSub.get (.cons (Sub.own rfl rfl) (.cons (Sub.imm (Imm.con _)) (.cons (Sub.imm (Imm.con _)) (.cons (Sub.imm (Imm.con _)) (.cons (Sub.imm (Imm.con _)) .nil)))))) (HpSub.get (.cons rfl (ObSub.rows (rows_imm imms_encTWindow)) .nil)) rfl)
  obtain ⟨n22, l23⟩ := p
  refine awp_loop ?_
  refine sq ?_
  refine sr ?_
  refine am (iV n22) rfl rfl ?_
  refine am (iV a3) rfl rfl ?_
  refine aops_bin (.bool (decide (n22 < a3))) wants_none rfl rfl rfl rfl ?_
  refine an ?_
  refine awp_cond (decide (n22 < a3)) rfl (fun hb24 => ?_) (fun hb24 => ?_)
  · obtain ⟨tl, h, hk1⟩ := RC.t hA33 h hb24
    unfold M185_L1 at h
    refine awp_skip ?_
    refine sq ?_
    refine awp_block ?_
    replace h := bind_some h
    obtain ⟨x25, hx26, h⟩ := h
    replace h := bind_some h
    obtain ⟨x27, hx28, h⟩ := h
    replace h := bind_some h
    obtain ⟨x29, hx30, h⟩ := h
    replace h := bind_some h
    obtain ⟨x31, hx32, h⟩ := h
    refine awp_any [OD.mk [(0, (V.own 0 l23.length))] [] [(16, (V.own 0 l23.length))] [],
          OD.mk [(1, (iV a1))] [] [(17, (iV a1))] [],
          OD.mk [(10, (iV n22))] [] [(18, (iV n22))] [],
          OD.mk [(17, (iV a1)), (18, (iV n22))] [] [(19, (iV (w64 (a1 + n22))))] [],
          OD.mk [(0, (V.own 0 l23.length))] [] [(20, (V.own 0 l23.length))] [],
          OD.mk [(2, (iV a2))] [] [(21, (iV a2))] [],
          OD.mk [(10, (iV n22))] [] [(22, (iV n22))] [],
          OD.mk [(21, (iV a2)), (22, (iV n22))] [] [(23, (iV (w64 (a2 + n22))))] [],
          OD.mk [(0, (V.own 0 l23.length))] [] [(24, (V.own 0 l23.length))] [],
          OD.mk [(2, (iV a2))] [] [(25, (iV a2))] [],
          OD.mk [(10, (iV n22))] [] [(26, (iV n22))] [],
          OD.mk [(25, (iV a2)), (26, (iV n22))] [] [(27, (iV (w64 (a2 + n22))))] [],
          OD.mk [(24, (V.own 0 l23.length)), (27, (iV (w64 (a2 + n22))))] [] [(28, (V.ptr 0 6 (w64 (a2 + n22)).toNat 0))] [],
          OD.mk [(28, (V.ptr 0 6 (w64 (a2 + n22)).toNat 0))] [(0, (Ob.arr 35 6 (l23.map encTWindow)))] [(29, (V.agg (encTWindow x25)))] [],
          OD.mk [(0, (V.own 0 l23.length))] [] [(30, (V.own 0 l23.length))] [],
          OD.mk [(1, (iV a1))] [] [(31, (iV a1))] [],
          OD.mk [(10, (iV n22))] [] [(32, (iV n22))] [],
          OD.mk [(31, (iV a1)), (32, (iV n22))] [] [(33, (iV (w64 (a1 + n22))))] [],
          OD.mk [(30, (V.own 0 l23.length)), (33, (iV (w64 (a1 + n22))))] [] [(34, (V.ptr 0 6 (w64 (a1 + n22)).toNat 0))] [],
          OD.mk [(34, (V.ptr 0 6 (w64 (a1 + n22)).toNat 0))] [(0, (Ob.arr 35 6 (l23.map encTWindow)))] [(35, (V.agg (encTWindow x27)))] [],
          OD.mk [(16, (V.own 0 l23.length)), (19, (iV (w64 (a1 + n22))))] [] [(36, (V.ptr 0 6 (w64 (a1 + n22)).toNat 0))] [],
          OD.mk [(36, (V.ptr 0 6 (w64 (a1 + n22)).toNat 0)), (29, (V.agg (encTWindow x25)))] [(0, (Ob.arr 35 6 (l23.map encTWindow)))] [] [(0, (Ob.arr 35 6 ((l23.set (w64 (a1 + n22)).toNat x25).map encTWindow)))],
          OD.mk [(20, (V.own 0 l23.length)), (23, (iV (w64 (a2 + n22))))] [] [(37, (V.ptr 0 6 (w64 (a2 + n22)).toNat 0))] [],
          OD.mk [(37, (V.ptr 0 6 (w64 (a2 + n22)).toNat 0)), (35, (V.agg (encTWindow x27)))] [(0, (Ob.arr 35 6 ((l23.set (w64 (a1 + n22)).toNat x25).map encTWindow)))] [] [(0, (Ob.arr 35 6 (((l23.set (w64 (a1 + n22)).toNat x25).set (w64 (a2 + n22)).toNat x27).map encTWindow)))]] mixed ⟨⟨rfl, trivial⟩, trivial, ⟨⟨rfl, trivial⟩, trivial, ⟨⟨rfl, trivial⟩, trivial, ⟨⟨rfl, rfl, trivial⟩, trivial, ⟨⟨rfl, trivial⟩, trivial, ⟨⟨rfl, trivial⟩, trivial, ⟨⟨rfl, trivial⟩, trivial, ⟨⟨rfl, rfl, trivial⟩, trivial, ⟨⟨rfl, trivial⟩, trivial, ⟨⟨rfl, trivial⟩, trivial, ⟨⟨rfl, trivial⟩, trivial, ⟨⟨rfl, rfl, trivial⟩, trivial, ⟨⟨rfl, rfl, trivial⟩, trivial, ⟨⟨rfl, trivial⟩, ⟨rfl, trivial⟩, ⟨⟨rfl, trivial⟩, trivial, ⟨⟨rfl, trivial⟩, trivial, ⟨⟨rfl, trivial⟩, trivial, ⟨⟨rfl, rfl, trivial⟩, trivial, ⟨⟨rfl, rfl, trivial⟩, trivial, ⟨⟨rfl, trivial⟩, ⟨rfl, trivial⟩, ⟨⟨rfl, rfl, trivial⟩, trivial, ⟨⟨rfl, rfl, trivial⟩, ⟨rfl, trivial⟩, ⟨⟨rfl, rfl, trivial⟩, trivial, ⟨⟨rfl, rfl, trivial⟩, ⟨rfl, trivial⟩, trivial⟩⟩⟩⟩⟩⟩⟩⟩⟩⟩⟩⟩⟩⟩⟩⟩⟩⟩⟩⟩⟩⟩⟩⟩ (by kernel_rfl) (.cons (fun S hn h hh => aops_move (V.own 0 l23.length) wants_none h.1 rfl (an ⟨rfl, rfl⟩)) (.cons (fun S hn h hh => aops_move (iV a1) wants_none h.1 rfl (an ⟨rfl, rfl⟩)) (.cons (fun S hn h hh => aops_move (iV n22) wants_none h.1 rfl (an ⟨rfl, rfl⟩)) (.cons (fun S hn h hh => aops_bin (.int .i64 (w64 (a1 + n22))) wants_none h.1 h.2.1 rfl rfl (an ⟨rfl, rfl⟩)) (.cons (fun S hn h hh => aops_move (V.own 0 l23.length) wants_none h.1 rfl (an ⟨rfl, rfl⟩)) (.cons (fun S hn h hh => aops_move (iV a2) wants_none h.1 rfl (an ⟨rfl, rfl⟩)) (.cons (fun S hn h hh => aops_move (iV n22) wants_none h.1 rfl (an ⟨rfl, rfl⟩)) (.cons (fun S hn h hh => aops_bin (.int .i64 (w64 (a2 + n22))) wants_none h.1 h.2.1 rfl rfl (an ⟨rfl, rfl⟩)) (.cons (fun S hn h hh => aops_move (V.own 0 l23.length) wants_none h.1 rfl (an ⟨rfl, rfl⟩)) (.cons (fun S hn h hh => aops_move (iV a2) wants_none h.1 rfl (an ⟨rfl, rfl⟩)) (.cons (fun S hn h hh => aops_move (iV n22) wants_none h.1 rfl (an ⟨rfl, rfl⟩)) (.cons (fun S hn h hh => aops_bin (.int .i64 (w64 (a2 + n22))) wants_none h.1 h.2.1 rfl rfl (an ⟨rfl, rfl⟩)) (.cons (fun S hn h hh => aops_index_own tSl59 wants_none h.1 h.2.1 (idx_some hx26).1 (by simpa using idx_lt hx26) rfl (an ⟨rfl, rfl⟩)) (.cons (fun S hn h hh => aops_load_agg (cs := (encTWindow x25)) tA35 wants_none h.1 hh.1 (idx_map encTWindow hx26) rfl rfl rfl (an ⟨rfl, rfl⟩)) (.cons (fun S hn h hh => aops_move (V.own 0 l23.length) wants_none h.1 rfl (an ⟨rfl, rfl⟩)) (.cons (fun S hn h hh => aops_move (iV a1) wants_none h.1 rfl (an ⟨rfl, rfl⟩)) (.cons (fun S hn h hh => aops_move (iV n22) wants_none h.1 rfl (an ⟨rfl, rfl⟩)) (.cons (fun S hn h hh => aops_bin (.int .i64 (w64 (a1 + n22))) wants_none h.1 h.2.1 rfl rfl (an ⟨rfl, rfl⟩)) (.cons (fun S hn h hh => aops_index_own tSl59 wants_none h.1 h.2.1 (idx_some hx28).1 (by simpa using idx_lt hx28) rfl (an ⟨rfl, rfl⟩)) (.cons (fun S hn h hh => aops_load_agg (cs := (encTWindow x27)) tA35 wants_none h.1 hh.1 (idx_map encTWindow hx28) rfl rfl rfl (an ⟨rfl, rfl⟩)) (.cons (fun S hn h hh => aops_index_own tSl59 wants_none h.1 h.2.1 (idx_some hx30).1 (by simpa using idx_lt hx30) rfl (an ⟨rfl, rfl⟩)) (.cons (fun S hn h hh => aops_store (encTWindow x25) ((l23.set (w64 (a1 + n22)).toNat x25).map encTWindow) tS35 wants_none h.1 h.2.1 rfl rfl hh.1 (idx_map encTWindow hx30) rfl (map_set encTWindow l23 _ x25) (an ⟨rfl, rfl⟩)) (.cons (fun S hn h hh => aops_index_own tSl59 wants_none h.1 h.2.1 (idx_some hx32).1 (by simpa using idx_lt hx32) rfl (an ⟨rfl, rfl⟩)) (.cons (fun S hn h hh => aops_store (encTWindow x27) (((l23.set (w64 (a1 + n22)).toNat x25).set (w64 (a2 + n22)).toNat x27).map encTWindow) tS35 wants_none h.1 h.2.1 rfl rfl hh.1 (idx_map encTWindow hx32) rfl (map_set encTWindow (l23.set (w64 (a1 + n22)).toNat x25) _ x27) (an ⟨rfl, rfl⟩)) .nil)))))))))))))))))))))))) ?_
    refine rg ?_
    refine am (iV n22) rfl rfl ?_
    refine aops_bin (.int .i64 (w64 (n22 + 1))) wants_none rfl rfl rfl rfl ?_
    refine aa (iV (w64 (n22 + 1))) rfl rfl ?_
    refine an ?_
    exact awp_back (ih1 ((w64 (n22 + 1)), ((l23.set (w64 (a1 + n22)).toNat x25).set (w64 (a2 + n22)).toNat x27)) (hk1 _ h)) (ghost_ren 1 (fun i => ([0] : List Nat).getD i 0) _ _ (by decide) (EnvSub.get (.cons (Sub.ownE rfl rfl (by simp)) (.cons (Sub.imm (Imm.con _)) (.cons (Sub.imm (Imm.con _)) (.cons (Sub.imm (Imm.con _)) (.cons (Sub.imm (Imm.con _)) .nil)))))) (HpSub.get (.cons rfl (ObSub.rows (rows_imm imms_encTWindow)) .nil)) rfl)
  replace h := RC.f h hb24
  unfold M185_L1 at h
  refine awp_exit ?_
  obtain rfl := Option.some.inj h
  exact ⟨.inr rfl, [], (ghost_ren 1 (fun i => ([0] : List Nat).getD i 0) _ _ (by decide) (EnvSub.get .nil) (HpSub.get (.cons rfl (ObSub.rows (rows_imm imms_encTWindow)) .nil)) rfl), .nil⟩
theorem W181 (F : Nat) (a1 : Int) (a2 : Int) (a3 : Int) (a4 : List TWindow) (r : (List TWindow)) (h : M181 F a1 a2 a3 a4 = some r) : Mut Try.prog 181 [(V.own 0 a4.length), (iV a1), (iV a2), (iV a3), (V.fn (.func 134) [] [])] 1 [(0, (Ob.arr 35 6 (a4.map encTWindow)))] (resV []) 1 [(0, (Ob.arr 35 6 (r.map encTWindow)))] := by
  refine mut_enter Try.func181 rfl rfl (l := []) rfl rfl [(0, (V.own 0 a4.length)), (1, (iV a1)), (2, (iV a2)), (3, (iV a3)), (4, (V.fn (.func 134) [] []))] rfl (fun w0 m0 β0 => ?_)
  unfold M181 at h
  refine sr ?_
  refine am (iV a2) rfl rfl ?_
  refine am (iV a1) rfl rfl ?_
  refine aops_bin (.int .i64 (w64 (a2 - a1))) wants_none rfl rfl rfl rfl ?_
  refine aa (iV (w64 (a2 - a1))) rfl rfl ?_
  refine an ?_
  refine sr ?_
  refine am (iV a3) rfl rfl ?_
  refine am (iV a2) rfl rfl ?_
  refine aops_bin (.int .i64 (w64 (a3 - a2))) wants_none rfl rfl rfl rfl ?_
  refine aa (iV (w64 (a3 - a2))) rfl rfl ?_
  refine an ?_
  refine sq ?_
  replace h := jn_elim h
  obtain ⟨k30, hk30, h⟩ := h
  refine awp_cut (fun (p : Int × (List TWindow)) => (⟨[(0, (V.own 0 (p.2).length)), (2, (iV a2)), (4, (V.fn (.func 134) [] [])), (10, (iV (p.1)))], [(0, (Ob.arr 35 6 ((p.2).map encTWindow)))], 1⟩ : St)) (fun (p : Int × (List TWindow)) => k30 p.1 p.2 = some r) ?_ ?_
  · clear hk30
    refine awp_block ?_
    refine awp_loop_ind (fun (p : Int × Int × (List TWindow)) => (⟨[(0, (V.own 0 (p.2.2).length)), (2, (iV a2)), (4, (V.fn (.func 134) [] [])), (10, (iV (p.1))), (11, (iV (p.2.1)))], [(0, (Ob.arr 35 6 ((p.2.2).map encTWindow)))], 1⟩ : St)) (fun n (p : Int × Int × (List TWindow)) => M181_L1 F a2 k30 n p.1 p.2.1 p.2.2 = some r) (fun p h => by simp [M181_L1] at h) (fun n ih1 p h => ?_) F ((w64 (a2 - a1)), (w64 (a3 - a2)), a4) h (ghost_ren 1 (fun i => ([0] : List Nat).getD i 0) _ _ (by decide) (EnvSub.get (.cons (Sub.own rfl rfl) (.cons (Sub.imm (Imm.con _)) (.cons (Sub.imm (Imm.fn .nil .nil)) (.cons (Sub.imm (Imm.con _)) (.cons (Sub.imm (Imm.con _)) .nil)))))) (HpSub.get (.cons rfl (ObSub.rows (rows_imm imms_encTWindow)) .nil)) rfl)
    obtain ⟨n36, n37, l38⟩ := p
    unfold M181_L1 at h
    refine awp_loop ?_
    refine sq ?_
    refine sr ?_
    refine am (iV n36) rfl rfl ?_
    refine am (iV n37) rfl rfl ?_
    refine aops_bin (.bool (n36 != n37)) wants_none rfl rfl rfl rfl ?_
    refine an ?_
    refine awp_cond (n36 != n37) rfl (fun hb39 => ?_) (fun hb39 => ?_)
    · replace h := ite_t hb39 h
      refine awp_skip ?_
      refine awp_block ?_
      refine sr ?_
      refine am (iV n36) rfl rfl ?_
      refine am (iV n37) rfl rfl ?_
      refine aops_bin (.bool (decide (n36 > n37))) wants_none rfl rfl rfl rfl ?_
      refine an ?_
      replace h := jn_elim h
      obtain ⟨k40, hk40, h⟩ := h
      refine awp_cut (fun (p : Int × Int × (List TWindow)) => (⟨[(0, (V.own 0 (p.2.2).length)), (2, (iV a2)), (4, (V.fn (.func 134) [] [])), (10, (iV (p.1))), (11, (iV (p.2.1)))], [(0, (Ob.arr 35 6 ((p.2.2).map encTWindow)))], 1⟩ : St)) (fun (p : Int × Int × (List TWindow)) => k40 p.1 p.2.1 p.2.2 = some r) ?_ ?_
      · clear hk40
        refine awp_cond (decide (n36 > n37)) rfl (fun hb44 => ?_) (fun hb44 => ?_)
        · replace h := ite_t hb44 h
          refine sr ?_
          refine am (V.own 0 l38.length) rfl rfl ?_
          refine am (iV a2) rfl rfl ?_
          refine am (iV n36) rfl rfl ?_
          refine aops_bin (.int .i64 (w64 (a2 - n36))) wants_none rfl rfl rfl rfl ?_
          refine am (iV a2) rfl rfl ?_
          refine am (iV n37) rfl rfl ?_
          refine am (V.fn (.func 134) [] []) rfl rfl ?_
          replace h := bind_some h
          obtain ⟨y45, hx46, h⟩ := h
          replace h := chk_some h
          obtain ⟨hc47, h⟩ := h
          refine aops_mcall (V.tup []) [(V.own 0 l38.length), (iV (w64 (a2 - n36))), (iV a2), (iV n37), (V.fn (.func 134) [] [])] (fun i => ([0] : List Nat).getD i 0) (fun i => ([0] : List Nat).getD i 0) 1 1 [(0, (Ob.arr 35 6 (y45.map encTWindow)))] fOk185 wants_none rfl (evm_cons rfl (evm_cons rfl (evm_cons rfl (evm_cons rfl (evm_cons rfl evm_nil))))) (.cons (Sub.own rfl rfl) (.cons (Sub.imm (Imm.con _)) (.cons (Sub.imm (Imm.con _)) (.cons (Sub.imm (Imm.con _)) (.cons (Sub.imm (Imm.fn .nil .nil)) .nil))))) (.cons rfl (ObSub.rows (rows_imm imms_encTWindow)) .nil) (W185 F (w64 (a2 - n36)) a2 n37 l38 y45 hx46) rfl rfl rfl rfl rfl (Sub.immT (Imm.tup .nil)) (.cons rfl (ObSub.rowsT (rows_imm imms_encTWindow)) .nil) ?_
          refine aops_ghost (ghost_tell 0 (V.own 0 y45.length) rfl (Sub.ownI hc47)) ?_
          refine aops_ghost (ghost_tell 24 (V.own 0 y45.length) rfl (Sub.ownI hc47)) ?_
          refine an ?_
          refine rg ?_
          refine am (iV n36) rfl rfl ?_
          refine am (iV n37) rfl rfl ?_
          refine aops_bin (.int .i64 (w64 (n36 - n37))) wants_none rfl rfl rfl rfl ?_
          refine aa (iV (w64 (n36 - n37))) rfl rfl ?_
          refine an ?_
          exact ⟨((w64 (n36 - n37)), n37, y45), h, (ghost_ren 1 (fun i => ([0] : List Nat).getD i 0) _ _ (by decide) (EnvSub.get (.cons (Sub.own rfl rfl) (.cons (Sub.imm (Imm.con _)) (.cons (Sub.imm (Imm.fn .nil .nil)) (.cons (Sub.imm (Imm.con _)) (.cons (Sub.imm (Imm.con _)) .nil)))))) (HpSub.get (.cons rfl (ObSub.rows (rows_imm imms_encTWindow)) .nil)) rfl)⟩
        replace h := ite_f hb44 h
        refine sr ?_
        refine am (V.own 0 l38.length) rfl rfl ?_
        refine am (iV a2) rfl rfl ?_
        refine am (iV n36) rfl rfl ?_
        refine aops_bin (.int .i64 (w64 (a2 - n36))) wants_none rfl rfl rfl rfl ?_
        refine am (iV a2) rfl rfl ?_
        refine am (iV n37) rfl rfl ?_
        refine aops_bin (.int .i64 (w64 (a2 + n37))) wants_none rfl rfl rfl rfl ?_
        refine am (iV n36) rfl rfl ?_
        refine aops_bin (.int .i64 (w64 ((w64 (a2 + n37)) - n36))) wants_none rfl rfl rfl rfl ?_
        refine am (iV n36) rfl rfl ?_
        refine am (V.fn (.func 134) [] []) rfl rfl ?_
        replace h := bind_some h
        obtain ⟨y48, hx49, h⟩ := h
        replace h := chk_some h
        obtain ⟨hc50, h⟩ := h
        refine aops_mcall (V.tup []) [(V.own 0 l38.length), (iV (w64 (a2 - n36))), (iV (w64 ((w64 (a2 + n37)) - n36))), (iV n36), (V.fn (.func 134) [] [])] (fun i => ([0] : List Nat).getD i 0) (fun i => ([0] : List Nat).getD i 0) 1 1 [(0, (Ob.arr 35 6 (y48.map encTWindow)))] fOk185 wants_none rfl (evm_cons rfl (evm_cons rfl (evm_cons rfl (evm_cons rfl (evm_cons rfl evm_nil))))) (.cons (Sub.own rfl rfl) (.cons (Sub.imm (Imm.con _)) (.cons (Sub.imm (Imm.con _)) (.cons (Sub.imm (Imm.con _)) (.cons (Sub.imm (Imm.fn .nil .nil)) .nil))))) (.cons rfl (ObSub.rows (rows_imm imms_encTWindow)) .nil) (W185 F (w64 (a2 - n36)) (w64 ((w64 (a2 + n37)) - n36)) n36 l38 y48 hx49) rfl rfl rfl rfl rfl (Sub.immT (Imm.tup .nil)) (.cons rfl (ObSub.rowsT (rows_imm imms_encTWindow)) .nil) ?_
        refine aops_ghost (ghost_tell 0 (V.own 0 y48.length) rfl (Sub.ownI hc50)) ?_
        refine aops_ghost (ghost_tell 35 (V.own 0 y48.length) rfl (Sub.ownI hc50)) ?_
        refine an ?_
        refine rg ?_
        refine am (iV n37) rfl rfl ?_
        refine am (iV n36) rfl rfl ?_
        refine aops_bin (.int .i64 (w64 (n37 - n36))) wants_none rfl rfl rfl rfl ?_
        refine aa (iV (w64 (n37 - n36))) rfl rfl ?_
        refine an ?_
        exact ⟨(n36, (w64 (n37 - n36)), y48), h, (ghost_ren 1 (fun i => ([0] : List Nat).getD i 0) _ _ (by decide) (EnvSub.get (.cons (Sub.own rfl rfl) (.cons (Sub.imm (Imm.con _)) (.cons (Sub.imm (Imm.fn .nil .nil)) (.cons (Sub.imm (Imm.con _)) (.cons (Sub.imm (Imm.con _)) .nil)))))) (HpSub.get (.cons rfl (ObSub.rows (rows_imm imms_encTWindow)) .nil)) rfl)⟩
      clear h
      rintro ⟨n41, n42, l43⟩ h
      subst hk40
      exact awp_back (ih1 (n41, n42, l43) h) (ghost_ren 1 (fun i => ([0] : List Nat).getD i 0) _ _ (by decide) (EnvSub.get (.cons (Sub.own rfl rfl) (.cons (Sub.imm (Imm.con _)) (.cons (Sub.imm (Imm.fn .nil .nil)) (.cons (Sub.imm (Imm.con _)) (.cons (Sub.imm (Imm.con _)) .nil)))))) (HpSub.get (.cons rfl (ObSub.rows (rows_imm imms_encTWindow)) .nil)) rfl)
    replace h := ite_f hb39 h
    refine awp_exit ?_
    exact ⟨(n36, l38), h, (ghost_ren 1 (fun i => ([0] : List Nat).getD i 0) _ _ (by decide) (EnvSub.get (.cons (Sub.own rfl rfl) (.cons (Sub.imm (Imm.con _)) (.cons (Sub.imm (Imm.fn .nil .nil)) (.cons (Sub.imm (Imm.con _)) .nil))))) (HpSub.get (.cons rfl (ObSub.rows (rows_imm imms_encTWindow)) .nil)) rfl)⟩
  clear h
  rintro ⟨n31, l32⟩ h
  subst hk30
  refine rg ?_
  refine am (V.own 0 l32.length) rfl rfl ?_
  refine am (iV a2) rfl rfl ?_
  refine am (iV n31) rfl rfl ?_
  refine aops_bin (.int .i64 (w64 (a2 - n31))) wants_none rfl rfl rfl rfl ?_
  refine am (iV a2) rfl rfl ?_
  refine am (iV n31) rfl rfl ?_
  refine am (V.fn (.func 134) [] []) rfl rfl ?_
  replace h := bind_some h
  obtain ⟨y51, hx52, h⟩ := h
  replace h := chk_some h
  obtain ⟨hc53, h⟩ := h
  refine aops_mcall (V.tup []) [(V.own 0 l32.length), (iV (w64 (a2 - n31))), (iV a2), (iV n31), (V.fn (.func 134) [] [])] (fun i => ([0] : List Nat).getD i 0) (fun i => ([0] : List Nat).getD i 0) 1 1 [(0, (Ob.arr 35 6 (y51.map encTWindow)))] fOk185 wants_none rfl (evm_cons rfl (evm_cons rfl (evm_cons rfl (evm_cons rfl (evm_cons rfl evm_nil))))) (.cons (Sub.own rfl rfl) (.cons (Sub.imm (Imm.con _)) (.cons (Sub.imm (Imm.con _)) (.cons (Sub.imm (Imm.con _)) (.cons (Sub.imm (Imm.fn .nil .nil)) .nil))))) (.cons rfl (ObSub.rows (rows_imm imms_encTWindow)) .nil) (W185 F (w64 (a2 - n31)) a2 n31 l32 y51 hx52) rfl rfl rfl rfl rfl (Sub.immT (Imm.tup .nil)) (.cons rfl (ObSub.rowsT (rows_imm imms_encTWindow)) .nil) ?_
  refine aops_ghost (ghost_tell 0 (V.own 0 y51.length) rfl (Sub.ownI hc53)) ?_
  refine aops_ghost (ghost_tell 50 (V.own 0 y51.length) rfl (Sub.ownI hc53)) ?_
  refine an ?_
  obtain rfl := Option.some.inj h
  exact ⟨.inr rfl, [], (ghost_ren 1 (fun i => ([0] : List Nat).getD i 0) _ _ (by decide) (EnvSub.get .nil) (HpSub.get (.cons rfl (ObSub.rows (rows_imm imms_encTWindow)) .nil)) rfl), .nil⟩
theorem W172_B (R172 : Int → Int → Int → (List TWindow) → Option (List TWindow)) (hR172 : ∀ (a1 : Int) (a2 : Int) (a3 : Int) (a4 : List TWindow) (r : (List TWindow)), R172 a1 a2 a3 a4 = some r → Mut Try.prog 172 [(V.own 0 a4.length), (iV a1), (iV a2), (iV a3), (V.fn (.func 134) [] [])] 1 [(0, (Ob.arr 35 6 (a4.map encTWindow)))] (resV []) 1 [(0, (Ob.arr 35 6 (r.map encTWindow)))]) (F : Nat) (a1 : Int) (a2 : Int) (a3 : Int) (a4 : List TWindow) (r : (List TWindow)) (h : M172_B R172 F a1 a2 a3 a4 = some r) : Mut Try.prog 172 [(V.own 0 a4.length), (iV a1), (iV a2), (iV a3), (V.fn (.func 134) [] [])] 1 [(0, (Ob.arr 35 6 (a4.map encTWindow)))] (resV []) 1 [(0, (Ob.arr 35 6 (r.map encTWindow)))] := by
  refine mut_enter Try.func172 rfl rfl (l := []) rfl rfl [(0, (V.own 0 a4.length)), (1, (iV a1)), (2, (iV a2)), (3, (iV a3)), (4, (V.fn (.func 134) [] []))] rfl (fun w0 m0 β0 => ?_)
  unfold M172_B at h
  refine sq ?_
  refine sr ?_
  refine am (iV a2) rfl rfl ?_
  refine am (iV a1) rfl rfl ?_
  refine aops_bin (.int .i64 (w64 (a2 - a1))) wants_none rfl rfl rfl rfl ?_
  refine aops_bin (.bool ((w64 (a2 - a1)) == 1)) wants_none rfl rfl rfl rfl ?_
  refine an ?_
  refine awp_cond ((w64 (a2 - a1)) == 1) rfl (fun hb112 => ?_) (fun hb112 => ?_)
  · replace h := ite_t hb112 h
    refine sr ?_
    refine am (iV a2) rfl rfl ?_
    refine aa (iV a2) rfl rfl ?_
    refine an ?_
    refine sr ?_
    refine am (iV a3) rfl rfl ?_
    refine aa (iV a3) rfl rfl ?_
    refine an ?_
    refine sq ?_
    replace h := jn_elim h
    obtain ⟨k113, hk113, h⟩ := h
    refine awp_cut (fun (p : Int) => (⟨[(0, (V.own 0 a4.length)), (1, (iV a1)), (10, (iV p))], [(0, (Ob.arr 35 6 (a4.map encTWindow)))], 1⟩ : St)) (fun (p : Int) => k113 p = some r) ?_ ?_
    · clear hk113
      refine awp_block ?_
      refine awp_loop_ind (fun (p : Int × Int) => (⟨[(0, (V.own 0 a4.length)), (1, (iV a1)), (4, (V.fn (.func 134) [] [])), (10, (iV (p.1))), (11, (iV (p.2)))], [(0, (Ob.arr 35 6 (a4.map encTWindow)))], 1⟩ : St)) (fun n (p : Int × Int) => M172_L1 F a1 a4 k113 n p.1 p.2 = some r) (fun p h => by simp [M172_L1] at h) (fun n ih1 p h => ?_) F (a2, a3) h (ghost_ren 1 (fun i => ([0] : List Nat).getD i 0) _ _ (by decide) (EnvSub.get (.cons (Sub.own rfl rfl) (.cons (Sub.imm (Imm.con _)) (.cons (Sub.imm (Imm.fn .nil .nil)) (.cons (Sub.imm (Imm.con _)) (.cons (Sub.imm (Imm.con _)) .nil)))))) (HpSub.get (.cons rfl (ObSub.rows (rows_imm imms_encTWindow)) .nil)) rfl)
      obtain ⟨n117, n118⟩ := p
      unfold M172_L1 at h
      refine awp_loop ?_
      refine sq ?_
      refine sr ?_
      refine am (iV n117) rfl rfl ?_
      refine am (iV n118) rfl rfl ?_
      refine aops_bin (.bool (decide (n117 < n118))) wants_none rfl rfl rfl rfl ?_
      refine an ?_
      refine awp_cond (decide (n117 < n118)) rfl (fun hb119 => ?_) (fun hb119 => ?_)
      · replace h := ite_t hb119 h
        refine awp_skip ?_
        refine awp_block ?_
        refine sr ?_
        refine am (iV n117) rfl rfl ?_
        refine am (iV n118) rfl rfl ?_
        refine aops_bin (.int .i64 (w64 (n117 + n118))) wants_none rfl rfl rfl rfl ?_
        refine aops_convInt tU150 ⟨_, tU3⟩ wants_none rfl rfl ?_
        refine aops_bin (.int .u64 (Int.fdiv (IntKind.wrap .u64 (w64 (n117 + n118))) (2 ^ (min (Int.toNat 1) (IntKind.bits .u64))))) wants_none rfl rfl rfl rfl ?_
        refine aops_convInt tU3 ⟨_, tU150⟩ wants_none rfl rfl ?_
        refine aa (iV (w64 (Int.fdiv (IntKind.wrap .u64 (w64 (n117 + n118))) (2 ^ (min (Int.toNat 1) (IntKind.bits .u64)))))) rfl rfl ?_
        refine an ?_
        refine sq ?_
        replace h := bind_some h
        obtain ⟨x120, hx121, h⟩ := h
        replace h := bind_some h
        obtain ⟨x122, hx123, h⟩ := h
        replace h := bind_some h
        obtain ⟨y124, hx125, h⟩ := h
        refine awp_any [OD.mk [(4, (V.fn (.func 134) [] []))] [] [(40, (V.fn (.func 134) [] []))] [],
              OD.mk [(0, (V.own 0 a4.length))] [] [(41, (V.own 0 a4.length))] [],
              OD.mk [(12, (iV (w64 (Int.fdiv (IntKind.wrap .u64 (w64 (n117 + n118))) (2 ^ (min (Int.toNat 1) (IntKind.bits .u64)))))))] [] [(42, (iV (w64 (Int.fdiv (IntKind.wrap .u64 (w64 (n117 + n118))) (2 ^ (min (Int.toNat 1) (IntKind.bits .u64)))))))] [],
              OD.mk [(41, (V.own 0 a4.length)), (42, (iV (w64 (Int.fdiv (IntKind.wrap .u64 (w64 (n117 + n118))) (2 ^ (min (Int.toNat 1) (IntKind.bits .u64)))))))] [] [(43, (V.ptr 0 6 (w64 (Int.fdiv (IntKind.wrap .u64 (w64 (n117 + n118))) (2 ^ (min (Int.toNat 1) (IntKind.bits .u64))))).toNat 0))] [],
              OD.mk [(43, (V.ptr 0 6 (w64 (Int.fdiv (IntKind.wrap .u64 (w64 (n117 + n118))) (2 ^ (min (Int.toNat 1) (IntKind.bits .u64))))).toNat 0))] [(0, (Ob.arr 35 6 (a4.map encTWindow)))] [(44, (V.agg (encTWindow x120)))] [],
              OD.mk [(0, (V.own 0 a4.length))] [] [(45, (V.own 0 a4.length))] [],
              OD.mk [(1, (iV a1))] [] [(46, (iV a1))] [],
              OD.mk [(45, (V.own 0 a4.length)), (46, (iV a1))] [] [(47, (V.ptr 0 6 a1.toNat 0))] [],
              OD.mk [(47, (V.ptr 0 6 a1.toNat 0))] [(0, (Ob.arr 35 6 (a4.map encTWindow)))] [(48, (V.agg (encTWindow x122)))] [],
              OD.mk [(40, (V.fn (.func 134) [] [])), (44, (V.agg (encTWindow x120))), (48, (V.agg (encTWindow x122)))] [] [(49, (iV y124))] [],
              OD.mk [(49, (iV y124))] [] [(50, (bV (decide (y124 < 0))))] []] mixed ⟨⟨rfl, trivial⟩, trivial, ⟨⟨rfl, trivial⟩, trivial, ⟨⟨rfl, trivial⟩, trivial, ⟨⟨rfl, rfl, trivial⟩, trivial, ⟨⟨rfl, trivial⟩, ⟨rfl, trivial⟩, ⟨⟨rfl, trivial⟩, trivial, ⟨⟨rfl, trivial⟩, trivial, ⟨⟨rfl, rfl, trivial⟩, trivial, ⟨⟨rfl, trivial⟩, ⟨rfl, trivial⟩, ⟨⟨rfl, rfl, rfl, trivial⟩, trivial, ⟨⟨rfl, trivial⟩, trivial, trivial⟩⟩⟩⟩⟩⟩⟩⟩⟩⟩⟩ (by kernel_rfl) (.cons (fun S hn h hh => aops_move (V.fn (.func 134) [] []) wants_none h.1 rfl (an ⟨rfl, rfl⟩)) (.cons (fun S hn h hh => aops_move (V.own 0 a4.length) wants_none h.1 rfl (an ⟨rfl, rfl⟩)) (.cons (fun S hn h hh => aops_move (iV (w64 (Int.fdiv (IntKind.wrap .u64 (w64 (n117 + n118))) (2 ^ (min (Int.toNat 1) (IntKind.bits .u64)))))) wants_none h.1 rfl (an ⟨rfl, rfl⟩)) (.cons (fun S hn h hh => aops_index_own tSl59 wants_none h.1 h.2.1 (idx_some hx121).1 (by simpa using idx_lt hx121) rfl (an ⟨rfl, rfl⟩)) (.cons (fun S hn h hh => aops_load_agg (cs := (encTWindow x120)) tA35 wants_none h.1 hh.1 (idx_map encTWindow hx121) rfl rfl rfl (an ⟨rfl, rfl⟩)) (.cons (fun S hn h hh => aops_move (V.own 0 a4.length) wants_none h.1 rfl (an ⟨rfl, rfl⟩)) (.cons (fun S hn h hh => aops_move (iV a1) wants_none h.1 rfl (an ⟨rfl, rfl⟩)) (.cons (fun S hn h hh => aops_index_own tSl59 wants_none h.1 h.2.1 (idx_some hx123).1 (by simpa using idx_lt hx123) rfl (an ⟨rfl, rfl⟩)) (.cons (fun S hn h hh => aops_load_agg (cs := (encTWindow x122)) tA35 wants_none h.1 hh.1 (idx_map encTWindow hx123) rfl rfl rfl (an ⟨rfl, rfl⟩)) (.cons (fun S hn h hh => aops_callv (iV y124) [(V.agg (encTWindow x120)), (V.agg (encTWindow x122))] fOk134 wants_none h.1 (evmc (S := S) (first := []) (captured := []) (vs := [(V.agg (encTWindow x120)), (V.agg (encTWindow x122))]) (evm_cons h.2.1 (evm_cons h.2.2.1 evm_nil))) (.cons (Imm.agg (imms_encTWindow _)) (.cons (Imm.agg (imms_encTWindow _)) .nil)) (W134 F x120 x122 y124 hx125) rfl (an ⟨rfl, rfl⟩)) (.cons (fun S hn h hh => aops_bin (.bool (decide (y124 < 0))) wants_none h.1 rfl rfl rfl (an ⟨rfl, rfl⟩)) .nil))))))))))) ?_
        replace h := jn_elim h
        obtain ⟨k126, hk126, h⟩ := h
        refine awp_cut (fun (p : Int × Int) => (⟨[(0, (V.own 0 a4.length)), (1, (iV a1)), (4, (V.fn (.func 134) [] [])), (10, (iV (p.1))), (11, (iV (p.2)))], [(0, (Ob.arr 35 6 (a4.map encTWindow)))], 1⟩ : St)) (fun (p : Int × Int) => k126 p.1 p.2 = some r) ?_ ?_
        · clear hk126
          refine awp_cond (decide (y124 < 0)) rfl (fun hb129 => ?_) (fun hb129 => ?_)
          · replace h := ite_t hb129 h
            refine rg ?_
            refine am (iV (w64 (Int.fdiv (IntKind.wrap .u64 (w64 (n117 + n118))) (2 ^ (min (Int.toNat 1) (IntKind.bits .u64)))))) rfl rfl ?_
            refine aops_bin (.int .i64 (w64 ((w64 (Int.fdiv (IntKind.wrap .u64 (w64 (n117 + n118))) (2 ^ (min (Int.toNat 1) (IntKind.bits .u64))))) + 1))) wants_none rfl rfl rfl rfl ?_
            refine aa (iV (w64 ((w64 (Int.fdiv (IntKind.wrap .u64 (w64 (n117 + n118))) (2 ^ (min (Int.toNat 1) (IntKind.bits .u64))))) + 1))) rfl rfl ?_
            refine an ?_
            exact ⟨((w64 ((w64 (Int.fdiv (IntKind.wrap .u64 (w64 (n117 + n118))) (2 ^ (min (Int.toNat 1) (IntKind.bits .u64))))) + 1)), n118), h, (ghost_ren 1 (fun i => ([0] : List Nat).getD i 0) _ _ (by decide) (EnvSub.get (.cons (Sub.own rfl rfl) (.cons (Sub.imm (Imm.con _)) (.cons (Sub.imm (Imm.fn .nil .nil)) (.cons (Sub.imm (Imm.con _)) (.cons (Sub.imm (Imm.con _)) .nil)))))) (HpSub.get (.cons rfl (ObSub.rows (rows_imm imms_encTWindow)) .nil)) rfl)⟩
          replace h := ite_f hb129 h
          refine rg ?_
          refine am (iV (w64 (Int.fdiv (IntKind.wrap .u64 (w64 (n117 + n118))) (2 ^ (min (Int.toNat 1) (IntKind.bits .u64)))))) rfl rfl ?_
          refine aa (iV (w64 (Int.fdiv (IntKind.wrap .u64 (w64 (n117 + n118))) (2 ^ (min (Int.toNat 1) (IntKind.bits .u64)))))) rfl rfl ?_
          refine an ?_
          exact ⟨(n117, (w64 (Int.fdiv (IntKind.wrap .u64 (w64 (n117 + n118))) (2 ^ (min (Int.toNat 1) (IntKind.bits .u64)))))), h, (ghost_ren 1 (fun i => ([0] : List Nat).getD i 0) _ _ (by decide) (EnvSub.get (.cons (Sub.own rfl rfl) (.cons (Sub.imm (Imm.con _)) (.cons (Sub.imm (Imm.fn .nil .nil)) (.cons (Sub.imm (Imm.con _)) (.cons (Sub.imm (Imm.con _)) .nil)))))) (HpSub.get (.cons rfl (ObSub.rows (rows_imm imms_encTWindow)) .nil)) rfl)⟩
        clear h
        rintro ⟨n127, n128⟩ h
        subst hk126
        exact awp_back (ih1 (n127, n128) h) (ghost_ren 1 (fun i => ([0] : List Nat).getD i 0) _ _ (by decide) (EnvSub.get (.cons (Sub.own rfl rfl) (.cons (Sub.imm (Imm.con _)) (.cons (Sub.imm (Imm.fn .nil .nil)) (.cons (Sub.imm (Imm.con _)) (.cons (Sub.imm (Imm.con _)) .nil)))))) (HpSub.get (.cons rfl (ObSub.rows (rows_imm imms_encTWindow)) .nil)) rfl)
      replace h := ite_f hb119 h
      refine awp_exit ?_
      exact ⟨n117, h, (ghost_ren 1 (fun i => ([0] : List Nat).getD i 0) _ _ (by decide) (EnvSub.get (.cons (Sub.own rfl rfl) (.cons (Sub.imm (Imm.con _)) (.cons (Sub.imm (Imm.con _)) .nil)))) (HpSub.get (.cons rfl (ObSub.rows (rows_imm imms_encTWindow)) .nil)) rfl)⟩
    clear h
    intro n114 h
    subst hk113
    refine sq ?_
    refine sr ?_
    refine am (iV a1) rfl rfl ?_
    refine aa (iV a1) rfl rfl ?_
    refine an ?_
    replace h := jn_elim h
    obtain ⟨k130, hk130, h⟩ := h
    refine awp_cut (fun (p : (List TWindow)) => (⟨[], [(0, (Ob.arr 35 6 (p.map encTWindow)))], 1⟩ : St)) (fun (p : (List TWindow)) => k130 p = some r) ?_ ?_
    · clear hk130
      refine awp_block ?_
      refine awp_loop_ind (fun (p : Int × (List TWindow)) => (⟨[(0, (V.own 0 (p.2).length)), (10, (iV n114)), (13, (iV (p.1)))], [(0, (Ob.arr 35 6 ((p.2).map encTWindow)))], 1⟩ : St)) (fun n (p : Int × (List TWindow)) => M172_L2 F n114 k130 n p.1 p.2 = some r) (fun p h => by simp [M172_L2] at h) (fun n ih2 p h => ?_) F (a1, a4) h (ghost_ren 1 (fun i => ([0] : List Nat).getD i 0) _ _ (by decide) (EnvSub.get (.cons (Sub.own rfl rfl) (.cons (Sub.imm (Imm.con _)) (.cons (Sub.imm (Imm.con _)) .nil)))) (HpSub.get (.cons rfl (ObSub.rows (rows_imm imms_encTWindow)) .nil)) rfl)
      obtain ⟨n134, l135⟩ := p
      unfold M172_L2 at h
      refine awp_loop ?_
      refine sq ?_
      refine sr ?_
      refine am (iV n134) rfl rfl ?_
      refine am (iV n114) rfl rfl ?_
      refine aops_bin (.int .i64 (w64 (n114 - 1))) wants_none rfl rfl rfl rfl ?_
      refine aops_bin (.bool (decide (n134 < (w64 (n114 - 1))))) wants_none rfl rfl rfl rfl ?_
      refine an ?_
      refine awp_cond (decide (n134 < (w64 (n114 - 1)))) rfl (fun hb136 => ?_) (fun hb136 => ?_)
      · replace h := ite_t hb136 h
        refine awp_skip ?_
        refine sq ?_
        refine awp_block ?_
        replace h := bind_some h
        obtain ⟨x137, hx138, h⟩ := h
        replace h := bind_some h
        obtain ⟨x139, hx140, h⟩ := h
        replace h := bind_some h
        obtain ⟨x141, hx142, h⟩ := h
        replace h := bind_some h
        obtain ⟨x143, hx144, h⟩ := h
        refine awp_any [OD.mk [(0, (V.own 0 l135.length))] [] [(61, (V.own 0 l135.length))] [],
              OD.mk [(13, (iV n134))] [] [(62, (iV n134))] [],
              OD.mk [(0, (V.own 0 l135.length))] [] [(63, (V.own 0 l135.length))] [],
              OD.mk [(13, (iV n134))] [] [(64, (iV n134))] [],
              OD.mk [(64, (iV n134))] [] [(65, (iV (w64 (n134 + 1))))] [],
              OD.mk [(0, (V.own 0 l135.length))] [] [(66, (V.own 0 l135.length))] [],
              OD.mk [(13, (iV n134))] [] [(67, (iV n134))] [],
              OD.mk [(67, (iV n134))] [] [(68, (iV (w64 (n134 + 1))))] [],
              OD.mk [(66, (V.own 0 l135.length)), (68, (iV (w64 (n134 + 1))))] [] [(69, (V.ptr 0 6 (w64 (n134 + 1)).toNat 0))] [],
              OD.mk [(69, (V.ptr 0 6 (w64 (n134 + 1)).toNat 0))] [(0, (Ob.arr 35 6 (l135.map encTWindow)))] [(70, (V.agg (encTWindow x137)))] [],
              OD.mk [(0, (V.own 0 l135.length))] [] [(71, (V.own 0 l135.length))] [],
              OD.mk [(13, (iV n134))] [] [(72, (iV n134))] [],
              OD.mk [(71, (V.own 0 l135.length)), (72, (iV n134))] [] [(73, (V.ptr 0 6 n134.toNat 0))] [],
              OD.mk [(73, (V.ptr 0 6 n134.toNat 0))] [(0, (Ob.arr 35 6 (l135.map encTWindow)))] [(74, (V.agg (encTWindow x139)))] [],
              OD.mk [(61, (V.own 0 l135.length)), (62, (iV n134))] [] [(75, (V.ptr 0 6 n134.toNat 0))] [],
              OD.mk [(75, (V.ptr 0 6 n134.toNat 0)), (70, (V.agg (encTWindow x137)))] [(0, (Ob.arr 35 6 (l135.map encTWindow)))] [] [(0, (Ob.arr 35 6 ((l135.set n134.toNat x137).map encTWindow)))],
              OD.mk [(63, (V.own 0 l135.length)), (65, (iV (w64 (n134 + 1))))] [] [(76, (V.ptr 0 6 (w64 (n134 + 1)).toNat 0))] [],
              OD.mk [(76, (V.ptr 0 6 (w64 (n134 + 1)).toNat 0)), (74, (V.agg (encTWindow x139)))] [(0, (Ob.arr 35 6 ((l135.set n134.toNat x137).map encTWindow)))] [] [(0, (Ob.arr 35 6 (((l135.set n134.toNat x137).set (w64 (n134 + 1)).toNat x139).map encTWindow)))]] mixed ⟨⟨rfl, trivial⟩, trivial, ⟨⟨rfl, trivial⟩, trivial, ⟨⟨rfl, trivial⟩, trivial, ⟨⟨rfl, trivial⟩, trivial, ⟨⟨rfl, trivial⟩, trivial, ⟨⟨rfl, trivial⟩, trivial, ⟨⟨rfl, trivial⟩, trivial, ⟨⟨rfl, trivial⟩, trivial, ⟨⟨rfl, rfl, trivial⟩, trivial, ⟨⟨rfl, trivial⟩, ⟨rfl, trivial⟩, ⟨⟨rfl, trivial⟩, trivial, ⟨⟨rfl, trivial⟩, trivial, ⟨⟨rfl, rfl, trivial⟩, trivial, ⟨⟨rfl, trivial⟩, ⟨rfl, trivial⟩, ⟨⟨rfl, rfl, trivial⟩, trivial, ⟨⟨rfl, rfl, trivial⟩, ⟨rfl, trivial⟩, ⟨⟨rfl, rfl, trivial⟩, trivial, ⟨⟨rfl, rfl, trivial⟩, ⟨rfl, trivial⟩, trivial⟩⟩⟩⟩⟩⟩⟩⟩⟩⟩⟩⟩⟩⟩⟩⟩⟩⟩ (by kernel_rfl) (.cons (fun S hn h hh => aops_move (V.own 0 l135.length) wants_none h.1 rfl (an ⟨rfl, rfl⟩)) (.cons (fun S hn h hh => aops_move (iV n134) wants_none h.1 rfl (an ⟨rfl, rfl⟩)) (.cons (fun S hn h hh => aops_move (V.own 0 l135.length) wants_none h.1 rfl (an ⟨rfl, rfl⟩)) (.cons (fun S hn h hh => aops_move (iV n134) wants_none h.1 rfl (an ⟨rfl, rfl⟩)) (.cons (fun S hn h hh => aops_bin (.int .i64 (w64 (n134 + 1))) wants_none h.1 rfl rfl rfl (an ⟨rfl, rfl⟩)) (.cons (fun S hn h hh => aops_move (V.own 0 l135.length) wants_none h.1 rfl (an ⟨rfl, rfl⟩)) (.cons (fun S hn h hh => aops_move (iV n134) wants_none h.1 rfl (an ⟨rfl, rfl⟩)) (.cons (fun S hn h hh => aops_bin (.int .i64 (w64 (n134 + 1))) wants_none h.1 rfl rfl rfl (an ⟨rfl, rfl⟩)) (.cons (fun S hn h hh => aops_index_own tSl59 wants_none h.1 h.2.1 (idx_some hx138).1 (by simpa using idx_lt hx138) rfl (an ⟨rfl, rfl⟩)) (.cons (fun S hn h hh => aops_load_agg (cs := (encTWindow x137)) tA35 wants_none h.1 hh.1 (idx_map encTWindow hx138) rfl rfl rfl (an ⟨rfl, rfl⟩)) (.cons (fun S hn h hh => aops_move (V.own 0 l135.length) wants_none h.1 rfl (an ⟨rfl, rfl⟩)) (.cons (fun S hn h hh => aops_move (iV n134) wants_none h.1 rfl (an ⟨rfl, rfl⟩)) (.cons (fun S hn h hh => aops_index_own tSl59 wants_none h.1 h.2.1 (idx_some hx140).1 (by simpa using idx_lt hx140) rfl (an ⟨rfl, rfl⟩)) (.cons (fun S hn h hh => aops_load_agg (cs := (encTWindow x139)) tA35 wants_none h.1 hh.1 (idx_map encTWindow hx140) rfl rfl rfl (an ⟨rfl, rfl⟩)) (.cons (fun S hn h hh => aops_index_own tSl59 wants_none h.1 h.2.1 (idx_some hx142).1 (by simpa using idx_lt hx142) rfl (an ⟨rfl, rfl⟩)) (.cons (fun S hn h hh => aops_store (encTWindow x137) ((l135.set n134.toNat x137).map encTWindow) tS35 wants_none h.1 h.2.1 rfl rfl hh.1 (idx_map encTWindow hx142) rfl (map_set encTWindow l135 _ x137) (an ⟨rfl, rfl⟩)) (.cons (fun S hn h hh => aops_index_own tSl59 wants_none h.1 h.2.1 (idx_some hx144).1 (by simpa using idx_lt hx144) rfl (an ⟨rfl, rfl⟩)) (.cons (fun S hn h hh => aops_store (encTWindow x139) (((l135.set n134.toNat x137).set (w64 (n134 + 1)).toNat x139).map encTWindow) tS35 wants_none h.1 h.2.1 rfl rfl hh.1 (idx_map encTWindow hx144) rfl (map_set encTWindow (l135.set n134.toNat x137) _ x139) (an ⟨rfl, rfl⟩)) .nil)))))))))))))))))) ?_
        refine rg ?_
        refine am (iV n134) rfl rfl ?_
        refine aops_bin (.int .i64 (w64 (n134 + 1))) wants_none rfl rfl rfl rfl ?_
        refine aa (iV (w64 (n134 + 1))) rfl rfl ?_
        refine an ?_
        exact awp_back (ih2 ((w64 (n134 + 1)), ((l135.set n134.toNat x137).set (w64 (n134 + 1)).toNat x139)) h) (ghost_ren 1 (fun i => ([0] : List Nat).getD i 0) _ _ (by decide) (EnvSub.get (.cons (Sub.ownE rfl rfl (by simp)) (.cons (Sub.imm (Imm.con _)) (.cons (Sub.imm (Imm.con _)) .nil)))) (HpSub.get (.cons rfl (ObSub.rows (rows_imm imms_encTWindow)) .nil)) rfl)
      replace h := ite_f hb136 h
      refine awp_exit ?_
      exact ⟨l135, h, (ghost_ren 1 (fun i => ([0] : List Nat).getD i 0) _ _ (by decide) (EnvSub.get .nil) (HpSub.get (.cons rfl (ObSub.rows (rows_imm imms_encTWindow)) .nil)) rfl)⟩
    clear h
    intro l131 h
    subst hk130
    refine awp_ret ?_
    obtain rfl := Option.some.inj h
    exact ⟨.inl rfl, [], (ghost_ren 1 (fun i => ([0] : List Nat).getD i 0) _ _ (by decide) (EnvSub.get .nil) (HpSub.get (.cons rfl (ObSub.rows (rows_imm imms_encTWindow)) .nil)) rfl), .nil⟩
  replace h := ite_f hb112 h
  refine awp_skip ?_
  refine sq ?_
  refine sr ?_
  refine am (iV a3) rfl rfl ?_
  refine am (iV a2) rfl rfl ?_
  refine aops_bin (.int .i64 (w64 (a3 - a2))) wants_none rfl rfl rfl rfl ?_
  refine aops_bin (.bool ((w64 (a3 - a2)) == 1)) wants_none rfl rfl rfl rfl ?_
  refine an ?_
  refine awp_cond ((w64 (a3 - a2)) == 1) rfl (fun hb145 => ?_) (fun hb145 => ?_)
  · replace h := ite_t hb145 h
    refine sr ?_
    refine am (iV a1) rfl rfl ?_
    refine aa (iV a1) rfl rfl ?_
    refine an ?_
    refine sr ?_
    refine am (iV a2) rfl rfl ?_
    refine aa (iV a2) rfl rfl ?_
    refine an ?_
    refine sq ?_
    replace h := jn_elim h
    obtain ⟨k146, hk146, h⟩ := h
    refine awp_cut (fun (p : Int) => (⟨[(0, (V.own 0 a4.length)), (2, (iV a2)), (14, (iV p))], [(0, (Ob.arr 35 6 (a4.map encTWindow)))], 1⟩ : St)) (fun (p : Int) => k146 p = some r) ?_ ?_
    · clear hk146
      refine awp_block ?_
      refine awp_loop_ind (fun (p : Int × Int) => (⟨[(0, (V.own 0 a4.length)), (2, (iV a2)), (4, (V.fn (.func 134) [] [])), (14, (iV (p.1))), (15, (iV (p.2)))], [(0, (Ob.arr 35 6 (a4.map encTWindow)))], 1⟩ : St)) (fun n (p : Int × Int) => M172_L3 F a2 a4 k146 n p.1 p.2 = some r) (fun p h => by simp [M172_L3] at h) (fun n ih3 p h => ?_) F (a1, a2) h (ghost_ren 1 (fun i => ([0] : List Nat).getD i 0) _ _ (by decide) (EnvSub.get (.cons (Sub.own rfl rfl) (.cons (Sub.imm (Imm.con _)) (.cons (Sub.imm (Imm.fn .nil .nil)) (.cons (Sub.imm (Imm.con _)) (.cons (Sub.imm (Imm.con _)) .nil)))))) (HpSub.get (.cons rfl (ObSub.rows (rows_imm imms_encTWindow)) .nil)) rfl)
      obtain ⟨n150, n151⟩ := p
      unfold M172_L3 at h
      refine awp_loop ?_
      refine sq ?_
      refine sr ?_
      refine am (iV n150) rfl rfl ?_
      refine am (iV n151) rfl rfl ?_
      refine aops_bin (.bool (decide (n150 < n151))) wants_none rfl rfl rfl rfl ?_
      refine an ?_
      refine awp_cond (decide (n150 < n151)) rfl (fun hb152 => ?_) (fun hb152 => ?_)
      · replace h := ite_t hb152 h
        refine awp_skip ?_
        refine awp_block ?_
        refine sr ?_
        refine am (iV n150) rfl rfl ?_
        refine am (iV n151) rfl rfl ?_
        refine aops_bin (.int .i64 (w64 (n150 + n151))) wants_none rfl rfl rfl rfl ?_
        refine aops_convInt tU150 ⟨_, tU3⟩ wants_none rfl rfl ?_
        refine aops_bin (.int .u64 (Int.fdiv (IntKind.wrap .u64 (w64 (n150 + n151))) (2 ^ (min (Int.toNat 1) (IntKind.bits .u64))))) wants_none rfl rfl rfl rfl ?_
        refine aops_convInt tU3 ⟨_, tU150⟩ wants_none rfl rfl ?_
        refine aa (iV (w64 (Int.fdiv (IntKind.wrap .u64 (w64 (n150 + n151))) (2 ^ (min (Int.toNat 1) (IntKind.bits .u64)))))) rfl rfl ?_
        refine an ?_
        refine sq ?_
        replace h := bind_some h
        obtain ⟨x153, hx154, h⟩ := h
        replace h := bind_some h
        obtain ⟨x155, hx156, h⟩ := h
        replace h := bind_some h
        obtain ⟨y157, hx158, h⟩ := h
        refine awp_any [OD.mk [(4, (V.fn (.func 134) [] []))] [] [(92, (V.fn (.func 134) [] []))] [],
              OD.mk [(0, (V.own 0 a4.length))] [] [(93, (V.own 0 a4.length))] [],
              OD.mk [(2, (iV a2))] [] [(94, (iV a2))] [],
              OD.mk [(93, (V.own 0 a4.length)), (94, (iV a2))] [] [(95, (V.ptr 0 6 a2.toNat 0))] [],
              OD.mk [(95, (V.ptr 0 6 a2.toNat 0))] [(0, (Ob.arr 35 6 (a4.map encTWindow)))] [(96, (V.agg (encTWindow x153)))] [],
              OD.mk [(0, (V.own 0 a4.length))] [] [(97, (V.own 0 a4.length))] [],
              OD.mk [(16, (iV (w64 (Int.fdiv (IntKind.wrap .u64 (w64 (n150 + n151))) (2 ^ (min (Int.toNat 1) (IntKind.bits .u64)))))))] [] [(98, (iV (w64 (Int.fdiv (IntKind.wrap .u64 (w64 (n150 + n151))) (2 ^ (min (Int.toNat 1) (IntKind.bits .u64)))))))] [],
              OD.mk [(97, (V.own 0 a4.length)), (98, (iV (w64 (Int.fdiv (IntKind.wrap .u64 (w64 (n150 + n151))) (2 ^ (min (Int.toNat 1) (IntKind.bits .u64)))))))] [] [(99, (V.ptr 0 6 (w64 (Int.fdiv (IntKind.wrap .u64 (w64 (n150 + n151))) (2 ^ (min (Int.toNat 1) (IntKind.bits .u64))))).toNat 0))] [],
              OD.mk [(99, (V.ptr 0 6 (w64 (Int.fdiv (IntKind.wrap .u64 (w64 (n150 + n151))) (2 ^ (min (Int.toNat 1) (IntKind.bits .u64))))).toNat 0))] [(0, (Ob.arr 35 6 (a4.map encTWindow)))] [(100, (V.agg (encTWindow x155)))] [],
              OD.mk [(92, (V.fn (.func 134) [] [])), (96, (V.agg (encTWindow x153))), (100, (V.agg (encTWindow x155)))] [] [(101, (iV y157))] [],
              OD.mk [(101, (iV y157))] [] [(102, (bV (decide (y157 < 0))))] [],
              OD.mk [(102, (bV (decide (y157 < 0))))] [] [(103, (bV (!(decide (y157 < 0)))))] []] mixed ⟨⟨rfl, trivial⟩, trivial, ⟨⟨rfl, trivial⟩, trivial, ⟨⟨rfl, trivial⟩, trivial, ⟨⟨rfl, rfl, trivial⟩, trivial, ⟨⟨rfl, trivial⟩, ⟨rfl, trivial⟩, ⟨⟨rfl, trivial⟩, trivial, ⟨⟨rfl, trivial⟩, trivial, ⟨⟨rfl, rfl, trivial⟩, trivial, ⟨⟨rfl, trivial⟩, ⟨rfl, trivial⟩, ⟨⟨rfl, rfl, rfl, trivial⟩, trivial, ⟨⟨rfl, trivial⟩, trivial, ⟨⟨rfl, trivial⟩, trivial, trivial⟩⟩⟩⟩⟩⟩⟩⟩⟩⟩⟩⟩ (by kernel_rfl) (.cons (fun S hn h hh => aops_move (V.fn (.func 134) [] []) wants_none h.1 rfl (an ⟨rfl, rfl⟩)) (.cons (fun S hn h hh => aops_move (V.own 0 a4.length) wants_none h.1 rfl (an ⟨rfl, rfl⟩)) (.cons (fun S hn h hh => aops_move (iV a2) wants_none h.1 rfl (an ⟨rfl, rfl⟩)) (.cons (fun S hn h hh => aops_index_own tSl59 wants_none h.1 h.2.1 (idx_some hx154).1 (by simpa using idx_lt hx154) rfl (an ⟨rfl, rfl⟩)) (.cons (fun S hn h hh => aops_load_agg (cs := (encTWindow x153)) tA35 wants_none h.1 hh.1 (idx_map encTWindow hx154) rfl rfl rfl (an ⟨rfl, rfl⟩)) (.cons (fun S hn h hh => aops_move (V.own 0 a4.length) wants_none h.1 rfl (an ⟨rfl, rfl⟩)) (.cons (fun S hn h hh => aops_move (iV (w64 (Int.fdiv (IntKind.wrap .u64 (w64 (n150 + n151))) (2 ^ (min (Int.toNat 1) (IntKind.bits .u64)))))) wants_none h.1 rfl (an ⟨rfl, rfl⟩)) (.cons (fun S hn h hh => aops_index_own tSl59 wants_none h.1 h.2.1 (idx_some hx156).1 (by simpa using idx_lt hx156) rfl (an ⟨rfl, rfl⟩)) (.cons (fun S hn h hh => aops_load_agg (cs := (encTWindow x155)) tA35 wants_none h.1 hh.1 (idx_map encTWindow hx156) rfl rfl rfl (an ⟨rfl, rfl⟩)) (.cons (fun S hn h hh => aops_callv (iV y157) [(V.agg (encTWindow x153)), (V.agg (encTWindow x155))] fOk134 wants_none h.1 (evmc (S := S) (first := []) (captured := []) (vs := [(V.agg (encTWindow x153)), (V.agg (encTWindow x155))]) (evm_cons h.2.1 (evm_cons h.2.2.1 evm_nil))) (.cons (Imm.agg (imms_encTWindow _)) (.cons (Imm.agg (imms_encTWindow _)) .nil)) (W134 F x153 x155 y157 hx158) rfl (an ⟨rfl, rfl⟩)) (.cons (fun S hn h hh => aops_bin (.bool (decide (y157 < 0))) wants_none h.1 rfl rfl rfl (an ⟨rfl, rfl⟩)) (.cons (fun S hn h hh => aops_not wants_none h.1 rfl (an ⟨rfl, rfl⟩)) .nil)))))))))))) ?_
        replace h := jn_elim h
        obtain ⟨k159, hk159, h⟩ := h
        refine awp_cut (fun (p : Int × Int) => (⟨[(0, (V.own 0 a4.length)), (2, (iV a2)), (4, (V.fn (.func 134) [] [])), (14, (iV (p.1))), (15, (iV (p.2)))], [(0, (Ob.arr 35 6 (a4.map encTWindow)))], 1⟩ : St)) (fun (p : Int × Int) => k159 p.1 p.2 = some r) ?_ ?_
        · clear hk159
          refine awp_cond (!(decide (y157 < 0))) rfl (fun hb162 => ?_) (fun hb162 => ?_)
          · replace h := ite_t hb162 h
            refine rg ?_
            refine am (iV (w64 (Int.fdiv (IntKind.wrap .u64 (w64 (n150 + n151))) (2 ^ (min (Int.toNat 1) (IntKind.bits .u64)))))) rfl rfl ?_
            refine aops_bin (.int .i64 (w64 ((w64 (Int.fdiv (IntKind.wrap .u64 (w64 (n150 + n151))) (2 ^ (min (Int.toNat 1) (IntKind.bits .u64))))) + 1))) wants_none rfl rfl rfl rfl ?_
            refine aa (iV (w64 ((w64 (Int.fdiv (IntKind.wrap .u64 (w64 (n150 + n151))) (2 ^ (min (Int.toNat 1) (IntKind.bits .u64))))) + 1))) rfl rfl ?_
            refine an ?_
            exact ⟨((w64 ((w64 (Int.fdiv (IntKind.wrap .u64 (w64 (n150 + n151))) (2 ^ (min (Int.toNat 1) (IntKind.bits .u64))))) + 1)), n151), h, (ghost_ren 1 (fun i => ([0] : List Nat).getD i 0) _ _ (by decide) (EnvSub.get (.cons (Sub.own rfl rfl) (.cons (Sub.imm (Imm.con _)) (.cons (Sub.imm (Imm.fn .nil .nil)) (.cons (Sub.imm (Imm.con _)) (.cons (Sub.imm (Imm.con _)) .nil)))))) (HpSub.get (.cons rfl (ObSub.rows (rows_imm imms_encTWindow)) .nil)) rfl)⟩
          replace h := ite_f hb162 h
          refine rg ?_
          refine am (iV (w64 (Int.fdiv (IntKind.wrap .u64 (w64 (n150 + n151))) (2 ^ (min (Int.toNat 1) (IntKind.bits .u64)))))) rfl rfl ?_
          refine aa (iV (w64 (Int.fdiv (IntKind.wrap .u64 (w64 (n150 + n151))) (2 ^ (min (Int.toNat 1) (IntKind.bits .u64)))))) rfl rfl ?_
          refine an ?_
          exact ⟨(n150, (w64 (Int.fdiv (IntKind.wrap .u64 (w64 (n150 + n151))) (2 ^ (min (Int.toNat 1) (IntKind.bits .u64)))))), h, (ghost_ren 1 (fun i => ([0] : List Nat).getD i 0) _ _ (by decide) (EnvSub.get (.cons (Sub.own rfl rfl) (.cons (Sub.imm (Imm.con _)) (.cons (Sub.imm (Imm.fn .nil .nil)) (.cons (Sub.imm (Imm.con _)) (.cons (Sub.imm (Imm.con _)) .nil)))))) (HpSub.get (.cons rfl (ObSub.rows (rows_imm imms_encTWindow)) .nil)) rfl)⟩
        clear h
        rintro ⟨n160, n161⟩ h
        subst hk159
        exact awp_back (ih3 (n160, n161) h) (ghost_ren 1 (fun i => ([0] : List Nat).getD i 0) _ _ (by decide) (EnvSub.get (.cons (Sub.own rfl rfl) (.cons (Sub.imm (Imm.con _)) (.cons (Sub.imm (Imm.fn .nil .nil)) (.cons (Sub.imm (Imm.con _)) (.cons (Sub.imm (Imm.con _)) .nil)))))) (HpSub.get (.cons rfl (ObSub.rows (rows_imm imms_encTWindow)) .nil)) rfl)
      replace h := ite_f hb152 h
      refine awp_exit ?_
      exact ⟨n150, h, (ghost_ren 1 (fun i => ([0] : List Nat).getD i 0) _ _ (by decide) (EnvSub.get (.cons (Sub.own rfl rfl) (.cons (Sub.imm (Imm.con _)) (.cons (Sub.imm (Imm.con _)) .nil)))) (HpSub.get (.cons rfl (ObSub.rows (rows_imm imms_encTWindow)) .nil)) rfl)⟩
    clear h
    intro n147 h
    subst hk146
    refine sq ?_
    refine sr ?_
    refine am (iV a2) rfl rfl ?_
    refine aa (iV a2) rfl rfl ?_
    refine an ?_
    replace h := jn_elim h
    obtain ⟨k163, hk163, h⟩ := h
    refine awp_cut (fun (p : (List TWindow)) => (⟨[], [(0, (Ob.arr 35 6 (p.map encTWindow)))], 1⟩ : St)) (fun (p : (List TWindow)) => k163 p = some r) ?_ ?_
    · clear hk163
      refine awp_block ?_
      refine awp_loop_ind (fun (p : Int × (List TWindow)) => (⟨[(0, (V.own 0 (p.2).length)), (14, (iV n147)), (17, (iV (p.1)))], [(0, (Ob.arr 35 6 ((p.2).map encTWindow)))], 1⟩ : St)) (fun n (p : Int × (List TWindow)) => M172_L4 F n147 k163 n p.1 p.2 = some r) (fun p h => by simp [M172_L4] at h) (fun n ih4 p h => ?_) F (a2, a4) h (ghost_ren 1 (fun i => ([0] : List Nat).getD i 0) _ _ (by decide) (EnvSub.get (.cons (Sub.own rfl rfl) (.cons (Sub.imm (Imm.con _)) (.cons (Sub.imm (Imm.con _)) .nil)))) (HpSub.get (.cons rfl (ObSub.rows (rows_imm imms_encTWindow)) .nil)) rfl)
      obtain ⟨n167, l168⟩ := p
      unfold M172_L4 at h
      refine awp_loop ?_
      refine sq ?_
      refine sr ?_
      refine am (iV n167) rfl rfl ?_
      refine am (iV n147) rfl rfl ?_
      refine aops_bin (.bool (decide (n167 > n147))) wants_none rfl rfl rfl rfl ?_
      refine an ?_
      refine awp_cond (decide (n167 > n147)) rfl (fun hb169 => ?_) (fun hb169 => ?_)
      · replace h := ite_t hb169 h
        refine awp_skip ?_
        refine sq ?_
        refine awp_block ?_
        replace h := bind_some h
        obtain ⟨x170, hx171, h⟩ := h
        replace h := bind_some h
        obtain ⟨x172, hx173, h⟩ := h
        replace h := bind_some h
        obtain ⟨x174, hx175, h⟩ := h
        replace h := bind_some h
        obtain ⟨x176, hx177, h⟩ := h
        refine awp_any [OD.mk [(0, (V.own 0 l168.length))] [] [(113, (V.own 0 l168.length))] [],
              OD.mk [(17, (iV n167))] [] [(114, (iV n167))] [],
              OD.mk [(0, (V.own 0 l168.length))] [] [(115, (V.own 0 l168.length))] [],
              OD.mk [(17, (iV n167))] [] [(116, (iV n167))] [],
              OD.mk [(116, (iV n167))] [] [(117, (iV (w64 (n167 - 1))))] [],
              OD.mk [(0, (V.own 0 l168.length))] [] [(118, (V.own 0 l168.length))] [],
              OD.mk [(17, (iV n167))] [] [(119, (iV n167))] [],
              OD.mk [(119, (iV n167))] [] [(120, (iV (w64 (n167 - 1))))] [],
              OD.mk [(118, (V.own 0 l168.length)), (120, (iV (w64 (n167 - 1))))] [] [(121, (V.ptr 0 6 (w64 (n167 - 1)).toNat 0))] [],
              OD.mk [(121, (V.ptr 0 6 (w64 (n167 - 1)).toNat 0))] [(0, (Ob.arr 35 6 (l168.map encTWindow)))] [(122, (V.agg (encTWindow x170)))] [],
              OD.mk [(0, (V.own 0 l168.length))] [] [(123, (V.own 0 l168.length))] [],
              OD.mk [(17, (iV n167))] [] [(124, (iV n167))] [],
              OD.mk [(123, (V.own 0 l168.length)), (124, (iV n167))] [] [(125, (V.ptr 0 6 n167.toNat 0))] [],
              OD.mk [(125, (V.ptr 0 6 n167.toNat 0))] [(0, (Ob.arr 35 6 (l168.map encTWindow)))] [(126, (V.agg (encTWindow x172)))] [],
              OD.mk [(113, (V.own 0 l168.length)), (114, (iV n167))] [] [(127, (V.ptr 0 6 n167.toNat 0))] [],
              OD.mk [(127, (V.ptr 0 6 n167.toNat 0)), (122, (V.agg (encTWindow x170)))] [(0, (Ob.arr 35 6 (l168.map encTWindow)))] [] [(0, (Ob.arr 35 6 ((l168.set n167.toNat x170).map encTWindow)))],
              OD.mk [(115, (V.own 0 l168.length)), (117, (iV (w64 (n167 - 1))))] [] [(128, (V.ptr 0 6 (w64 (n167 - 1)).toNat 0))] [],
              OD.mk [(128, (V.ptr 0 6 (w64 (n167 - 1)).toNat 0)), (126, (V.agg (encTWindow x172)))] [(0, (Ob.arr 35 6 ((l168.set n167.toNat x170).map encTWindow)))] [] [(0, (Ob.arr 35 6 (((l168.set n167.toNat x170).set (w64 (n167 - 1)).toNat x172).map encTWindow)))]] mixed ⟨⟨rfl, trivial⟩, trivial, ⟨⟨rfl, trivial⟩, trivial, ⟨⟨rfl, trivial⟩, trivial, ⟨⟨rfl, trivial⟩, trivial, ⟨⟨rfl, trivial⟩, trivial, ⟨⟨rfl, trivial⟩, trivial, ⟨⟨rfl, trivial⟩, trivial, ⟨⟨rfl, trivial⟩, trivial, ⟨⟨rfl, rfl, trivial⟩, trivial, ⟨⟨rfl, trivial⟩, ⟨rfl, trivial⟩, ⟨⟨rfl, trivial⟩, trivial, ⟨⟨rfl, trivial⟩, trivial, ⟨⟨rfl, rfl, trivial⟩, trivial, ⟨⟨rfl, trivial⟩, ⟨rfl, trivial⟩, ⟨⟨rfl, rfl, trivial⟩, trivial, ⟨⟨rfl, rfl, trivial⟩, ⟨rfl, trivial⟩, ⟨⟨rfl, rfl, trivial⟩, trivial, ⟨⟨rfl, rfl, trivial⟩, ⟨rfl, trivial⟩, trivial⟩⟩⟩⟩⟩⟩⟩⟩⟩⟩⟩⟩⟩⟩⟩⟩⟩⟩ (by kernel_rfl) (.cons (fun S hn h hh => aops_move (V.own 0 l168.length) wants_none h.1 rfl (an ⟨rfl, rfl⟩)) (.cons (fun S hn h hh => aops_move (iV n167) wants_none h.1 rfl (an ⟨rfl, rfl⟩)) (.cons (fun S hn h hh => aops_move (V.own 0 l168.length) wants_none h.1 rfl (an ⟨rfl, rfl⟩)) (.cons (fun S hn h hh => aops_move (iV n167) wants_none h.1 rfl (an ⟨rfl, rfl⟩)) (.cons (fun S hn h hh => aops_bin (.int .i64 (w64 (n167 - 1))) wants_none h.1 rfl rfl rfl (an ⟨rfl, rfl⟩)) (.cons (fun S hn h hh => aops_move (V.own 0 l168.length) wants_none h.1 rfl (an ⟨rfl, rfl⟩)) (.cons (fun S hn h hh => aops_move (iV n167) wants_none h.1 rfl (an ⟨rfl, rfl⟩)) (.cons (fun S hn h hh => aops_bin (.int .i64 (w64 (n167 - 1))) wants_none h.1 rfl rfl rfl (an ⟨rfl, rfl⟩)) (.cons (fun S hn h hh => aops_index_own tSl59 wants_none h.1 h.2.1 (idx_some hx171).1 (by simpa using idx_lt hx171) rfl (an ⟨rfl, rfl⟩)) (.cons (fun S hn h hh => aops_load_agg (cs := (encTWindow x170)) tA35 wants_none h.1 hh.1 (idx_map encTWindow hx171) rfl rfl rfl (an ⟨rfl, rfl⟩)) (.cons (fun S hn h hh => aops_move (V.own 0 l168.length) wants_none h.1 rfl (an ⟨rfl, rfl⟩)) (.cons (fun S hn h hh => aops_move (iV n167) wants_none h.1 rfl (an ⟨rfl, rfl⟩)) (.cons (fun S hn h hh => aops_index_own tSl59 wants_none h.1 h.2.1 (idx_some hx173).1 (by simpa using idx_lt hx173) rfl (an ⟨rfl, rfl⟩)) (.cons (fun S hn h hh => aops_load_agg (cs := (encTWindow x172)) tA35 wants_none h.1 hh.1 (idx_map encTWindow hx173) rfl rfl rfl (an ⟨rfl, rfl⟩)) (.cons (fun S hn h hh => aops_index_own tSl59 wants_none h.1 h.2.1 (idx_some hx175).1 (by simpa using idx_lt hx175) rfl (an ⟨rfl, rfl⟩)) (.cons (fun S hn h hh => aops_store (encTWindow x170) ((l168.set n167.toNat x170).map encTWindow) tS35 wants_none h.1 h.2.1 rfl rfl hh.1 (idx_map encTWindow hx175) rfl (map_set encTWindow l168 _ x170) (an ⟨rfl, rfl⟩)) (.cons (fun S hn h hh => aops_index_own tSl59 wants_none h.1 h.2.1 (idx_some hx177).1 (by simpa using idx_lt hx177) rfl (an ⟨rfl, rfl⟩)) (.cons (fun S hn h hh => aops_store (encTWindow x172) (((l168.set n167.toNat x170).set (w64 (n167 - 1)).toNat x172).map encTWindow) tS35 wants_none h.1 h.2.1 rfl rfl hh.1 (idx_map encTWindow hx177) rfl (map_set encTWindow (l168.set n167.toNat x170) _ x172) (an ⟨rfl, rfl⟩)) .nil)))))))))))))))))) ?_
        refine rg ?_
        refine am (iV n167) rfl rfl ?_
        refine aops_bin (.int .i64 (w64 (n167 - 1))) wants_none rfl rfl rfl rfl ?_
        refine aa (iV (w64 (n167 - 1))) rfl rfl ?_
        refine an ?_
        exact awp_back (ih4 ((w64 (n167 - 1)), ((l168.set n167.toNat x170).set (w64 (n167 - 1)).toNat x172)) h) (ghost_ren 1 (fun i => ([0] : List Nat).getD i 0) _ _ (by decide) (EnvSub.get (.cons (Sub.ownE rfl rfl (by simp)) (.cons (Sub.imm (Imm.con _)) (.cons (Sub.imm (Imm.con _)) .nil)))) (HpSub.get (.cons rfl (ObSub.rows (rows_imm imms_encTWindow)) .nil)) rfl)
      replace h := ite_f hb169 h
      refine awp_exit ?_
      exact ⟨l168, h, (ghost_ren 1 (fun i => ([0] : List Nat).getD i 0) _ _ (by decide) (EnvSub.get .nil) (HpSub.get (.cons rfl (ObSub.rows (rows_imm imms_encTWindow)) .nil)) rfl)⟩
    clear h
    intro l164 h
    subst hk163
    refine awp_ret ?_
    obtain rfl := Option.some.inj h
    exact ⟨.inl rfl, [], (ghost_ren 1 (fun i => ([0] : List Nat).getD i 0) _ _ (by decide) (EnvSub.get .nil) (HpSub.get (.cons rfl (ObSub.rows (rows_imm imms_encTWindow)) .nil)) rfl), .nil⟩
  replace h := ite_f hb145 h
  refine awp_skip ?_
  refine sr ?_
  refine am (iV a1) rfl rfl ?_
  refine am (iV a3) rfl rfl ?_
  refine aops_bin (.int .i64 (w64 (a1 + a3))) wants_none rfl rfl rfl rfl ?_
  refine aops_convInt tU150 ⟨_, tU3⟩ wants_none rfl rfl ?_
  refine aops_bin (.int .u64 (Int.fdiv (IntKind.wrap .u64 (w64 (a1 + a3))) (2 ^ (min (Int.toNat 1) (IntKind.bits .u64))))) wants_none rfl rfl rfl rfl ?_
  refine aops_convInt tU3 ⟨_, tU150⟩ wants_none rfl rfl ?_
  refine aa (iV (w64 (Int.fdiv (IntKind.wrap .u64 (w64 (a1 + a3))) (2 ^ (min (Int.toNat 1) (IntKind.bits .u64)))))) rfl rfl ?_
  refine an ?_
  refine sr ?_
  refine am (iV (w64 (Int.fdiv (IntKind.wrap .u64 (w64 (a1 + a3))) (2 ^ (min (Int.toNat 1) (IntKind.bits .u64)))))) rfl rfl ?_
  refine am (iV a2) rfl rfl ?_
  refine aops_bin (.int .i64 (w64 ((w64 (Int.fdiv (IntKind.wrap .u64 (w64 (a1 + a3))) (2 ^ (min (Int.toNat 1) (IntKind.bits .u64))))) + a2))) wants_none rfl rfl rfl rfl ?_
  refine aa (iV (w64 ((w64 (Int.fdiv (IntKind.wrap .u64 (w64 (a1 + a3))) (2 ^ (min (Int.toNat 1) (IntKind.bits .u64))))) + a2))) rfl rfl ?_
  refine an ?_
  refine sr ?_
  refine aa (iV 0) rfl rfl ?_
  refine aa (iV 0) rfl rfl ?_
  refine an ?_
  refine sq ?_
  refine sr ?_
  refine am (iV a2) rfl rfl ?_
  refine am (iV (w64 (Int.fdiv (IntKind.wrap .u64 (w64 (a1 + a3))) (2 ^ (min (Int.toNat 1) (IntKind.bits .u64)))))) rfl rfl ?_
  refine aops_bin (.bool (decide (a2 > (w64 (Int.fdiv (IntKind.wrap .u64 (w64 (a1 + a3))) (2 ^ (min (Int.toNat 1) (IntKind.bits .u64)))))))) wants_none rfl rfl rfl rfl ?_
  refine an ?_
  replace h := jn_elim h
  obtain ⟨k178, hk178, h⟩ := h
  refine awp_cut (fun (p : Int × Int) => (⟨[(0, (V.own 0 a4.length)), (1, (iV a1)), (2, (iV a2)), (3, (iV a3)), (4, (V.fn (.func 134) [] [])), (18, (iV (w64 (Int.fdiv (IntKind.wrap .u64 (w64 (a1 + a3))) (2 ^ (min (Int.toNat 1) (IntKind.bits .u64))))))), (19, (iV (w64 ((w64 (Int.fdiv (IntKind.wrap .u64 (w64 (a1 + a3))) (2 ^ (min (Int.toNat 1) (IntKind.bits .u64))))) + a2)))), (20, (iV (p.1))), (21, (iV (p.2)))], [(0, (Ob.arr 35 6 (a4.map encTWindow)))], 1⟩ : St)) (fun (p : Int × Int) => k178 p.1 p.2 = some r) ?_ ?_
  · clear hk178
    refine awp_cond (decide (a2 > (w64 (Int.fdiv (IntKind.wrap .u64 (w64 (a1 + a3))) (2 ^ (min (Int.toNat 1) (IntKind.bits .u64))))))) rfl (fun hb181 => ?_) (fun hb181 => ?_)
    · replace h := ite_t hb181 h
      refine sr ?_
      refine am (iV (w64 ((w64 (Int.fdiv (IntKind.wrap .u64 (w64 (a1 + a3))) (2 ^ (min (Int.toNat 1) (IntKind.bits .u64))))) + a2))) rfl rfl ?_
      refine am (iV a3) rfl rfl ?_
      refine aops_bin (.int .i64 (w64 ((w64 ((w64 (Int.fdiv (IntKind.wrap .u64 (w64 (a1 + a3))) (2 ^ (min (Int.toNat 1) (IntKind.bits .u64))))) + a2)) - a3))) wants_none rfl rfl rfl rfl ?_
      refine aa (iV (w64 ((w64 ((w64 (Int.fdiv (IntKind.wrap .u64 (w64 (a1 + a3))) (2 ^ (min (Int.toNat 1) (IntKind.bits .u64))))) + a2)) - a3))) rfl rfl ?_
      refine an ?_
      refine rg ?_
      refine am (iV (w64 (Int.fdiv (IntKind.wrap .u64 (w64 (a1 + a3))) (2 ^ (min (Int.toNat 1) (IntKind.bits .u64)))))) rfl rfl ?_
      refine aa (iV (w64 (Int.fdiv (IntKind.wrap .u64 (w64 (a1 + a3))) (2 ^ (min (Int.toNat 1) (IntKind.bits .u64)))))) rfl rfl ?_
      refine an ?_
      exact ⟨((w64 ((w64 ((w64 (Int.fdiv (IntKind.wrap .u64 (w64 (a1 + a3))) (2 ^ (min (Int.toNat 1) (IntKind.bits .u64))))) + a2)) - a3)), (w64 (Int.fdiv (IntKind.wrap .u64 (w64 (a1 + a3))) (2 ^ (min (Int.toNat 1) (IntKind.bits .u64)))))), h, (ghost_ren 1 (fun i => ([0] : List Nat).getD i 0) _ _ (by decide) (EnvSub.get (.cons (Sub.own rfl rfl) (.cons (Sub.imm (Imm.con _)) (.cons (Sub.imm (Imm.con _)) (.cons (Sub.imm (Imm.con _)) (.cons (Sub.imm (Imm.fn .nil .nil)) (.cons (Sub.imm (Imm.con _)) (.cons (Sub.imm (Imm.con _)) (.cons (Sub.imm (Imm.con _)) (.cons (Sub.imm (Imm.con _)) .nil)))))))))) (HpSub.get (.cons rfl (ObSub.rows (rows_imm imms_encTWindow)) .nil)) rfl)⟩
    replace h := ite_f hb181 h
    refine sr ?_
    refine am (iV a1) rfl rfl ?_
    refine aa (iV a1) rfl rfl ?_
    refine an ?_
    refine rg ?_
    refine am (iV a2) rfl rfl ?_
    refine aa (iV a2) rfl rfl ?_
    refine an ?_
    exact ⟨(a1, a2), h, (ghost_ren 1 (fun i => ([0] : List Nat).getD i 0) _ _ (by decide) (EnvSub.get (.cons (Sub.own rfl rfl) (.cons (Sub.imm (Imm.con _)) (.cons (Sub.imm (Imm.con _)) (.cons (Sub.imm (Imm.con _)) (.cons (Sub.imm (Imm.fn .nil .nil)) (.cons (Sub.imm (Imm.con _)) (.cons (Sub.imm (Imm.con _)) (.cons (Sub.imm (Imm.con _)) (.cons (Sub.imm (Imm.con _)) .nil)))))))))) (HpSub.get (.cons rfl (ObSub.rows (rows_imm imms_encTWindow)) .nil)) rfl)⟩
  clear h
  rintro ⟨n179, n180⟩ h
  subst hk178
  refine sr ?_
  refine am (iV (w64 ((w64 (Int.fdiv (IntKind.wrap .u64 (w64 (a1 + a3))) (2 ^ (min (Int.toNat 1) (IntKind.bits .u64))))) + a2))) rfl rfl ?_
  refine aops_bin (.int .i64 (w64 ((w64 ((w64 (Int.fdiv (IntKind.wrap .u64 (w64 (a1 + a3))) (2 ^ (min (Int.toNat 1) (IntKind.bits .u64))))) + a2)) - 1))) wants_none rfl rfl rfl rfl ?_
  refine aa (iV (w64 ((w64 ((w64 (Int.fdiv (IntKind.wrap .u64 (w64 (a1 + a3))) (2 ^ (min (Int.toNat 1) (IntKind.bits .u64))))) + a2)) - 1))) rfl rfl ?_
  refine an ?_
  refine sq ?_
  replace h := jn_elim h
  obtain ⟨k182, hk182, h⟩ := h
  refine awp_cut (fun (p : Int) => (⟨[(0, (V.own 0 a4.length)), (1, (iV a1)), (2, (iV a2)), (3, (iV a3)), (4, (V.fn (.func 134) [] [])), (18, (iV (w64 (Int.fdiv (IntKind.wrap .u64 (w64 (a1 + a3))) (2 ^ (min (Int.toNat 1) (IntKind.bits .u64))))))), (19, (iV (w64 ((w64 (Int.fdiv (IntKind.wrap .u64 (w64 (a1 + a3))) (2 ^ (min (Int.toNat 1) (IntKind.bits .u64))))) + a2)))), (20, (iV p))], [(0, (Ob.arr 35 6 (a4.map encTWindow)))], 1⟩ : St)) (fun (p : Int) => k182 p = some r) ?_ ?_
  · clear hk182
    refine awp_block ?_
    refine awp_loop_ind (fun (p : Int × Int) => (⟨[(0, (V.own 0 a4.length)), (1, (iV a1)), (2, (iV a2)), (3, (iV a3)), (4, (V.fn (.func 134) [] [])), (18, (iV (w64 (Int.fdiv (IntKind.wrap .u64 (w64 (a1 + a3))) (2 ^ (min (Int.toNat 1) (IntKind.bits .u64))))))), (19, (iV (w64 ((w64 (Int.fdiv (IntKind.wrap .u64 (w64 (a1 + a3))) (2 ^ (min (Int.toNat 1) (IntKind.bits .u64))))) + a2)))), (20, (iV (p.1))), (21, (iV (p.2))), (22, (iV (w64 ((w64 ((w64 (Int.fdiv (IntKind.wrap .u64 (w64 (a1 + a3))) (2 ^ (min (Int.toNat 1) (IntKind.bits .u64))))) + a2)) - 1))))], [(0, (Ob.arr 35 6 (a4.map encTWindow)))], 1⟩ : St)) (fun n (p : Int × Int) => M172_L5 F a1 a2 a3 a4 k182 n p.1 p.2 = some r) (fun p h => by simp [M172_L5] at h) (fun n ih5 p h => ?_) F (n179, n180) h (ghost_ren 1 (fun i => ([0] : List Nat).getD i 0) _ _ (by decide) (EnvSub.get (.cons (Sub.own rfl rfl) (.cons (Sub.imm (Imm.con _)) (.cons (Sub.imm (Imm.con _)) (.cons (Sub.imm (Imm.con _)) (.cons (Sub.imm (Imm.fn .nil .nil)) (.cons (Sub.imm (Imm.con _)) (.cons (Sub.imm (Imm.con _)) (.cons (Sub.imm (Imm.con _)) (.cons (Sub.imm (Imm.con _)) (.cons (Sub.imm (Imm.con _)) .nil))))))))))) (HpSub.get (.cons rfl (ObSub.rows (rows_imm imms_encTWindow)) .nil)) rfl)
    obtain ⟨n186, n187⟩ := p
    unfold M172_L5 at h
    refine awp_loop ?_
    refine sq ?_
    refine sr ?_
    refine am (iV n186) rfl rfl ?_
    refine am (iV n187) rfl rfl ?_
    refine aops_bin (.bool (decide (n186 < n187))) wants_none rfl rfl rfl rfl ?_
    refine an ?_
    refine awp_cond (decide (n186 < n187)) rfl (fun hb188 => ?_) (fun hb188 => ?_)
    · replace h := ite_t hb188 h
      refine awp_skip ?_
      refine awp_block ?_
      refine sr ?_
      refine am (iV n186) rfl rfl ?_
      refine am (iV n187) rfl rfl ?_
      refine aops_bin (.int .i64 (w64 (n186 + n187))) wants_none rfl rfl rfl rfl ?_
      refine aops_convInt tU150 ⟨_, tU3⟩ wants_none rfl rfl ?_
      refine aops_bin (.int .u64 (Int.fdiv (IntKind.wrap .u64 (w64 (n186 + n187))) (2 ^ (min (Int.toNat 1) (IntKind.bits .u64))))) wants_none rfl rfl rfl rfl ?_
      refine aops_convInt tU3 ⟨_, tU150⟩ wants_none rfl rfl ?_
      refine aa (iV (w64 (Int.fdiv (IntKind.wrap .u64 (w64 (n186 + n187))) (2 ^ (min (Int.toNat 1) (IntKind.bits .u64)))))) rfl rfl ?_
      refine an ?_
      refine sq ?_
      replace h := bind_some h
      obtain ⟨x189, hx190, h⟩ := h
      replace h := bind_some h
      obtain ⟨x191, hx192, h⟩ := h
      replace h := bind_some h
      obtain ⟨y193, hx194, h⟩ := h
      refine awp_any [OD.mk [(4, (V.fn (.func 134) [] []))] [] [(158, (V.fn (.func 134) [] []))] [],
            OD.mk [(0, (V.own 0 a4.length))] [] [(159, (V.own 0 a4.length))] [],
            OD.mk [(22, (iV (w64 ((w64 ((w64 (Int.fdiv (IntKind.wrap .u64 (w64 (a1 + a3))) (2 ^ (min (Int.toNat 1) (IntKind.bits .u64))))) + a2)) - 1))))] [] [(160, (iV (w64 ((w64 ((w64 (Int.fdiv (IntKind.wrap .u64 (w64 (a1 + a3))) (2 ^ (min (Int.toNat 1) (IntKind.bits .u64))))) + a2)) - 1))))] [],
            OD.mk [(23, (iV (w64 (Int.fdiv (IntKind.wrap .u64 (w64 (n186 + n187))) (2 ^ (min (Int.toNat 1) (IntKind.bits .u64)))))))] [] [(161, (iV (w64 (Int.fdiv (IntKind.wrap .u64 (w64 (n186 + n187))) (2 ^ (min (Int.toNat 1) (IntKind.bits .u64)))))))] [],
            OD.mk [(160, (iV (w64 ((w64 ((w64 (Int.fdiv (IntKind.wrap .u64 (w64 (a1 + a3))) (2 ^ (min (Int.toNat 1) (IntKind.bits .u64))))) + a2)) - 1)))), (161, (iV (w64 (Int.fdiv (IntKind.wrap .u64 (w64 (n186 + n187))) (2 ^ (min (Int.toNat 1) (IntKind.bits .u64)))))))] [] [(162, (iV (w64 ((w64 ((w64 ((w64 (Int.fdiv (IntKind.wrap .u64 (w64 (a1 + a3))) (2 ^ (min (Int.toNat 1) (IntKind.bits .u64))))) + a2)) - 1)) - (w64 (Int.fdiv (IntKind.wrap .u64 (w64 (n186 + n187))) (2 ^ (min (Int.toNat 1) (IntKind.bits .u64)))))))))] [],
            OD.mk [(159, (V.own 0 a4.length)), (162, (iV (w64 ((w64 ((w64 ((w64 (Int.fdiv (IntKind.wrap .u64 (w64 (a1 + a3))) (2 ^ (min (Int.toNat 1) (IntKind.bits .u64))))) + a2)) - 1)) - (w64 (Int.fdiv (IntKind.wrap .u64 (w64 (n186 + n187))) (2 ^ (min (Int.toNat 1) (IntKind.bits .u64)))))))))] [] [(163, (V.ptr 0 6 (w64 ((w64 ((w64 ((w64 (Int.fdiv (IntKind.wrap .u64 (w64 (a1 + a3))) (2 ^ (min (Int.toNat 1) (IntKind.bits .u64))))) + a2)) - 1)) - (w64 (Int.fdiv (IntKind.wrap .u64 (w64 (n186 + n187))) (2 ^ (min (Int.toNat 1) (IntKind.bits .u64))))))).toNat 0))] [],
            OD.mk [(163, (V.ptr 0 6 (w64 ((w64 ((w64 ((w64 (Int.fdiv (IntKind.wrap .u64 (w64 (a1 + a3))) (2 ^ (min (Int.toNat 1) (IntKind.bits .u64))))) + a2)) - 1)) - (w64 (Int.fdiv (IntKind.wrap .u64 (w64 (n186 + n187))) (2 ^ (min (Int.toNat 1) (IntKind.bits .u64))))))).toNat 0))] [(0, (Ob.arr 35 6 (a4.map encTWindow)))] [(164, (V.agg (encTWindow x189)))] [],
            OD.mk [(0, (V.own 0 a4.length))] [] [(165, (V.own 0 a4.length))] [],
            OD.mk [(23, (iV (w64 (Int.fdiv (IntKind.wrap .u64 (w64 (n186 + n187))) (2 ^ (min (Int.toNat 1) (IntKind.bits .u64)))))))] [] [(166, (iV (w64 (Int.fdiv (IntKind.wrap .u64 (w64 (n186 + n187))) (2 ^ (min (Int.toNat 1) (IntKind.bits .u64)))))))] [],
            OD.mk [(165, (V.own 0 a4.length)), (166, (iV (w64 (Int.fdiv (IntKind.wrap .u64 (w64 (n186 + n187))) (2 ^ (min (Int.toNat 1) (IntKind.bits .u64)))))))] [] [(167, (V.ptr 0 6 (w64 (Int.fdiv (IntKind.wrap .u64 (w64 (n186 + n187))) (2 ^ (min (Int.toNat 1) (IntKind.bits .u64))))).toNat 0))] [],
            OD.mk [(167, (V.ptr 0 6 (w64 (Int.fdiv (IntKind.wrap .u64 (w64 (n186 + n187))) (2 ^ (min (Int.toNat 1) (IntKind.bits .u64))))).toNat 0))] [(0, (Ob.arr 35 6 (a4.map encTWindow)))] [(168, (V.agg (encTWindow x191)))] [],
            OD.mk [(158, (V.fn (.func 134) [] [])), (164, (V.agg (encTWindow x189))), (168, (V.agg (encTWindow x191)))] [] [(169, (iV y193))] [],
            OD.mk [(169, (iV y193))] [] [(170, (bV (decide (y193 < 0))))] [],
            OD.mk [(170, (bV (decide (y193 < 0))))] [] [(171, (bV (!(decide (y193 < 0)))))] []] mixed ⟨⟨rfl, trivial⟩, trivial, ⟨⟨rfl, trivial⟩, trivial, ⟨⟨rfl, trivial⟩, trivial, ⟨⟨rfl, trivial⟩, trivial, ⟨⟨rfl, rfl, trivial⟩, trivial, ⟨⟨rfl, rfl, trivial⟩, trivial, ⟨⟨rfl, trivial⟩, ⟨rfl, trivial⟩, ⟨⟨rfl, trivial⟩, trivial, ⟨⟨rfl, trivial⟩, trivial, ⟨⟨rfl, rfl, trivial⟩, trivial, ⟨⟨rfl, trivial⟩, ⟨rfl, trivial⟩, ⟨⟨rfl, rfl, rfl, trivial⟩, trivial, ⟨⟨rfl, trivial⟩, trivial, ⟨⟨rfl, trivial⟩, trivial, trivial⟩⟩⟩⟩⟩⟩⟩⟩⟩⟩⟩⟩⟩⟩ (by kernel_rfl) (.cons (fun S hn h hh => aops_move (V.fn (.func 134) [] []) wants_none h.1 rfl (an ⟨rfl, rfl⟩)) (.cons (fun S hn h hh => aops_move (V.own 0 a4.length) wants_none h.1 rfl (an ⟨rfl, rfl⟩)) (.cons (fun S hn h hh => aops_move (iV (w64 ((w64 ((w64 (Int.fdiv (IntKind.wrap .u64 (w64 (a1 + a3))) (2 ^ (min (Int.toNat 1) (IntKind.bits .u64))))) + a2)) - 1))) wants_none h.1 rfl (an ⟨rfl, rfl⟩)) (.cons (fun S hn h hh => aops_move (iV (w64 (Int.fdiv (IntKind.wrap .u64 (w64 (n186 + n187))) (2 ^ (min (Int.toNat 1) (IntKind.bits .u64)))))) wants_none h.1 rfl (an ⟨rfl, rfl⟩)) (.cons (fun S hn h hh => aops_bin (.int .i64 (w64 ((w64 ((w64 ((w64 (Int.fdiv (IntKind.wrap .u64 (w64 (a1 + a3))) (2 ^ (min (Int.toNat 1) (IntKind.bits .u64))))) + a2)) - 1)) - (w64 (Int.fdiv (IntKind.wrap .u64 (w64 (n186 + n187))) (2 ^ (min (Int.toNat 1) (IntKind.bits .u64)))))))) wants_none h.1 h.2.1 rfl rfl (an ⟨rfl, rfl⟩)) (.cons (fun S hn h hh => aops_index_own tSl59 wants_none h.1 h.2.1 (idx_some hx190).1 (by simpa using idx_lt hx190) rfl (an ⟨rfl, rfl⟩)) (.cons (fun S hn h hh => aops_load_agg (cs := (encTWindow x189)) tA35 wants_none h.1 hh.1 (idx_map encTWindow hx190) rfl rfl rfl (an ⟨rfl, rfl⟩)) (.cons (fun S hn h hh => aops_move (V.own 0 a4.length) wants_none h.1 rfl (an ⟨rfl, rfl⟩)) (.cons (fun S hn h hh => aops_move (iV (w64 (Int.fdiv (IntKind.wrap .u64 (w64 (n186 + n187))) (2 ^ (min (Int.toNat 1) (IntKind.bits .u64)))))) wants_none h.1 rfl (an ⟨rfl, rfl⟩)) (.cons (fun S hn h hh => aops_index_own tSl59 wants_none h.1 h.2.1 (idx_some hx192).1 (by simpa using idx_lt hx192) rfl (an ⟨rfl, rfl⟩)) (.cons (fun S hn h hh => aops_load_agg (cs := (encTWindow x191)) tA35 wants_none h.1 hh.1 (idx_map encTWindow hx192) rfl rfl rfl (an ⟨rfl, rfl⟩)) (.cons (fun S hn h hh => aops_callv (iV y193) [(V.agg (encTWindow x189)), (V.agg (encTWindow x191))] fOk134 wants_none h.1 (evmc (S := S) (first := []) (captured := []) (vs := [(V.agg (encTWindow x189)), (V.agg (encTWindow x191))]) (evm_cons h.2.1 (evm_cons h.2.2.1 evm_nil))) (.cons (Imm.agg (imms_encTWindow _)) (.cons (Imm.agg (imms_encTWindow _)) .nil)) (W134 F x189 x191 y193 hx194) rfl (an ⟨rfl, rfl⟩)) (.cons (fun S hn h hh => aops_bin (.bool (decide (y193 < 0))) wants_none h.1 rfl rfl rfl (an ⟨rfl, rfl⟩)) (.cons (fun S hn h hh => aops_not wants_none h.1 rfl (an ⟨rfl, rfl⟩)) .nil)))))))))))))) ?_
      replace h := jn_elim h
      obtain ⟨k195, hk195, h⟩ := h
      refine awp_cut (fun (p : Int × Int) => (⟨[(0, (V.own 0 a4.length)), (1, (iV a1)), (2, (iV a2)), (3, (iV a3)), (4, (V.fn (.func 134) [] [])), (18, (iV (w64 (Int.fdiv (IntKind.wrap .u64 (w64 (a1 + a3))) (2 ^ (min (Int.toNat 1) (IntKind.bits .u64))))))), (19, (iV (w64 ((w64 (Int.fdiv (IntKind.wrap .u64 (w64 (a1 + a3))) (2 ^ (min (Int.toNat 1) (IntKind.bits .u64))))) + a2)))), (20, (iV (p.1))), (21, (iV (p.2))), (22, (iV (w64 ((w64 ((w64 (Int.fdiv (IntKind.wrap .u64 (w64 (a1 + a3))) (2 ^ (min (Int.toNat 1) (IntKind.bits .u64))))) + a2)) - 1))))], [(0, (Ob.arr 35 6 (a4.map encTWindow)))], 1⟩ : St)) (fun (p : Int × Int) => k195 p.1 p.2 = some r) ?_ ?_
      · clear hk195
        refine awp_cond (!(decide (y193 < 0))) rfl (fun hb198 => ?_) (fun hb198 => ?_)
        · replace h := ite_t hb198 h
          refine rg ?_
          refine am (iV (w64 (Int.fdiv (IntKind.wrap .u64 (w64 (n186 + n187))) (2 ^ (min (Int.toNat 1) (IntKind.bits .u64)))))) rfl rfl ?_
          refine aops_bin (.int .i64 (w64 ((w64 (Int.fdiv (IntKind.wrap .u64 (w64 (n186 + n187))) (2 ^ (min (Int.toNat 1) (IntKind.bits .u64))))) + 1))) wants_none rfl rfl rfl rfl ?_
          refine aa (iV (w64 ((w64 (Int.fdiv (IntKind.wrap .u64 (w64 (n186 + n187))) (2 ^ (min (Int.toNat 1) (IntKind.bits .u64))))) + 1))) rfl rfl ?_
          refine an ?_
          exact ⟨((w64 ((w64 (Int.fdiv (IntKind.wrap .u64 (w64 (n186 + n187))) (2 ^ (min (Int.toNat 1) (IntKind.bits .u64))))) + 1)), n187), h, (ghost_ren 1 (fun i => ([0] : List Nat).getD i 0) _ _ (by decide) (EnvSub.get (.cons (Sub.own rfl rfl) (.cons (Sub.imm (Imm.con _)) (.cons (Sub.imm (Imm.con _)) (.cons (Sub.imm (Imm.con _)) (.cons (Sub.imm (Imm.fn .nil .nil)) (.cons (Sub.imm (Imm.con _)) (.cons (Sub.imm (Imm.con _)) (.cons (Sub.imm (Imm.con _)) (.cons (Sub.imm (Imm.con _)) (.cons (Sub.imm (Imm.con _)) .nil))))))))))) (HpSub.get (.cons rfl (ObSub.rows (rows_imm imms_encTWindow)) .nil)) rfl)⟩
        replace h := ite_f hb198 h
        refine rg ?_
        refine am (iV (w64 (Int.fdiv (IntKind.wrap .u64 (w64 (n186 + n187))) (2 ^ (min (Int.toNat 1) (IntKind.bits .u64)))))) rfl rfl ?_
        refine aa (iV (w64 (Int.fdiv (IntKind.wrap .u64 (w64 (n186 + n187))) (2 ^ (min (Int.toNat 1) (IntKind.bits .u64)))))) rfl rfl ?_
        refine an ?_
        exact ⟨(n186, (w64 (Int.fdiv (IntKind.wrap .u64 (w64 (n186 + n187))) (2 ^ (min (Int.toNat 1) (IntKind.bits .u64)))))), h, (ghost_ren 1 (fun i => ([0] : List Nat).getD i 0) _ _ (by decide) (EnvSub.get (.cons (Sub.own rfl rfl) (.cons (Sub.imm (Imm.con _)) (.cons (Sub.imm (Imm.con _)) (.cons (Sub.imm (Imm.con _)) (.cons (Sub.imm (Imm.fn .nil .nil)) (.cons (Sub.imm (Imm.con _)) (.cons (Sub.imm (Imm.con _)) (.cons (Sub.imm (Imm.con _)) (.cons (Sub.imm (Imm.con _)) (.cons (Sub.imm (Imm.con _)) .nil))))))))))) (HpSub.get (.cons rfl (ObSub.rows (rows_imm imms_encTWindow)) .nil)) rfl)⟩
      clear h
      rintro ⟨n196, n197⟩ h
      subst hk195
      exact awp_back (ih5 (n196, n197) h) (ghost_ren 1 (fun i => ([0] : List Nat).getD i 0) _ _ (by decide) (EnvSub.get (.cons (Sub.own rfl rfl) (.cons (Sub.imm (Imm.con _)) (.cons (Sub.imm (Imm.con _)) (.cons (Sub.imm (Imm.con _)) (.cons (Sub.imm (Imm.fn .nil .nil)) (.cons (Sub.imm (Imm.con _)) (.cons (Sub.imm (Imm.con _)) (.cons (Sub.imm (Imm.con _)) (.cons (Sub.imm (Imm.con _)) (.cons (Sub.imm (Imm.con _)) .nil))))))))))) (HpSub.get (.cons rfl (ObSub.rows (rows_imm imms_encTWindow)) .nil)) rfl)
    replace h := ite_f hb188 h
    refine awp_exit ?_
    exact ⟨n186, h, (ghost_ren 1 (fun i => ([0] : List Nat).getD i 0) _ _ (by decide) (EnvSub.get (.cons (Sub.own rfl rfl) (.cons (Sub.imm (Imm.con _)) (.cons (Sub.imm (Imm.con _)) (.cons (Sub.imm (Imm.con _)) (.cons (Sub.imm (Imm.fn .nil .nil)) (.cons (Sub.imm (Imm.con _)) (.cons (Sub.imm (Imm.con _)) (.cons (Sub.imm (Imm.con _)) .nil))))))))) (HpSub.get (.cons rfl (ObSub.rows (rows_imm imms_encTWindow)) .nil)) rfl)⟩
  clear h
  intro n183 h
  subst hk182
  refine sr ?_
  refine am (iV (w64 ((w64 (Int.fdiv (IntKind.wrap .u64 (w64 (a1 + a3))) (2 ^ (min (Int.toNat 1) (IntKind.bits .u64))))) + a2))) rfl rfl ?_
  refine am (iV n183) rfl rfl ?_
  refine aops_bin (.int .i64 (w64 ((w64 ((w64 (Int.fdiv (IntKind.wrap .u64 (w64 (a1 + a3))) (2 ^ (min (Int.toNat 1) (IntKind.bits .u64))))) + a2)) - n183))) wants_none rfl rfl rfl rfl ?_
  refine aa (iV (w64 ((w64 ((w64 (Int.fdiv (IntKind.wrap .u64 (w64 (a1 + a3))) (2 ^ (min (Int.toNat 1) (IntKind.bits .u64))))) + a2)) - n183))) rfl rfl ?_
  refine an ?_
  refine sq ?_
  refine sr ?_
  refine am (iV n183) rfl rfl ?_
  refine am (iV a2) rfl rfl ?_
  refine aops_bin (.bool (decide (n183 < a2))) wants_none rfl rfl rfl rfl ?_
  refine am (bV (decide (n183 < a2))) rfl rfl ?_
  rcases Bool.eq_false_or_eq_true (decide (n183 < a2)) with hb199 | hb199
  · replace h := ite_t hb199 h
    refine aops_move (iV a2) (wants_some (c := (decide (n183 < a2))) (b := true) 181 rfl rfl hb199) rfl rfl ?_
    refine aops_move (iV (w64 ((w64 ((w64 (Int.fdiv (IntKind.wrap .u64 (w64 (a1 + a3))) (2 ^ (min (Int.toNat 1) (IntKind.bits .u64))))) + a2)) - n183))) (wants_some (c := (decide (n183 < a2))) (b := true) 181 rfl rfl hb199) rfl rfl ?_
    refine aops_bin (.bool (decide (a2 < (w64 ((w64 ((w64 (Int.fdiv (IntKind.wrap .u64 (w64 (a1 + a3))) (2 ^ (min (Int.toNat 1) (IntKind.bits .u64))))) + a2)) - n183))))) (wants_some (c := (decide (n183 < a2))) (b := true) 181 rfl rfl hb199) rfl rfl rfl rfl ?_
    refine aops_pick true (cb := (decide (n183 < a2))) (bV (decide (a2 < (w64 ((w64 ((w64 (Int.fdiv (IntKind.wrap .u64 (w64 (a1 + a3))) (2 ^ (min (Int.toNat 1) (IntKind.bits .u64))))) + a2)) - n183))))) wants_none rfl hb199 rfl rfl ?_
    refine an ?_
    replace h := jn_elim h
    obtain ⟨k200, hk200, h⟩ := h
    refine awp_cut (fun (p : (List TWindow)) => (⟨[(0, (V.own 0 p.length)), (1, (iV a1)), (3, (iV a3)), (4, (V.fn (.func 134) [] [])), (18, (iV (w64 (Int.fdiv (IntKind.wrap .u64 (w64 (a1 + a3))) (2 ^ (min (Int.toNat 1) (IntKind.bits .u64))))))), (20, (iV n183)), (24, (iV (w64 ((w64 ((w64 (Int.fdiv (IntKind.wrap .u64 (w64 (a1 + a3))) (2 ^ (min (Int.toNat 1) (IntKind.bits .u64))))) + a2)) - n183))))], [(0, (Ob.arr 35 6 (p.map encTWindow)))], 1⟩ : St)) (fun (p : (List TWindow)) => k200 p = some r) ?_ ?_
    · clear hk200
      refine awp_cond (decide (a2 < (w64 ((w64 ((w64 (Int.fdiv (IntKind.wrap .u64 (w64 (a1 + a3))) (2 ^ (min (Int.toNat 1) (IntKind.bits .u64))))) + a2)) - n183)))) rfl (fun hb202 => ?_) (fun hb202 => ?_)
      · replace h := ite_t hb202 h
        refine rg ?_
        refine am (V.own 0 a4.length) rfl rfl ?_
        refine am (iV n183) rfl rfl ?_
        refine am (iV a2) rfl rfl ?_
        refine am (iV (w64 ((w64 ((w64 (Int.fdiv (IntKind.wrap .u64 (w64 (a1 + a3))) (2 ^ (min (Int.toNat 1) (IntKind.bits .u64))))) + a2)) - n183))) rfl rfl ?_
        refine am (V.fn (.func 134) [] []) rfl rfl ?_
        replace h := bind_some h
        obtain ⟨y203, hx204, h⟩ := h
        replace h := chk_some h
        obtain ⟨hc205, h⟩ := h
        refine aops_mcall (V.tup []) [(V.own 0 a4.length), (iV n183), (iV a2), (iV (w64 ((w64 ((w64 (Int.fdiv (IntKind.wrap .u64 (w64 (a1 + a3))) (2 ^ (min (Int.toNat 1) (IntKind.bits .u64))))) + a2)) - n183))), (V.fn (.func 134) [] [])] (fun i => ([0] : List Nat).getD i 0) (fun i => ([0] : List Nat).getD i 0) 1 1 [(0, (Ob.arr 35 6 (y203.map encTWindow)))] fOk181 wants_none rfl (evm_cons rfl (evm_cons rfl (evm_cons rfl (evm_cons rfl (evm_cons rfl evm_nil))))) (.cons (Sub.own rfl rfl) (.cons (Sub.imm (Imm.con _)) (.cons (Sub.imm (Imm.con _)) (.cons (Sub.imm (Imm.con _)) (.cons (Sub.imm (Imm.fn .nil .nil)) .nil))))) (.cons rfl (ObSub.rows (rows_imm imms_encTWindow)) .nil) (W181 F n183 a2 (w64 ((w64 ((w64 (Int.fdiv (IntKind.wrap .u64 (w64 (a1 + a3))) (2 ^ (min (Int.toNat 1) (IntKind.bits .u64))))) + a2)) - n183)) a4 y203 hx204) rfl rfl rfl rfl rfl (Sub.immT (Imm.tup .nil)) (.cons rfl (ObSub.rowsT (rows_imm imms_encTWindow)) .nil) ?_
        refine aops_ghost (ghost_tell 0 (V.own 0 y203.length) rfl (Sub.ownI hc205)) ?_
        refine aops_ghost (ghost_tell 186 (V.own 0 y203.length) rfl (Sub.ownI hc205)) ?_
        refine an ?_
        exact ⟨y203, h, (ghost_ren 1 (fun i => ([0] : List Nat).getD i 0) _ _ (by decide) (EnvSub.get (.cons (Sub.own rfl rfl) (.cons (Sub.imm (Imm.con _)) (.cons (Sub.imm (Imm.con _)) (.cons (Sub.imm (Imm.fn .nil .nil)) (.cons (Sub.imm (Imm.con _)) (.cons (Sub.imm (Imm.con _)) (.cons (Sub.imm (Imm.con _)) .nil)))))))) (HpSub.get (.cons rfl (ObSub.rows (rows_imm imms_encTWindow)) .nil)) rfl)⟩
      replace h := ite_f hb202 h
      refine awp_skip ?_
      exact ⟨a4, h, (ghost_ren 1 (fun i => ([0] : List Nat).getD i 0) _ _ (by decide) (EnvSub.get (.cons (Sub.own rfl rfl) (.cons (Sub.imm (Imm.con _)) (.cons (Sub.imm (Imm.con _)) (.cons (Sub.imm (Imm.fn .nil .nil)) (.cons (Sub.imm (Imm.con _)) (.cons (Sub.imm (Imm.con _)) (.cons (Sub.imm (Imm.con _)) .nil)))))))) (HpSub.get (.cons rfl (ObSub.rows (rows_imm imms_encTWindow)) .nil)) rfl)⟩
    clear h
    intro l201 h
    subst hk200
    refine sq ?_
    refine sr ?_
    refine am (iV a1) rfl rfl ?_
    refine am (iV n183) rfl rfl ?_
    refine aops_bin (.bool (decide (a1 < n183))) wants_none rfl rfl rfl rfl ?_
    refine am (bV (decide (a1 < n183))) rfl rfl ?_
    rcases Bool.eq_false_or_eq_true (decide (a1 < n183)) with hb206 | hb206
    · replace h := ite_t hb206 h
      refine aops_move (iV n183) (wants_some (c := (decide (a1 < n183))) (b := true) 195 rfl rfl hb206) rfl rfl ?_
      refine aops_move (iV (w64 (Int.fdiv (IntKind.wrap .u64 (w64 (a1 + a3))) (2 ^ (min (Int.toNat 1) (IntKind.bits .u64)))))) (wants_some (c := (decide (a1 < n183))) (b := true) 195 rfl rfl hb206) rfl rfl ?_
      refine aops_bin (.bool (decide (n183 < (w64 (Int.fdiv (IntKind.wrap .u64 (w64 (a1 + a3))) (2 ^ (min (Int.toNat 1) (IntKind.bits .u64)))))))) (wants_some (c := (decide (a1 < n183))) (b := true) 195 rfl rfl hb206) rfl rfl rfl rfl ?_
      refine aops_pick true (cb := (decide (a1 < n183))) (bV (decide (n183 < (w64 (Int.fdiv (IntKind.wrap .u64 (w64 (a1 + a3))) (2 ^ (min (Int.toNat 1) (IntKind.bits .u64)))))))) wants_none rfl hb206 rfl rfl ?_
      refine an ?_
      replace h := jn_elim h
      obtain ⟨k207, hk207, h⟩ := h
      refine awp_cut (fun (p : (List TWindow)) => (⟨[(0, (V.own 0 p.length)), (3, (iV a3)), (4, (V.fn (.func 134) [] [])), (18, (iV (w64 (Int.fdiv (IntKind.wrap .u64 (w64 (a1 + a3))) (2 ^ (min (Int.toNat 1) (IntKind.bits .u64))))))), (24, (iV (w64 ((w64 ((w64 (Int.fdiv (IntKind.wrap .u64 (w64 (a1 + a3))) (2 ^ (min (Int.toNat 1) (IntKind.bits .u64))))) + a2)) - n183))))], [(0, (Ob.arr 35 6 (p.map encTWindow)))], 1⟩ : St)) (fun (p : (List TWindow)) => k207 p = some r) ?_ ?_
      · clear hk207
        refine awp_cond (decide (n183 < (w64 (Int.fdiv (IntKind.wrap .u64 (w64 (a1 + a3))) (2 ^ (min (Int.toNat 1) (IntKind.bits .u64))))))) rfl (fun hb209 => ?_) (fun hb209 => ?_)
        · replace h := ite_t hb209 h
          refine rg ?_
          refine am (V.own 0 l201.length) rfl rfl ?_
          refine am (iV a1) rfl rfl ?_
          refine am (iV n183) rfl rfl ?_
          refine am (iV (w64 (Int.fdiv (IntKind.wrap .u64 (w64 (a1 + a3))) (2 ^ (min (Int.toNat 1) (IntKind.bits .u64)))))) rfl rfl ?_
          refine am (V.fn (.func 134) [] []) rfl rfl ?_
          replace h := bind_some h
          obtain ⟨y210, hx211, h⟩ := h
          replace h := chk_some h
          obtain ⟨hc212, h⟩ := h
          refine aops_mcall (V.tup []) [(V.own 0 l201.length), (iV a1), (iV n183), (iV (w64 (Int.fdiv (IntKind.wrap .u64 (w64 (a1 + a3))) (2 ^ (min (Int.toNat 1) (IntKind.bits .u64)))))), (V.fn (.func 134) [] [])] (fun i => ([0] : List Nat).getD i 0) (fun i => ([0] : List Nat).getD i 0) 1 1 [(0, (Ob.arr 35 6 (y210.map encTWindow)))] fOk172 wants_none rfl (evm_cons rfl (evm_cons rfl (evm_cons rfl (evm_cons rfl (evm_cons rfl evm_nil))))) (.cons (Sub.own rfl rfl) (.cons (Sub.imm (Imm.con _)) (.cons (Sub.imm (Imm.con _)) (.cons (Sub.imm (Imm.con _)) (.cons (Sub.imm (Imm.fn .nil .nil)) .nil))))) (.cons rfl (ObSub.rows (rows_imm imms_encTWindow)) .nil) (hR172 a1 n183 (w64 (Int.fdiv (IntKind.wrap .u64 (w64 (a1 + a3))) (2 ^ (min (Int.toNat 1) (IntKind.bits .u64))))) l201 _ hx211) rfl rfl rfl rfl rfl (Sub.immT (Imm.tup .nil)) (.cons rfl (ObSub.rowsT (rows_imm imms_encTWindow)) .nil) ?_
          refine aops_ghost (ghost_tell 0 (V.own 0 y210.length) rfl (Sub.ownI hc212)) ?_
          refine aops_ghost (ghost_tell 200 (V.own 0 y210.length) rfl (Sub.ownI hc212)) ?_
          refine an ?_
          exact ⟨y210, h, (ghost_ren 1 (fun i => ([0] : List Nat).getD i 0) _ _ (by decide) (EnvSub.get (.cons (Sub.own rfl rfl) (.cons (Sub.imm (Imm.con _)) (.cons (Sub.imm (Imm.fn .nil .nil)) (.cons (Sub.imm (Imm.con _)) (.cons (Sub.imm (Imm.con _)) .nil)))))) (HpSub.get (.cons rfl (ObSub.rows (rows_imm imms_encTWindow)) .nil)) rfl)⟩
        replace h := ite_f hb209 h
        refine awp_skip ?_
        exact ⟨l201, h, (ghost_ren 1 (fun i => ([0] : List Nat).getD i 0) _ _ (by decide) (EnvSub.get (.cons (Sub.own rfl rfl) (.cons (Sub.imm (Imm.con _)) (.cons (Sub.imm (Imm.fn .nil .nil)) (.cons (Sub.imm (Imm.con _)) (.cons (Sub.imm (Imm.con _)) .nil)))))) (HpSub.get (.cons rfl (ObSub.rows (rows_imm imms_encTWindow)) .nil)) rfl)⟩
      clear h
      intro l208 h
      subst hk207
      refine sr ?_
      refine am (iV (w64 (Int.fdiv (IntKind.wrap .u64 (w64 (a1 + a3))) (2 ^ (min (Int.toNat 1) (IntKind.bits .u64)))))) rfl rfl ?_
      refine am (iV (w64 ((w64 ((w64 (Int.fdiv (IntKind.wrap .u64 (w64 (a1 + a3))) (2 ^ (min (Int.toNat 1) (IntKind.bits .u64))))) + a2)) - n183))) rfl rfl ?_
      refine aops_bin (.bool (decide ((w64 (Int.fdiv (IntKind.wrap .u64 (w64 (a1 + a3))) (2 ^ (min (Int.toNat 1) (IntKind.bits .u64))))) < (w64 ((w64 ((w64 (Int.fdiv (IntKind.wrap .u64 (w64 (a1 + a3))) (2 ^ (min (Int.toNat 1) (IntKind.bits .u64))))) + a2)) - n183))))) wants_none rfl rfl rfl rfl ?_
      refine am (bV (decide ((w64 (Int.fdiv (IntKind.wrap .u64 (w64 (a1 + a3))) (2 ^ (min (Int.toNat 1) (IntKind.bits .u64))))) < (w64 ((w64 ((w64 (Int.fdiv (IntKind.wrap .u64 (w64 (a1 + a3))) (2 ^ (min (Int.toNat 1) (IntKind.bits .u64))))) + a2)) - n183))))) rfl rfl ?_
      rcases Bool.eq_false_or_eq_true (decide ((w64 (Int.fdiv (IntKind.wrap .u64 (w64 (a1 + a3))) (2 ^ (min (Int.toNat 1) (IntKind.bits .u64))))) < (w64 ((w64 ((w64 (Int.fdiv (IntKind.wrap .u64 (w64 (a1 + a3))) (2 ^ (min (Int.toNat 1) (IntKind.bits .u64))))) + a2)) - n183)))) with hb213 | hb213
      · replace h := ite_t hb213 h
        refine aops_move (iV (w64 ((w64 ((w64 (Int.fdiv (IntKind.wrap .u64 (w64 (a1 + a3))) (2 ^ (min (Int.toNat 1) (IntKind.bits .u64))))) + a2)) - n183))) (wants_some (c := (decide ((w64 (Int.fdiv (IntKind.wrap .u64 (w64 (a1 + a3))) (2 ^ (min (Int.toNat 1) (IntKind.bits .u64))))) < (w64 ((w64 ((w64 (Int.fdiv (IntKind.wrap .u64 (w64 (a1 + a3))) (2 ^ (min (Int.toNat 1) (IntKind.bits .u64))))) + a2)) - n183))))) (b := true) 209 rfl rfl hb213) rfl rfl ?_
        refine aops_move (iV a3) (wants_some (c := (decide ((w64 (Int.fdiv (IntKind.wrap .u64 (w64 (a1 + a3))) (2 ^ (min (Int.toNat 1) (IntKind.bits .u64))))) < (w64 ((w64 ((w64 (Int.fdiv (IntKind.wrap .u64 (w64 (a1 + a3))) (2 ^ (min (Int.toNat 1) (IntKind.bits .u64))))) + a2)) - n183))))) (b := true) 209 rfl rfl hb213) rfl rfl ?_
        refine aops_bin (.bool (decide ((w64 ((w64 ((w64 (Int.fdiv (IntKind.wrap .u64 (w64 (a1 + a3))) (2 ^ (min (Int.toNat 1) (IntKind.bits .u64))))) + a2)) - n183)) < a3))) (wants_some (c := (decide ((w64 (Int.fdiv (IntKind.wrap .u64 (w64 (a1 + a3))) (2 ^ (min (Int.toNat 1) (IntKind.bits .u64))))) < (w64 ((w64 ((w64 (Int.fdiv (IntKind.wrap .u64 (w64 (a1 + a3))) (2 ^ (min (Int.toNat 1) (IntKind.bits .u64))))) + a2)) - n183))))) (b := true) 209 rfl rfl hb213) rfl rfl rfl rfl ?_
        refine aops_pick true (cb := (decide ((w64 (Int.fdiv (IntKind.wrap .u64 (w64 (a1 + a3))) (2 ^ (min (Int.toNat 1) (IntKind.bits .u64))))) < (w64 ((w64 ((w64 (Int.fdiv (IntKind.wrap .u64 (w64 (a1 + a3))) (2 ^ (min (Int.toNat 1) (IntKind.bits .u64))))) + a2)) - n183))))) (bV (decide ((w64 ((w64 ((w64 (Int.fdiv (IntKind.wrap .u64 (w64 (a1 + a3))) (2 ^ (min (Int.toNat 1) (IntKind.bits .u64))))) + a2)) - n183)) < a3))) wants_none rfl hb213 rfl rfl ?_
        refine an ?_
        refine awp_cond (decide ((w64 ((w64 ((w64 (Int.fdiv (IntKind.wrap .u64 (w64 (a1 + a3))) (2 ^ (min (Int.toNat 1) (IntKind.bits .u64))))) + a2)) - n183)) < a3)) rfl (fun hb214 => ?_) (fun hb214 => ?_)
        · replace h := ite_t hb214 h
          refine rg ?_
          refine am (V.own 0 l208.length) rfl rfl ?_
          refine am (iV (w64 (Int.fdiv (IntKind.wrap .u64 (w64 (a1 + a3))) (2 ^ (min (Int.toNat 1) (IntKind.bits .u64)))))) rfl rfl ?_
          refine am (iV (w64 ((w64 ((w64 (Int.fdiv (IntKind.wrap .u64 (w64 (a1 + a3))) (2 ^ (min (Int.toNat 1) (IntKind.bits .u64))))) + a2)) - n183))) rfl rfl ?_
          refine am (iV a3) rfl rfl ?_
          refine am (V.fn (.func 134) [] []) rfl rfl ?_
          replace h := bind_some h
          obtain ⟨y215, hx216, h⟩ := h
          replace h := chk_some h
          obtain ⟨hc217, h⟩ := h
          refine aops_mcall (V.tup []) [(V.own 0 l208.length), (iV (w64 (Int.fdiv (IntKind.wrap .u64 (w64 (a1 + a3))) (2 ^ (min (Int.toNat 1) (IntKind.bits .u64)))))), (iV (w64 ((w64 ((w64 (Int.fdiv (IntKind.wrap .u64 (w64 (a1 + a3))) (2 ^ (min (Int.toNat 1) (IntKind.bits .u64))))) + a2)) - n183))), (iV a3), (V.fn (.func 134) [] [])] (fun i => ([0] : List Nat).getD i 0) (fun i => ([0] : List Nat).getD i 0) 1 1 [(0, (Ob.arr 35 6 (y215.map encTWindow)))] fOk172 wants_none rfl (evm_cons rfl (evm_cons rfl (evm_cons rfl (evm_cons rfl (evm_cons rfl evm_nil))))) (.cons (Sub.own rfl rfl) (.cons (Sub.imm (Imm.con _)) (.cons (Sub.imm (Imm.con _)) (.cons (Sub.imm (Imm.con _)) (.cons (Sub.imm (Imm.fn .nil .nil)) .nil))))) (.cons rfl (ObSub.rows (rows_imm imms_encTWindow)) .nil) (hR172 (w64 (Int.fdiv (IntKind.wrap .u64 (w64 (a1 + a3))) (2 ^ (min (Int.toNat 1) (IntKind.bits .u64))))) (w64 ((w64 ((w64 (Int.fdiv (IntKind.wrap .u64 (w64 (a1 + a3))) (2 ^ (min (Int.toNat 1) (IntKind.bits .u64))))) + a2)) - n183)) a3 l208 _ hx216) rfl rfl rfl rfl rfl (Sub.immT (Imm.tup .nil)) (.cons rfl (ObSub.rowsT (rows_imm imms_encTWindow)) .nil) ?_
          refine aops_ghost (ghost_tell 0 (V.own 0 y215.length) rfl (Sub.ownI hc217)) ?_
          refine aops_ghost (ghost_tell 214 (V.own 0 y215.length) rfl (Sub.ownI hc217)) ?_
          refine an ?_
          obtain rfl := Option.some.inj h
          exact ⟨.inr rfl, [], (ghost_ren 1 (fun i => ([0] : List Nat).getD i 0) _ _ (by decide) (EnvSub.get .nil) (HpSub.get (.cons rfl (ObSub.rows (rows_imm imms_encTWindow)) .nil)) rfl), .nil⟩
        replace h := ite_f hb214 h
        refine awp_skip ?_
        obtain rfl := Option.some.inj h
        exact ⟨.inr rfl, [], (ghost_ren 1 (fun i => ([0] : List Nat).getD i 0) _ _ (by decide) (EnvSub.get .nil) (HpSub.get (.cons rfl (ObSub.rows (rows_imm imms_encTWindow)) .nil)) rfl), .nil⟩
      replace h := ite_f hb213 h
      refine aops_skips 3 3 209 true (c := (decide ((w64 (Int.fdiv (IntKind.wrap .u64 (w64 (a1 + a3))) (2 ^ (min (Int.toNat 1) (IntKind.bits .u64))))) < (w64 ((w64 ((w64 (Int.fdiv (IntKind.wrap .u64 (w64 (a1 + a3))) (2 ^ (min (Int.toNat 1) (IntKind.bits .u64))))) + a2)) - n183))))) (b := false) rfl rfl hb213 rfl rfl ?_
      refine aops_pick false (cb := (decide ((w64 (Int.fdiv (IntKind.wrap .u64 (w64 (a1 + a3))) (2 ^ (min (Int.toNat 1) (IntKind.bits .u64))))) < (w64 ((w64 ((w64 (Int.fdiv (IntKind.wrap .u64 (w64 (a1 + a3))) (2 ^ (min (Int.toNat 1) (IntKind.bits .u64))))) + a2)) - n183))))) (bV false) wants_none rfl hb213 rfl rfl ?_
      refine an ?_
      refine awp_cond_f rfl rfl ?_
      refine awp_skip ?_
      obtain rfl := Option.some.inj h
      exact ⟨.inr rfl, [], (ghost_ren 1 (fun i => ([0] : List Nat).getD i 0) _ _ (by decide) (EnvSub.get .nil) (HpSub.get (.cons rfl (ObSub.rows (rows_imm imms_encTWindow)) .nil)) rfl), .nil⟩
    replace h := ite_f hb206 h
    refine aops_skips 3 3 195 true (c := (decide (a1 < n183))) (b := false) rfl rfl hb206 rfl rfl ?_
    refine aops_pick false (cb := (decide (a1 < n183))) (bV false) wants_none rfl hb206 rfl rfl ?_
    refine an ?_
    refine awp_cond_f rfl rfl ?_
    refine awp_skip ?_
    refine sr ?_
    refine am (iV (w64 (Int.fdiv (IntKind.wrap .u64 (w64 (a1 + a3))) (2 ^ (min (Int.toNat 1) (IntKind.bits .u64)))))) rfl rfl ?_
    refine am (iV (w64 ((w64 ((w64 (Int.fdiv (IntKind.wrap .u64 (w64 (a1 + a3))) (2 ^ (min (Int.toNat 1) (IntKind.bits .u64))))) + a2)) - n183))) rfl rfl ?_
    refine aops_bin (.bool (decide ((w64 (Int.fdiv (IntKind.wrap .u64 (w64 (a1 + a3))) (2 ^ (min (Int.toNat 1) (IntKind.bits .u64))))) < (w64 ((w64 ((w64 (Int.fdiv (IntKind.wrap .u64 (w64 (a1 + a3))) (2 ^ (min (Int.toNat 1) (IntKind.bits .u64))))) + a2)) - n183))))) wants_none rfl rfl rfl rfl ?_
    refine am (bV (decide ((w64 (Int.fdiv (IntKind.wrap .u64 (w64 (a1 + a3))) (2 ^ (min (Int.toNat 1) (IntKind.bits .u64))))) < (w64 ((w64 ((w64 (Int.fdiv (IntKind.wrap .u64 (w64 (a1 + a3))) (2 ^ (min (Int.toNat 1) (IntKind.bits .u64))))) + a2)) - n183))))) rfl rfl ?_
    rcases Bool.eq_false_or_eq_true (decide ((w64 (Int.fdiv (IntKind.wrap .u64 (w64 (a1 + a3))) (2 ^ (min (Int.toNat 1) (IntKind.bits .u64))))) < (w64 ((w64 ((w64 (Int.fdiv (IntKind.wrap .u64 (w64 (a1 + a3))) (2 ^ (min (Int.toNat 1) (IntKind.bits .u64))))) + a2)) - n183)))) with hb218 | hb218
    · replace h := ite_t hb218 h
      refine aops_move (iV (w64 ((w64 ((w64 (Int.fdiv (IntKind.wrap .u64 (w64 (a1 + a3))) (2 ^ (min (Int.toNat 1) (IntKind.bits .u64))))) + a2)) - n183))) (wants_some (c := (decide ((w64 (Int.fdiv (IntKind.wrap .u64 (w64 (a1 + a3))) (2 ^ (min (Int.toNat 1) (IntKind.bits .u64))))) < (w64 ((w64 ((w64 (Int.fdiv (IntKind.wrap .u64 (w64 (a1 + a3))) (2 ^ (min (Int.toNat 1) (IntKind.bits .u64))))) + a2)) - n183))))) (b := true) 209 rfl rfl hb218) rfl rfl ?_
      refine aops_move (iV a3) (wants_some (c := (decide ((w64 (Int.fdiv (IntKind.wrap .u64 (w64 (a1 + a3))) (2 ^ (min (Int.toNat 1) (IntKind.bits .u64))))) < (w64 ((w64 ((w64 (Int.fdiv (IntKind.wrap .u64 (w64 (a1 + a3))) (2 ^ (min (Int.toNat 1) (IntKind.bits .u64))))) + a2)) - n183))))) (b := true) 209 rfl rfl hb218) rfl rfl ?_
      refine aops_bin (.bool (decide ((w64 ((w64 ((w64 (Int.fdiv (IntKind.wrap .u64 (w64 (a1 + a3))) (2 ^ (min (Int.toNat 1) (IntKind.bits .u64))))) + a2)) - n183)) < a3))) (wants_some (c := (decide ((w64 (Int.fdiv (IntKind.wrap .u64 (w64 (a1 + a3))) (2 ^ (min (Int.toNat 1) (IntKind.bits .u64))))) < (w64 ((w64 ((w64 (Int.fdiv (IntKind.wrap .u64 (w64 (a1 + a3))) (2 ^ (min (Int.toNat 1) (IntKind.bits .u64))))) + a2)) - n183))))) (b := true) 209 rfl rfl hb218) rfl rfl rfl rfl ?_
      refine aops_pick true (cb := (decide ((w64 (Int.fdiv (IntKind.wrap .u64 (w64 (a1 + a3))) (2 ^ (min (Int.toNat 1) (IntKind.bits .u64))))) < (w64 ((w64 ((w64 (Int.fdiv (IntKind.wrap .u64 (w64 (a1 + a3))) (2 ^ (min (Int.toNat 1) (IntKind.bits .u64))))) + a2)) - n183))))) (bV (decide ((w64 ((w64 ((w64 (Int.fdiv (IntKind.wrap .u64 (w64 (a1 + a3))) (2 ^ (min (Int.toNat 1) (IntKind.bits .u64))))) + a2)) - n183)) < a3))) wants_none rfl hb218 rfl rfl ?_
      refine an ?_
      refine awp_cond (decide ((w64 ((w64 ((w64 (Int.fdiv (IntKind.wrap .u64 (w64 (a1 + a3))) (2 ^ (min (Int.toNat 1) (IntKind.bits .u64))))) + a2)) - n183)) < a3)) rfl (fun hb219 => ?_) (fun hb219 => ?_)
      · replace h := ite_t hb219 h
        refine rg ?_
        refine am (V.own 0 l201.length) rfl rfl ?_
        refine am (iV (w64 (Int.fdiv (IntKind.wrap .u64 (w64 (a1 + a3))) (2 ^ (min (Int.toNat 1) (IntKind.bits .u64)))))) rfl rfl ?_
        refine am (iV (w64 ((w64 ((w64 (Int.fdiv (IntKind.wrap .u64 (w64 (a1 + a3))) (2 ^ (min (Int.toNat 1) (IntKind.bits .u64))))) + a2)) - n183))) rfl rfl ?_
        refine am (iV a3) rfl rfl ?_
        refine am (V.fn (.func 134) [] []) rfl rfl ?_
        replace h := bind_some h
        obtain ⟨y220, hx221, h⟩ := h
        replace h := chk_some h
        obtain ⟨hc222, h⟩ := h
        refine aops_mcall (V.tup []) [(V.own 0 l201.length), (iV (w64 (Int.fdiv (IntKind.wrap .u64 (w64 (a1 + a3))) (2 ^ (min (Int.toNat 1) (IntKind.bits .u64)))))), (iV (w64 ((w64 ((w64 (Int.fdiv (IntKind.wrap .u64 (w64 (a1 + a3))) (2 ^ (min (Int.toNat 1) (IntKind.bits .u64))))) + a2)) - n183))), (iV a3), (V.fn (.func 134) [] [])] (fun i => ([0] : List Nat).getD i 0) (fun i => ([0] : List Nat).getD i 0) 1 1 [(0, (Ob.arr 35 6 (y220.map encTWindow)))] fOk172 wants_none rfl (evm_cons rfl (evm_cons rfl (evm_cons rfl (evm_cons rfl (evm_cons rfl evm_nil))))) (.cons (Sub.own rfl rfl) (.cons (Sub.imm (Imm.con _)) (.cons (Sub.imm (Imm.con _)) (.cons (Sub.imm (Imm.con _)) (.cons (Sub.imm (Imm.fn .nil .nil)) .nil))))) (.cons rfl (ObSub.rows (rows_imm imms_encTWindow)) .nil) (hR172 (w64 (Int.fdiv (IntKind.wrap .u64 (w64 (a1 + a3))) (2 ^ (min (Int.toNat 1) (IntKind.bits .u64))))) (w64 ((w64 ((w64 (Int.fdiv (IntKind.wrap .u64 (w64 (a1 + a3))) (2 ^ (min (Int.toNat 1) (IntKind.bits .u64))))) + a2)) - n183)) a3 l201 _ hx221) rfl rfl rfl rfl rfl (Sub.immT (Imm.tup .nil)) (.cons rfl (ObSub.rowsT (rows_imm imms_encTWindow)) .nil) ?_
        refine aops_ghost (ghost_tell 0 (V.own 0 y220.length) rfl (Sub.ownI hc222)) ?_
        refine aops_ghost (ghost_tell 214 (V.own 0 y220.length) rfl (Sub.ownI hc222)) ?_
        refine an ?_
        obtain rfl := Option.some.inj h
        exact ⟨.inr rfl, [], (ghost_ren 1 (fun i => ([0] : List Nat).getD i 0) _ _ (by decide) (EnvSub.get .nil) (HpSub.get (.cons rfl (ObSub.rows (rows_imm imms_encTWindow)) .nil)) rfl), .nil⟩
      replace h := ite_f hb219 h
      refine awp_skip ?_
      obtain rfl := Option.some.inj h
      exact ⟨.inr rfl, [], (ghost_ren 1 (fun i => ([0] : List Nat).getD i 0) _ _ (by decide) (EnvSub.get .nil) (HpSub.get (.cons rfl (ObSub.rows (rows_imm imms_encTWindow)) .nil)) rfl), .nil⟩
    replace h := ite_f hb218 h
    refine aops_skips 3 3 209 true (c := (decide ((w64 (Int.fdiv (IntKind.wrap .u64 (w64 (a1 + a3))) (2 ^ (min (Int.toNat 1) (IntKind.bits .u64))))) < (w64 ((w64 ((w64 (Int.fdiv (IntKind.wrap .u64 (w64 (a1 + a3))) (2 ^ (min (Int.toNat 1) (IntKind.bits .u64))))) + a2)) - n183))))) (b := false) rfl rfl hb218 rfl rfl ?_
    refine aops_pick false (cb := (decide ((w64 (Int.fdiv (IntKind.wrap .u64 (w64 (a1 + a3))) (2 ^ (min (Int.toNat 1) (IntKind.bits .u64))))) < (w64 ((w64 ((w64 (Int.fdiv (IntKind.wrap .u64 (w64 (a1 + a3))) (2 ^ (min (Int.toNat 1) (IntKind.bits .u64))))) + a2)) - n183))))) (bV false) wants_none rfl hb218 rfl rfl ?_
    refine an ?_
    refine awp_cond_f rfl rfl ?_
    refine awp_skip ?_
    obtain rfl := Option.some.inj h
    exact ⟨.inr rfl, [], (ghost_ren 1 (fun i => ([0] : List Nat).getD i 0) _ _ (by decide) (EnvSub.get .nil) (HpSub.get (.cons rfl (ObSub.rows (rows_imm imms_encTWindow)) .nil)) rfl), .nil⟩
  replace h := ite_f hb199 h
  refine aops_skips 3 3 181 true (c := (decide (n183 < a2))) (b := false) rfl rfl hb199 rfl rfl ?_
  refine aops_pick false (cb := (decide (n183 < a2))) (bV false) wants_none rfl hb199 rfl rfl ?_
  refine an ?_
  refine awp_cond_f rfl rfl ?_
  refine awp_skip ?_
  refine sq ?_
  refine sr ?_
  refine am (iV a1) rfl rfl ?_
  refine am (iV n183) rfl rfl ?_
  refine aops_bin (.bool (decide (a1 < n183))) wants_none rfl rfl rfl rfl ?_
  refine am (bV (decide (a1 < n183))) rfl rfl ?_
  rcases Bool.eq_false_or_eq_true (decide (a1 < n183)) with hb223 | hb223
  · replace h := ite_t hb223 h
    refine aops_move (iV n183) (wants_some (c := (decide (a1 < n183))) (b := true) 195 rfl rfl hb223) rfl rfl ?_
    refine aops_move (iV (w64 (Int.fdiv (IntKind.wrap .u64 (w64 (a1 + a3))) (2 ^ (min (Int.toNat 1) (IntKind.bits .u64)))))) (wants_some (c := (decide (a1 < n183))) (b := true) 195 rfl rfl hb223) rfl rfl ?_
    refine aops_bin (.bool (decide (n183 < (w64 (Int.fdiv (IntKind.wrap .u64 (w64 (a1 + a3))) (2 ^ (min (Int.toNat 1) (IntKind.bits .u64)))))))) (wants_some (c := (decide (a1 < n183))) (b := true) 195 rfl rfl hb223) rfl rfl rfl rfl ?_
    refine aops_pick true (cb := (decide (a1 < n183))) (bV (decide (n183 < (w64 (Int.fdiv (IntKind.wrap .u64 (w64 (a1 + a3))) (2 ^ (min (Int.toNat 1) (IntKind.bits .u64)))))))) wants_none rfl hb223 rfl rfl ?_
    refine an ?_
    replace h := jn_elim h
    obtain ⟨k224, hk224, h⟩ := h
    refine awp_cut (fun (p : (List TWindow)) => (⟨[(0, (V.own 0 p.length)), (3, (iV a3)), (4, (V.fn (.func 134) [] [])), (18, (iV (w64 (Int.fdiv (IntKind.wrap .u64 (w64 (a1 + a3))) (2 ^ (min (Int.toNat 1) (IntKind.bits .u64))))))), (24, (iV (w64 ((w64 ((w64 (Int.fdiv (IntKind.wrap .u64 (w64 (a1 + a3))) (2 ^ (min (Int.toNat 1) (IntKind.bits .u64))))) + a2)) - n183))))], [(0, (Ob.arr 35 6 (p.map encTWindow)))], 1⟩ : St)) (fun (p : (List TWindow)) => k224 p = some r) ?_ ?_
    · clear hk224
      refine awp_cond (decide (n183 < (w64 (Int.fdiv (IntKind.wrap .u64 (w64 (a1 + a3))) (2 ^ (min (Int.toNat 1) (IntKind.bits .u64))))))) rfl (fun hb226 => ?_) (fun hb226 => ?_)
      · replace h := ite_t hb226 h
        refine rg ?_
        refine am (V.own 0 a4.length) rfl rfl ?_
        refine am (iV a1) rfl rfl ?_
        refine am (iV n183) rfl rfl ?_
        refine am (iV (w64 (Int.fdiv (IntKind.wrap .u64 (w64 (a1 + a3))) (2 ^ (min (Int.toNat 1) (IntKind.bits .u64)))))) rfl rfl ?_
        refine am (V.fn (.func 134) [] []) rfl rfl ?_
        replace h := bind_some h
        obtain ⟨y227, hx228, h⟩ := h
        replace h := chk_some h
        obtain ⟨hc229, h⟩ := h
        refine aops_mcall (V.tup []) [(V.own 0 a4.length), (iV a1), (iV n183), (iV (w64 (Int.fdiv (IntKind.wrap .u64 (w64 (a1 + a3))) (2 ^ (min (Int.toNat 1) (IntKind.bits .u64)))))), (V.fn (.func 134) [] [])] (fun i => ([0] : List Nat).getD i 0) (fun i => ([0] : List Nat).getD i 0) 1 1 [(0, (Ob.arr 35 6 (y227.map encTWindow)))] fOk172 wants_none rfl (evm_cons rfl (evm_cons rfl (evm_cons rfl (evm_cons rfl (evm_cons rfl evm_nil))))) (.cons (Sub.own rfl rfl) (.cons (Sub.imm (Imm.con _)) (.cons (Sub.imm (Imm.con _)) (.cons (Sub.imm (Imm.con _)) (.cons (Sub.imm (Imm.fn .nil .nil)) .nil))))) (.cons rfl (ObSub.rows (rows_imm imms_encTWindow)) .nil) (hR172 a1 n183 (w64 (Int.fdiv (IntKind.wrap .u64 (w64 (a1 + a3))) (2 ^ (min (Int.toNat 1) (IntKind.bits .u64))))) a4 _ hx228) rfl rfl rfl rfl rfl (Sub.immT (Imm.tup .nil)) (.cons rfl (ObSub.rowsT (rows_imm imms_encTWindow)) .nil) ?_
        refine aops_ghost (ghost_tell 0 (V.own 0 y227.length) rfl (Sub.ownI hc229)) ?_
        refine aops_ghost (ghost_tell 200 (V.own 0 y227.length) rfl (Sub.ownI hc229)) ?_
        refine an ?_
        exact ⟨y227, h, (ghost_ren 1 (fun i => ([0] : List Nat).getD i 0) _ _ (by decide) (EnvSub.get (.cons (Sub.own rfl rfl) (.cons (Sub.imm (Imm.con _)) (.cons (Sub.imm (Imm.fn .nil .nil)) (.cons (Sub.imm (Imm.con _)) (.cons (Sub.imm (Imm.con _)) .nil)))))) (HpSub.get (.cons rfl (ObSub.rows (rows_imm imms_encTWindow)) .nil)) rfl)⟩
      replace h := ite_f hb226 h
      refine awp_skip ?_
      exact ⟨a4, h, (ghost_ren 1 (fun i => ([0] : List Nat).getD i 0) _ _ (by decide) (EnvSub.get (.cons (Sub.own rfl rfl) (.cons (Sub.imm (Imm.con _)) (.cons (Sub.imm (Imm.fn .nil .nil)) (.cons (Sub.imm (Imm.con _)) (.cons (Sub.imm (Imm.con _)) .nil)))))) (HpSub.get (.cons rfl (ObSub.rows (rows_imm imms_encTWindow)) .nil)) rfl)⟩
    clear h
    intro l225 h
    subst hk224
    refine sr ?_
    refine am (iV (w64 (Int.fdiv (IntKind.wrap .u64 (w64 (a1 + a3))) (2 ^ (min (Int.toNat 1) (IntKind.bits .u64)))))) rfl rfl ?_
    refine am (iV (w64 ((w64 ((w64 (Int.fdiv (IntKind.wrap .u64 (w64 (a1 + a3))) (2 ^ (min (Int.toNat 1) (IntKind.bits .u64))))) + a2)) - n183))) rfl rfl ?_
    refine aops_bin (.bool (decide ((w64 (Int.fdiv (IntKind.wrap .u64 (w64 (a1 + a3))) (2 ^ (min (Int.toNat 1) (IntKind.bits .u64))))) < (w64 ((w64 ((w64 (Int.fdiv (IntKind.wrap .u64 (w64 (a1 + a3))) (2 ^ (min (Int.toNat 1) (IntKind.bits .u64))))) + a2)) - n183))))) wants_none rfl rfl rfl rfl ?_
    refine am (bV (decide ((w64 (Int.fdiv (IntKind.wrap .u64 (w64 (a1 + a3))) (2 ^ (min (Int.toNat 1) (IntKind.bits .u64))))) < (w64 ((w64 ((w64 (Int.fdiv (IntKind.wrap .u64 (w64 (a1 + a3))) (2 ^ (min (Int.toNat 1) (IntKind.bits .u64))))) + a2)) - n183))))) rfl rfl ?_
    rcases Bool.eq_false_or_eq_true (decide ((w64 (Int.fdiv (IntKind.wrap .u64 (w64 (a1 + a3))) (2 ^ (min (Int.toNat 1) (IntKind.bits .u64))))) < (w64 ((w64 ((w64 (Int.fdiv (IntKind.wrap .u64 (w64 (a1 + a3))) (2 ^ (min (Int.toNat 1) (IntKind.bits .u64))))) + a2)) - n183)))) with hb230 | hb230
    · replace h := ite_t hb230 h
      refine aops_move (iV (w64 ((w64 ((w64 (Int.fdiv (IntKind.wrap .u64 (w64 (a1 + a3))) (2 ^ (min (Int.toNat 1) (IntKind.bits .u64))))) + a2)) - n183))) (wants_some (c := (decide ((w64 (Int.fdiv (IntKind.wrap .u64 (w64 (a1 + a3))) (2 ^ (min (Int.toNat 1) (IntKind.bits .u64))))) < (w64 ((w64 ((w64 (Int.fdiv (IntKind.wrap .u64 (w64 (a1 + a3))) (2 ^ (min (Int.toNat 1) (IntKind.bits .u64))))) + a2)) - n183))))) (b := true) 209 rfl rfl hb230) rfl rfl ?_
      refine aops_move (iV a3) (wants_some (c := (decide ((w64 (Int.fdiv (IntKind.wrap .u64 (w64 (a1 + a3))) (2 ^ (min (Int.toNat 1) (IntKind.bits .u64))))) < (w64 ((w64 ((w64 (Int.fdiv (IntKind.wrap .u64 (w64 (a1 + a3))) (2 ^ (min (Int.toNat 1) (IntKind.bits .u64))))) + a2)) - n183))))) (b := true) 209 rfl rfl hb230) rfl rfl ?_
      refine aops_bin (.bool (decide ((w64 ((w64 ((w64 (Int.fdiv (IntKind.wrap .u64 (w64 (a1 + a3))) (2 ^ (min (Int.toNat 1) (IntKind.bits .u64))))) + a2)) - n183)) < a3))) (wants_some (c := (decide ((w64 (Int.fdiv (IntKind.wrap .u64 (w64 (a1 + a3))) (2 ^ (min (Int.toNat 1) (IntKind.bits .u64))))) < (w64 ((w64 ((w64 (Int.fdiv (IntKind.wrap .u64 (w64 (a1 + a3))) (2 ^ (min (Int.toNat 1) (IntKind.bits .u64))))) + a2)) - n183))))) (b := true) 209 rfl rfl hb230) rfl rfl rfl rfl ?_
      refine aops_pick true (cb := (decide ((w64 (Int.fdiv (IntKind.wrap .u64 (w64 (a1 + a3))) (2 ^ (min (Int.toNat 1) (IntKind.bits .u64))))) < (w64 ((w64 ((w64 (Int.fdiv (IntKind.wrap .u64 (w64 (a1 + a3))) (2 ^ (min (Int.toNat 1) (IntKind.bits .u64))))) + a2)) - n183))))) (bV (decide ((w64 ((w64 ((w64 (Int.fdiv (IntKind.wrap .u64 (w64 (a1 + a3))) (2 ^ (min (Int.toNat 1) (IntKind.bits .u64))))) + a2)) - n183)) < a3))) wants_none rfl hb230 rfl rfl ?_
      refine an ?_
      refine awp_cond (decide ((w64 ((w64 ((w64 (Int.fdiv (IntKind.wrap .u64 (w64 (a1 + a3))) (2 ^ (min (Int.toNat 1) (IntKind.bits .u64))))) + a2)) - n183)) < a3)) rfl (fun hb231 => ?_) (fun hb231 => ?_)
      · replace h := ite_t hb231 h
        refine rg ?_
        refine am (V.own 0 l225.length) rfl rfl ?_
        refine am (iV (w64 (Int.fdiv (IntKind.wrap .u64 (w64 (a1 + a3))) (2 ^ (min (Int.toNat 1) (IntKind.bits .u64)))))) rfl rfl ?_
        refine am (iV (w64 ((w64 ((w64 (Int.fdiv (IntKind.wrap .u64 (w64 (a1 + a3))) (2 ^ (min (Int.toNat 1) (IntKind.bits .u64))))) + a2)) - n183))) rfl rfl ?_
        refine am (iV a3) rfl rfl ?_
        refine am (V.fn (.func 134) [] []) rfl rfl ?_
        replace h := bind_some h
        obtain ⟨y232, hx233, h⟩ := h
        replace h := chk_some h
        obtain ⟨hc234, h⟩ := h
        refine aops_mcall (V.tup []) [(V.own 0 l225.length), (iV (w64 (Int.fdiv (IntKind.wrap .u64 (w64 (a1 + a3))) (2 ^ (min (Int.toNat 1) (IntKind.bits .u64)))))), (iV (w64 ((w64 ((w64 (Int.fdiv (IntKind.wrap .u64 (w64 (a1 + a3))) (2 ^ (min (Int.toNat 1) (IntKind.bits .u64))))) + a2)) - n183))), (iV a3), (V.fn (.func 134) [] [])] (fun i => ([0] : List Nat).getD i 0) (fun i => ([0] : List Nat).getD i 0) 1 1 [(0, (Ob.arr 35 6 (y232.map encTWindow)))] fOk172 wants_none rfl (evm_cons rfl (evm_cons rfl (evm_cons rfl (evm_cons rfl (evm_cons rfl evm_nil))))) (.cons (Sub.own rfl rfl) (.cons (Sub.imm (Imm.con _)) (.cons (Sub.imm (Imm.con _)) (.cons (Sub.imm (Imm.con _)) (.cons (Sub.imm (Imm.fn .nil .nil)) .nil))))) (.cons rfl (ObSub.rows (rows_imm imms_encTWindow)) .nil) (hR172 (w64 (Int.fdiv (IntKind.wrap .u64 (w64 (a1 + a3))) (2 ^ (min (Int.toNat 1) (IntKind.bits .u64))))) (w64 ((w64 ((w64 (Int.fdiv (IntKind.wrap .u64 (w64 (a1 + a3))) (2 ^ (min (Int.toNat 1) (IntKind.bits .u64))))) + a2)) - n183)) a3 l225 _ hx233) rfl rfl rfl rfl rfl (Sub.immT (Imm.tup .nil)) (.cons rfl (ObSub.rowsT (rows_imm imms_encTWindow)) .nil) ?_
        refine aops_ghost (ghost_tell 0 (V.own 0 y232.length) rfl (Sub.ownI hc234)) ?_
        refine aops_ghost (ghost_tell 214 (V.own 0 y232.length) rfl (Sub.ownI hc234)) ?_
        refine an ?_
        obtain rfl := Option.some.inj h
        exact ⟨.inr rfl, [], (ghost_ren 1 (fun i => ([0] : List Nat).getD i 0) _ _ (by decide) (EnvSub.get .nil) (HpSub.get (.cons rfl (ObSub.rows (rows_imm imms_encTWindow)) .nil)) rfl), .nil⟩
      replace h := ite_f hb231 h
      refine awp_skip ?_
      obtain rfl := Option.some.inj h
      exact ⟨.inr rfl, [], (ghost_ren 1 (fun i => ([0] : List Nat).getD i 0) _ _ (by decide) (EnvSub.get .nil) (HpSub.get (.cons rfl (ObSub.rows (rows_imm imms_encTWindow)) .nil)) rfl), .nil⟩
    replace h := ite_f hb230 h
    refine aops_skips 3 3 209 true (c := (decide ((w64 (Int.fdiv (IntKind.wrap .u64 (w64 (a1 + a3))) (2 ^ (min (Int.toNat 1) (IntKind.bits .u64))))) < (w64 ((w64 ((w64 (Int.fdiv (IntKind.wrap .u64 (w64 (a1 + a3))) (2 ^ (min (Int.toNat 1) (IntKind.bits .u64))))) + a2)) - n183))))) (b := false) rfl rfl hb230 rfl rfl ?_
    refine aops_pick false (cb := (decide ((w64 (Int.fdiv (IntKind.wrap .u64 (w64 (a1 + a3))) (2 ^ (min (Int.toNat 1) (IntKind.bits .u64))))) < (w64 ((w64 ((w64 (Int.fdiv (IntKind.wrap .u64 (w64 (a1 + a3))) (2 ^ (min (Int.toNat 1) (IntKind.bits .u64))))) + a2)) - n183))))) (bV false) wants_none rfl hb230 rfl rfl ?_
    refine an ?_
    refine awp_cond_f rfl rfl ?_
    refine awp_skip ?_
    obtain rfl := Option.some.inj h
    exact ⟨.inr rfl, [], (ghost_ren 1 (fun i => ([0] : List Nat).getD i 0) _ _ (by decide) (EnvSub.get .nil) (HpSub.get (.cons rfl (ObSub.rows (rows_imm imms_encTWindow)) .nil)) rfl), .nil⟩
  replace h := ite_f hb223 h
  refine aops_skips 3 3 195 true (c := (decide (a1 < n183))) (b := false) rfl rfl hb223 rfl rfl ?_
  refine aops_pick false (cb := (decide (a1 < n183))) (bV false) wants_none rfl hb223 rfl rfl ?_
  refine an ?_
  refine awp_cond_f rfl rfl ?_
  refine awp_skip ?_
  refine sr ?_
  refine am (iV (w64 (Int.fdiv (IntKind.wrap .u64 (w64 (a1 + a3))) (2 ^ (min (Int.toNat 1) (IntKind.bits .u64)))))) rfl rfl ?_
  refine am (iV (w64 ((w64 ((w64 (Int.fdiv (IntKind.wrap .u64 (w64 (a1 + a3))) (2 ^ (min (Int.toNat 1) (IntKind.bits .u64))))) + a2)) - n183))) rfl rfl ?_
  refine aops_bin (.bool (decide ((w64 (Int.fdiv (IntKind.wrap .u64 (w64 (a1 + a3))) (2 ^ (min (Int.toNat 1) (IntKind.bits .u64))))) < (w64 ((w64 ((w64 (Int.fdiv (IntKind.wrap .u64 (w64 (a1 + a3))) (2 ^ (min (Int.toNat 1) (IntKind.bits .u64))))) + a2)) - n183))))) wants_none rfl rfl rfl rfl ?_
  refine am (bV (decide ((w64 (Int.fdiv (IntKind.wrap .u64 (w64 (a1 + a3))) (2 ^ (min (Int.toNat 1) (IntKind.bits .u64))))) < (w64 ((w64 ((w64 (Int.fdiv (IntKind.wrap .u64 (w64 (a1 + a3))) (2 ^ (min (Int.toNat 1) (IntKind.bits .u64))))) + a2)) - n183))))) rfl rfl ?_
  rcases Bool.eq_false_or_eq_true (decide ((w64 (Int.fdiv (IntKind.wrap .u64 (w64 (a1 + a3))) (2 ^ (min (Int.toNat 1) (IntKind.bits .u64))))) < (w64 ((w64 ((w64 (Int.fdiv (IntKind.wrap .u64 (w64 (a1 + a3))) (2 ^ (min (Int.toNat 1) (IntKind.bits .u64))))) + a2)) - n183)))) with hb235 | hb235
  · replace h := ite_t hb235 h
    refine aops_move (iV (w64 ((w64 ((w64 (Int.fdiv (IntKind.wrap .u64 (w64 (a1 + a3))) (2 ^ (min (Int.toNat 1) (IntKind.bits .u64))))) + a2)) - n183))) (wants_some (c := (decide ((w64 (Int.fdiv (IntKind.wrap .u64 (w64 (a1 + a3))) (2 ^ (min (Int.toNat 1) (IntKind.bits .u64))))) < (w64 ((w64 ((w64 (Int.fdiv (IntKind.wrap .u64 (w64 (a1 + a3))) (2 ^ (min (Int.toNat 1) (IntKind.bits .u64))))) + a2)) - n183))))) (b := true) 209 rfl rfl hb235) rfl rfl ?_
    refine aops_move (iV a3) (wants_some (c := (decide ((w64 (Int.fdiv (IntKind.wrap .u64 (w64 (a1 + a3))) (2 ^ (min (Int.toNat 1) (IntKind.bits .u64))))) < (w64 ((w64 ((w64 (Int.fdiv (IntKind.wrap .u64 (w64 (a1 + a3))) (2 ^ (min (Int.toNat 1) (IntKind.bits .u64))))) + a2)) - n183))))) (b := true) 209 rfl rfl hb235) rfl rfl ?_
    refine aops_bin (.bool (decide ((w64 ((w64 ((w64 (Int.fdiv (IntKind.wrap .u64 (w64 (a1 + a3))) (2 ^ (min (Int.toNat 1) (IntKind.bits .u64))))) + a2)) - n183)) < a3))) (wants_some (c := (decide ((w64 (Int.fdiv (IntKind.wrap .u64 (w64 (a1 + a3))) (2 ^ (min (Int.toNat 1) (IntKind.bits .u64))))) < (w64 ((w64 ((w64 (Int.fdiv (IntKind.wrap .u64 (w64 (a1 + a3))) (2 ^ (min (Int.toNat 1) (IntKind.bits .u64))))) + a2)) - n183))))) (b := true) 209 rfl rfl hb235) rfl rfl rfl rfl ?_
    refine aops_pick true (cb := (decide ((w64 (Int.fdiv (IntKind.wrap .u64 (w64 (a1 + a3))) (2 ^ (min (Int.toNat 1) (IntKind.bits .u64))))) < (w64 ((w64 ((w64 (Int.fdiv (IntKind.wrap .u64 (w64 (a1 + a3))) (2 ^ (min (Int.toNat 1) (IntKind.bits .u64))))) + a2)) - n183))))) (bV (decide ((w64 ((w64 ((w64 (Int.fdiv (IntKind.wrap .u64 (w64 (a1 + a3))) (2 ^ (min (Int.toNat 1) (IntKind.bits .u64))))) + a2)) - n183)) < a3))) wants_none rfl hb235 rfl rfl ?_
    refine an ?_
    refine awp_cond (decide ((w64 ((w64 ((w64 (Int.fdiv (IntKind.wrap .u64 (w64 (a1 + a3))) (2 ^ (min (Int.toNat 1) (IntKind.bits .u64))))) + a2)) - n183)) < a3)) rfl (fun hb236 => ?_) (fun hb236 => ?_)
    · replace h := ite_t hb236 h
      refine rg ?_
      refine am (V.own 0 a4.length) rfl rfl ?_
      refine am (iV (w64 (Int.fdiv (IntKind.wrap .u64 (w64 (a1 + a3))) (2 ^ (min (Int.toNat 1) (IntKind.bits .u64)))))) rfl rfl ?_
      refine am (iV (w64 ((w64 ((w64 (Int.fdiv (IntKind.wrap .u64 (w64 (a1 + a3))) (2 ^ (min (Int.toNat 1) (IntKind.bits .u64))))) + a2)) - n183))) rfl rfl ?_
      refine am (iV a3) rfl rfl ?_
      refine am (V.fn (.func 134) [] []) rfl rfl ?_
      replace h := bind_some h
      obtain ⟨y237, hx238, h⟩ := h
      replace h := chk_some h
      obtain ⟨hc239, h⟩ := h
      refine aops_mcall (V.tup []) [(V.own 0 a4.length), (iV (w64 (Int.fdiv (IntKind.wrap .u64 (w64 (a1 + a3))) (2 ^ (min (Int.toNat 1) (IntKind.bits .u64)))))), (iV (w64 ((w64 ((w64 (Int.fdiv (IntKind.wrap .u64 (w64 (a1 + a3))) (2 ^ (min (Int.toNat 1) (IntKind.bits .u64))))) + a2)) - n183))), (iV a3), (V.fn (.func 134) [] [])] (fun i => ([0] : List Nat).getD i 0) (fun i => ([0] : List Nat).getD i 0) 1 1 [(0, (Ob.arr 35 6 (y237.map encTWindow)))] fOk172 wants_none rfl (evm_cons rfl (evm_cons rfl (evm_cons rfl (evm_cons rfl (evm_cons rfl evm_nil))))) (.cons (Sub.own rfl rfl) (.cons (Sub.imm (Imm.con _)) (.cons (Sub.imm (Imm.con _)) (.cons (Sub.imm (Imm.con _)) (.cons (Sub.imm (Imm.fn .nil .nil)) .nil))))) (.cons rfl (ObSub.rows (rows_imm imms_encTWindow)) .nil) (hR172 (w64 (Int.fdiv (IntKind.wrap .u64 (w64 (a1 + a3))) (2 ^ (min (Int.toNat 1) (IntKind.bits .u64))))) (w64 ((w64 ((w64 (Int.fdiv (IntKind.wrap .u64 (w64 (a1 + a3))) (2 ^ (min (Int.toNat 1) (IntKind.bits .u64))))) + a2)) - n183)) a3 a4 _ hx238) rfl rfl rfl rfl rfl (Sub.immT (Imm.tup .nil)) (.cons rfl (ObSub.rowsT (rows_imm imms_encTWindow)) .nil) ?_
      refine aops_ghost (ghost_tell 0 (V.own 0 y237.length) rfl (Sub.ownI hc239)) ?_
      refine aops_ghost (ghost_tell 214 (V.own 0 y237.length) rfl (Sub.ownI hc239)) ?_
      refine an ?_
      obtain rfl := Option.some.inj h
      exact ⟨.inr rfl, [], (ghost_ren 1 (fun i => ([0] : List Nat).getD i 0) _ _ (by decide) (EnvSub.get .nil) (HpSub.get (.cons rfl (ObSub.rows (rows_imm imms_encTWindow)) .nil)) rfl), .nil⟩
    replace h := ite_f hb236 h
    refine awp_skip ?_
    obtain rfl := Option.some.inj h
    exact ⟨.inr rfl, [], (ghost_ren 1 (fun i => ([0] : List Nat).getD i 0) _ _ (by decide) (EnvSub.get .nil) (HpSub.get (.cons rfl (ObSub.rows (rows_imm imms_encTWindow)) .nil)) rfl), .nil⟩
  replace h := ite_f hb235 h
  refine aops_skips 3 3 209 true (c := (decide ((w64 (Int.fdiv (IntKind.wrap .u64 (w64 (a1 + a3))) (2 ^ (min (Int.toNat 1) (IntKind.bits .u64))))) < (w64 ((w64 ((w64 (Int.fdiv (IntKind.wrap .u64 (w64 (a1 + a3))) (2 ^ (min (Int.toNat 1) (IntKind.bits .u64))))) + a2)) - n183))))) (b := false) rfl rfl hb235 rfl rfl ?_
  refine aops_pick false (cb := (decide ((w64 (Int.fdiv (IntKind.wrap .u64 (w64 (a1 + a3))) (2 ^ (min (Int.toNat 1) (IntKind.bits .u64))))) < (w64 ((w64 ((w64 (Int.fdiv (IntKind.wrap .u64 (w64 (a1 + a3))) (2 ^ (min (Int.toNat 1) (IntKind.bits .u64))))) + a2)) - n183))))) (bV false) wants_none rfl hb235 rfl rfl ?_
  refine an ?_
  refine awp_cond_f rfl rfl ?_
  refine awp_skip ?_
  obtain rfl := Option.some.inj h
  exact ⟨.inr rfl, [], (ghost_ren 1 (fun i => ([0] : List Nat).getD i 0) _ _ (by decide) (EnvSub.get .nil) (HpSub.get (.cons rfl (ObSub.rows (rows_imm imms_encTWindow)) .nil)) rfl), .nil⟩
theorem W172 : ∀ (F : Nat) (a1 : Int) (a2 : Int) (a3 : Int) (a4 : List TWindow) (r : (List TWindow)) (h : M172 F a1 a2 a3 a4 = some r), Mut Try.prog 172 [(V.own 0 a4.length), (iV a1), (iV a2), (iV a3), (V.fn (.func 134) [] [])] 1 [(0, (Ob.arr 35 6 (a4.map encTWindow)))] (resV []) 1 [(0, (Ob.arr 35 6 (r.map encTWindow)))] := by
  intro F
  induction F with
  | zero => intros; simp [M172] at *
  | succ F ih => exact fun a1 a2 a3 a4 r h => W172_B (M172 F) ih F a1 a2 a3 a4 r h
theorem W157 (F : Nat) (a1 : Int) (a2 : List TWindow) (r : (List TWindow)) (h : M157 F a1 a2 = some r) : Mut Try.prog 157 [(V.own 0 a2.length), (iV a1), (V.fn (.func 134) [] [])] 1 [(0, (Ob.arr 35 6 (a2.map encTWindow)))] (resV []) 1 [(0, (Ob.arr 35 6 (r.map encTWindow)))] := by
  refine mut_enter Try.func157 rfl rfl (l := []) rfl rfl [(0, (V.own 0 a2.length)), (1, (iV a1)), (2, (V.fn (.func 134) [] []))] rfl (fun w0 m0 β0 => ?_)
  unfold M157 at h
  refine sr ?_
  refine aa (iV 20) rfl rfl ?_
  refine an ?_
  refine sr ?_
  refine am (iV 20) rfl rfl ?_
  refine aa (iV 0) rfl rfl ?_
  refine aa (iV 20) rfl rfl ?_
  refine an ?_
  refine sq ?_
  replace h := jn_elim h
  obtain ⟨k46, hk46, h⟩ := h
  refine awp_cut (fun (p : Int × (List TWindow)) => (⟨[(0, (V.own 0 (p.2).length)), (1, (iV a1)), (2, (V.fn (.func 134) [] [])), (6, (iV 20)), (7, (iV (p.1)))], [(0, (Ob.arr 35 6 ((p.2).map encTWindow)))], 1⟩ : St)) (fun (p : Int × (List TWindow)) => k46 p.1 p.2 = some r) ?_ ?_
  · clear hk46
    refine awp_block ?_
    refine awp_loop_ind (fun (p : Int × Int × (List TWindow)) => (⟨[(0, (V.own 0 (p.2.2).length)), (1, (iV a1)), (2, (V.fn (.func 134) [] [])), (6, (iV 20)), (7, (iV (p.1))), (8, (iV (p.2.1)))], [(0, (Ob.arr 35 6 ((p.2.2).map encTWindow)))], 1⟩ : St)) (fun n (p : Int × Int × (List TWindow)) => M157_L1 F a1 k46 n p.1 p.2.1 p.2.2 = some r) (fun p h => by simp [M157_L1] at h) (fun n ih1 p h => ?_) F (0, 20, a2) h (ghost_ren 1 (fun i => ([0] : List Nat).getD i 0) _ _ (by decide) (EnvSub.get (.cons (Sub.own rfl rfl) (.cons (Sub.imm (Imm.con _)) (.cons (Sub.imm (Imm.fn .nil .nil)) (.cons (Sub.imm (Imm.con _)) (.cons (Sub.imm (Imm.con _)) (.cons (Sub.imm (Imm.con _)) .nil))))))) (HpSub.get (.cons rfl (ObSub.rows (rows_imm imms_encTWindow)) .nil)) rfl)
    obtain ⟨n52, n53, l54⟩ := p
    unfold M157_L1 at h
    refine awp_loop ?_
    refine sq ?_
    refine sr ?_
    refine am (iV n53) rfl rfl ?_
    refine am (iV a1) rfl rfl ?_
    refine aops_bin (.bool (decide (n53 ≤ a1))) wants_none rfl rfl rfl rfl ?_
    refine an ?_
    refine awp_cond (decide (n53 ≤ a1)) rfl (fun hb55 => ?_) (fun hb55 => ?_)
    · replace h := ite_t hb55 h
      refine awp_skip ?_
      refine awp_block ?_
      refine sr ?_
      refine am (V.own 0 l54.length) rfl rfl ?_
      refine am (iV n52) rfl rfl ?_
      refine am (iV n53) rfl rfl ?_
      refine am (V.fn (.func 134) [] []) rfl rfl ?_
      replace h := bind_some h
      obtain ⟨y56, hx57, h⟩ := h
      replace h := chk_some h
      obtain ⟨hc58, h⟩ := h
      refine aops_mcall (V.tup []) [(V.own 0 l54.length), (iV n52), (iV n53), (V.fn (.func 134) [] [])] (fun i => ([0] : List Nat).getD i 0) (fun i => ([0] : List Nat).getD i 0) 1 1 [(0, (Ob.arr 35 6 (y56.map encTWindow)))] fOk171 wants_none rfl (evm_cons rfl (evm_cons rfl (evm_cons rfl (evm_cons rfl evm_nil)))) (.cons (Sub.own rfl rfl) (.cons (Sub.imm (Imm.con _)) (.cons (Sub.imm (Imm.con _)) (.cons (Sub.imm (Imm.fn .nil .nil)) .nil)))) (.cons rfl (ObSub.rows (rows_imm imms_encTWindow)) .nil) (W171 F n52 n53 l54 y56 hx57) rfl rfl rfl rfl rfl (Sub.immT (Imm.tup .nil)) (.cons rfl (ObSub.rowsT (rows_imm imms_encTWindow)) .nil) ?_
      refine aops_ghost (ghost_tell 0 (V.own 0 y56.length) rfl (Sub.ownI hc58)) ?_
      refine aops_ghost (ghost_tell 14 (V.own 0 y56.length) rfl (Sub.ownI hc58)) ?_
      refine an ?_
      refine sr ?_
      refine am (iV n53) rfl rfl ?_
      refine aa (iV n53) rfl rfl ?_
      refine an ?_
      refine rg ?_
      refine am (iV n53) rfl rfl ?_
      refine am (iV 20) rfl rfl ?_
      refine aops_bin (.int .i64 (w64 (n53 + 20))) wants_none rfl rfl rfl rfl ?_
      refine aa (iV (w64 (n53 + 20))) rfl rfl ?_
      refine an ?_
      exact awp_back (ih1 (n53, (w64 (n53 + 20)), y56) h) (ghost_ren 1 (fun i => ([0] : List Nat).getD i 0) _ _ (by decide) (EnvSub.get (.cons (Sub.own rfl rfl) (.cons (Sub.imm (Imm.con _)) (.cons (Sub.imm (Imm.fn .nil .nil)) (.cons (Sub.imm (Imm.con _)) (.cons (Sub.imm (Imm.con _)) (.cons (Sub.imm (Imm.con _)) .nil))))))) (HpSub.get (.cons rfl (ObSub.rows (rows_imm imms_encTWindow)) .nil)) rfl)
    replace h := ite_f hb55 h
    refine awp_exit ?_
    exact ⟨(n52, l54), h, (ghost_ren 1 (fun i => ([0] : List Nat).getD i 0) _ _ (by decide) (EnvSub.get (.cons (Sub.own rfl rfl) (.cons (Sub.imm (Imm.con _)) (.cons (Sub.imm (Imm.fn .nil .nil)) (.cons (Sub.imm (Imm.con _)) (.cons (Sub.imm (Imm.con _)) .nil)))))) (HpSub.get (.cons rfl (ObSub.rows (rows_imm imms_encTWindow)) .nil)) rfl)⟩
  clear h
  rintro ⟨n47, l48⟩ h
  subst hk46
  refine sr ?_
  refine am (V.own 0 l48.length) rfl rfl ?_
  refine am (iV n47) rfl rfl ?_
  refine am (iV a1) rfl rfl ?_
  refine am (V.fn (.func 134) [] []) rfl rfl ?_
  replace h := bind_some h
  obtain ⟨y59, hx60, h⟩ := h
  replace h := chk_some h
  obtain ⟨hc61, h⟩ := h
  refine aops_mcall (V.tup []) [(V.own 0 l48.length), (iV n47), (iV a1), (V.fn (.func 134) [] [])] (fun i => ([0] : List Nat).getD i 0) (fun i => ([0] : List Nat).getD i 0) 1 1 [(0, (Ob.arr 35 6 (y59.map encTWindow)))] fOk171 wants_none rfl (evm_cons rfl (evm_cons rfl (evm_cons rfl (evm_cons rfl evm_nil)))) (.cons (Sub.own rfl rfl) (.cons (Sub.imm (Imm.con _)) (.cons (Sub.imm (Imm.con _)) (.cons (Sub.imm (Imm.fn .nil .nil)) .nil)))) (.cons rfl (ObSub.rows (rows_imm imms_encTWindow)) .nil) (W171 F n47 a1 l48 y59 hx60) rfl rfl rfl rfl rfl (Sub.immT (Imm.tup .nil)) (.cons rfl (ObSub.rowsT (rows_imm imms_encTWindow)) .nil) ?_
  refine aops_ghost (ghost_tell 0 (V.own 0 y59.length) rfl (Sub.ownI hc61)) ?_
  refine aops_ghost (ghost_tell 23 (V.own 0 y59.length) rfl (Sub.ownI hc61)) ?_
  refine an ?_
  refine awp_block ?_
  refine awp_loop_ind (fun (p : Int × (List TWindow)) => (⟨[(0, (V.own 0 (p.2).length)), (1, (iV a1)), (2, (V.fn (.func 134) [] [])), (6, (iV (p.1)))], [(0, (Ob.arr 35 6 ((p.2).map encTWindow)))], 1⟩ : St)) (fun n (p : Int × (List TWindow)) => M157_L2 F a1 n p.1 p.2 = some r) (fun p h => by simp [M157_L2] at h) (fun n ih2 p h => ?_) F (20, y59) h (ghost_ren 1 (fun i => ([0] : List Nat).getD i 0) _ _ (by decide) (EnvSub.get (.cons (Sub.own rfl rfl) (.cons (Sub.imm (Imm.con _)) (.cons (Sub.imm (Imm.fn .nil .nil)) (.cons (Sub.imm (Imm.con _)) .nil))))) (HpSub.get (.cons rfl (ObSub.rows (rows_imm imms_encTWindow)) .nil)) rfl)
  obtain ⟨n64, l65⟩ := p
  unfold M157_L2 at h
  refine awp_loop ?_
  refine sq ?_
  refine sr ?_
  refine am (iV n64) rfl rfl ?_
  refine am (iV a1) rfl rfl ?_
  refine aops_bin (.bool (decide (n64 < a1))) wants_none rfl rfl rfl rfl ?_
  refine an ?_
  refine awp_cond (decide (n64 < a1)) rfl (fun hb66 => ?_) (fun hb66 => ?_)
  · replace h := ite_t hb66 h
    refine awp_skip ?_
    replace h := jn_elim h
    obtain ⟨k67, hk67, h⟩ := h
    refine awp_cut (fun (p : (List TWindow)) => (⟨[(0, (V.own 0 p.length)), (1, (iV a1)), (2, (V.fn (.func 134) [] [])), (6, (iV (w64 (n64 * 2))))], [(0, (Ob.arr 35 6 (p.map encTWindow)))], 1⟩ : St)) (fun (p : (List TWindow)) => k67 p = some r) ?_ ?_
    · clear hk67
      refine awp_block ?_
      refine sr ?_
      refine am (iV n64) rfl rfl ?_
      refine aops_bin (.int .i64 (w64 (2 * n64))) wants_none rfl rfl rfl rfl ?_
      refine aa (iV 0) rfl rfl ?_
      refine aa (iV (w64 (2 * n64))) rfl rfl ?_
      refine an ?_
      refine sq ?_
      replace h := jn_elim h
      obtain ⟨k69, hk69, h⟩ := h
      refine awp_cut (fun (p : Int × (List TWindow)) => (⟨[(0, (V.own 0 (p.2).length)), (1, (iV a1)), (2, (V.fn (.func 134) [] [])), (6, (iV n64)), (7, (iV (p.1)))], [(0, (Ob.arr 35 6 ((p.2).map encTWindow)))], 1⟩ : St)) (fun (p : Int × (List TWindow)) => k69 p.1 p.2 = some r) ?_ ?_
      · clear hk69
        refine awp_block ?_
        refine awp_loop_ind (fun (p : Int × Int × (List TWindow)) => (⟨[(0, (V.own 0 (p.2.2).length)), (1, (iV a1)), (2, (V.fn (.func 134) [] [])), (6, (iV n64)), (7, (iV (p.1))), (8, (iV (p.2.1)))], [(0, (Ob.arr 35 6 ((p.2.2).map encTWindow)))], 1⟩ : St)) (fun n (p : Int × Int × (List TWindow)) => M157_L3 F a1 n64 k69 n p.1 p.2.1 p.2.2 = some r) (fun p h => by simp [M157_L3] at h) (fun n ih3 p h => ?_) F (0, (w64 (2 * n64)), l65) h (ghost_ren 1 (fun i => ([0] : List Nat).getD i 0) _ _ (by decide) (EnvSub.get (.cons (Sub.own rfl rfl) (.cons (Sub.imm (Imm.con _)) (.cons (Sub.imm (Imm.fn .nil .nil)) (.cons (Sub.imm (Imm.con _)) (.cons (Sub.imm (Imm.con _)) (.cons (Sub.imm (Imm.con _)) .nil))))))) (HpSub.get (.cons rfl (ObSub.rows (rows_imm imms_encTWindow)) .nil)) rfl)
        obtain ⟨n75, n76, l77⟩ := p
        unfold M157_L3 at h
        refine awp_loop ?_
        refine sq ?_
        refine sr ?_
        refine am (iV n76) rfl rfl ?_
        refine am (iV a1) rfl rfl ?_
        refine aops_bin (.bool (decide (n76 ≤ a1))) wants_none rfl rfl rfl rfl ?_
        refine an ?_
        refine awp_cond (decide (n76 ≤ a1)) rfl (fun hb78 => ?_) (fun hb78 => ?_)
        · replace h := ite_t hb78 h
          refine awp_skip ?_
          refine awp_block ?_
          refine sr ?_
          refine am (V.own 0 l77.length) rfl rfl ?_
          refine am (iV n75) rfl rfl ?_
          refine am (iV n75) rfl rfl ?_
          refine am (iV n64) rfl rfl ?_
          refine aops_bin (.int .i64 (w64 (n75 + n64))) wants_none rfl rfl rfl rfl ?_
          refine am (iV n76) rfl rfl ?_
          refine am (V.fn (.func 134) [] []) rfl rfl ?_
          replace h := bind_some h
          obtain ⟨y79, hx80, h⟩ := h
          replace h := chk_some h
          obtain ⟨hc81, h⟩ := h
          refine aops_mcall (V.tup []) [(V.own 0 l77.length), (iV n75), (iV (w64 (n75 + n64))), (iV n76), (V.fn (.func 134) [] [])] (fun i => ([0] : List Nat).getD i 0) (fun i => ([0] : List Nat).getD i 0) 1 1 [(0, (Ob.arr 35 6 (y79.map encTWindow)))] fOk172 wants_none rfl (evm_cons rfl (evm_cons rfl (evm_cons rfl (evm_cons rfl (evm_cons rfl evm_nil))))) (.cons (Sub.own rfl rfl) (.cons (Sub.imm (Imm.con _)) (.cons (Sub.imm (Imm.con _)) (.cons (Sub.imm (Imm.con _)) (.cons (Sub.imm (Imm.fn .nil .nil)) .nil))))) (.cons rfl (ObSub.rows (rows_imm imms_encTWindow)) .nil) (W172 F n75 (w64 (n75 + n64)) n76 l77 y79 hx80) rfl rfl rfl rfl rfl (Sub.immT (Imm.tup .nil)) (.cons rfl (ObSub.rowsT (rows_imm imms_encTWindow)) .nil) ?_
          refine aops_ghost (ghost_tell 0 (V.own 0 y79.length) rfl (Sub.ownI hc81)) ?_
          refine aops_ghost (ghost_tell 36 (V.own 0 y79.length) rfl (Sub.ownI hc81)) ?_
          refine an ?_
          refine sr ?_
          refine am (iV n76) rfl rfl ?_
          refine aa (iV n76) rfl rfl ?_
          refine an ?_
          refine rg ?_
          refine am (iV n76) rfl rfl ?_
          refine am (iV n64) rfl rfl ?_
          refine aops_bin (.int .i64 (w64 (2 * n64))) wants_none rfl rfl rfl rfl ?_
          refine aops_bin (.int .i64 (w64 (n76 + (w64 (2 * n64))))) wants_none rfl rfl rfl rfl ?_
          refine aa (iV (w64 (n76 + (w64 (2 * n64))))) rfl rfl ?_
          refine an ?_
          exact awp_back (ih3 (n76, (w64 (n76 + (w64 (2 * n64)))), y79) h) (ghost_ren 1 (fun i => ([0] : List Nat).getD i 0) _ _ (by decide) (EnvSub.get (.cons (Sub.own rfl rfl) (.cons (Sub.imm (Imm.con _)) (.cons (Sub.imm (Imm.fn .nil .nil)) (.cons (Sub.imm (Imm.con _)) (.cons (Sub.imm (Imm.con _)) (.cons (Sub.imm (Imm.con _)) .nil))))))) (HpSub.get (.cons rfl (ObSub.rows (rows_imm imms_encTWindow)) .nil)) rfl)
        replace h := ite_f hb78 h
        refine awp_exit ?_
        exact ⟨(n75, l77), h, (ghost_ren 1 (fun i => ([0] : List Nat).getD i 0) _ _ (by decide) (EnvSub.get (.cons (Sub.own rfl rfl) (.cons (Sub.imm (Imm.con _)) (.cons (Sub.imm (Imm.fn .nil .nil)) (.cons (Sub.imm (Imm.con _)) (.cons (Sub.imm (Imm.con _)) .nil)))))) (HpSub.get (.cons rfl (ObSub.rows (rows_imm imms_encTWindow)) .nil)) rfl)⟩
      clear h
      rintro ⟨n70, l71⟩ h
      subst hk69
      refine sq ?_
      refine sr ?_
      refine am (iV n70) rfl rfl ?_
      refine am (iV n64) rfl rfl ?_
      refine aops_bin (.int .i64 (w64 (n70 + n64))) wants_none rfl rfl rfl rfl ?_
      refine aa (iV (w64 (n70 + n64))) rfl rfl ?_
      refine an ?_
      refine sr ?_
      refine am (iV (w64 (n70 + n64))) rfl rfl ?_
      refine am (iV a1) rfl rfl ?_
      refine aops_bin (.bool (decide ((w64 (n70 + n64)) < a1))) wants_none rfl rfl rfl rfl ?_
      refine an ?_
      replace h := jn_elim h
      obtain ⟨k82, hk82, h⟩ := h
      refine awp_cut (fun (p : (List TWindow)) => (⟨[(0, (V.own 0 p.length)), (1, (iV a1)), (2, (V.fn (.func 134) [] [])), (6, (iV n64))], [(0, (Ob.arr 35 6 (p.map encTWindow)))], 1⟩ : St)) (fun (p : (List TWindow)) => k82 p = some r) ?_ ?_
      · clear hk82
        refine awp_cond (decide ((w64 (n70 + n64)) < a1)) rfl (fun hb84 => ?_) (fun hb84 => ?_)
        · replace h := ite_t hb84 h
          refine rg ?_
          refine am (V.own 0 l71.length) rfl rfl ?_
          refine am (iV n70) rfl rfl ?_
          refine am (iV (w64 (n70 + n64))) rfl rfl ?_
          refine am (iV a1) rfl rfl ?_
          refine am (V.fn (.func 134) [] []) rfl rfl ?_
          replace h := bind_some h
          obtain ⟨y85, hx86, h⟩ := h
          replace h := chk_some h
          obtain ⟨hc87, h⟩ := h
          refine aops_mcall (V.tup []) [(V.own 0 l71.length), (iV n70), (iV (w64 (n70 + n64))), (iV a1), (V.fn (.func 134) [] [])] (fun i => ([0] : List Nat).getD i 0) (fun i => ([0] : List Nat).getD i 0) 1 1 [(0, (Ob.arr 35 6 (y85.map encTWindow)))] fOk172 wants_none rfl (evm_cons rfl (evm_cons rfl (evm_cons rfl (evm_cons rfl (evm_cons rfl evm_nil))))) (.cons (Sub.own rfl rfl) (.cons (Sub.imm (Imm.con _)) (.cons (Sub.imm (Imm.con _)) (.cons (Sub.imm (Imm.con _)) (.cons (Sub.imm (Imm.fn .nil .nil)) .nil))))) (.cons rfl (ObSub.rows (rows_imm imms_encTWindow)) .nil) (W172 F n70 (w64 (n70 + n64)) a1 l71 y85 hx86) rfl rfl rfl rfl rfl (Sub.immT (Imm.tup .nil)) (.cons rfl (ObSub.rowsT (rows_imm imms_encTWindow)) .nil) ?_
          refine aops_ghost (ghost_tell 0 (V.own 0 y85.length) rfl (Sub.ownI hc87)) ?_
          refine aops_ghost (ghost_tell 55 (V.own 0 y85.length) rfl (Sub.ownI hc87)) ?_
          refine an ?_
          exact ⟨y85, h, (ghost_ren 1 (fun i => ([0] : List Nat).getD i 0) _ _ (by decide) (EnvSub.get (.cons (Sub.own rfl rfl) (.cons (Sub.imm (Imm.con _)) (.cons (Sub.imm (Imm.fn .nil .nil)) (.cons (Sub.imm (Imm.con _)) .nil))))) (HpSub.get (.cons rfl (ObSub.rows (rows_imm imms_encTWindow)) .nil)) rfl)⟩
        replace h := ite_f hb84 h
        refine awp_skip ?_
        exact ⟨l71, h, (ghost_ren 1 (fun i => ([0] : List Nat).getD i 0) _ _ (by decide) (EnvSub.get (.cons (Sub.own rfl rfl) (.cons (Sub.imm (Imm.con _)) (.cons (Sub.imm (Imm.fn .nil .nil)) (.cons (Sub.imm (Imm.con _)) .nil))))) (HpSub.get (.cons rfl (ObSub.rows (rows_imm imms_encTWindow)) .nil)) rfl)⟩
      clear h
      intro l83 h
      subst hk82
      refine rg ?_
      refine am (iV n64) rfl rfl ?_
      refine aops_bin (.int .i64 (w64 (n64 * 2))) wants_none rfl rfl rfl rfl ?_
      refine aa (iV (w64 (n64 * 2))) rfl rfl ?_
      refine an ?_
      exact ⟨l83, h, (ghost_ren 1 (fun i => ([0] : List Nat).getD i 0) _ _ (by decide) (EnvSub.get (.cons (Sub.own rfl rfl) (.cons (Sub.imm (Imm.con _)) (.cons (Sub.imm (Imm.fn .nil .nil)) (.cons (Sub.imm (Imm.con _)) .nil))))) (HpSub.get (.cons rfl (ObSub.rows (rows_imm imms_encTWindow)) .nil)) rfl)⟩
    clear h
    intro l68 h
    subst hk67
    exact awp_back (ih2 ((w64 (n64 * 2)), l68) h) (ghost_ren 1 (fun i => ([0] : List Nat).getD i 0) _ _ (by decide) (EnvSub.get (.cons (Sub.own rfl rfl) (.cons (Sub.imm (Imm.con _)) (.cons (Sub.imm (Imm.fn .nil .nil)) (.cons (Sub.imm (Imm.con _)) .nil))))) (HpSub.get (.cons rfl (ObSub.rows (rows_imm imms_encTWindow)) .nil)) rfl)
  replace h := ite_f hb66 h
  refine awp_exit ?_
  obtain rfl := Option.some.inj h
  exact ⟨.inr rfl, [], (ghost_ren 1 (fun i => ([0] : List Nat).getD i 0) _ _ (by decide) (EnvSub.get .nil) (HpSub.get (.cons rfl (ObSub.rows (rows_imm imms_encTWindow)) .nil)) rfl), .nil⟩
theorem W148 (F : Nat) (a1 : List TWindow) (r : (List TWindow)) (h : M148 F a1 = some r) : Mut Try.prog 148 [(V.own 0 a1.length), (V.fn (.func 134) [] [])] 1 [(0, (Ob.arr 35 6 (a1.map encTWindow)))] (resV []) 1 [(0, (Ob.arr 35 6 (r.map encTWindow)))] := by
  refine mut_enter Try.func148 rfl rfl (l := []) rfl rfl [(0, (V.own 0 a1.length)), (1, (V.fn (.func 134) [] []))] rfl (fun w0 m0 β0 => ?_)
  unfold M148 at h
  refine rg ?_
  refine am (V.own 0 a1.length) rfl rfl ?_
  refine am (V.own 0 a1.length) rfl rfl ?_
  refine aops_len (n := a1.length) tIsSl59 wants_none rfl rfl rfl ?_
  refine am (V.fn (.func 134) [] []) rfl rfl ?_
  replace h := bind_some h
  obtain ⟨y6, hx7, h⟩ := h
  replace h := chk_some h
  obtain ⟨hc8, h⟩ := h
  refine aops_mcall (V.tup []) [(V.own 0 a1.length), (iV ((a1.length : Nat) : Int)), (V.fn (.func 134) [] [])] (fun i => ([0] : List Nat).getD i 0) (fun i => ([0] : List Nat).getD i 0) 1 1 [(0, (Ob.arr 35 6 (y6.map encTWindow)))] fOk157 wants_none rfl (evm_cons rfl (evm_cons rfl (evm_cons rfl evm_nil))) (.cons (Sub.own rfl rfl) (.cons (Sub.imm (Imm.con _)) (.cons (Sub.imm (Imm.fn .nil .nil)) .nil))) (.cons rfl (ObSub.rows (rows_imm imms_encTWindow)) .nil) (W157 F ((a1.length : Nat) : Int) a1 y6 hx7) rfl rfl rfl rfl rfl (Sub.immT (Imm.tup .nil)) (.cons rfl (ObSub.rowsT (rows_imm imms_encTWindow)) .nil) ?_
  refine aops_ghost (ghost_tell 0 (V.own 0 y6.length) rfl (Sub.ownI hc8)) ?_
  refine aops_ghost (ghost_tell 4 (V.own 0 y6.length) rfl (Sub.ownI hc8)) ?_
  refine aops_ghost (ghost_tell 5 (V.own 0 y6.length) rfl (Sub.ownI hc8)) ?_
  refine an ?_
  obtain rfl := Option.some.inj h
  exact ⟨.inr rfl, [], (ghost_ren 1 (fun i => ([0] : List Nat).getD i 0) _ _ (by decide) (EnvSub.get .nil) (HpSub.get (.cons rfl (ObSub.rows (rows_imm imms_encTWindow)) .nil)) rfl), .nil⟩
theorem W133 (F : Nat) (a1 : (List TWindow)) (r : (List TWindow)) (h : M133 F a1 = some r) : Pure Try.prog 133 [(V.lst 6 (a1.map encTWindow)), (V.fn (.func 134) [] [])] (V.lst 6 (r.map encTWindow)) := by
  refine pure_enter Try.func133 rfl rfl (l := [.tmp 4]) rfl rfl [(0, (V.lst 6 (a1.map encTWindow))), (1, (V.fn (.func 134) [] []))] rfl (fun w0 m0 => ?_)
  unfold M133 at h
  refine sr ?_
  refine aa nV rfl rfl ?_
  refine an ?_
  refine sr ?_
  refine am (V.lst 6 (a1.map encTWindow)) rfl rfl ?_
  replace h := bind_some h
  obtain ⟨y2, hx3, h⟩ := h
  refine aops_mcall (V.own 0 y2.length) [(V.lst 6 (a1.map encTWindow))] (fun i => ([] : List Nat).getD i 0) (fun i => ([0] : List Nat).getD i 0) 0 1 [(0, (Ob.arr 35 6 (y2.map encTWindow)))] fOk147 wants_none rfl (evm_cons rfl evm_nil) (.cons (Sub.imm (Imm.lst _ _)) .nil) .nil (W147 F a1 y2 hx3) rfl rfl rfl rfl rfl (Sub.ownT rfl rfl) (.cons rfl (ObSub.rowsT (rows_imm imms_encTWindow)) .nil) ?_
  refine aa (V.own 0 y2.length) rfl rfl ?_
  refine an ?_
  refine sr ?_
  refine am (V.own 0 y2.length) rfl rfl ?_
  refine am (V.fn (.func 134) [] []) rfl rfl ?_
  replace h := bind_some h
  obtain ⟨y4, hx5, h⟩ := h
  replace h := chk_some h
  obtain ⟨hc6, h⟩ := h
  refine aops_mcall (V.tup []) [(V.own 0 y2.length), (V.fn (.func 134) [] [])] (fun i => ([0] : List Nat).getD i 0) (fun i => ([0] : List Nat).getD i 0) 1 1 [(0, (Ob.arr 35 6 (y4.map encTWindow)))] fOk148 wants_none rfl (evm_cons rfl (evm_cons rfl evm_nil)) (.cons (Sub.own rfl rfl) (.cons (Sub.imm (Imm.fn .nil .nil)) .nil)) (.cons rfl (ObSub.rows (rows_imm imms_encTWindow)) .nil) (W148 F y2 y4 hx5) rfl rfl rfl rfl rfl (Sub.immT (Imm.tup .nil)) (.cons rfl (ObSub.rowsT (rows_imm imms_encTWindow)) .nil) ?_
  refine aops_ghost (ghost_tell 7 (V.own 0 y4.length) rfl (Sub.ownI hc6)) ?_
  refine aops_ghost (ghost_tell 5 (V.own 0 y4.length) rfl (Sub.ownI hc6)) ?_
  refine aops_ghost (ghost_tell 8 (V.own 0 y4.length) rfl (Sub.ownI hc6)) ?_
  refine an ?_
  refine sr ?_
  refine am (V.own 0 y4.length) rfl rfl ?_
  refine aa (V.own 0 y4.length) rfl rfl ?_
  refine an ?_
  refine awp_ghost (ghost_frzE 0 4 rfl (rows_imm imms_encTWindow) rfl (List.length_map ..).symm) ?_
  refine awp_ret ?_
  obtain rfl := Option.some.inj h
  exact ⟨.inl rfl, .one (.tmp rfl (Imm.lst _ _))⟩
theorem W98 (F : Nat) (a1 : TStory) (r : (List TWindow)) (h : M98 F a1 = some r) : Pure Try.prog 98 [(V.agg (encTStory a1))] (V.lst 6 (r.map encTWindow)) := by
  refine pure_enter Try.func98 rfl rfl (l := [.tmp 2]) rfl rfl [(0, (V.agg (encTStory a1)))] rfl (fun w0 m0 => ?_)
  unfold M98 at h
  refine sr ?_
  refine aops_box (encTStory a1) wants_none rfl rfl rfl rfl ?_
  refine aa nV rfl rfl ?_
  refine an ?_
  refine sr ?_
  refine aa nV rfl rfl ?_
  refine an ?_
  refine sr ?_
  refine aops_makeMap wants_none rfl ?_
  refine aa (V.map 1) rfl rfl ?_
  refine an ?_
  refine sq ?_
  refine sr ?_
  refine aops_load_agg (cs := (encTStory a1)) tA52 wants_none rfl rfl rfl rfl rfl rfl ?_
  replace h := bind_some h
  obtain ⟨y2, hx3, h⟩ := h
  refine aops_call (V.lst 5 (y2.map encThistory_piece)) [(V.agg (encTStory a1))] fOk90 wants_none (evm_cons rfl evm_nil) (.cons (Imm.agg (imms_encTStory _)) .nil) (W90 F a1 y2 hx3) rfl ?_
  refine aops_len (n := y2.length) tIsSl125 wants_none rfl (congrArg some (List.length_map ..)) rfl ?_
  refine am (iV 0) rfl rfl ?_
  refine an ?_
  replace h := jn_elim h
  obtain ⟨k4, hk4, h⟩ := h
  refine awp_cut (fun (p : (List TWindow)) => (⟨[(1, (V.ptr 0 4 0 0)), (3, (V.own 1 p.length))], [(0, (Ob.arr 52 4 [(encTStory a1)])), (1, (Ob.arr 35 6 (p.map encTWindow)))], 2⟩ : St)) (fun (p : (List TWindow)) => k4 p = some r) ?_ ?_
  · clear hk4
    refine awp_block ?_
    refine awp_len (A := y2) 13 rfl (fun hA30 => ?_)
    refine awp_loop_ind (fun (p : Int × (List TWindow) × (List (Thistory_key × Int))) => (⟨[(1, (V.ptr 0 4 0 0)), (3, (V.own 1 (p.2.1).length)), (4, (V.map 2)), (13, (V.lst 5 (y2.map encThistory_piece))), (14, (iV ((y2.length : Nat) : Int))), (15, (iV (p.1)))], [(0, (Ob.arr 52 4 [(encTStory a1)])), (1, (Ob.arr 35 6 ((p.2.1).map encTWindow))), (2, (Ob.map ((p.2.2).map encM118_3)))], 3⟩ : St)) (fun n (p : Int × (List TWindow) × (List (Thistory_key × Int))) => RG y2 (fun tl nn => M98_L1 F k4 tl p.2.1 p.2.2 = some r) n p.1) (fun p h => RG.zero h) (fun n ih1 p h => ?_) (y2.length + 1) (0, ([] : List TWindow), ([] : List (Thistory_key × Int))) (RG.start h) (Ghost.trans (ghost_nilE 3 35 6 rfl) (ghost_ren 3 (fun i => ([0, 2, 1] : List Nat).getD i 0) _ _ (by decide) (EnvSub.get (.cons (Sub.ptr rfl rfl) (.cons (Sub.ownE rfl rfl (by simp)) (.cons (Sub.map rfl rfl) (.cons (Sub.imm (Imm.lst _ _)) (.cons (Sub.imm (Imm.con _)) (.cons (Sub.imm (Imm.con _)) .nil))))))) (HpSub.get (.cons rfl (ObSub.box (.cons (Sub.imm (Imm.con _)) (.cons (Sub.imm (Imm.lst _ _)) (.cons (Sub.imm (Imm.lst _ _)) (.cons (Sub.imm (Imm.con _)) .nil))))) (.cons rfl (ObSub.rows (rows_imm imms_encTWindow)) (.cons rfl (ObSub.maps encM118_3_imm) .nil)))) rfl))
    obtain ⟨n9, l10, m11⟩ := p
    refine awp_loop ?_
    refine sr ?_
    refine aops_bin (.bool (decide (n9 < ((y2.length : Nat) : Int)))) wants_none rfl rfl rfl rfl ?_
    refine an ?_
    refine sq ?_
    refine awp_cond (decide (n9 < ((y2.length : Nat) : Int))) rfl (fun hb12 => ?_) (fun hb12 => ?_)
    · obtain ⟨x16, tl, hx17, h, hk1⟩ := RG.t hA30 h hb12
      unfold M98_L1 at h
      refine awp_skip ?_
      refine sq ?_
      replace h := jn_elim h
      obtain ⟨k13, hk13, h⟩ := h
      refine awp_cut (fun (p : (List TWindow) × (List (Thistory_key × Int))) => (⟨[(1, (V.ptr 0 4 0 0)), (3, (V.own 1 (p.1).length)), (4, (V.map 2)), (13, (V.lst 5 (y2.map encThistory_piece))), (14, (iV ((y2.length : Nat) : Int))), (15, (iV n9))], [(0, (Ob.arr 52 4 [(encTStory a1)])), (1, (Ob.arr 35 6 ((p.1).map encTWindow))), (2, (Ob.map ((p.2).map encM118_3)))], 3⟩ : St)) (fun (p : (List TWindow) × (List (Thistory_key × Int))) => k13 p.1 p.2 = some r) ?_ ?_
      · clear hk13
        refine awp_block ?_
        refine sr ?_
        refine aops_index_lst (encThistory_piece x16) tSl125 wants_none rfl rfl (idx_some hx17).1 (idx_map encThistory_piece hx17) rfl ?_
        refine aops_iload_agg (cs := (encThistory_piece x16)) tA128 wants_none rfl rfl rfl rfl ?_
        refine aops_alloc tZ128 rfl rfl wants_none rfl ?_
        refine aops_store (encThistory_piece x16) [(encThistory_piece x16)] tS128 wants_none rfl rfl rfl rfl rfl rfl rfl rfl ?_
        refine an ?_
        refine sr ?_
        refine aops_fieldAddr tF128_0 wants_none rfl rfl ?_
        refine aops_load_agg (cs := (encTExposure x16.x)) tA47 wants_none rfl rfl rfl rfl rfl rfl ?_
        replace h := bind_some h
        obtain ⟨y18, hx19, h⟩ := h
        refine aops_call (V.agg (encThistory_key y18)) [(V.agg (encTExposure x16.x))] fOk84 wants_none (evm_cons rfl evm_nil) (.cons (Imm.agg (imms_encTExposure _)) .nil) (W84 F x16.x y18 hx19) rfl ?_
        refine aops_alloc tZ118 rfl rfl wants_none rfl ?_
        refine aops_store (encThistory_key y18) [(encThistory_key y18)] tS118 wants_none rfl rfl rfl rfl rfl rfl rfl rfl ?_
        refine an ?_
        refine sq ?_
        refine sr ?_
        refine am (V.map 2) rfl rfl ?_
        refine aops_load_agg (cs := (encThistory_key y18)) tA118 wants_none rfl rfl rfl rfl rfl rfl ?_
        refine aops_lookup_okB _ (iV 0) (iV ((mget m11 y18).getD 0)) tMap172 tKey118 tZo3 (irel_con _) wants_none rfl (.own rfl) (.agg (cv118 y18) rfl) ⟨_, rfl⟩ encM118_3_good (encM118_3_look m11 y18) (getD_map (encM118_3_val) (mget m11 y18) 0) (isSome_map ..) rfl ?_
        refine am (V.tup [(iV ((mget m11 y18).getD 0)), (bV ((mget m11 y18).isSome))]) rfl rfl ?_
        refine aops_extract (iV ((mget m11 y18).getD 0)) wants_none rfl rfl rfl ?_
        refine aops_extract (bV ((mget m11 y18).isSome)) wants_none rfl rfl rfl ?_
        refine aa (iV ((mget m11 y18).getD 0)) rfl rfl ?_
        refine aa (bV ((mget m11 y18).isSome)) rfl rfl ?_
        refine an ?_
        refine sq ?_
        rcases Bool.eq_false_or_eq_true ((mget m11 y18).isSome) with hb20 | hb20
        · replace h := ite_t hb20 h
          replace h := bind_some h
          obtain ⟨x21, hx22, h⟩ := h
          refine awp_any [OD.mk [(9, (bV ((mget m11 y18).isSome)))] [] [(28, (bV ((mget m11 y18).isSome)))] [],
                OD.mk [(28, (bV ((mget m11 y18).isSome)))] [] [(29, (bV ((mget m11 y18).isSome)))] [],
                OD.mk [(29, (bV ((mget m11 y18).isSome))), (3, (V.own 1 l10.length))] [] [(30, (V.own 1 l10.length))] [],
                OD.mk [(29, (bV ((mget m11 y18).isSome))), (8, (iV ((mget m11 y18).getD 0)))] [] [(31, (iV ((mget m11 y18).getD 0)))] [],
                OD.mk [(29, (bV ((mget m11 y18).isSome))), (30, (V.own 1 l10.length)), (31, (iV ((mget m11 y18).getD 0)))] [] [(32, (V.ptr 1 6 ((mget m11 y18).getD 0).toNat 0))] [],
                OD.mk [(29, (bV ((mget m11 y18).isSome))), (32, (V.ptr 1 6 ((mget m11 y18).getD 0).toNat 0))] [] [(33, (V.ptr 1 6 ((mget m11 y18).getD 0).toNat 4))] [],
                OD.mk [(29, (bV ((mget m11 y18).isSome))), (33, (V.ptr 1 6 ((mget m11 y18).getD 0).toNat 4))] [(1, (Ob.arr 35 6 (l10.map encTWindow)))] [(34, (iV x21.To))] [],
                OD.mk [(29, (bV ((mget m11 y18).isSome))), (6, (V.ptr 3 5 0 0))] [] [(35, (V.ptr 3 5 0 3))] [],
                OD.mk [(29, (bV ((mget m11 y18).isSome))), (35, (V.ptr 3 5 0 3))] [(3, (Ob.arr 128 5 [(encThistory_piece x16)]))] [(36, (iV x16.from_))] [],
                OD.mk [(29, (bV ((mget m11 y18).isSome))), (34, (iV x21.To)), (36, (iV x16.from_))] [] [(37, (bV (x21.To == x16.from_)))] [],
                OD.mk [(29, (bV ((mget m11 y18).isSome))), (37, (bV (x21.To == x16.from_)))] [] [(38, (bV (x21.To == x16.from_)))] []] mixed ⟨⟨rfl, trivial⟩, trivial, ⟨⟨rfl, trivial⟩, trivial, ⟨⟨rfl, rfl, trivial⟩, trivial, ⟨⟨rfl, rfl, trivial⟩, trivial, ⟨⟨rfl, rfl, rfl, trivial⟩, trivial, ⟨⟨rfl, rfl, trivial⟩, trivial, ⟨⟨rfl, rfl, trivial⟩, ⟨rfl, trivial⟩, ⟨⟨rfl, rfl, trivial⟩, trivial, ⟨⟨rfl, rfl, trivial⟩, ⟨rfl, trivial⟩, ⟨⟨rfl, rfl, rfl, trivial⟩, trivial, ⟨⟨rfl, rfl, trivial⟩, trivial, trivial⟩⟩⟩⟩⟩⟩⟩⟩⟩⟩⟩ (by kernel_rfl) (.cons (fun S hn h hh => aops_move (bV ((mget m11 y18).isSome)) wants_none h.1 rfl (an ⟨rfl, rfl⟩)) (.cons (fun S hn h hh => aops_move (bV ((mget m11 y18).isSome)) wants_none h.1 rfl (an ⟨rfl, rfl⟩)) (.cons (fun S hn h hh => aops_move (V.own 1 l10.length) (wants_some (c := ((mget m11 y18).isSome)) (b := true) 29 rfl h.1 hb20) h.2.1 rfl (an ⟨rfl, rfl⟩)) (.cons (fun S hn h hh => aops_move (iV ((mget m11 y18).getD 0)) (wants_some (c := ((mget m11 y18).isSome)) (b := true) 29 rfl h.1 hb20) h.2.1 rfl (an ⟨rfl, rfl⟩)) (.cons (fun S hn h hh => aops_index_own tSl59 (wants_some (c := ((mget m11 y18).isSome)) (b := true) 29 rfl h.1 hb20) h.2.1 h.2.2.1 (idx_some hx22).1 (by simpa using idx_lt hx22) rfl (an ⟨rfl, rfl⟩)) (.cons (fun S hn h hh => aops_fieldAddr tF35_4 (wants_some (c := ((mget m11 y18).isSome)) (b := true) 29 rfl h.1 hb20) h.2.1 rfl (an ⟨rfl, rfl⟩)) (.cons (fun S hn h hh => aops_load_cell (iV x21.To) tC3 (wants_some (c := ((mget m11 y18).isSome)) (b := true) 29 rfl h.1 hb20) h.2.1 hh.1 (idx_map encTWindow hx22) rfl rfl (an ⟨rfl, rfl⟩)) (.cons (fun S hn h hh => aops_fieldAddr tF128_1 (wants_some (c := ((mget m11 y18).isSome)) (b := true) 29 rfl h.1 hb20) h.2.1 rfl (an ⟨rfl, rfl⟩)) (.cons (fun S hn h hh => aops_load_cell (iV x16.from_) tC3 (wants_some (c := ((mget m11 y18).isSome)) (b := true) 29 rfl h.1 hb20) h.2.1 hh.1 rfl rfl rfl (an ⟨rfl, rfl⟩)) (.cons (fun S hn h hh => aops_bin (.bool (x21.To == x16.from_)) (wants_some (c := ((mget m11 y18).isSome)) (b := true) 29 rfl h.1 hb20) h.2.1 h.2.2.1 rfl rfl (an ⟨rfl, rfl⟩)) (.cons (fun S hn h hh => aops_pick true (cb := ((mget m11 y18).isSome)) (bV (x21.To == x16.from_)) wants_none h.1 hb20 h.2.1 rfl (an ⟨rfl, rfl⟩)) .nil))))))))))) ?_
          refine awp_cond (x21.To == x16.from_) rfl (fun hb23 => ?_) (fun hb23 => ?_)
          · replace h := ite_t hb23 h
            refine sq ?_
            replace h := bind_some h
            obtain ⟨x24, hx25, h⟩ := h
            replace h := bind_some h
            obtain ⟨x26, hx27, h⟩ := h
            refine awp_any [OD.mk [(3, (V.own 1 l10.length))] [] [(39, (V.own 1 l10.length))] [],
                  OD.mk [(8, (iV ((mget m11 y18).getD 0)))] [] [(40, (iV ((mget m11 y18).getD 0)))] [],
                  OD.mk [(3, (V.own 1 l10.length))] [] [(41, (V.own 1 l10.length))] [],
                  OD.mk [(8, (iV ((mget m11 y18).getD 0)))] [] [(42, (iV ((mget m11 y18).getD 0)))] [],
                  OD.mk [(6, (V.ptr 3 5 0 0))] [] [(43, (V.ptr 3 5 0 4))] [],
                  OD.mk [(43, (V.ptr 3 5 0 4))] [(3, (Ob.arr 128 5 [(encThistory_piece x16)]))] [(44, (iV x16.to))] [],
                  OD.mk [(6, (V.ptr 3 5 0 0))] [] [(45, (V.ptr 3 5 0 0))] [],
                  OD.mk [(45, (V.ptr 3 5 0 0))] [] [(46, (V.ptr 3 5 0 2))] [],
                  OD.mk [(46, (V.ptr 3 5 0 2))] [(3, (Ob.arr 128 5 [(encThistory_piece x16)]))] [(47, (iV x16.x.Severity))] [],
                  OD.mk [(39, (V.own 1 l10.length)), (40, (iV ((mget m11 y18).getD 0)))] [] [(48, (V.ptr 1 6 ((mget m11 y18).getD 0).toNat 0))] [],
                  OD.mk [(48, (V.ptr 1 6 ((mget m11 y18).getD 0).toNat 0))] [] [(49, (V.ptr 1 6 ((mget m11 y18).getD 0).toNat 4))] [],
                  OD.mk [(49, (V.ptr 1 6 ((mget m11 y18).getD 0).toNat 4)), (44, (iV x16.to))] [(1, (Ob.arr 35 6 (l10.map encTWindow)))] [] [(1, (Ob.arr 35 6 ((l10.set ((mget m11 y18).getD 0).toNat (TWindow.mk x24.Advisory x24.Component x24.Severity x24.From x16.to x24.Open)).map encTWindow)))],
                  OD.mk [(41, (V.own 1 l10.length)), (42, (iV ((mget m11 y18).getD 0)))] [] [(50, (V.ptr 1 6 ((mget m11 y18).getD 0).toNat 0))] [],
                  OD.mk [(50, (V.ptr 1 6 ((mget m11 y18).getD 0).toNat 0))] [] [(51, (V.ptr 1 6 ((mget m11 y18).getD 0).toNat 2))] [],
                  OD.mk [(51, (V.ptr 1 6 ((mget m11 y18).getD 0).toNat 2)), (47, (iV x16.x.Severity))] [(1, (Ob.arr 35 6 ((l10.set ((mget m11 y18).getD 0).toNat (TWindow.mk x24.Advisory x24.Component x24.Severity x24.From x16.to x24.Open)).map encTWindow)))] [] [(1, (Ob.arr 35 6 (((l10.set ((mget m11 y18).getD 0).toNat (TWindow.mk x24.Advisory x24.Component x24.Severity x24.From x16.to x24.Open)).set ((mget m11 y18).getD 0).toNat (TWindow.mk x26.Advisory x26.Component x16.x.Severity x26.From x26.To x26.Open)).map encTWindow)))]] mixed ⟨⟨rfl, trivial⟩, trivial, ⟨⟨rfl, trivial⟩, trivial, ⟨⟨rfl, trivial⟩, trivial, ⟨⟨rfl, trivial⟩, trivial, ⟨⟨rfl, trivial⟩, trivial, ⟨⟨rfl, trivial⟩, ⟨rfl, trivial⟩, ⟨⟨rfl, trivial⟩, trivial, ⟨⟨rfl, trivial⟩, trivial, ⟨⟨rfl, trivial⟩, ⟨rfl, trivial⟩, ⟨⟨rfl, rfl, trivial⟩, trivial, ⟨⟨rfl, trivial⟩, trivial, ⟨⟨rfl, rfl, trivial⟩, ⟨rfl, trivial⟩, ⟨⟨rfl, rfl, trivial⟩, trivial, ⟨⟨rfl, trivial⟩, trivial, ⟨⟨rfl, rfl, trivial⟩, ⟨rfl, trivial⟩, trivial⟩⟩⟩⟩⟩⟩⟩⟩⟩⟩⟩⟩⟩⟩⟩ (by kernel_rfl) (.cons (fun S hn h hh => aops_move (V.own 1 l10.length) wants_none h.1 rfl (an ⟨rfl, rfl⟩)) (.cons (fun S hn h hh => aops_move (iV ((mget m11 y18).getD 0)) wants_none h.1 rfl (an ⟨rfl, rfl⟩)) (.cons (fun S hn h hh => aops_move (V.own 1 l10.length) wants_none h.1 rfl (an ⟨rfl, rfl⟩)) (.cons (fun S hn h hh => aops_move (iV ((mget m11 y18).getD 0)) wants_none h.1 rfl (an ⟨rfl, rfl⟩)) (.cons (fun S hn h hh => aops_fieldAddr tF128_2 wants_none h.1 rfl (an ⟨rfl, rfl⟩)) (.cons (fun S hn h hh => aops_load_cell (iV x16.to) tC3 wants_none h.1 hh.1 rfl rfl rfl (an ⟨rfl, rfl⟩)) (.cons (fun S hn h hh => aops_fieldAddr tF128_0 wants_none h.1 rfl (an ⟨rfl, rfl⟩)) (.cons (fun S hn h hh => aops_fieldAddr tF47_2 wants_none h.1 rfl (an ⟨rfl, rfl⟩)) (.cons (fun S hn h hh => aops_load_cell (iV x16.x.Severity) tC3 wants_none h.1 hh.1 rfl rfl rfl (an ⟨rfl, rfl⟩)) (.cons (fun S hn h hh => aops_index_own tSl59 wants_none h.1 h.2.1 (idx_some hx25).1 (by simpa using idx_lt hx25) rfl (an ⟨rfl, rfl⟩)) (.cons (fun S hn h hh => aops_fieldAddr tF35_4 wants_none h.1 rfl (an ⟨rfl, rfl⟩)) (.cons (fun S hn h hh => aops_store [(iV x16.to)] ((l10.set ((mget m11 y18).getD 0).toNat (TWindow.mk x24.Advisory x24.Component x24.Severity x24.From x16.to x24.Open)).map encTWindow) tS3 wants_none h.1 h.2.1 rfl rfl hh.1 (idx_map encTWindow hx25) rfl (map_set encTWindow l10 _ (TWindow.mk x24.Advisory x24.Component x24.Severity x24.From x16.to x24.Open)) (an ⟨rfl, rfl⟩)) (.cons (fun S hn h hh => aops_index_own tSl59 wants_none h.1 h.2.1 (idx_some hx27).1 (by simpa using idx_lt hx27) rfl (an ⟨rfl, rfl⟩)) (.cons (fun S hn h hh => aops_fieldAddr tF35_2 wants_none h.1 rfl (an ⟨rfl, rfl⟩)) (.cons (fun S hn h hh => aops_store [(iV x16.x.Severity)] (((l10.set ((mget m11 y18).getD 0).toNat (TWindow.mk x24.Advisory x24.Component x24.Severity x24.From x16.to x24.Open)).set ((mget m11 y18).getD 0).toNat (TWindow.mk x26.Advisory x26.Component x16.x.Severity x26.From x26.To x26.Open)).map encTWindow) tS3 wants_none h.1 h.2.1 rfl rfl hh.1 (idx_map encTWindow hx27) rfl (map_set encTWindow (l10.set ((mget m11 y18).getD 0).toNat (TWindow.mk x24.Advisory x24.Component x24.Severity x24.From x16.to x24.Open)) _ (TWindow.mk x26.Advisory x26.Component x16.x.Severity x26.From x26.To x26.Open)) (an ⟨rfl, rfl⟩)) .nil))))))))))))))) ?_
            refine awp_exit ?_
            exact ⟨(((l10.set ((mget m11 y18).getD 0).toNat (TWindow.mk x24.Advisory x24.Component x24.Severity x24.From x16.to x24.Open)).set ((mget m11 y18).getD 0).toNat (TWindow.mk x26.Advisory x26.Component x16.x.Severity x26.From x26.To x26.Open)), m11), h, (ghost_ren 3 (fun i => ([0, 1, 2] : List Nat).getD i 0) _ _ (by decide) (EnvSub.get (.cons (Sub.ptr rfl rfl) (.cons (Sub.ownE rfl rfl (by simp)) (.cons (Sub.map rfl rfl) (.cons (Sub.imm (Imm.lst _ _)) (.cons (Sub.imm (Imm.con _)) (.cons (Sub.imm (Imm.con _)) .nil))))))) (HpSub.get (.cons rfl (ObSub.box (.cons (Sub.imm (Imm.con _)) (.cons (Sub.imm (Imm.lst _ _)) (.cons (Sub.imm (Imm.lst _ _)) (.cons (Sub.imm (Imm.con _)) .nil))))) (.cons rfl (ObSub.rows (rows_imm imms_encTWindow)) (.cons rfl (ObSub.maps encM118_3_imm) .nil)))) rfl)⟩
          replace h := ite_f hb23 h
          refine awp_skip ?_
          refine sr ?_
          refine am (V.map 2) rfl rfl ?_
          refine aops_load_agg (cs := (encThistory_key y18)) tA118 wants_none rfl rfl rfl rfl rfl rfl ?_
          refine am (V.own 1 l10.length) rfl rfl ?_
          refine aops_len (n := l10.length) tIsSl59 wants_none rfl rfl rfl ?_
          refine aops_mapUpdate ((mput m11 y18 ((l10.length : Nat) : Int)).map encM118_3) tMap172 tKey118 wants_none rfl rfl (.agg (cv118 y18) rfl) ⟨_, rfl⟩ encM118_3_good rfl (encM118_3_puts m11 y18 ((l10.length : Nat) : Int)) ?_
          refine an ?_
          refine rg ?_
          refine am (V.own 1 l10.length) rfl rfl ?_
          refine aops_fieldAddr tF128_0 wants_none rfl rfl ?_
          refine aops_fieldAddr tF47_0 wants_none rfl rfl ?_
          refine aops_load_cell (sV x16.x.Advisory) tC9 wants_none rfl rfl rfl rfl rfl ?_
          refine aops_fieldAddr tF128_0 wants_none rfl rfl ?_
          refine aops_fieldAddr tF47_1 wants_none rfl rfl ?_
          refine aops_load_cell (sV x16.x.Component) tC9 wants_none rfl rfl rfl rfl rfl ?_
          refine aops_fieldAddr tF128_0 wants_none rfl rfl ?_
          refine aops_fieldAddr tF47_2 wants_none rfl rfl ?_
          refine aops_load_cell (iV x16.x.Severity) tC3 wants_none rfl rfl rfl rfl rfl ?_
          refine aops_fieldAddr tF128_1 wants_none rfl rfl ?_
          refine aops_load_cell (iV x16.from_) tC3 wants_none rfl rfl rfl rfl rfl ?_
          refine aops_fieldAddr tF128_2 wants_none rfl rfl ?_
          refine aops_load_cell (iV x16.to) tC3 wants_none rfl rfl rfl rfl rfl ?_
          refine aops_build [(0, (sV x16.x.Advisory)), (1, (sV x16.x.Component)), (2, (iV x16.x.Severity)), (3, (iV x16.from_)), (4, (iV x16.to))] [(sV x16.x.Advisory), (sV x16.x.Component), (iV x16.x.Severity), (iV x16.from_), (iV x16.to), (bV false)] tZ35 tPl35 rfl wants_none (evp_cons rfl (evp_cons rfl (evp_cons rfl (evp_cons rfl (evp_cons rfl evp_nil))))) rfl rfl ?_
          refine aops_buildSlice [(0, (V.agg [(sV x16.x.Advisory), (sV x16.x.Component), (iV x16.x.Severity), (iV x16.from_), (iV x16.to), (bV false)]))] [[(sV x16.x.Advisory), (sV x16.x.Component), (iV x16.x.Severity), (iV x16.from_), (iV x16.to), (bV false)]] tEl59 tZ35 rfl rfl rfl rfl wants_none (evp_cons rfl evp_nil) rfl rfl (by simp) rfl ?_
          replace h := chk_some h
          obtain ⟨hc28, h⟩ := h
          refine aops_append [[(sV x16.x.Advisory), (sV x16.x.Component), (iV x16.x.Severity), (iV x16.from_), (iV x16.to), (bV false)]] ((l10 ++ ([(TWindow.mk x16.x.Advisory x16.x.Component x16.x.Severity x16.from_ x16.to false)] : List TWindow)).map encTWindow) tEl59 tIsSl59 rfl rfl wants_none rfl rfl (by simp) rfl (.own rfl (by simp)) (map_snoc encTWindow l10 ([(TWindow.mk x16.x.Advisory x16.x.Component x16.x.Severity x16.from_ x16.to false)] : List TWindow)) (List.length_map ..) hc28 rfl ?_
          refine aa (V.own 6 (l10 ++ ([(TWindow.mk x16.x.Advisory x16.x.Component x16.x.Severity x16.from_ x16.to false)] : List TWindow)).length) rfl rfl ?_
          refine an ?_
          exact ⟨((l10 ++ ([(TWindow.mk x16.x.Advisory x16.x.Component x16.x.Severity x16.from_ x16.to false)] : List TWindow)), (mput m11 y18 ((l10.length : Nat) : Int))), h, (ghost_ren 3 (fun i => ([0, 6, 2] : List Nat).getD i 0) _ _ (by decide) (EnvSub.get (.cons (Sub.ptr rfl rfl) (.cons (Sub.own rfl rfl) (.cons (Sub.map rfl rfl) (.cons (Sub.imm (Imm.lst _ _)) (.cons (Sub.imm (Imm.con _)) (.cons (Sub.imm (Imm.con _)) .nil))))))) (HpSub.get (.cons rfl (ObSub.box (.cons (Sub.imm (Imm.con _)) (.cons (Sub.imm (Imm.lst _ _)) (.cons (Sub.imm (Imm.lst _ _)) (.cons (Sub.imm (Imm.con _)) .nil))))) (.cons rfl (ObSub.rows (rows_imm imms_encTWindow)) (.cons rfl (ObSub.maps encM118_3_imm) .nil)))) rfl)⟩
        replace h := ite_f hb20 h
        refine awp_any [OD.mk [(9, (bV ((mget m11 y18).isSome)))] [] [(28, (bV ((mget m11 y18).isSome)))] [],
              OD.mk [(28, (bV ((mget m11 y18).isSome)))] [] [(29, (bV ((mget m11 y18).isSome)))] [],
              OD.mk [(29, (bV ((mget m11 y18).isSome)))] [] [(30, (V.con undef))] [],
              OD.mk [(29, (bV ((mget m11 y18).isSome)))] [] [(31, (V.con undef))] [],
              OD.mk [(29, (bV ((mget m11 y18).isSome)))] [] [(32, (V.con undef))] [],
              OD.mk [(29, (bV ((mget m11 y18).isSome)))] [] [(33, (V.con undef))] [],
              OD.mk [(29, (bV ((mget m11 y18).isSome)))] [] [(34, (V.con undef))] [],
              OD.mk [(29, (bV ((mget m11 y18).isSome)))] [] [(35, (V.con undef))] [],
              OD.mk [(29, (bV ((mget m11 y18).isSome)))] [] [(36, (V.con undef))] [],
              OD.mk [(29, (bV ((mget m11 y18).isSome)))] [] [(37, (V.con undef))] [],
              OD.mk [(29, (bV ((mget m11 y18).isSome)))] [] [(38, (bV false))] []] mixed ⟨⟨rfl, trivial⟩, trivial, ⟨⟨rfl, trivial⟩, trivial, ⟨⟨rfl, trivial⟩, trivial, ⟨⟨rfl, trivial⟩, trivial, ⟨⟨rfl, trivial⟩, trivial, ⟨⟨rfl, trivial⟩, trivial, ⟨⟨rfl, trivial⟩, trivial, ⟨⟨rfl, trivial⟩, trivial, ⟨⟨rfl, trivial⟩, trivial, ⟨⟨rfl, trivial⟩, trivial, ⟨⟨rfl, trivial⟩, trivial, trivial⟩⟩⟩⟩⟩⟩⟩⟩⟩⟩⟩ (by kernel_rfl) (.cons (fun S hn h hh => aops_move (bV ((mget m11 y18).isSome)) wants_none h.1 rfl (an ⟨rfl, rfl⟩)) (.cons (fun S hn h hh => aops_move (bV ((mget m11 y18).isSome)) wants_none h.1 rfl (an ⟨rfl, rfl⟩)) (.cons (fun S hn h hh => aops_skip (wants_some (c := ((mget m11 y18).isSome)) (b := false) 29 rfl h.1 hb20) rfl rfl (an ⟨rfl, rfl⟩)) (.cons (fun S hn h hh => aops_skip (wants_some (c := ((mget m11 y18).isSome)) (b := false) 29 rfl h.1 hb20) rfl rfl (an ⟨rfl, rfl⟩)) (.cons (fun S hn h hh => aops_skip (wants_some (c := ((mget m11 y18).isSome)) (b := false) 29 rfl h.1 hb20) rfl rfl (an ⟨rfl, rfl⟩)) (.cons (fun S hn h hh => aops_skip (wants_some (c := ((mget m11 y18).isSome)) (b := false) 29 rfl h.1 hb20) rfl rfl (an ⟨rfl, rfl⟩)) (.cons (fun S hn h hh => aops_skip (wants_some (c := ((mget m11 y18).isSome)) (b := false) 29 rfl h.1 hb20) rfl rfl (an ⟨rfl, rfl⟩)) (.cons (fun S hn h hh => aops_skip (wants_some (c := ((mget m11 y18).isSome)) (b := false) 29 rfl h.1 hb20) rfl rfl (an ⟨rfl, rfl⟩)) (.cons (fun S hn h hh => aops_skip (wants_some (c := ((mget m11 y18).isSome)) (b := false) 29 rfl h.1 hb20) rfl rfl (an ⟨rfl, rfl⟩)) (.cons (fun S hn h hh => aops_skip (wants_some (c := ((mget m11 y18).isSome)) (b := false) 29 rfl h.1 hb20) rfl rfl (an ⟨rfl, rfl⟩)) (.cons (fun S hn h hh => aops_pick false (cb := ((mget m11 y18).isSome)) (bV false) wants_none h.1 hb20 rfl rfl (an ⟨rfl, rfl⟩)) .nil))))))))))) ?_
        refine awp_cond_f rfl rfl ?_
        refine awp_skip ?_
        refine sr ?_
        refine am (V.map 2) rfl rfl ?_
        refine aops_load_agg (cs := (encThistory_key y18)) tA118 wants_none rfl rfl rfl rfl rfl rfl ?_
        refine am (V.own 1 l10.length) rfl rfl ?_
        refine aops_len (n := l10.length) tIsSl59 wants_none rfl rfl rfl ?_
        refine aops_mapUpdate ((mput m11 y18 ((l10.length : Nat) : Int)).map encM118_3) tMap172 tKey118 wants_none rfl rfl (.agg (cv118 y18) rfl) ⟨_, rfl⟩ encM118_3_good rfl (encM118_3_puts m11 y18 ((l10.length : Nat) : Int)) ?_
        refine an ?_
        refine rg ?_
        refine am (V.own 1 l10.length) rfl rfl ?_
        refine aops_fieldAddr tF128_0 wants_none rfl rfl ?_
        refine aops_fieldAddr tF47_0 wants_none rfl rfl ?_
        refine aops_load_cell (sV x16.x.Advisory) tC9 wants_none rfl rfl rfl rfl rfl ?_
        refine aops_fieldAddr tF128_0 wants_none rfl rfl ?_
        refine aops_fieldAddr tF47_1 wants_none rfl rfl ?_
        refine aops_load_cell (sV x16.x.Component) tC9 wants_none rfl rfl rfl rfl rfl ?_
        refine aops_fieldAddr tF128_0 wants_none rfl rfl ?_
        refine aops_fieldAddr tF47_2 wants_none rfl rfl ?_
        refine aops_load_cell (iV x16.x.Severity) tC3 wants_none rfl rfl rfl rfl rfl ?_
        refine aops_fieldAddr tF128_1 wants_none rfl rfl ?_
        refine aops_load_cell (iV x16.from_) tC3 wants_none rfl rfl rfl rfl rfl ?_
        refine aops_fieldAddr tF128_2 wants_none rfl rfl ?_
        refine aops_load_cell (iV x16.to) tC3 wants_none rfl rfl rfl rfl rfl ?_
        refine aops_build [(0, (sV x16.x.Advisory)), (1, (sV x16.x.Component)), (2, (iV x16.x.Severity)), (3, (iV x16.from_)), (4, (iV x16.to))] [(sV x16.x.Advisory), (sV x16.x.Component), (iV x16.x.Severity), (iV x16.from_), (iV x16.to), (bV false)] tZ35 tPl35 rfl wants_none (evp_cons rfl (evp_cons rfl (evp_cons rfl (evp_cons rfl (evp_cons rfl evp_nil))))) rfl rfl ?_
        refine aops_buildSlice [(0, (V.agg [(sV x16.x.Advisory), (sV x16.x.Component), (iV x16.x.Severity), (iV x16.from_), (iV x16.to), (bV false)]))] [[(sV x16.x.Advisory), (sV x16.x.Component), (iV x16.x.Severity), (iV x16.from_), (iV x16.to), (bV false)]] tEl59 tZ35 rfl rfl rfl rfl wants_none (evp_cons rfl evp_nil) rfl rfl (by simp) rfl ?_
        replace h := chk_some h
        obtain ⟨hc29, h⟩ := h
        refine aops_append [[(sV x16.x.Advisory), (sV x16.x.Component), (iV x16.x.Severity), (iV x16.from_), (iV x16.to), (bV false)]] ((l10 ++ ([(TWindow.mk x16.x.Advisory x16.x.Component x16.x.Severity x16.from_ x16.to false)] : List TWindow)).map encTWindow) tEl59 tIsSl59 rfl rfl wants_none rfl rfl (by simp) rfl (.own rfl (by simp)) (map_snoc encTWindow l10 ([(TWindow.mk x16.x.Advisory x16.x.Component x16.x.Severity x16.from_ x16.to false)] : List TWindow)) (List.length_map ..) hc29 rfl ?_
        refine aa (V.own 6 (l10 ++ ([(TWindow.mk x16.x.Advisory x16.x.Component x16.x.Severity x16.from_ x16.to false)] : List TWindow)).length) rfl rfl ?_
        refine an ?_
        exact ⟨((l10 ++ ([(TWindow.mk x16.x.Advisory x16.x.Component x16.x.Severity x16.from_ x16.to false)] : List TWindow)), (mput m11 y18 ((l10.length : Nat) : Int))), h, (ghost_ren 3 (fun i => ([0, 6, 2] : List Nat).getD i 0) _ _ (by decide) (EnvSub.get (.cons (Sub.ptr rfl rfl) (.cons (Sub.own rfl rfl) (.cons (Sub.map rfl rfl) (.cons (Sub.imm (Imm.lst _ _)) (.cons (Sub.imm (Imm.con _)) (.cons (Sub.imm (Imm.con _)) .nil))))))) (HpSub.get (.cons rfl (ObSub.box (.cons (Sub.imm (Imm.con _)) (.cons (Sub.imm (Imm.lst _ _)) (.cons (Sub.imm (Imm.lst _ _)) (.cons (Sub.imm (Imm.con _)) .nil))))) (.cons rfl (ObSub.rows (rows_imm imms_encTWindow)) (.cons rfl (ObSub.maps encM118_3_imm) .nil)))) rfl)⟩
      clear h
      rintro ⟨l14, m15⟩ h
      subst hk13
      refine rg ?_
      refine aops_bin (.int .i64 (w64 (n9 + 1))) wants_none rfl rfl rfl rfl ?_
      refine am (iV (w64 (n9 + 1))) rfl rfl ?_
      refine an ?_
      exact awp_back (ih1 ((w64 (n9 + 1)), l14, m15) (hk1 _ h)) (ghost_ren 3 (fun i => ([0, 1, 2] : List Nat).getD i 0) _ _ (by decide) (EnvSub.get (.cons (Sub.ptr rfl rfl) (.cons (Sub.own rfl rfl) (.cons (Sub.map rfl rfl) (.cons (Sub.imm (Imm.lst _ _)) (.cons (Sub.imm (Imm.con _)) (.cons (Sub.imm (Imm.con _)) .nil))))))) (HpSub.get (.cons rfl (ObSub.box (.cons (Sub.imm (Imm.con _)) (.cons (Sub.imm (Imm.lst _ _)) (.cons (Sub.imm (Imm.lst _ _)) (.cons (Sub.imm (Imm.con _)) .nil))))) (.cons rfl (ObSub.rows (rows_imm imms_encTWindow)) (.cons rfl (ObSub.maps encM118_3_imm) .nil)))) rfl)
    replace h := RG.f h hb12
    unfold M98_L1 at h
    refine awp_exit ?_
    exact ⟨l10, h, (ghost_ren 2 (fun i => ([0, 1] : List Nat).getD i 0) _ _ (by decide) (EnvSub.get (.cons (Sub.ptr rfl rfl) (.cons (Sub.own rfl rfl) .nil))) (HpSub.get (.cons rfl (ObSub.box (.cons (Sub.imm (Imm.con _)) (.cons (Sub.imm (Imm.lst _ _)) (.cons (Sub.imm (Imm.lst _ _)) (.cons (Sub.imm (Imm.con _)) .nil))))) (.cons rfl (ObSub.rows (rows_imm imms_encTWindow)) .nil))) rfl)⟩
  clear h
  intro l5 h
  subst hk4
  refine sq ?_
  refine sr ?_
  refine am (V.own 1 l5.length) rfl rfl ?_
  refine aops_len (n := l5.length) tIsSl59 wants_none rfl rfl rfl ?_
  refine am (iV 0) rfl rfl ?_
  refine an ?_
  replace h := jn_elim h
  obtain ⟨k31, hk31, h⟩ := h
  refine awp_cut (fun (p : (List TWindow)) => (⟨[(3, (V.own 0 p.length))], [(0, (Ob.arr 35 6 (p.map encTWindow)))], 1⟩ : St)) (fun (p : (List TWindow)) => k31 p = some r) ?_ ?_
  · clear hk31
    refine awp_block ?_
    refine awp_lenO (A := l5) 1 rfl (fun hA42 => ?_)
    refine awp_loop_ind (fun (p : Int × (List TWindow)) => (⟨[(1, (V.ptr 0 4 0 0)), (3, (V.own 1 (p.2).length)), (75, (iV ((l5.length : Nat) : Int))), (76, (iV (p.1)))], [(0, (Ob.arr 52 4 [(encTStory a1)])), (1, (Ob.arr 35 6 ((p.2).map encTWindow)))], 2⟩ : St)) (fun n (p : Int × (List TWindow)) => RC ((l5.length : Nat) : Int) (fun tl nn => M98_L2 F a1 k31 tl nn p.2 = some r) n p.1) (fun p h => RC.zero h) (fun n ih2 p h => ?_) (Int.toNat ((l5.length : Nat) : Int) + 1) (0, l5) (RC.start h) (ghost_ren 2 (fun i => ([0, 1] : List Nat).getD i 0) _ _ (by decide) (EnvSub.get (.cons (Sub.ptr rfl rfl) (.cons (Sub.own rfl rfl) (.cons (Sub.imm (Imm.con _)) (.cons (Sub.imm (Imm.con _)) .nil))))) (HpSub.get (.cons rfl (ObSub.box (.cons (Sub.imm (Imm.con _)) (.cons (Sub.imm (Imm.lst _ _)) (.cons (Sub.imm (Imm.lst _ _)) (.cons (Sub.imm (Imm.con _)) .nil))))) (.cons rfl (ObSub.rows (rows_imm imms_encTWindow)) .nil))) rfl)
    obtain ⟨n35, l36⟩ := p
    refine awp_loop ?_
    refine sr ?_
    refine aops_bin (.bool (decide (n35 < ((l5.length : Nat) : Int)))) wants_none rfl rfl rfl rfl ?_
    refine an ?_
    refine sq ?_
    refine awp_cond (decide (n35 < ((l5.length : Nat) : Int))) rfl (fun hb37 => ?_) (fun hb37 => ?_)
    · obtain ⟨tl, h, hk2⟩ := RC.t (by unfold maxLen at hA42; omega) h hb37
      unfold M98_L2 at h
      refine awp_skip ?_
      refine sq ?_
      refine awp_block ?_
      refine sr ?_
      refine am (iV n35) rfl rfl ?_
      refine aa (iV n35) rfl rfl ?_
      refine an ?_
      replace h := bind_some h
      obtain ⟨x38, hx39, h⟩ := h
      replace h := bind_some h
      obtain ⟨x40, hx41, h⟩ := h
      refine awp_any [OD.mk [(3, (V.own 1 l36.length))] [] [(79, (V.own 1 l36.length))] [],
            OD.mk [(10, (iV n35))] [] [(80, (iV n35))] [],
            OD.mk [(3, (V.own 1 l36.length))] [] [(81, (V.own 1 l36.length))] [],
            OD.mk [(10, (iV n35))] [] [(82, (iV n35))] [],
            OD.mk [(81, (V.own 1 l36.length)), (82, (iV n35))] [] [(83, (V.ptr 1 6 n35.toNat 0))] [],
            OD.mk [(83, (V.ptr 1 6 n35.toNat 0))] [] [(84, (V.ptr 1 6 n35.toNat 4))] [],
            OD.mk [(84, (V.ptr 1 6 n35.toNat 4))] [(1, (Ob.arr 35 6 (l36.map encTWindow)))] [(85, (iV x38.To))] [],
            OD.mk [(1, (V.ptr 0 4 0 0))] [] [(86, (V.ptr 0 4 0 3))] [],
            OD.mk [(86, (V.ptr 0 4 0 3))] [(0, (Ob.arr 52 4 [(encTStory a1)]))] [(87, (iV a1.Until))] [],
            OD.mk [(85, (iV x38.To)), (87, (iV a1.Until))] [] [(88, (bV (x38.To == a1.Until)))] [],
            OD.mk [(79, (V.own 1 l36.length)), (80, (iV n35))] [] [(89, (V.ptr 1 6 n35.toNat 0))] [],
            OD.mk [(89, (V.ptr 1 6 n35.toNat 0))] [] [(90, (V.ptr 1 6 n35.toNat 5))] [],
            OD.mk [(90, (V.ptr 1 6 n35.toNat 5)), (88, (bV (x38.To == a1.Until)))] [(1, (Ob.arr 35 6 (l36.map encTWindow)))] [] [(1, (Ob.arr 35 6 ((l36.set n35.toNat (TWindow.mk x40.Advisory x40.Component x40.Severity x40.From x40.To (x38.To == a1.Until))).map encTWindow)))]] mixed ⟨⟨rfl, trivial⟩, trivial, ⟨⟨rfl, trivial⟩, trivial, ⟨⟨rfl, trivial⟩, trivial, ⟨⟨rfl, trivial⟩, trivial, ⟨⟨rfl, rfl, trivial⟩, trivial, ⟨⟨rfl, trivial⟩, trivial, ⟨⟨rfl, trivial⟩, ⟨rfl, trivial⟩, ⟨⟨rfl, trivial⟩, trivial, ⟨⟨rfl, trivial⟩, ⟨rfl, trivial⟩, ⟨⟨rfl, rfl, trivial⟩, trivial, ⟨⟨rfl, rfl, trivial⟩, trivial, ⟨⟨rfl, trivial⟩, trivial, ⟨⟨rfl, rfl, trivial⟩, ⟨rfl, trivial⟩, trivial⟩⟩⟩⟩⟩⟩⟩⟩⟩⟩⟩⟩⟩ (by kernel_rfl) (.cons (fun S hn h hh => aops_move (V.own 1 l36.length) wants_none h.1 rfl (an ⟨rfl, rfl⟩)) (.cons (fun S hn h hh => aops_move (iV n35) wants_none h.1 rfl (an ⟨rfl, rfl⟩)) (.cons (fun S hn h hh => aops_move (V.own 1 l36.length) wants_none h.1 rfl (an ⟨rfl, rfl⟩)) (.cons (fun S hn h hh => aops_move (iV n35) wants_none h.1 rfl (an ⟨rfl, rfl⟩)) (.cons (fun S hn h hh => aops_index_own tSl59 wants_none h.1 h.2.1 (idx_some hx39).1 (by simpa using idx_lt hx39) rfl (an ⟨rfl, rfl⟩)) (.cons (fun S hn h hh => aops_fieldAddr tF35_4 wants_none h.1 rfl (an ⟨rfl, rfl⟩)) (.cons (fun S hn h hh => aops_load_cell (iV x38.To) tC3 wants_none h.1 hh.1 (idx_map encTWindow hx39) rfl rfl (an ⟨rfl, rfl⟩)) (.cons (fun S hn h hh => aops_fieldAddr tF52_3 wants_none h.1 rfl (an ⟨rfl, rfl⟩)) (.cons (fun S hn h hh => aops_load_cell (iV a1.Until) tC3 wants_none h.1 hh.1 rfl rfl rfl (an ⟨rfl, rfl⟩)) (.cons (fun S hn h hh => aops_bin (.bool (x38.To == a1.Until)) wants_none h.1 h.2.1 rfl rfl (an ⟨rfl, rfl⟩)) (.cons (fun S hn h hh => aops_index_own tSl59 wants_none h.1 h.2.1 (idx_some hx41).1 (by simpa using idx_lt hx41) rfl (an ⟨rfl, rfl⟩)) (.cons (fun S hn h hh => aops_fieldAddr tF35_5 wants_none h.1 rfl (an ⟨rfl, rfl⟩)) (.cons (fun S hn h hh => aops_store [(bV (x38.To == a1.Until))] ((l36.set n35.toNat (TWindow.mk x40.Advisory x40.Component x40.Severity x40.From x40.To (x38.To == a1.Until))).map encTWindow) tS4 wants_none h.1 h.2.1 rfl rfl hh.1 (idx_map encTWindow hx41) rfl (map_set encTWindow l36 _ (TWindow.mk x40.Advisory x40.Component x40.Severity x40.From x40.To (x38.To == a1.Until))) (an ⟨rfl, rfl⟩)) .nil))))))))))))) ?_
      refine rg ?_
      refine aops_bin (.int .i64 (w64 (n35 + 1))) wants_none rfl rfl rfl rfl ?_
      refine am (iV (w64 (n35 + 1))) rfl rfl ?_
      refine an ?_
      exact awp_back (ih2 ((w64 (n35 + 1)), (l36.set n35.toNat (TWindow.mk x40.Advisory x40.Component x40.Severity x40.From x40.To (x38.To == a1.Until)))) (hk2 _ h)) (ghost_ren 2 (fun i => ([0, 1] : List Nat).getD i 0) _ _ (by decide) (EnvSub.get (.cons (Sub.ptr rfl rfl) (.cons (Sub.ownE rfl rfl (by simp)) (.cons (Sub.imm (Imm.con _)) (.cons (Sub.imm (Imm.con _)) .nil))))) (HpSub.get (.cons rfl (ObSub.box (.cons (Sub.imm (Imm.con _)) (.cons (Sub.imm (Imm.lst _ _)) (.cons (Sub.imm (Imm.lst _ _)) (.cons (Sub.imm (Imm.con _)) .nil))))) (.cons rfl (ObSub.rows (rows_imm imms_encTWindow)) .nil))) rfl)
    replace h := RC.f h hb37
    unfold M98_L2 at h
    refine awp_exit ?_
    exact ⟨l36, h, (ghost_ren 1 (fun i => ([1] : List Nat).getD i 0) _ _ (by decide) (EnvSub.get (.cons (Sub.own rfl rfl) .nil)) (HpSub.get (.cons rfl (ObSub.rows (rows_imm imms_encTWindow)) .nil)) rfl)⟩
  clear h
  intro l32 h
  subst hk31
  refine sr ?_
  refine am (V.own 0 l32.length) rfl rfl ?_
  replace h := bind_some h
  obtain ⟨y43, hx44, h⟩ := h
  refine aops_ghost (ghost_frzE 0 92 rfl (rows_imm imms_encTWindow) rfl (List.length_map ..).symm) ?_
  refine aops_call (V.lst 6 (y43.map encTWindow)) [(V.lst 6 (l32.map encTWindow)), (V.fn (.func 134) [] [])] fOk133 wants_none (evm_cons rfl (evm_cons rfl evm_nil)) (.cons (Imm.lst _ _) (.cons (Imm.fn .nil .nil) .nil)) (W133 F l32 y43 hx44) rfl ?_
  refine aa (V.lst 6 (y43.map encTWindow)) rfl rfl ?_
  refine an ?_
  refine awp_ret ?_
  obtain rfl := Option.some.inj h
  exact ⟨.inl rfl, .one (.tmp rfl (Imm.lst _ _))⟩
theorem W38 (F : Nat) (a1 : TStory) (r : ((List TWindow) × Int)) (h : M38 F a1 = some r) : Pure Try.prog 38 [(V.agg (encTStory a1))] (V.tup [(V.lst 6 ((r.1).map encTWindow)), (iV (r.2))]) := by
  refine pure_enter Try.func38 rfl rfl (l := [.tmp 2, .tmp 3]) rfl rfl [(0, (V.agg (encTStory a1)))] rfl (fun w0 m0 => ?_)
  unfold M38 at h
  refine sr ?_
  refine aops_box (encTStory a1) wants_none rfl rfl rfl rfl ?_
  refine aa nV rfl rfl ?_
  refine aa (iV 0) rfl rfl ?_
  refine an ?_
  refine sq ?_
  refine sr ?_
  refine aops_load_agg (cs := (encTStory a1)) tA52 wants_none rfl rfl rfl rfl rfl rfl ?_
  replace h := bind_some h
  obtain ⟨y2, hx3, h⟩ := h
  refine aops_call (iV y2) [(V.agg (encTStory a1))] fOk35 wants_none (evm_cons rfl evm_nil) (.cons (Imm.agg (imms_encTStory _)) .nil) (W35 F a1 y2 hx3) rfl ?_
  refine aa (iV y2) rfl rfl ?_
  refine an ?_
  refine sr ?_
  refine am (iV y2) rfl rfl ?_
  refine aops_bin (.bool (y2 != 0)) wants_none rfl rfl rfl rfl ?_
  refine an ?_
  refine awp_cond (y2 != 0) rfl (fun hb4 => ?_) (fun hb4 => ?_)
  · replace h := ite_t hb4 h
    refine sr ?_
    refine am (iV y2) rfl rfl ?_
    refine aa nV rfl rfl ?_
    refine aa (iV y2) rfl rfl ?_
    refine an ?_
    refine awp_ghost (ghost_tell 2 (V.lst 6 (([] : List TWindow).map encTWindow)) rfl (Sub.nil _)) ?_
    refine awp_ret ?_
    obtain rfl := Option.some.inj h
    exact ⟨.inl rfl, .two (.tmp rfl (Imm.lst _ _)) (.tmp rfl (Imm.con _))⟩
  replace h := ite_f hb4 h
  refine awp_skip ?_
  refine sr ?_
  refine aops_load_agg (cs := (encTStory a1)) tA52 wants_none rfl rfl rfl rfl rfl rfl ?_
  replace h := bind_some h
  obtain ⟨y5, hx6, h⟩ := h
  refine aops_call (V.lst 6 (y5.map encTWindow)) [(V.agg (encTStory a1))] fOk98 wants_none (evm_cons rfl evm_nil) (.cons (Imm.agg (imms_encTStory _)) .nil) (W98 F a1 y5 hx6) rfl ?_
  refine aa (V.lst 6 (y5.map encTWindow)) rfl rfl ?_
  refine aa (iV 0) rfl rfl ?_
  refine an ?_
  refine awp_ret ?_
  obtain rfl := Option.some.inj h
  exact ⟨.inl rfl, .two (.tmp rfl (Imm.lst _ _)) (.tmp rfl (Imm.con _))⟩
end Go.Proofs.Ytkciogeafbbggaa
