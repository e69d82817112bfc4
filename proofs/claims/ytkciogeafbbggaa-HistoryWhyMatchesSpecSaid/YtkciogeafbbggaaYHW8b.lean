/- Part of the proof: HW8b. -/
import Derived.Test.YtkciogeafbbggaaYHM
import Derived.Test.YtkciogeafbbggaaYHW6a
import Derived.Test.YtkciogeafbbggaaYHW7a
import Derived.Test.YtkciogeafbbggaaYHW8a
import Derived.Test.YtkciogeafbbggaaYHW3a
import Derived.KernelRfl
namespace Go.Proofs.Ytkciogeafbbggaa
open Go Go.Pv
set_option linter.unusedVariables false
set_option maxRecDepth 100000
theorem W150 (F : Nat) (a1 : TWindow) (a2 : TWindow) (r : Bool) (h : M150 F a1 a2 = some r) : Pure Try.prog 150 [(V.agg (encTWindow a1)), (V.agg (encTWindow a2))] (bV r) := by
  refine pure_enter Try.func150 rfl rfl (l := [.tmp 4]) rfl rfl [(0, (V.agg (encTWindow a1))), (1, (V.agg (encTWindow a2)))] rfl (fun w0 m0 => ?_)
  unfold M150 at h
  refine sr ?_
  refine aops_box (encTWindow a1) wants_none rfl rfl rfl rfl ?_
  refine aops_box (encTWindow a2) wants_none rfl rfl rfl rfl ?_
  refine aa (bV false) rfl rfl ?_
  refine an ?_
  refine sq ?_
  refine awp_ghost ghost_res ?_
  refine awp_ghost ghost_res ?_
  refine awp_any [OD.mk [(2, (V.ptr 0 6 0 0))] [] [(7, (V.ptr 0 6 0 0))] [],
        OD.mk [(7, (V.ptr 0 6 0 0))] [(0, (Ob.arr 35 6 [(encTWindow a1)]))] [(8, (sV a1.Advisory))] [],
        OD.mk [(2, (V.ptr 0 6 0 0))] [] [(9, (V.ptr 0 6 0 1))] [],
        OD.mk [(9, (V.ptr 0 6 0 1))] [(0, (Ob.arr 35 6 [(encTWindow a1)]))] [(10, (sV a1.Component))] [],
        OD.mk [(8, (sV a1.Advisory)), (10, (sV a1.Component))] [] [(11, (V.agg [(sV a1.Advisory), (sV a1.Component), (iV 0)]))] [],
        OD.mk [(3, (V.ptr 1 6 0 0))] [] [(12, (V.ptr 1 6 0 0))] [],
        OD.mk [(12, (V.ptr 1 6 0 0))] [(1, (Ob.arr 35 6 [(encTWindow a2)]))] [(13, (sV a2.Advisory))] [],
        OD.mk [(3, (V.ptr 1 6 0 0))] [] [(14, (V.ptr 1 6 0 1))] [],
        OD.mk [(14, (V.ptr 1 6 0 1))] [(1, (Ob.arr 35 6 [(encTWindow a2)]))] [(15, (sV a2.Component))] [],
        OD.mk [(13, (sV a2.Advisory)), (15, (sV a2.Component))] [] [(16, (V.agg [(sV a2.Advisory), (sV a2.Component), (iV 0)]))] [],
        OD.mk [] [(2, Ob.res)] [(5, (V.ptr 2 3 0 0))] [(2, (Ob.arr 47 3 [[(sV ([] : List UInt8)), (sV ([] : List UInt8)), (iV 0)]]))],
        OD.mk [] [(3, Ob.res)] [(6, (V.ptr 3 3 0 0))] [(3, (Ob.arr 47 3 [[(sV ([] : List UInt8)), (sV ([] : List UInt8)), (iV 0)]]))],
        OD.mk [(5, (V.ptr 2 3 0 0)), (11, (V.agg [(sV a1.Advisory), (sV a1.Component), (iV 0)]))] [(2, (Ob.arr 47 3 [[(sV ([] : List UInt8)), (sV ([] : List UInt8)), (iV 0)]]))] [] [(2, (Ob.arr 47 3 [[(sV a1.Advisory), (sV a1.Component), (iV 0)]]))],
        OD.mk [(6, (V.ptr 3 3 0 0)), (16, (V.agg [(sV a2.Advisory), (sV a2.Component), (iV 0)]))] [(3, (Ob.arr 47 3 [[(sV ([] : List UInt8)), (sV ([] : List UInt8)), (iV 0)]]))] [] [(3, (Ob.arr 47 3 [[(sV a2.Advisory), (sV a2.Component), (iV 0)]]))]] mixed ⟨⟨rfl, trivial⟩, trivial, ⟨⟨rfl, trivial⟩, ⟨rfl, trivial⟩, ⟨⟨rfl, trivial⟩, trivial, ⟨⟨rfl, trivial⟩, ⟨rfl, trivial⟩, ⟨⟨rfl, rfl, trivial⟩, trivial, ⟨⟨rfl, trivial⟩, trivial, ⟨⟨rfl, trivial⟩, ⟨rfl, trivial⟩, ⟨⟨rfl, trivial⟩, trivial, ⟨⟨rfl, trivial⟩, ⟨rfl, trivial⟩, ⟨⟨rfl, rfl, trivial⟩, trivial, ⟨trivial, ⟨rfl, trivial⟩, ⟨trivial, ⟨rfl, trivial⟩, ⟨⟨rfl, rfl, trivial⟩, ⟨rfl, trivial⟩, ⟨⟨rfl, rfl, trivial⟩, ⟨rfl, trivial⟩, trivial⟩⟩⟩⟩⟩⟩⟩⟩⟩⟩⟩⟩⟩⟩ (by kernel_rfl) (.cons (fun S hn h hh => aops_fieldAddr tF35_0 wants_none h.1 rfl (an ⟨rfl, rfl⟩)) (.cons (fun S hn h hh => aops_load_cell (sV a1.Advisory) tC9 wants_none h.1 hh.1 rfl rfl rfl (an ⟨rfl, rfl⟩)) (.cons (fun S hn h hh => aops_fieldAddr tF35_1 wants_none h.1 rfl (an ⟨rfl, rfl⟩)) (.cons (fun S hn h hh => aops_load_cell (sV a1.Component) tC9 wants_none h.1 hh.1 rfl rfl rfl (an ⟨rfl, rfl⟩)) (.cons (fun S hn h hh => aops_build [(0, (sV a1.Advisory)), (1, (sV a1.Component))] [(sV a1.Advisory), (sV a1.Component), (iV 0)] tZ47 tPl47 rfl wants_none (evp_cons h.1 (evp_cons h.2.1 evp_nil)) rfl rfl (an ⟨rfl, rfl⟩)) (.cons (fun S hn h hh => aops_fieldAddr tF35_0 wants_none h.1 rfl (an ⟨rfl, rfl⟩)) (.cons (fun S hn h hh => aops_load_cell (sV a2.Advisory) tC9 wants_none h.1 hh.1 rfl rfl rfl (an ⟨rfl, rfl⟩)) (.cons (fun S hn h hh => aops_fieldAddr tF35_1 wants_none h.1 rfl (an ⟨rfl, rfl⟩)) (.cons (fun S hn h hh => aops_load_cell (sV a2.Component) tC9 wants_none h.1 hh.1 rfl rfl rfl (an ⟨rfl, rfl⟩)) (.cons (fun S hn h hh => aops_build [(0, (sV a2.Advisory)), (1, (sV a2.Component))] [(sV a2.Advisory), (sV a2.Component), (iV 0)] tZ47 tPl47 rfl wants_none (evp_cons h.1 (evp_cons h.2.1 evp_nil)) rfl rfl (an ⟨rfl, rfl⟩)) (.cons (fun S hn h hh => aops_alloc_at 2 rfl hn hh.1 tZ47 rfl rfl wants_none rfl (an ⟨rfl, rfl⟩)) (.cons (fun S hn h hh => aops_alloc_at 3 rfl hn hh.1 tZ47 rfl rfl wants_none rfl (an ⟨rfl, rfl⟩)) (.cons (fun S hn h hh => aops_store [(sV a1.Advisory), (sV a1.Component), (iV 0)] [[(sV a1.Advisory), (sV a1.Component), (iV 0)]] tS47 wants_none h.1 h.2.1 rfl rfl hh.1 rfl rfl rfl (an ⟨rfl, rfl⟩)) (.cons (fun S hn h hh => aops_store [(sV a2.Advisory), (sV a2.Component), (iV 0)] [[(sV a2.Advisory), (sV a2.Component), (iV 0)]] tS47 wants_none h.1 h.2.1 rfl rfl hh.1 rfl rfl rfl (an ⟨rfl, rfl⟩)) .nil)))))))))))))) ?_
  refine sr ?_
  refine aops_fieldAddr tF35_3 wants_none rfl rfl ?_
  refine aops_load_cell (iV a1.From) tC3 wants_none rfl rfl rfl rfl rfl ?_
  refine aops_fieldAddr tF35_3 wants_none rfl rfl ?_
  refine aops_load_cell (iV a2.From) tC3 wants_none rfl rfl rfl rfl rfl ?_
  refine aops_bin (.bool (decide (a1.From < a2.From))) wants_none rfl rfl rfl rfl ?_
  refine am (bV (decide (a1.From < a2.From))) rfl rfl ?_
  rcases Bool.eq_false_or_eq_true (decide (a1.From < a2.From)) with hb3 | hb3
  · replace h := ite_t hb3 h
    refine aops_skips 6 5 22 false (c := (decide (a1.From < a2.From))) (b := true) rfl rfl hb3 rfl rfl ?_
    refine aops_skip (wants_undef 28 rfl rfl) rfl rfl ?_
    refine aops_skip (wants_undef 28 rfl rfl) rfl rfl ?_
    refine aops_skip (wants_undef 28 rfl rfl) rfl rfl ?_
    refine aops_skip (wants_some (c := (decide (a1.From < a2.From))) (b := true) 22 rfl rfl hb3) rfl rfl ?_
    refine aops_pick true (cb := (decide (a1.From < a2.From))) (bV true) wants_none rfl hb3 rfl rfl ?_
    refine aa (bV true) rfl rfl ?_
    refine an ?_
    refine awp_ret ?_
    obtain rfl := Option.some.inj h
    exact ⟨.inl rfl, .one (.tmp rfl (Imm.con _))⟩
  replace h := ite_f hb3 h
  refine aops_fieldAddr tF35_3 (wants_some (c := (decide (a1.From < a2.From))) (b := false) 22 rfl rfl hb3) rfl rfl ?_
  refine aops_load_cell (iV a1.From) tC3 (wants_some (c := (decide (a1.From < a2.From))) (b := false) 22 rfl rfl hb3) rfl rfl rfl rfl rfl ?_
  refine aops_fieldAddr tF35_3 (wants_some (c := (decide (a1.From < a2.From))) (b := false) 22 rfl rfl hb3) rfl rfl ?_
  refine aops_load_cell (iV a2.From) tC3 (wants_some (c := (decide (a1.From < a2.From))) (b := false) 22 rfl rfl hb3) rfl rfl rfl rfl rfl ?_
  refine aops_bin (.bool (a1.From == a2.From)) (wants_some (c := (decide (a1.From < a2.From))) (b := false) 22 rfl rfl hb3) rfl rfl rfl rfl ?_
  refine aops_move (bV (a1.From == a2.From)) (wants_some (c := (decide (a1.From < a2.From))) (b := false) 22 rfl rfl hb3) rfl rfl ?_
  rcases Bool.eq_false_or_eq_true (a1.From == a2.From) with hb4 | hb4
  · replace h := ite_t hb4 h
    refine aops_load_agg (cs := [(sV a1.Advisory), (sV a1.Component), (iV 0)]) tA47 (wants_some (c := (a1.From == a2.From)) (b := true) 28 rfl rfl hb4) rfl rfl rfl rfl rfl rfl ?_
    refine aops_load_agg (cs := [(sV a2.Advisory), (sV a2.Component), (iV 0)]) tA47 (wants_some (c := (a1.From == a2.From)) (b := true) 28 rfl rfl hb4) rfl rfl rfl rfl rfl rfl ?_
    replace h := bind_some h
    obtain ⟨y5, hx6, h⟩ := h
    refine aops_call (bV y5) [(V.agg [(sV a1.Advisory), (sV a1.Component), (iV 0)]), (V.agg [(sV a2.Advisory), (sV a2.Component), (iV 0)])] fOk132 (wants_some (c := (a1.From == a2.From)) (b := true) 28 rfl rfl hb4) (evm_cons rfl (evm_cons rfl evm_nil)) (.cons (Imm.agg (.cons (Imm.con _) (.cons (Imm.con _) (.cons (Imm.con _) .nil)))) (.cons (Imm.agg (.cons (Imm.con _) (.cons (Imm.con _) (.cons (Imm.con _) .nil)))) .nil)) (W132 F (TExposure.mk a1.Advisory a1.Component 0) (TExposure.mk a2.Advisory a2.Component 0) y5 hx6) rfl ?_
    refine aops_pick true (cb := (a1.From == a2.From)) (bV y5) (wants_some (c := (decide (a1.From < a2.From))) (b := false) 22 rfl rfl hb3) rfl hb4 rfl rfl ?_
    refine aops_pick false (cb := (decide (a1.From < a2.From))) (bV y5) wants_none rfl hb3 rfl rfl ?_
    refine aa (bV y5) rfl rfl ?_
    refine an ?_
    refine awp_ret ?_
    obtain rfl := Option.some.inj h
    exact ⟨.inl rfl, .one (.tmp rfl (Imm.con _))⟩
  replace h := ite_f hb4 h
  refine aops_skips 3 11 28 true (c := (a1.From == a2.From)) (b := false) rfl rfl hb4 rfl rfl ?_
  refine aops_pick false (cb := (a1.From == a2.From)) (bV false) (wants_some (c := (decide (a1.From < a2.From))) (b := false) 22 rfl rfl hb3) rfl hb4 rfl rfl ?_
  refine aops_pick false (cb := (decide (a1.From < a2.From))) (bV false) wants_none rfl hb3 rfl rfl ?_
  refine aa (bV false) rfl rfl ?_
  refine an ?_
  refine awp_ret ?_
  obtain rfl := Option.some.inj h
  exact ⟨.inl rfl, .one (.tmp rfl (Imm.con _))⟩
theorem W135_B (R135 : (List TWindow) → Option (List TWindow)) (hR135 : ∀ (a1 : (List TWindow)) (r : (List TWindow)), R135 a1 = some r → Pure Try.prog 135 [(V.lst 6 (a1.map encTWindow))] (V.lst 6 (r.map encTWindow))) (F : Nat) (a1 : (List TWindow)) (r : (List TWindow)) (h : M135_B R135 F a1 = some r) : Pure Try.prog 135 [(V.lst 6 (a1.map encTWindow))] (V.lst 6 (r.map encTWindow)) := by
  refine pure_enter Try.func135 rfl rfl (l := [.tmp 2]) rfl rfl [(0, (V.lst 6 (a1.map encTWindow)))] rfl (fun w0 m0 => ?_)
  unfold M135_B at h
  refine sr ?_
  refine aa nV rfl rfl ?_
  refine an ?_
  refine sq ?_
  refine sr ?_
  refine am (V.lst 6 (a1.map encTWindow)) rfl rfl ?_
  refine aops_len (n := a1.length) tIsSl59 wants_none rfl (congrArg some (List.length_map ..)) rfl ?_
  refine aops_bin (.bool (decide (((a1.length : Nat) : Int) < 2))) wants_none rfl rfl rfl rfl ?_
  refine an ?_
  refine awp_cond (decide (((a1.length : Nat) : Int) < 2)) rfl (fun hb2 => ?_) (fun hb2 => ?_)
  · replace h := ite_t hb2 h
    refine sr ?_
    refine am (V.lst 6 (a1.map encTWindow)) rfl rfl ?_
    refine aa (V.lst 6 (a1.map encTWindow)) rfl rfl ?_
    refine an ?_
    refine awp_ret ?_
    obtain rfl := Option.some.inj h
    exact ⟨.inl rfl, .one (.tmp rfl (Imm.lst _ _))⟩
  replace h := ite_f hb2 h
  refine awp_skip ?_
  refine sq ?_
  replace h := chk_some h
  obtain ⟨hc3, h⟩ := h
  replace h := bind_some h
  obtain ⟨y4, hx5, h⟩ := h
  replace h := chk_some h
  obtain ⟨hc6, h⟩ := h
  replace h := bind_some h
  obtain ⟨y7, hx8, h⟩ := h
  refine awp_any [OD.mk [(0, (V.lst 6 (a1.map encTWindow)))] [] [(10, (V.lst 6 (a1.map encTWindow)))] [],
        OD.mk [(0, (V.lst 6 (a1.map encTWindow)))] [] [(11, (V.lst 6 (a1.map encTWindow)))] [],
        OD.mk [(11, (V.lst 6 (a1.map encTWindow)))] [] [(12, (iV ((a1.length : Nat) : Int)))] [],
        OD.mk [(12, (iV ((a1.length : Nat) : Int)))] [] [(13, (iV (w64 (Int.tdiv ((a1.length : Nat) : Int) 2))))] [],
        OD.mk [(10, (V.lst 6 (a1.map encTWindow))), (13, (iV (w64 (Int.tdiv ((a1.length : Nat) : Int) 2))))] [] [(14, (V.lst 6 ((a1.take (w64 (Int.tdiv ((a1.length : Nat) : Int) 2)).toNat).map encTWindow)))] [],
        OD.mk [(14, (V.lst 6 ((a1.take (w64 (Int.tdiv ((a1.length : Nat) : Int) 2)).toNat).map encTWindow)))] [] [(15, (V.lst 6 (y4.map encTWindow)))] [],
        OD.mk [(0, (V.lst 6 (a1.map encTWindow)))] [] [(16, (V.lst 6 (a1.map encTWindow)))] [],
        OD.mk [(0, (V.lst 6 (a1.map encTWindow)))] [] [(17, (V.lst 6 (a1.map encTWindow)))] [],
        OD.mk [(17, (V.lst 6 (a1.map encTWindow)))] [] [(18, (iV ((a1.length : Nat) : Int)))] [],
        OD.mk [(18, (iV ((a1.length : Nat) : Int)))] [] [(19, (iV (w64 (Int.tdiv ((a1.length : Nat) : Int) 2))))] [],
        OD.mk [(16, (V.lst 6 (a1.map encTWindow))), (19, (iV (w64 (Int.tdiv ((a1.length : Nat) : Int) 2))))] [] [(20, (V.lst 6 ((a1.drop (w64 (Int.tdiv ((a1.length : Nat) : Int) 2)).toNat).map encTWindow)))] [],
        OD.mk [(20, (V.lst 6 ((a1.drop (w64 (Int.tdiv ((a1.length : Nat) : Int) 2)).toNat).map encTWindow)))] [] [(21, (V.lst 6 (y7.map encTWindow)))] [],
        OD.mk [(15, (V.lst 6 (y4.map encTWindow)))] [] [(3, (V.lst 6 (y4.map encTWindow)))] [],
        OD.mk [(21, (V.lst 6 (y7.map encTWindow)))] [] [(4, (V.lst 6 (y7.map encTWindow)))] []] mixed ⟨⟨rfl, trivial⟩, trivial, ⟨⟨rfl, trivial⟩, trivial, ⟨⟨rfl, trivial⟩, trivial, ⟨⟨rfl, trivial⟩, trivial, ⟨⟨rfl, rfl, trivial⟩, trivial, ⟨⟨rfl, trivial⟩, trivial, ⟨⟨rfl, trivial⟩, trivial, ⟨⟨rfl, trivial⟩, trivial, ⟨⟨rfl, trivial⟩, trivial, ⟨⟨rfl, trivial⟩, trivial, ⟨⟨rfl, rfl, trivial⟩, trivial, ⟨⟨rfl, trivial⟩, trivial, ⟨⟨rfl, trivial⟩, trivial, ⟨⟨rfl, trivial⟩, trivial, trivial⟩⟩⟩⟩⟩⟩⟩⟩⟩⟩⟩⟩⟩⟩ (by kernel_rfl) (.cons (fun S hn h hh => aops_move (V.lst 6 (a1.map encTWindow)) wants_none h.1 rfl (an ⟨rfl, rfl⟩)) (.cons (fun S hn h hh => aops_move (V.lst 6 (a1.map encTWindow)) wants_none h.1 rfl (an ⟨rfl, rfl⟩)) (.cons (fun S hn h hh => aops_len (n := a1.length) tIsSl59 wants_none h.1 (congrArg some (List.length_map ..)) rfl (an ⟨rfl, rfl⟩)) (.cons (fun S hn h hh => aops_bin (.int .i64 (w64 (Int.tdiv ((a1.length : Nat) : Int) 2))) wants_none h.1 rfl rfl rfl (an ⟨rfl, rfl⟩)) (.cons (fun S hn h hh => aops_slice_lst (0) ((w64 (Int.tdiv ((a1.length : Nat) : Int) 2)).toNat) ((a1.take (w64 (Int.tdiv ((a1.length : Nat) : Int) 2)).toNat).map encTWindow) tSl59 wants_none h.1 rfl ⟨_, (by rw [Int.toNat_of_nonneg hc3.1]; exact h.2.1)⟩ (Nat.zero_le _) (by simpa using hc3.2) slL_lo rfl (an ⟨rfl, rfl⟩)) (.cons (fun S hn h hh => aops_call (V.lst 6 (y4.map encTWindow)) [(V.lst 6 ((a1.take (w64 (Int.tdiv ((a1.length : Nat) : Int) 2)).toNat).map encTWindow))] fOk135 wants_none (evm_cons h.1 evm_nil) (.cons (Imm.lst _ _) .nil) (hR135 (a1.take (w64 (Int.tdiv ((a1.length : Nat) : Int) 2)).toNat) _ hx5) rfl (an ⟨rfl, rfl⟩)) (.cons (fun S hn h hh => aops_move (V.lst 6 (a1.map encTWindow)) wants_none h.1 rfl (an ⟨rfl, rfl⟩)) (.cons (fun S hn h hh => aops_move (V.lst 6 (a1.map encTWindow)) wants_none h.1 rfl (an ⟨rfl, rfl⟩)) (.cons (fun S hn h hh => aops_len (n := a1.length) tIsSl59 wants_none h.1 (congrArg some (List.length_map ..)) rfl (an ⟨rfl, rfl⟩)) (.cons (fun S hn h hh => aops_bin (.int .i64 (w64 (Int.tdiv ((a1.length : Nat) : Int) 2))) wants_none h.1 rfl rfl rfl (an ⟨rfl, rfl⟩)) (.cons (fun S hn h hh => aops_slice_lst ((w64 (Int.tdiv ((a1.length : Nat) : Int) 2)).toNat) (a1.length) ((a1.drop (w64 (Int.tdiv ((a1.length : Nat) : Int) 2)).toNat).map encTWindow) tSl59 wants_none h.1 ⟨_, (by rw [Int.toNat_of_nonneg hc6.1]; exact h.2.1)⟩ (List.length_map ..).symm hc6.2 (Nat.le_of_eq (List.length_map ..).symm) slL_hi rfl (an ⟨rfl, rfl⟩)) (.cons (fun S hn h hh => aops_call (V.lst 6 (y7.map encTWindow)) [(V.lst 6 ((a1.drop (w64 (Int.tdiv ((a1.length : Nat) : Int) 2)).toNat).map encTWindow))] fOk135 wants_none (evm_cons h.1 evm_nil) (.cons (Imm.lst _ _) .nil) (hR135 (a1.drop (w64 (Int.tdiv ((a1.length : Nat) : Int) 2)).toNat) _ hx8) rfl (an ⟨rfl, rfl⟩)) (.cons (fun S hn h hh => aops_assign (V.lst 6 (y4.map encTWindow)) wants_none h.1 rfl (an ⟨rfl, rfl⟩)) (.cons (fun S hn h hh => aops_assign (V.lst 6 (y7.map encTWindow)) wants_none h.1 rfl (an ⟨rfl, rfl⟩)) .nil)))))))))))))) ?_
  refine sr ?_
  refine aa nV rfl rfl ?_
  refine an ?_
  refine sq ?_
  replace h := jn_elim h
  obtain ⟨k9, hk9, h⟩ := h
  refine awp_cut (fun (p : (List TWindow)) => (⟨[(5, (V.own 0 p.length))], [(0, (Ob.arr 35 6 (p.map encTWindow)))], 1⟩ : St)) (fun (p : (List TWindow)) => k9 p = some r) ?_ ?_
  · clear hk9
    refine awp_block ?_
    refine awp_loop_ind (fun (p : (List TWindow) × (List TWindow) × (List TWindow)) => (⟨[(3, (V.lst 6 ((p.1).map encTWindow))), (4, (V.lst 6 ((p.2.1).map encTWindow))), (5, (V.own 0 (p.2.2).length))], [(0, (Ob.arr 35 6 ((p.2.2).map encTWindow)))], 1⟩ : St)) (fun n (p : (List TWindow) × (List TWindow) × (List TWindow)) => M135_L1 F k9 n p.1 p.2.1 p.2.2 = some r) (fun p h => by simp [M135_L1] at h) (fun n ih1 p h => ?_) F (y4, y7, ([] : List TWindow)) h (Ghost.trans (ghost_nilE 5 35 6 rfl) (ghost_ren 1 (fun i => ([0] : List Nat).getD i 0) _ _ (by decide) (EnvSub.get (.cons (Sub.imm (Imm.lst _ _)) (.cons (Sub.imm (Imm.lst _ _)) (.cons (Sub.ownE rfl rfl (by simp)) .nil)))) (HpSub.get (.cons rfl (ObSub.rows (rows_imm imms_encTWindow)) .nil)) rfl))
    obtain ⟨l14, l15, l16⟩ := p
    unfold M135_L1 at h
    refine awp_loop ?_
    refine sq ?_
    refine sr ?_
    refine am (V.lst 6 (l14.map encTWindow)) rfl rfl ?_
    refine aops_len (n := l14.length) tIsSl59 wants_none rfl (congrArg some (List.length_map ..)) rfl ?_
    refine aops_bin (.bool (decide (((l14.length : Nat) : Int) > 0))) wants_none rfl rfl rfl rfl ?_
    refine am (bV (decide (((l14.length : Nat) : Int) > 0))) rfl rfl ?_
    rcases Bool.eq_false_or_eq_true (decide (((l14.length : Nat) : Int) > 0)) with hb17 | hb17
    · replace h := ite_t hb17 h
      refine aops_skips 3 3 25 false (c := (decide (((l14.length : Nat) : Int) > 0))) (b := true) rfl rfl hb17 rfl rfl ?_
      refine aops_pick true (cb := (decide (((l14.length : Nat) : Int) > 0))) (bV true) wants_none rfl hb17 rfl rfl ?_
      refine an ?_
      refine awp_cond_t rfl rfl ?_
      refine awp_skip ?_
      refine awp_block ?_
      refine sq ?_
      rcases Bool.eq_false_or_eq_true (((l15.length : Nat) : Int) == 0) with hb18 | hb18
      · replace h := ite_t hb18 h
        refine awp_any [OD.mk [(4, (V.lst 6 (l15.map encTWindow)))] [] [(30, (V.lst 6 (l15.map encTWindow)))] [],
              OD.mk [(30, (V.lst 6 (l15.map encTWindow)))] [] [(31, (iV ((l15.length : Nat) : Int)))] [],
              OD.mk [(31, (iV ((l15.length : Nat) : Int)))] [] [(32, (bV (((l15.length : Nat) : Int) == 0)))] [],
              OD.mk [(32, (bV (((l15.length : Nat) : Int) == 0)))] [] [(33, (bV (((l15.length : Nat) : Int) == 0)))] [],
              OD.mk [(33, (bV (((l15.length : Nat) : Int) == 0)))] [] [(34, (V.con undef))] [],
              OD.mk [(33, (bV (((l15.length : Nat) : Int) == 0)))] [] [(35, (V.con undef))] [],
              OD.mk [(33, (bV (((l15.length : Nat) : Int) == 0)))] [] [(36, (V.con undef))] [],
              OD.mk [(33, (bV (((l15.length : Nat) : Int) == 0)))] [] [(37, (V.con undef))] [],
              OD.mk [(37, (V.con undef))] [] [(38, (V.con undef))] [],
              OD.mk [(37, (V.con undef))] [] [(39, (V.con undef))] [],
              OD.mk [(37, (V.con undef))] [] [(40, (V.con undef))] [],
              OD.mk [(37, (V.con undef))] [] [(41, (V.con undef))] [],
              OD.mk [(37, (V.con undef))] [] [(42, (V.con undef))] [],
              OD.mk [(37, (V.con undef))] [] [(43, (V.con undef))] [],
              OD.mk [(37, (V.con undef))] [] [(44, (V.con undef))] [],
              OD.mk [(33, (bV (((l15.length : Nat) : Int) == 0)))] [] [(45, (V.con undef))] [],
              OD.mk [(33, (bV (((l15.length : Nat) : Int) == 0)))] [] [(46, (bV true))] []] mixed ⟨⟨rfl, trivial⟩, trivial, ⟨⟨rfl, trivial⟩, trivial, ⟨⟨rfl, trivial⟩, trivial, ⟨⟨rfl, trivial⟩, trivial, ⟨⟨rfl, trivial⟩, trivial, ⟨⟨rfl, trivial⟩, trivial, ⟨⟨rfl, trivial⟩, trivial, ⟨⟨rfl, trivial⟩, trivial, ⟨⟨rfl, trivial⟩, trivial, ⟨⟨rfl, trivial⟩, trivial, ⟨⟨rfl, trivial⟩, trivial, ⟨⟨rfl, trivial⟩, trivial, ⟨⟨rfl, trivial⟩, trivial, ⟨⟨rfl, trivial⟩, trivial, ⟨⟨rfl, trivial⟩, trivial, ⟨⟨rfl, trivial⟩, trivial, ⟨⟨rfl, trivial⟩, trivial, trivial⟩⟩⟩⟩⟩⟩⟩⟩⟩⟩⟩⟩⟩⟩⟩⟩⟩ (by kernel_rfl) (.cons (fun S hn h hh => aops_move (V.lst 6 (l15.map encTWindow)) wants_none h.1 rfl (an ⟨rfl, rfl⟩)) (.cons (fun S hn h hh => aops_len (n := l15.length) tIsSl59 wants_none h.1 (congrArg some (List.length_map ..)) rfl (an ⟨rfl, rfl⟩)) (.cons (fun S hn h hh => aops_bin (.bool (((l15.length : Nat) : Int) == 0)) wants_none h.1 rfl rfl rfl (an ⟨rfl, rfl⟩)) (.cons (fun S hn h hh => aops_move (bV (((l15.length : Nat) : Int) == 0)) wants_none h.1 rfl (an ⟨rfl, rfl⟩)) (.cons (fun S hn h hh => aops_skip (wants_some (c := (((l15.length : Nat) : Int) == 0)) (b := true) 33 rfl h.1 hb18) rfl rfl (an ⟨rfl, rfl⟩)) (.cons (fun S hn h hh => aops_skip (wants_some (c := (((l15.length : Nat) : Int) == 0)) (b := true) 33 rfl h.1 hb18) rfl rfl (an ⟨rfl, rfl⟩)) (.cons (fun S hn h hh => aops_skip (wants_some (c := (((l15.length : Nat) : Int) == 0)) (b := true) 33 rfl h.1 hb18) rfl rfl (an ⟨rfl, rfl⟩)) (.cons (fun S hn h hh => aops_skip (wants_some (c := (((l15.length : Nat) : Int) == 0)) (b := true) 33 rfl h.1 hb18) rfl rfl (an ⟨rfl, rfl⟩)) (.cons (fun S hn h hh => aops_skip (wants_undef 37 rfl h.1) rfl rfl (an ⟨rfl, rfl⟩)) (.cons (fun S hn h hh => aops_skip (wants_undef 37 rfl h.1) rfl rfl (an ⟨rfl, rfl⟩)) (.cons (fun S hn h hh => aops_skip (wants_undef 37 rfl h.1) rfl rfl (an ⟨rfl, rfl⟩)) (.cons (fun S hn h hh => aops_skip (wants_undef 37 rfl h.1) rfl rfl (an ⟨rfl, rfl⟩)) (.cons (fun S hn h hh => aops_skip (wants_undef 37 rfl h.1) rfl rfl (an ⟨rfl, rfl⟩)) (.cons (fun S hn h hh => aops_skip (wants_undef 37 rfl h.1) rfl rfl (an ⟨rfl, rfl⟩)) (.cons (fun S hn h hh => aops_skip (wants_undef 37 rfl h.1) rfl rfl (an ⟨rfl, rfl⟩)) (.cons (fun S hn h hh => aops_skip (wants_some (c := (((l15.length : Nat) : Int) == 0)) (b := true) 33 rfl h.1 hb18) rfl rfl (an ⟨rfl, rfl⟩)) (.cons (fun S hn h hh => aops_pick true (cb := (((l15.length : Nat) : Int) == 0)) (bV true) wants_none h.1 hb18 rfl rfl (an ⟨rfl, rfl⟩)) .nil))))))))))))))))) ?_
        refine awp_cond_t rfl rfl ?_
        replace h := bind_some h
        obtain ⟨x19, hx20, h⟩ := h
        replace h := chk_some h
        obtain ⟨hc21, h⟩ := h
        replace h := chk_some h
        obtain ⟨hc22, h⟩ := h
        refine awp_ghost ghost_res ?_
        refine awp_any [OD.mk [(5, (V.own 0 l16.length))] [] [(47, (V.own 0 l16.length))] [],
              OD.mk [(3, (V.lst 6 (l14.map encTWindow)))] [] [(48, (V.lst 6 (l14.map encTWindow)))] [],
              OD.mk [(48, (V.lst 6 (l14.map encTWindow)))] [] [(49, (V.iptr (encTWindow x19) 0))] [],
              OD.mk [(49, (V.iptr (encTWindow x19) 0))] [] [(50, (V.agg (encTWindow x19)))] [],
              OD.mk [(50, (V.agg (encTWindow x19)))] [] [(51, (V.lst 6 (([x19] : List TWindow).map encTWindow)))] [],
              OD.mk [(47, (V.own 0 l16.length)), (51, (V.lst 6 (([x19] : List TWindow).map encTWindow)))] [(0, (Ob.arr 35 6 (l16.map encTWindow))), (1, Ob.res)] [(52, (V.own 1 (l16 ++ ([x19] : List TWindow)).length))] [(1, (Ob.arr 35 6 ((l16 ++ ([x19] : List TWindow)).map encTWindow))), (0, Ob.dead)],
              OD.mk [(3, (V.lst 6 (l14.map encTWindow)))] [] [(53, (V.lst 6 (l14.map encTWindow)))] [],
              OD.mk [(53, (V.lst 6 (l14.map encTWindow)))] [] [(54, (V.lst 6 ((l14.drop 1).map encTWindow)))] [],
              OD.mk [(52, (V.own 1 (l16 ++ ([x19] : List TWindow)).length))] [] [(5, (V.own 1 (l16 ++ ([x19] : List TWindow)).length))] [],
              OD.mk [(54, (V.lst 6 ((l14.drop 1).map encTWindow)))] [] [(3, (V.lst 6 ((l14.drop 1).map encTWindow)))] []] mixed ⟨⟨rfl, trivial⟩, trivial, ⟨⟨rfl, trivial⟩, trivial, ⟨⟨rfl, trivial⟩, trivial, ⟨⟨rfl, trivial⟩, trivial, ⟨⟨rfl, trivial⟩, trivial, ⟨⟨rfl, rfl, trivial⟩, ⟨rfl, rfl, trivial⟩, ⟨⟨rfl, trivial⟩, trivial, ⟨⟨rfl, trivial⟩, trivial, ⟨⟨rfl, trivial⟩, trivial, ⟨⟨rfl, trivial⟩, trivial, trivial⟩⟩⟩⟩⟩⟩⟩⟩⟩⟩ (by kernel_rfl) (.cons (fun S hn h hh => aops_move (V.own 0 l16.length) wants_none h.1 rfl (an ⟨rfl, rfl⟩)) (.cons (fun S hn h hh => aops_move (V.lst 6 (l14.map encTWindow)) wants_none h.1 rfl (an ⟨rfl, rfl⟩)) (.cons (fun S hn h hh => aops_index_lst (encTWindow x19) tSl59 wants_none h.1 rfl (idx_some hx20).1 (idx_map encTWindow hx20) rfl (an ⟨rfl, rfl⟩)) (.cons (fun S hn h hh => aops_iload_agg (cs := (encTWindow x19)) tA35 wants_none h.1 rfl rfl rfl (an ⟨rfl, rfl⟩)) (.cons (fun S hn h hh => aops_buildSlice_imm [(0, (V.agg (encTWindow x19)))] [(encTWindow x19)] tEl59 tZ35 wants_none rfl rfl rfl rfl (evp_cons h.1 evp_nil) rfl rfl (by simp) (imms_rows (.cons (imms_encTWindow _) .nil)) rfl (an ⟨rfl, rfl⟩)) (.cons (fun S hn h hh => aops_append_at 1 rfl hn hh.2.1 (([x19] : List TWindow).map encTWindow) ((l16 ++ ([x19] : List TWindow)).map encTWindow) tEl59 tIsSl59 rfl rfl wants_none h.1 hh.1 (by simp) h.2.1 (.lst (rows_one one_encTWindow)) (map_snoc encTWindow l16 ([x19] : List TWindow)) (List.length_map ..) hc21 rfl (an ⟨rfl, rfl⟩)) (.cons (fun S hn h hh => aops_move (V.lst 6 (l14.map encTWindow)) wants_none h.1 rfl (an ⟨rfl, rfl⟩)) (.cons (fun S hn h hh => aops_slice_lst (1) (l14.length) ((l14.drop 1).map encTWindow) tSl59 wants_none h.1 ⟨_, rfl⟩ (List.length_map ..).symm hc22 (Nat.le_of_eq (List.length_map ..).symm) slL_hi rfl (an ⟨rfl, rfl⟩)) (.cons (fun S hn h hh => aops_assign (V.own 1 (l16 ++ ([x19] : List TWindow)).length) wants_none h.1 rfl (an ⟨rfl, rfl⟩)) (.cons (fun S hn h hh => aops_assign (V.lst 6 ((l14.drop 1).map encTWindow)) wants_none h.1 rfl (an ⟨rfl, rfl⟩)) .nil)))))))))) ?_
        exact awp_back (ih1 ((l14.drop 1), l15, (l16 ++ ([x19] : List TWindow))) h) (ghost_ren 1 (fun i => ([1] : List Nat).getD i 0) _ _ (by decide) (EnvSub.get (.cons (Sub.imm (Imm.lst _ _)) (.cons (Sub.imm (Imm.lst _ _)) (.cons (Sub.own rfl rfl) .nil)))) (HpSub.get (.cons rfl (ObSub.rows (rows_imm imms_encTWindow)) .nil)) rfl)
      replace h := ite_f hb18 h
      replace h := bind_some h
      obtain ⟨x23, hx24, h⟩ := h
      replace h := bind_some h
      obtain ⟨x25, hx26, h⟩ := h
      replace h := bind_some h
      obtain ⟨y27, hx28, h⟩ := h
      refine awp_any [OD.mk [(4, (V.lst 6 (l15.map encTWindow)))] [] [(30, (V.lst 6 (l15.map encTWindow)))] [],
            OD.mk [(30, (V.lst 6 (l15.map encTWindow)))] [] [(31, (iV ((l15.length : Nat) : Int)))] [],
            OD.mk [(31, (iV ((l15.length : Nat) : Int)))] [] [(32, (bV (((l15.length : Nat) : Int) == 0)))] [],
            OD.mk [(32, (bV (((l15.length : Nat) : Int) == 0)))] [] [(33, (bV (((l15.length : Nat) : Int) == 0)))] [],
            OD.mk [(33, (bV (((l15.length : Nat) : Int) == 0))), (3, (V.lst 6 (l14.map encTWindow)))] [] [(34, (V.lst 6 (l14.map encTWindow)))] [],
            OD.mk [(33, (bV (((l15.length : Nat) : Int) == 0))), (34, (V.lst 6 (l14.map encTWindow)))] [] [(35, (iV ((l14.length : Nat) : Int)))] [],
            OD.mk [(33, (bV (((l15.length : Nat) : Int) == 0))), (35, (iV ((l14.length : Nat) : Int)))] [] [(36, (bV (decide (((l14.length : Nat) : Int) > 0))))] [],
            OD.mk [(33, (bV (((l15.length : Nat) : Int) == 0))), (36, (bV (decide (((l14.length : Nat) : Int) > 0))))] [] [(37, (bV (decide (((l14.length : Nat) : Int) > 0))))] [],
            OD.mk [(37, (bV (decide (((l14.length : Nat) : Int) > 0)))), (3, (V.lst 6 (l14.map encTWindow)))] [] [(38, (V.lst 6 (l14.map encTWindow)))] [],
            OD.mk [(37, (bV (decide (((l14.length : Nat) : Int) > 0)))), (38, (V.lst 6 (l14.map encTWindow)))] [] [(39, (V.iptr (encTWindow x23) 0))] [],
            OD.mk [(37, (bV (decide (((l14.length : Nat) : Int) > 0)))), (39, (V.iptr (encTWindow x23) 0))] [] [(40, (V.agg (encTWindow x23)))] [],
            OD.mk [(37, (bV (decide (((l14.length : Nat) : Int) > 0)))), (4, (V.lst 6 (l15.map encTWindow)))] [] [(41, (V.lst 6 (l15.map encTWindow)))] [],
            OD.mk [(37, (bV (decide (((l14.length : Nat) : Int) > 0)))), (41, (V.lst 6 (l15.map encTWindow)))] [] [(42, (V.iptr (encTWindow x25) 0))] [],
            OD.mk [(37, (bV (decide (((l14.length : Nat) : Int) > 0)))), (42, (V.iptr (encTWindow x25) 0))] [] [(43, (V.agg (encTWindow x25)))] [],
            OD.mk [(37, (bV (decide (((l14.length : Nat) : Int) > 0)))), (40, (V.agg (encTWindow x23))), (43, (V.agg (encTWindow x25)))] [] [(44, (bV y27))] [],
            OD.mk [(33, (bV (((l15.length : Nat) : Int) == 0))), (37, (bV (decide (((l14.length : Nat) : Int) > 0)))), (44, (bV y27))] [] [(45, (bV y27))] [],
            OD.mk [(33, (bV (((l15.length : Nat) : Int) == 0))), (45, (bV y27))] [] [(46, (bV y27))] []] mixed ⟨⟨rfl, trivial⟩, trivial, ⟨⟨rfl, trivial⟩, trivial, ⟨⟨rfl, trivial⟩, trivial, ⟨⟨rfl, trivial⟩, trivial, ⟨⟨rfl, rfl, trivial⟩, trivial, ⟨⟨rfl, rfl, trivial⟩, trivial, ⟨⟨rfl, rfl, trivial⟩, trivial, ⟨⟨rfl, rfl, trivial⟩, trivial, ⟨⟨rfl, rfl, trivial⟩, trivial, ⟨⟨rfl, rfl, trivial⟩, trivial, ⟨⟨rfl, rfl, trivial⟩, trivial, ⟨⟨rfl, rfl, trivial⟩, trivial, ⟨⟨rfl, rfl, trivial⟩, trivial, ⟨⟨rfl, rfl, trivial⟩, trivial, ⟨⟨rfl, rfl, rfl, trivial⟩, trivial, ⟨⟨rfl, rfl, rfl, trivial⟩, trivial, ⟨⟨rfl, rfl, trivial⟩, trivial, trivial⟩⟩⟩⟩⟩⟩⟩⟩⟩⟩⟩⟩⟩⟩⟩⟩⟩ (by kernel_rfl) (.cons (fun S hn h hh => aops_move (V.lst 6 (l15.map encTWindow)) wants_none h.1 rfl (an ⟨rfl, rfl⟩)) (.cons (fun S hn h hh => aops_len (n := l15.length) tIsSl59 wants_none h.1 (congrArg some (List.length_map ..)) rfl (an ⟨rfl, rfl⟩)) (.cons (fun S hn h hh => aops_bin (.bool (((l15.length : Nat) : Int) == 0)) wants_none h.1 rfl rfl rfl (an ⟨rfl, rfl⟩)) (.cons (fun S hn h hh => aops_move (bV (((l15.length : Nat) : Int) == 0)) wants_none h.1 rfl (an ⟨rfl, rfl⟩)) (.cons (fun S hn h hh => aops_move (V.lst 6 (l14.map encTWindow)) (wants_some (c := (((l15.length : Nat) : Int) == 0)) (b := false) 33 rfl h.1 hb18) h.2.1 rfl (an ⟨rfl, rfl⟩)) (.cons (fun S hn h hh => aops_len (n := l14.length) tIsSl59 (wants_some (c := (((l15.length : Nat) : Int) == 0)) (b := false) 33 rfl h.1 hb18) h.2.1 (congrArg some (List.length_map ..)) rfl (an ⟨rfl, rfl⟩)) (.cons (fun S hn h hh => aops_bin (.bool (decide (((l14.length : Nat) : Int) > 0))) (wants_some (c := (((l15.length : Nat) : Int) == 0)) (b := false) 33 rfl h.1 hb18) h.2.1 rfl rfl rfl (an ⟨rfl, rfl⟩)) (.cons (fun S hn h hh => aops_move (bV (decide (((l14.length : Nat) : Int) > 0))) (wants_some (c := (((l15.length : Nat) : Int) == 0)) (b := false) 33 rfl h.1 hb18) h.2.1 rfl (an ⟨rfl, rfl⟩)) (.cons (fun S hn h hh => aops_move (V.lst 6 (l14.map encTWindow)) (wants_some (c := (decide (((l14.length : Nat) : Int) > 0))) (b := true) 37 rfl h.1 hb17) h.2.1 rfl (an ⟨rfl, rfl⟩)) (.cons (fun S hn h hh => aops_index_lst (encTWindow x23) tSl59 (wants_some (c := (decide (((l14.length : Nat) : Int) > 0))) (b := true) 37 rfl h.1 hb17) h.2.1 rfl (idx_some hx24).1 (idx_map encTWindow hx24) rfl (an ⟨rfl, rfl⟩)) (.cons (fun S hn h hh => aops_iload_agg (cs := (encTWindow x23)) tA35 (wants_some (c := (decide (((l14.length : Nat) : Int) > 0))) (b := true) 37 rfl h.1 hb17) h.2.1 rfl rfl rfl (an ⟨rfl, rfl⟩)) (.cons (fun S hn h hh => aops_move (V.lst 6 (l15.map encTWindow)) (wants_some (c := (decide (((l14.length : Nat) : Int) > 0))) (b := true) 37 rfl h.1 hb17) h.2.1 rfl (an ⟨rfl, rfl⟩)) (.cons (fun S hn h hh => aops_index_lst (encTWindow x25) tSl59 (wants_some (c := (decide (((l14.length : Nat) : Int) > 0))) (b := true) 37 rfl h.1 hb17) h.2.1 rfl (idx_some hx26).1 (idx_map encTWindow hx26) rfl (an ⟨rfl, rfl⟩)) (.cons (fun S hn h hh => aops_iload_agg (cs := (encTWindow x25)) tA35 (wants_some (c := (decide (((l14.length : Nat) : Int) > 0))) (b := true) 37 rfl h.1 hb17) h.2.1 rfl rfl rfl (an ⟨rfl, rfl⟩)) (.cons (fun S hn h hh => aops_call (bV y27) [(V.agg (encTWindow x23)), (V.agg (encTWindow x25))] fOk150 (wants_some (c := (decide (((l14.length : Nat) : Int) > 0))) (b := true) 37 rfl h.1 hb17) (evm_cons h.2.1 (evm_cons h.2.2.1 evm_nil)) (.cons (Imm.agg (imms_encTWindow _)) (.cons (Imm.agg (imms_encTWindow _)) .nil)) (W150 F x23 x25 y27 hx28) rfl (an ⟨rfl, rfl⟩)) (.cons (fun S hn h hh => aops_pick true (cb := (decide (((l14.length : Nat) : Int) > 0))) (bV y27) (wants_some (c := (((l15.length : Nat) : Int) == 0)) (b := false) 33 rfl h.1 hb18) h.2.1 hb17 h.2.2.1 rfl (an ⟨rfl, rfl⟩)) (.cons (fun S hn h hh => aops_pick false (cb := (((l15.length : Nat) : Int) == 0)) (bV y27) wants_none h.1 hb18 h.2.1 rfl (an ⟨rfl, rfl⟩)) .nil))))))))))))))))) ?_
      replace h := jn_elim h
      obtain ⟨k29, hk29, h⟩ := h
      refine awp_cut (fun (p : (List TWindow) × (List TWindow) × (List TWindow)) => (⟨[(3, (V.lst 6 ((p.1).map encTWindow))), (4, (V.lst 6 ((p.2.1).map encTWindow))), (5, (V.own 0 (p.2.2).length)), (26, (V.con undef)), (27, (V.con undef)), (28, (V.con undef)), (34, (V.lst 6 (l14.map encTWindow))), (35, (iV ((l14.length : Nat) : Int))), (36, (bV (decide (((l14.length : Nat) : Int) > 0)))), (37, (bV (decide (((l14.length : Nat) : Int) > 0)))), (38, (V.lst 6 (l14.map encTWindow))), (39, (V.iptr (encTWindow x23) 0)), (40, (V.agg (encTWindow x23))), (41, (V.lst 6 (l15.map encTWindow))), (42, (V.iptr (encTWindow x25) 0)), (43, (V.agg (encTWindow x25))), (44, (bV y27)), (45, (bV y27))], [(0, (Ob.arr 35 6 ((p.2.2).map encTWindow)))], 1⟩ : St)) (fun (p : (List TWindow) × (List TWindow) × (List TWindow)) => k29 p.1 p.2.1 p.2.2 = some r) ?_ ?_
      · clear hk29
        refine awp_cond y27 rfl (fun hb33 => ?_) (fun hb33 => ?_)
        · replace h := ite_t hb33 h
          replace h := bind_some h
          obtain ⟨x34, hx35, h⟩ := h
          replace h := chk_some h
          obtain ⟨hc36, h⟩ := h
          replace h := chk_some h
          obtain ⟨hc37, h⟩ := h
          refine awp_ghost ghost_res ?_
          refine awp_any [OD.mk [(5, (V.own 0 l16.length))] [] [(47, (V.own 0 l16.length))] [],
                OD.mk [(3, (V.lst 6 (l14.map encTWindow)))] [] [(48, (V.lst 6 (l14.map encTWindow)))] [],
                OD.mk [(48, (V.lst 6 (l14.map encTWindow)))] [] [(49, (V.iptr (encTWindow x34) 0))] [],
                OD.mk [(49, (V.iptr (encTWindow x34) 0))] [] [(50, (V.agg (encTWindow x34)))] [],
                OD.mk [(50, (V.agg (encTWindow x34)))] [] [(51, (V.lst 6 (([x34] : List TWindow).map encTWindow)))] [],
                OD.mk [(47, (V.own 0 l16.length)), (51, (V.lst 6 (([x34] : List TWindow).map encTWindow)))] [(0, (Ob.arr 35 6 (l16.map encTWindow))), (1, Ob.res)] [(52, (V.own 1 (l16 ++ ([x34] : List TWindow)).length))] [(1, (Ob.arr 35 6 ((l16 ++ ([x34] : List TWindow)).map encTWindow))), (0, Ob.dead)],
                OD.mk [(3, (V.lst 6 (l14.map encTWindow)))] [] [(53, (V.lst 6 (l14.map encTWindow)))] [],
                OD.mk [(53, (V.lst 6 (l14.map encTWindow)))] [] [(54, (V.lst 6 ((l14.drop 1).map encTWindow)))] [],
                OD.mk [(52, (V.own 1 (l16 ++ ([x34] : List TWindow)).length))] [] [(5, (V.own 1 (l16 ++ ([x34] : List TWindow)).length))] [],
                OD.mk [(54, (V.lst 6 ((l14.drop 1).map encTWindow)))] [] [(3, (V.lst 6 ((l14.drop 1).map encTWindow)))] []] mixed ⟨⟨rfl, trivial⟩, trivial, ⟨⟨rfl, trivial⟩, trivial, ⟨⟨rfl, trivial⟩, trivial, ⟨⟨rfl, trivial⟩, trivial, ⟨⟨rfl, trivial⟩, trivial, ⟨⟨rfl, rfl, trivial⟩, ⟨rfl, rfl, trivial⟩, ⟨⟨rfl, trivial⟩, trivial, ⟨⟨rfl, trivial⟩, trivial, ⟨⟨rfl, trivial⟩, trivial, ⟨⟨rfl, trivial⟩, trivial, trivial⟩⟩⟩⟩⟩⟩⟩⟩⟩⟩ (by kernel_rfl) (.cons (fun S hn h hh => aops_move (V.own 0 l16.length) wants_none h.1 rfl (an ⟨rfl, rfl⟩)) (.cons (fun S hn h hh => aops_move (V.lst 6 (l14.map encTWindow)) wants_none h.1 rfl (an ⟨rfl, rfl⟩)) (.cons (fun S hn h hh => aops_index_lst (encTWindow x34) tSl59 wants_none h.1 rfl (idx_some hx35).1 (idx_map encTWindow hx35) rfl (an ⟨rfl, rfl⟩)) (.cons (fun S hn h hh => aops_iload_agg (cs := (encTWindow x34)) tA35 wants_none h.1 rfl rfl rfl (an ⟨rfl, rfl⟩)) (.cons (fun S hn h hh => aops_buildSlice_imm [(0, (V.agg (encTWindow x34)))] [(encTWindow x34)] tEl59 tZ35 wants_none rfl rfl rfl rfl (evp_cons h.1 evp_nil) rfl rfl (by simp) (imms_rows (.cons (imms_encTWindow _) .nil)) rfl (an ⟨rfl, rfl⟩)) (.cons (fun S hn h hh => aops_append_at 1 rfl hn hh.2.1 (([x34] : List TWindow).map encTWindow) ((l16 ++ ([x34] : List TWindow)).map encTWindow) tEl59 tIsSl59 rfl rfl wants_none h.1 hh.1 (by simp) h.2.1 (.lst (rows_one one_encTWindow)) (map_snoc encTWindow l16 ([x34] : List TWindow)) (List.length_map ..) hc36 rfl (an ⟨rfl, rfl⟩)) (.cons (fun S hn h hh => aops_move (V.lst 6 (l14.map encTWindow)) wants_none h.1 rfl (an ⟨rfl, rfl⟩)) (.cons (fun S hn h hh => aops_slice_lst (1) (l14.length) ((l14.drop 1).map encTWindow) tSl59 wants_none h.1 ⟨_, rfl⟩ (List.length_map ..).symm hc37 (Nat.le_of_eq (List.length_map ..).symm) slL_hi rfl (an ⟨rfl, rfl⟩)) (.cons (fun S hn h hh => aops_assign (V.own 1 (l16 ++ ([x34] : List TWindow)).length) wants_none h.1 rfl (an ⟨rfl, rfl⟩)) (.cons (fun S hn h hh => aops_assign (V.lst 6 ((l14.drop 1).map encTWindow)) wants_none h.1 rfl (an ⟨rfl, rfl⟩)) .nil)))))))))) ?_
          exact ⟨((l14.drop 1), l15, (l16 ++ ([x34] : List TWindow))), h, (ghost_ren 1 (fun i => ([1] : List Nat).getD i 0) _ _ (by decide) (EnvSub.get (.cons (Sub.imm (Imm.lst _ _)) (.cons (Sub.imm (Imm.lst _ _)) (.cons (Sub.own rfl rfl) (.cons (Sub.imm (Imm.con _)) (.cons (Sub.imm (Imm.con _)) (.cons (Sub.imm (Imm.con _)) (.cons (Sub.imm (Imm.lst _ _)) (.cons (Sub.imm (Imm.con _)) (.cons (Sub.imm (Imm.con _)) (.cons (Sub.imm (Imm.con _)) (.cons (Sub.imm (Imm.lst _ _)) (.cons (Sub.imm (Imm.iptr _ _)) (.cons (Sub.imm (Imm.agg (imms_encTWindow _))) (.cons (Sub.imm (Imm.lst _ _)) (.cons (Sub.imm (Imm.iptr _ _)) (.cons (Sub.imm (Imm.agg (imms_encTWindow _))) (.cons (Sub.imm (Imm.con _)) (.cons (Sub.imm (Imm.con _)) .nil))))))))))))))))))) (HpSub.get (.cons rfl (ObSub.rows (rows_imm imms_encTWindow)) .nil)) rfl)⟩
        replace h := ite_f hb33 h
        replace h := bind_some h
        obtain ⟨x38, hx39, h⟩ := h
        replace h := chk_some h
        obtain ⟨hc40, h⟩ := h
        replace h := chk_some h
        obtain ⟨hc41, h⟩ := h
        refine awp_ghost ghost_res ?_
        refine awp_any [OD.mk [(5, (V.own 0 l16.length))] [] [(55, (V.own 0 l16.length))] [],
              OD.mk [(4, (V.lst 6 (l15.map encTWindow)))] [] [(56, (V.lst 6 (l15.map encTWindow)))] [],
              OD.mk [(56, (V.lst 6 (l15.map encTWindow)))] [] [(57, (V.iptr (encTWindow x38) 0))] [],
              OD.mk [(57, (V.iptr (encTWindow x38) 0))] [] [(58, (V.agg (encTWindow x38)))] [],
              OD.mk [(58, (V.agg (encTWindow x38)))] [] [(59, (V.lst 6 (([x38] : List TWindow).map encTWindow)))] [],
              OD.mk [(55, (V.own 0 l16.length)), (59, (V.lst 6 (([x38] : List TWindow).map encTWindow)))] [(0, (Ob.arr 35 6 (l16.map encTWindow))), (1, Ob.res)] [(60, (V.own 1 (l16 ++ ([x38] : List TWindow)).length))] [(1, (Ob.arr 35 6 ((l16 ++ ([x38] : List TWindow)).map encTWindow))), (0, Ob.dead)],
              OD.mk [(4, (V.lst 6 (l15.map encTWindow)))] [] [(61, (V.lst 6 (l15.map encTWindow)))] [],
              OD.mk [(61, (V.lst 6 (l15.map encTWindow)))] [] [(62, (V.lst 6 ((l15.drop 1).map encTWindow)))] [],
              OD.mk [(60, (V.own 1 (l16 ++ ([x38] : List TWindow)).length))] [] [(5, (V.own 1 (l16 ++ ([x38] : List TWindow)).length))] [],
              OD.mk [(62, (V.lst 6 ((l15.drop 1).map encTWindow)))] [] [(4, (V.lst 6 ((l15.drop 1).map encTWindow)))] []] mixed ⟨⟨rfl, trivial⟩, trivial, ⟨⟨rfl, trivial⟩, trivial, ⟨⟨rfl, trivial⟩, trivial, ⟨⟨rfl, trivial⟩, trivial, ⟨⟨rfl, trivial⟩, trivial, ⟨⟨rfl, rfl, trivial⟩, ⟨rfl, rfl, trivial⟩, ⟨⟨rfl, trivial⟩, trivial, ⟨⟨rfl, trivial⟩, trivial, ⟨⟨rfl, trivial⟩, trivial, ⟨⟨rfl, trivial⟩, trivial, trivial⟩⟩⟩⟩⟩⟩⟩⟩⟩⟩ (by kernel_rfl) (.cons (fun S hn h hh => aops_move (V.own 0 l16.length) wants_none h.1 rfl (an ⟨rfl, rfl⟩)) (.cons (fun S hn h hh => aops_move (V.lst 6 (l15.map encTWindow)) wants_none h.1 rfl (an ⟨rfl, rfl⟩)) (.cons (fun S hn h hh => aops_index_lst (encTWindow x38) tSl59 wants_none h.1 rfl (idx_some hx39).1 (idx_map encTWindow hx39) rfl (an ⟨rfl, rfl⟩)) (.cons (fun S hn h hh => aops_iload_agg (cs := (encTWindow x38)) tA35 wants_none h.1 rfl rfl rfl (an ⟨rfl, rfl⟩)) (.cons (fun S hn h hh => aops_buildSlice_imm [(0, (V.agg (encTWindow x38)))] [(encTWindow x38)] tEl59 tZ35 wants_none rfl rfl rfl rfl (evp_cons h.1 evp_nil) rfl rfl (by simp) (imms_rows (.cons (imms_encTWindow _) .nil)) rfl (an ⟨rfl, rfl⟩)) (.cons (fun S hn h hh => aops_append_at 1 rfl hn hh.2.1 (([x38] : List TWindow).map encTWindow) ((l16 ++ ([x38] : List TWindow)).map encTWindow) tEl59 tIsSl59 rfl rfl wants_none h.1 hh.1 (by simp) h.2.1 (.lst (rows_one one_encTWindow)) (map_snoc encTWindow l16 ([x38] : List TWindow)) (List.length_map ..) hc40 rfl (an ⟨rfl, rfl⟩)) (.cons (fun S hn h hh => aops_move (V.lst 6 (l15.map encTWindow)) wants_none h.1 rfl (an ⟨rfl, rfl⟩)) (.cons (fun S hn h hh => aops_slice_lst (1) (l15.length) ((l15.drop 1).map encTWindow) tSl59 wants_none h.1 ⟨_, rfl⟩ (List.length_map ..).symm hc41 (Nat.le_of_eq (List.length_map ..).symm) slL_hi rfl (an ⟨rfl, rfl⟩)) (.cons (fun S hn h hh => aops_assign (V.own 1 (l16 ++ ([x38] : List TWindow)).length) wants_none h.1 rfl (an ⟨rfl, rfl⟩)) (.cons (fun S hn h hh => aops_assign (V.lst 6 ((l15.drop 1).map encTWindow)) wants_none h.1 rfl (an ⟨rfl, rfl⟩)) .nil)))))))))) ?_
        exact ⟨(l14, (l15.drop 1), (l16 ++ ([x38] : List TWindow))), h, (ghost_ren 1 (fun i => ([1] : List Nat).getD i 0) _ _ (by decide) (EnvSub.get (.cons (Sub.imm (Imm.lst _ _)) (.cons (Sub.imm (Imm.lst _ _)) (.cons (Sub.own rfl rfl) (.cons (Sub.imm (Imm.con _)) (.cons (Sub.imm (Imm.con _)) (.cons (Sub.imm (Imm.con _)) (.cons (Sub.imm (Imm.lst _ _)) (.cons (Sub.imm (Imm.con _)) (.cons (Sub.imm (Imm.con _)) (.cons (Sub.imm (Imm.con _)) (.cons (Sub.imm (Imm.lst _ _)) (.cons (Sub.imm (Imm.iptr _ _)) (.cons (Sub.imm (Imm.agg (imms_encTWindow _))) (.cons (Sub.imm (Imm.lst _ _)) (.cons (Sub.imm (Imm.iptr _ _)) (.cons (Sub.imm (Imm.agg (imms_encTWindow _))) (.cons (Sub.imm (Imm.con _)) (.cons (Sub.imm (Imm.con _)) .nil))))))))))))))))))) (HpSub.get (.cons rfl (ObSub.rows (rows_imm imms_encTWindow)) .nil)) rfl)⟩
      clear h
      rintro ⟨l30, l31, l32⟩ h
      subst hk29
      exact awp_back (ih1 (l30, l31, l32) h) (ghost_ren 1 (fun i => ([0] : List Nat).getD i 0) _ _ (by decide) (EnvSub.get (.cons (Sub.imm (Imm.lst _ _)) (.cons (Sub.imm (Imm.lst _ _)) (.cons (Sub.own rfl rfl) .nil)))) (HpSub.get (.cons rfl (ObSub.rows (rows_imm imms_encTWindow)) .nil)) rfl)
    replace h := ite_f hb17 h
    refine aops_move (V.lst 6 (l15.map encTWindow)) (wants_some (c := (decide (((l14.length : Nat) : Int) > 0))) (b := false) 25 rfl rfl hb17) rfl rfl ?_
    refine aops_len (n := l15.length) tIsSl59 (wants_some (c := (decide (((l14.length : Nat) : Int) > 0))) (b := false) 25 rfl rfl hb17) rfl (congrArg some (List.length_map ..)) rfl ?_
    refine aops_bin (.bool (decide (((l15.length : Nat) : Int) > 0))) (wants_some (c := (decide (((l14.length : Nat) : Int) > 0))) (b := false) 25 rfl rfl hb17) rfl rfl rfl rfl ?_
    refine aops_pick false (cb := (decide (((l14.length : Nat) : Int) > 0))) (bV (decide (((l15.length : Nat) : Int) > 0))) wants_none rfl hb17 rfl rfl ?_
    refine an ?_
    refine awp_cond (decide (((l15.length : Nat) : Int) > 0)) rfl (fun hb42 => ?_) (fun hb42 => ?_)
    · replace h := ite_t hb42 h
      refine awp_skip ?_
      refine awp_block ?_
      refine sq ?_
      rcases Bool.eq_false_or_eq_true (((l15.length : Nat) : Int) == 0) with hb43 | hb43
      · replace h := ite_t hb43 h
        refine awp_any [OD.mk [(4, (V.lst 6 (l15.map encTWindow)))] [] [(30, (V.lst 6 (l15.map encTWindow)))] [],
              OD.mk [(30, (V.lst 6 (l15.map encTWindow)))] [] [(31, (iV ((l15.length : Nat) : Int)))] [],
              OD.mk [(31, (iV ((l15.length : Nat) : Int)))] [] [(32, (bV (((l15.length : Nat) : Int) == 0)))] [],
              OD.mk [(32, (bV (((l15.length : Nat) : Int) == 0)))] [] [(33, (bV (((l15.length : Nat) : Int) == 0)))] [],
              OD.mk [(33, (bV (((l15.length : Nat) : Int) == 0)))] [] [(34, (V.con undef))] [],
              OD.mk [(33, (bV (((l15.length : Nat) : Int) == 0)))] [] [(35, (V.con undef))] [],
              OD.mk [(33, (bV (((l15.length : Nat) : Int) == 0)))] [] [(36, (V.con undef))] [],
              OD.mk [(33, (bV (((l15.length : Nat) : Int) == 0)))] [] [(37, (V.con undef))] [],
              OD.mk [(37, (V.con undef))] [] [(38, (V.con undef))] [],
              OD.mk [(37, (V.con undef))] [] [(39, (V.con undef))] [],
              OD.mk [(37, (V.con undef))] [] [(40, (V.con undef))] [],
              OD.mk [(37, (V.con undef))] [] [(41, (V.con undef))] [],
              OD.mk [(37, (V.con undef))] [] [(42, (V.con undef))] [],
              OD.mk [(37, (V.con undef))] [] [(43, (V.con undef))] [],
              OD.mk [(37, (V.con undef))] [] [(44, (V.con undef))] [],
              OD.mk [(33, (bV (((l15.length : Nat) : Int) == 0)))] [] [(45, (V.con undef))] [],
              OD.mk [(33, (bV (((l15.length : Nat) : Int) == 0)))] [] [(46, (bV true))] []] mixed ⟨⟨rfl, trivial⟩, trivial, ⟨⟨rfl, trivial⟩, trivial, ⟨⟨rfl, trivial⟩, trivial, ⟨⟨rfl, trivial⟩, trivial, ⟨⟨rfl, trivial⟩, trivial, ⟨⟨rfl, trivial⟩, trivial, ⟨⟨rfl, trivial⟩, trivial, ⟨⟨rfl, trivial⟩, trivial, ⟨⟨rfl, trivial⟩, trivial, ⟨⟨rfl, trivial⟩, trivial, ⟨⟨rfl, trivial⟩, trivial, ⟨⟨rfl, trivial⟩, trivial, ⟨⟨rfl, trivial⟩, trivial, ⟨⟨rfl, trivial⟩, trivial, ⟨⟨rfl, trivial⟩, trivial, ⟨⟨rfl, trivial⟩, trivial, ⟨⟨rfl, trivial⟩, trivial, trivial⟩⟩⟩⟩⟩⟩⟩⟩⟩⟩⟩⟩⟩⟩⟩⟩⟩ (by kernel_rfl) (.cons (fun S hn h hh => aops_move (V.lst 6 (l15.map encTWindow)) wants_none h.1 rfl (an ⟨rfl, rfl⟩)) (.cons (fun S hn h hh => aops_len (n := l15.length) tIsSl59 wants_none h.1 (congrArg some (List.length_map ..)) rfl (an ⟨rfl, rfl⟩)) (.cons (fun S hn h hh => aops_bin (.bool (((l15.length : Nat) : Int) == 0)) wants_none h.1 rfl rfl rfl (an ⟨rfl, rfl⟩)) (.cons (fun S hn h hh => aops_move (bV (((l15.length : Nat) : Int) == 0)) wants_none h.1 rfl (an ⟨rfl, rfl⟩)) (.cons (fun S hn h hh => aops_skip (wants_some (c := (((l15.length : Nat) : Int) == 0)) (b := true) 33 rfl h.1 hb43) rfl rfl (an ⟨rfl, rfl⟩)) (.cons (fun S hn h hh => aops_skip (wants_some (c := (((l15.length : Nat) : Int) == 0)) (b := true) 33 rfl h.1 hb43) rfl rfl (an ⟨rfl, rfl⟩)) (.cons (fun S hn h hh => aops_skip (wants_some (c := (((l15.length : Nat) : Int) == 0)) (b := true) 33 rfl h.1 hb43) rfl rfl (an ⟨rfl, rfl⟩)) (.cons (fun S hn h hh => aops_skip (wants_some (c := (((l15.length : Nat) : Int) == 0)) (b := true) 33 rfl h.1 hb43) rfl rfl (an ⟨rfl, rfl⟩)) (.cons (fun S hn h hh => aops_skip (wants_undef 37 rfl h.1) rfl rfl (an ⟨rfl, rfl⟩)) (.cons (fun S hn h hh => aops_skip (wants_undef 37 rfl h.1) rfl rfl (an ⟨rfl, rfl⟩)) (.cons (fun S hn h hh => aops_skip (wants_undef 37 rfl h.1) rfl rfl (an ⟨rfl, rfl⟩)) (.cons (fun S hn h hh => aops_skip (wants_undef 37 rfl h.1) rfl rfl (an ⟨rfl, rfl⟩)) (.cons (fun S hn h hh => aops_skip (wants_undef 37 rfl h.1) rfl rfl (an ⟨rfl, rfl⟩)) (.cons (fun S hn h hh => aops_skip (wants_undef 37 rfl h.1) rfl rfl (an ⟨rfl, rfl⟩)) (.cons (fun S hn h hh => aops_skip (wants_undef 37 rfl h.1) rfl rfl (an ⟨rfl, rfl⟩)) (.cons (fun S hn h hh => aops_skip (wants_some (c := (((l15.length : Nat) : Int) == 0)) (b := true) 33 rfl h.1 hb43) rfl rfl (an ⟨rfl, rfl⟩)) (.cons (fun S hn h hh => aops_pick true (cb := (((l15.length : Nat) : Int) == 0)) (bV true) wants_none h.1 hb43 rfl rfl (an ⟨rfl, rfl⟩)) .nil))))))))))))))))) ?_
        refine awp_cond_t rfl rfl ?_
        replace h := bind_some h
        obtain ⟨x44, hx45, h⟩ := h
        replace h := chk_some h
        obtain ⟨hc46, h⟩ := h
        replace h := chk_some h
        obtain ⟨hc47, h⟩ := h
        refine awp_ghost ghost_res ?_
        refine awp_any [OD.mk [(5, (V.own 0 l16.length))] [] [(47, (V.own 0 l16.length))] [],
              OD.mk [(3, (V.lst 6 (l14.map encTWindow)))] [] [(48, (V.lst 6 (l14.map encTWindow)))] [],
              OD.mk [(48, (V.lst 6 (l14.map encTWindow)))] [] [(49, (V.iptr (encTWindow x44) 0))] [],
              OD.mk [(49, (V.iptr (encTWindow x44) 0))] [] [(50, (V.agg (encTWindow x44)))] [],
              OD.mk [(50, (V.agg (encTWindow x44)))] [] [(51, (V.lst 6 (([x44] : List TWindow).map encTWindow)))] [],
              OD.mk [(47, (V.own 0 l16.length)), (51, (V.lst 6 (([x44] : List TWindow).map encTWindow)))] [(0, (Ob.arr 35 6 (l16.map encTWindow))), (1, Ob.res)] [(52, (V.own 1 (l16 ++ ([x44] : List TWindow)).length))] [(1, (Ob.arr 35 6 ((l16 ++ ([x44] : List TWindow)).map encTWindow))), (0, Ob.dead)],
              OD.mk [(3, (V.lst 6 (l14.map encTWindow)))] [] [(53, (V.lst 6 (l14.map encTWindow)))] [],
              OD.mk [(53, (V.lst 6 (l14.map encTWindow)))] [] [(54, (V.lst 6 ((l14.drop 1).map encTWindow)))] [],
              OD.mk [(52, (V.own 1 (l16 ++ ([x44] : List TWindow)).length))] [] [(5, (V.own 1 (l16 ++ ([x44] : List TWindow)).length))] [],
              OD.mk [(54, (V.lst 6 ((l14.drop 1).map encTWindow)))] [] [(3, (V.lst 6 ((l14.drop 1).map encTWindow)))] []] mixed ⟨⟨rfl, trivial⟩, trivial, ⟨⟨rfl, trivial⟩, trivial, ⟨⟨rfl, trivial⟩, trivial, ⟨⟨rfl, trivial⟩, trivial, ⟨⟨rfl, trivial⟩, trivial, ⟨⟨rfl, rfl, trivial⟩, ⟨rfl, rfl, trivial⟩, ⟨⟨rfl, trivial⟩, trivial, ⟨⟨rfl, trivial⟩, trivial, ⟨⟨rfl, trivial⟩, trivial, ⟨⟨rfl, trivial⟩, trivial, trivial⟩⟩⟩⟩⟩⟩⟩⟩⟩⟩ (by kernel_rfl) (.cons (fun S hn h hh => aops_move (V.own 0 l16.length) wants_none h.1 rfl (an ⟨rfl, rfl⟩)) (.cons (fun S hn h hh => aops_move (V.lst 6 (l14.map encTWindow)) wants_none h.1 rfl (an ⟨rfl, rfl⟩)) (.cons (fun S hn h hh => aops_index_lst (encTWindow x44) tSl59 wants_none h.1 rfl (idx_some hx45).1 (idx_map encTWindow hx45) rfl (an ⟨rfl, rfl⟩)) (.cons (fun S hn h hh => aops_iload_agg (cs := (encTWindow x44)) tA35 wants_none h.1 rfl rfl rfl (an ⟨rfl, rfl⟩)) (.cons (fun S hn h hh => aops_buildSlice_imm [(0, (V.agg (encTWindow x44)))] [(encTWindow x44)] tEl59 tZ35 wants_none rfl rfl rfl rfl (evp_cons h.1 evp_nil) rfl rfl (by simp) (imms_rows (.cons (imms_encTWindow _) .nil)) rfl (an ⟨rfl, rfl⟩)) (.cons (fun S hn h hh => aops_append_at 1 rfl hn hh.2.1 (([x44] : List TWindow).map encTWindow) ((l16 ++ ([x44] : List TWindow)).map encTWindow) tEl59 tIsSl59 rfl rfl wants_none h.1 hh.1 (by simp) h.2.1 (.lst (rows_one one_encTWindow)) (map_snoc encTWindow l16 ([x44] : List TWindow)) (List.length_map ..) hc46 rfl (an ⟨rfl, rfl⟩)) (.cons (fun S hn h hh => aops_move (V.lst 6 (l14.map encTWindow)) wants_none h.1 rfl (an ⟨rfl, rfl⟩)) (.cons (fun S hn h hh => aops_slice_lst (1) (l14.length) ((l14.drop 1).map encTWindow) tSl59 wants_none h.1 ⟨_, rfl⟩ (List.length_map ..).symm hc47 (Nat.le_of_eq (List.length_map ..).symm) slL_hi rfl (an ⟨rfl, rfl⟩)) (.cons (fun S hn h hh => aops_assign (V.own 1 (l16 ++ ([x44] : List TWindow)).length) wants_none h.1 rfl (an ⟨rfl, rfl⟩)) (.cons (fun S hn h hh => aops_assign (V.lst 6 ((l14.drop 1).map encTWindow)) wants_none h.1 rfl (an ⟨rfl, rfl⟩)) .nil)))))))))) ?_
        exact awp_back (ih1 ((l14.drop 1), l15, (l16 ++ ([x44] : List TWindow))) h) (ghost_ren 1 (fun i => ([1] : List Nat).getD i 0) _ _ (by decide) (EnvSub.get (.cons (Sub.imm (Imm.lst _ _)) (.cons (Sub.imm (Imm.lst _ _)) (.cons (Sub.own rfl rfl) .nil)))) (HpSub.get (.cons rfl (ObSub.rows (rows_imm imms_encTWindow)) .nil)) rfl)
      replace h := ite_f hb43 h
      refine awp_any [OD.mk [(4, (V.lst 6 (l15.map encTWindow)))] [] [(30, (V.lst 6 (l15.map encTWindow)))] [],
            OD.mk [(30, (V.lst 6 (l15.map encTWindow)))] [] [(31, (iV ((l15.length : Nat) : Int)))] [],
            OD.mk [(31, (iV ((l15.length : Nat) : Int)))] [] [(32, (bV (((l15.length : Nat) : Int) == 0)))] [],
            OD.mk [(32, (bV (((l15.length : Nat) : Int) == 0)))] [] [(33, (bV (((l15.length : Nat) : Int) == 0)))] [],
            OD.mk [(33, (bV (((l15.length : Nat) : Int) == 0))), (3, (V.lst 6 (l14.map encTWindow)))] [] [(34, (V.lst 6 (l14.map encTWindow)))] [],
            OD.mk [(33, (bV (((l15.length : Nat) : Int) == 0))), (34, (V.lst 6 (l14.map encTWindow)))] [] [(35, (iV ((l14.length : Nat) : Int)))] [],
            OD.mk [(33, (bV (((l15.length : Nat) : Int) == 0))), (35, (iV ((l14.length : Nat) : Int)))] [] [(36, (bV (decide (((l14.length : Nat) : Int) > 0))))] [],
            OD.mk [(33, (bV (((l15.length : Nat) : Int) == 0))), (36, (bV (decide (((l14.length : Nat) : Int) > 0))))] [] [(37, (bV (decide (((l14.length : Nat) : Int) > 0))))] [],
            OD.mk [(37, (bV (decide (((l14.length : Nat) : Int) > 0))))] [] [(38, (V.con undef))] [],
            OD.mk [(37, (bV (decide (((l14.length : Nat) : Int) > 0))))] [] [(39, (V.con undef))] [],
            OD.mk [(37, (bV (decide (((l14.length : Nat) : Int) > 0))))] [] [(40, (V.con undef))] [],
            OD.mk [(37, (bV (decide (((l14.length : Nat) : Int) > 0))))] [] [(41, (V.con undef))] [],
            OD.mk [(37, (bV (decide (((l14.length : Nat) : Int) > 0))))] [] [(42, (V.con undef))] [],
            OD.mk [(37, (bV (decide (((l14.length : Nat) : Int) > 0))))] [] [(43, (V.con undef))] [],
            OD.mk [(37, (bV (decide (((l14.length : Nat) : Int) > 0))))] [] [(44, (V.con undef))] [],
            OD.mk [(33, (bV (((l15.length : Nat) : Int) == 0))), (37, (bV (decide (((l14.length : Nat) : Int) > 0))))] [] [(45, (bV false))] [],
            OD.mk [(33, (bV (((l15.length : Nat) : Int) == 0))), (45, (bV false))] [] [(46, (bV false))] []] mixed ⟨⟨rfl, trivial⟩, trivial, ⟨⟨rfl, trivial⟩, trivial, ⟨⟨rfl, trivial⟩, trivial, ⟨⟨rfl, trivial⟩, trivial, ⟨⟨rfl, rfl, trivial⟩, trivial, ⟨⟨rfl, rfl, trivial⟩, trivial, ⟨⟨rfl, rfl, trivial⟩, trivial, ⟨⟨rfl, rfl, trivial⟩, trivial, ⟨⟨rfl, trivial⟩, trivial, ⟨⟨rfl, trivial⟩, trivial, ⟨⟨rfl, trivial⟩, trivial, ⟨⟨rfl, trivial⟩, trivial, ⟨⟨rfl, trivial⟩, trivial, ⟨⟨rfl, trivial⟩, trivial, ⟨⟨rfl, trivial⟩, trivial, ⟨⟨rfl, rfl, trivial⟩, trivial, ⟨⟨rfl, rfl, trivial⟩, trivial, trivial⟩⟩⟩⟩⟩⟩⟩⟩⟩⟩⟩⟩⟩⟩⟩⟩⟩ (by kernel_rfl) (.cons (fun S hn h hh => aops_move (V.lst 6 (l15.map encTWindow)) wants_none h.1 rfl (an ⟨rfl, rfl⟩)) (.cons (fun S hn h hh => aops_len (n := l15.length) tIsSl59 wants_none h.1 (congrArg some (List.length_map ..)) rfl (an ⟨rfl, rfl⟩)) (.cons (fun S hn h hh => aops_bin (.bool (((l15.length : Nat) : Int) == 0)) wants_none h.1 rfl rfl rfl (an ⟨rfl, rfl⟩)) (.cons (fun S hn h hh => aops_move (bV (((l15.length : Nat) : Int) == 0)) wants_none h.1 rfl (an ⟨rfl, rfl⟩)) (.cons (fun S hn h hh => aops_move (V.lst 6 (l14.map encTWindow)) (wants_some (c := (((l15.length : Nat) : Int) == 0)) (b := false) 33 rfl h.1 hb43) h.2.1 rfl (an ⟨rfl, rfl⟩)) (.cons (fun S hn h hh => aops_len (n := l14.length) tIsSl59 (wants_some (c := (((l15.length : Nat) : Int) == 0)) (b := false) 33 rfl h.1 hb43) h.2.1 (congrArg some (List.length_map ..)) rfl (an ⟨rfl, rfl⟩)) (.cons (fun S hn h hh => aops_bin (.bool (decide (((l14.length : Nat) : Int) > 0))) (wants_some (c := (((l15.length : Nat) : Int) == 0)) (b := false) 33 rfl h.1 hb43) h.2.1 rfl rfl rfl (an ⟨rfl, rfl⟩)) (.cons (fun S hn h hh => aops_move (bV (decide (((l14.length : Nat) : Int) > 0))) (wants_some (c := (((l15.length : Nat) : Int) == 0)) (b := false) 33 rfl h.1 hb43) h.2.1 rfl (an ⟨rfl, rfl⟩)) (.cons (fun S hn h hh => aops_skip (wants_some (c := (decide (((l14.length : Nat) : Int) > 0))) (b := false) 37 rfl h.1 hb17) rfl rfl (an ⟨rfl, rfl⟩)) (.cons (fun S hn h hh => aops_skip (wants_some (c := (decide (((l14.length : Nat) : Int) > 0))) (b := false) 37 rfl h.1 hb17) rfl rfl (an ⟨rfl, rfl⟩)) (.cons (fun S hn h hh => aops_skip (wants_some (c := (decide (((l14.length : Nat) : Int) > 0))) (b := false) 37 rfl h.1 hb17) rfl rfl (an ⟨rfl, rfl⟩)) (.cons (fun S hn h hh => aops_skip (wants_some (c := (decide (((l14.length : Nat) : Int) > 0))) (b := false) 37 rfl h.1 hb17) rfl rfl (an ⟨rfl, rfl⟩)) (.cons (fun S hn h hh => aops_skip (wants_some (c := (decide (((l14.length : Nat) : Int) > 0))) (b := false) 37 rfl h.1 hb17) rfl rfl (an ⟨rfl, rfl⟩)) (.cons (fun S hn h hh => aops_skip (wants_some (c := (decide (((l14.length : Nat) : Int) > 0))) (b := false) 37 rfl h.1 hb17) rfl rfl (an ⟨rfl, rfl⟩)) (.cons (fun S hn h hh => aops_skip (wants_some (c := (decide (((l14.length : Nat) : Int) > 0))) (b := false) 37 rfl h.1 hb17) rfl rfl (an ⟨rfl, rfl⟩)) (.cons (fun S hn h hh => aops_pick false (cb := (decide (((l14.length : Nat) : Int) > 0))) (bV false) (wants_some (c := (((l15.length : Nat) : Int) == 0)) (b := false) 33 rfl h.1 hb43) h.2.1 hb17 rfl rfl (an ⟨rfl, rfl⟩)) (.cons (fun S hn h hh => aops_pick false (cb := (((l15.length : Nat) : Int) == 0)) (bV false) wants_none h.1 hb43 h.2.1 rfl (an ⟨rfl, rfl⟩)) .nil))))))))))))))))) ?_
      refine awp_cond_f rfl rfl ?_
      replace h := bind_some h
      obtain ⟨x48, hx49, h⟩ := h
      replace h := chk_some h
      obtain ⟨hc50, h⟩ := h
      replace h := chk_some h
      obtain ⟨hc51, h⟩ := h
      refine awp_ghost ghost_res ?_
      refine awp_any [OD.mk [(5, (V.own 0 l16.length))] [] [(55, (V.own 0 l16.length))] [],
            OD.mk [(4, (V.lst 6 (l15.map encTWindow)))] [] [(56, (V.lst 6 (l15.map encTWindow)))] [],
            OD.mk [(56, (V.lst 6 (l15.map encTWindow)))] [] [(57, (V.iptr (encTWindow x48) 0))] [],
            OD.mk [(57, (V.iptr (encTWindow x48) 0))] [] [(58, (V.agg (encTWindow x48)))] [],
            OD.mk [(58, (V.agg (encTWindow x48)))] [] [(59, (V.lst 6 (([x48] : List TWindow).map encTWindow)))] [],
            OD.mk [(55, (V.own 0 l16.length)), (59, (V.lst 6 (([x48] : List TWindow).map encTWindow)))] [(0, (Ob.arr 35 6 (l16.map encTWindow))), (1, Ob.res)] [(60, (V.own 1 (l16 ++ ([x48] : List TWindow)).length))] [(1, (Ob.arr 35 6 ((l16 ++ ([x48] : List TWindow)).map encTWindow))), (0, Ob.dead)],
            OD.mk [(4, (V.lst 6 (l15.map encTWindow)))] [] [(61, (V.lst 6 (l15.map encTWindow)))] [],
            OD.mk [(61, (V.lst 6 (l15.map encTWindow)))] [] [(62, (V.lst 6 ((l15.drop 1).map encTWindow)))] [],
            OD.mk [(60, (V.own 1 (l16 ++ ([x48] : List TWindow)).length))] [] [(5, (V.own 1 (l16 ++ ([x48] : List TWindow)).length))] [],
            OD.mk [(62, (V.lst 6 ((l15.drop 1).map encTWindow)))] [] [(4, (V.lst 6 ((l15.drop 1).map encTWindow)))] []] mixed ⟨⟨rfl, trivial⟩, trivial, ⟨⟨rfl, trivial⟩, trivial, ⟨⟨rfl, trivial⟩, trivial, ⟨⟨rfl, trivial⟩, trivial, ⟨⟨rfl, trivial⟩, trivial, ⟨⟨rfl, rfl, trivial⟩, ⟨rfl, rfl, trivial⟩, ⟨⟨rfl, trivial⟩, trivial, ⟨⟨rfl, trivial⟩, trivial, ⟨⟨rfl, trivial⟩, trivial, ⟨⟨rfl, trivial⟩, trivial, trivial⟩⟩⟩⟩⟩⟩⟩⟩⟩⟩ (by kernel_rfl) (.cons (fun S hn h hh => aops_move (V.own 0 l16.length) wants_none h.1 rfl (an ⟨rfl, rfl⟩)) (.cons (fun S hn h hh => aops_move (V.lst 6 (l15.map encTWindow)) wants_none h.1 rfl (an ⟨rfl, rfl⟩)) (.cons (fun S hn h hh => aops_index_lst (encTWindow x48) tSl59 wants_none h.1 rfl (idx_some hx49).1 (idx_map encTWindow hx49) rfl (an ⟨rfl, rfl⟩)) (.cons (fun S hn h hh => aops_iload_agg (cs := (encTWindow x48)) tA35 wants_none h.1 rfl rfl rfl (an ⟨rfl, rfl⟩)) (.cons (fun S hn h hh => aops_buildSlice_imm [(0, (V.agg (encTWindow x48)))] [(encTWindow x48)] tEl59 tZ35 wants_none rfl rfl rfl rfl (evp_cons h.1 evp_nil) rfl rfl (by simp) (imms_rows (.cons (imms_encTWindow _) .nil)) rfl (an ⟨rfl, rfl⟩)) (.cons (fun S hn h hh => aops_append_at 1 rfl hn hh.2.1 (([x48] : List TWindow).map encTWindow) ((l16 ++ ([x48] : List TWindow)).map encTWindow) tEl59 tIsSl59 rfl rfl wants_none h.1 hh.1 (by simp) h.2.1 (.lst (rows_one one_encTWindow)) (map_snoc encTWindow l16 ([x48] : List TWindow)) (List.length_map ..) hc50 rfl (an ⟨rfl, rfl⟩)) (.cons (fun S hn h hh => aops_move (V.lst 6 (l15.map encTWindow)) wants_none h.1 rfl (an ⟨rfl, rfl⟩)) (.cons (fun S hn h hh => aops_slice_lst (1) (l15.length) ((l15.drop 1).map encTWindow) tSl59 wants_none h.1 ⟨_, rfl⟩ (List.length_map ..).symm hc51 (Nat.le_of_eq (List.length_map ..).symm) slL_hi rfl (an ⟨rfl, rfl⟩)) (.cons (fun S hn h hh => aops_assign (V.own 1 (l16 ++ ([x48] : List TWindow)).length) wants_none h.1 rfl (an ⟨rfl, rfl⟩)) (.cons (fun S hn h hh => aops_assign (V.lst 6 ((l15.drop 1).map encTWindow)) wants_none h.1 rfl (an ⟨rfl, rfl⟩)) .nil)))))))))) ?_
      exact awp_back (ih1 (l14, (l15.drop 1), (l16 ++ ([x48] : List TWindow))) h) (ghost_ren 1 (fun i => ([1] : List Nat).getD i 0) _ _ (by decide) (EnvSub.get (.cons (Sub.imm (Imm.lst _ _)) (.cons (Sub.imm (Imm.lst _ _)) (.cons (Sub.own rfl rfl) .nil)))) (HpSub.get (.cons rfl (ObSub.rows (rows_imm imms_encTWindow)) .nil)) rfl)
    replace h := ite_f hb42 h
    refine awp_exit ?_
    exact ⟨l16, h, (ghost_ren 1 (fun i => ([0] : List Nat).getD i 0) _ _ (by decide) (EnvSub.get (.cons (Sub.own rfl rfl) .nil)) (HpSub.get (.cons rfl (ObSub.rows (rows_imm imms_encTWindow)) .nil)) rfl)⟩
  clear h
  intro l10 h
  subst hk9
  refine sr ?_
  refine am (V.own 0 l10.length) rfl rfl ?_
  refine aa (V.own 0 l10.length) rfl rfl ?_
  refine an ?_
  refine awp_ghost (ghost_frzE 0 2 rfl (rows_imm imms_encTWindow) rfl (List.length_map ..).symm) ?_
  refine awp_ret ?_
  obtain rfl := Option.some.inj h
  exact ⟨.inl rfl, .one (.tmp rfl (Imm.lst _ _))⟩
theorem W135 : ∀ (F : Nat) (a1 : (List TWindow)) (r : (List TWindow)) (h : M135 F a1 = some r), Pure Try.prog 135 [(V.lst 6 (a1.map encTWindow))] (V.lst 6 (r.map encTWindow)) := by
  intro F
  induction F with
  | zero => intros; simp [M135] at *
  | succ F ih => exact fun a1 r h => W135_B (M135 F) ih F a1 r h
theorem W99 (F : Nat) (a1 : TStory) (r : (List TWindow)) (h : M99 F a1 = some r) : Pure Try.prog 99 [(V.agg (encTStory a1))] (V.lst 6 (r.map encTWindow)) := by
  refine pure_enter Try.func99 rfl rfl (l := [.tmp 2]) rfl rfl [(0, (V.agg (encTStory a1)))] rfl (fun w0 m0 => ?_)
  unfold M99 at h
  refine sr ?_
  refine aops_box (encTStory a1) wants_none rfl rfl rfl rfl ?_
  refine aa nV rfl rfl ?_
  refine an ?_
  refine sr ?_
  refine aa nV rfl rfl ?_
  refine an ?_
  refine sr ?_
  refine aops_makeMap wants_none rfl ?_
  refine aa (V.map 1) rfl rfl ?_
  refine an ?_
  refine sq ?_
  refine sr ?_
  refine aops_load_agg (cs := (encTStory a1)) tA52 wants_none rfl rfl rfl rfl rfl rfl ?_
  replace h := bind_some h
  obtain ⟨y2, hx3, h⟩ := h
  refine aops_call (V.agg (encTprovenderref11_view y2)) [(V.agg (encTStory a1))] fOk91 wants_none (evm_cons rfl evm_nil) (.cons (Imm.agg (imms_encTStory _)) .nil) (W91 F a1 y2 hx3) rfl ?_
  replace h := bind_some h
  obtain ⟨y4, hx5, h⟩ := h
  refine aops_call (V.lst 5 (y4.map encTprovenderref11_stretch)) [(V.agg (encTprovenderref11_view y2))] fOk118 wants_none (evm_cons rfl evm_nil) (.cons (Imm.agg (imms_encTprovenderref11_view _)) .nil) (W118 F y2 y4 hx5) rfl ?_
  refine aops_len (n := y4.length) tIsSl159 wants_none rfl (congrArg some (List.length_map ..)) rfl ?_
  refine am (iV 0) rfl rfl ?_
  refine an ?_
  replace h := jn_elim h
  obtain ⟨k6, hk6, h⟩ := h
  refine awp_cut (fun (p : (List TWindow)) => (⟨[(1, (V.ptr 0 4 0 0)), (3, (V.own 1 p.length))], [(0, (Ob.arr 52 4 [(encTStory a1)])), (1, (Ob.arr 35 6 (p.map encTWindow)))], 2⟩ : St)) (fun (p : (List TWindow)) => k6 p = some r) ?_ ?_
  · clear hk6
    refine awp_block ?_
    refine awp_len (A := y4) 13 rfl (fun hA30 => ?_)
    refine awp_loop_ind (fun (p : Int × (List TWindow) × (List (TExposure × Int))) => (⟨[(1, (V.ptr 0 4 0 0)), (3, (V.own 1 (p.2.1).length)), (4, (V.map 2)), (13, (V.lst 5 (y4.map encTprovenderref11_stretch))), (14, (iV ((y4.length : Nat) : Int))), (15, (iV (p.1)))], [(0, (Ob.arr 52 4 [(encTStory a1)])), (1, (Ob.arr 35 6 ((p.2.1).map encTWindow))), (2, (Ob.map ((p.2.2).map encM47_3)))], 3⟩ : St)) (fun n (p : Int × (List TWindow) × (List (TExposure × Int))) => RG y4 (fun tl nn => M99_L1 F k6 tl p.2.1 p.2.2 = some r) n p.1) (fun p h => RG.zero h) (fun n ih1 p h => ?_) (y4.length + 1) (0, ([] : List TWindow), ([] : List (TExposure × Int))) (RG.start h) (Ghost.trans (ghost_nilE 3 35 6 rfl) (ghost_ren 3 (fun i => ([0, 2, 1] : List Nat).getD i 0) _ _ (by decide) (EnvSub.get (.cons (Sub.ptr rfl rfl) (.cons (Sub.ownE rfl rfl (by simp)) (.cons (Sub.map rfl rfl) (.cons (Sub.imm (Imm.lst _ _)) (.cons (Sub.imm (Imm.con _)) (.cons (Sub.imm (Imm.con _)) .nil))))))) (HpSub.get (.cons rfl (ObSub.box (.cons (Sub.imm (Imm.con _)) (.cons (Sub.imm (Imm.lst _ _)) (.cons (Sub.imm (Imm.lst _ _)) (.cons (Sub.imm (Imm.con _)) .nil))))) (.cons rfl (ObSub.rows (rows_imm imms_encTWindow)) (.cons rfl (ObSub.maps encM47_3_imm) .nil)))) rfl))
    obtain ⟨n11, l12, m13⟩ := p
    refine awp_loop ?_
    refine sr ?_
    refine aops_bin (.bool (decide (n11 < ((y4.length : Nat) : Int)))) wants_none rfl rfl rfl rfl ?_
    refine an ?_
    refine sq ?_
    refine awp_cond (decide (n11 < ((y4.length : Nat) : Int))) rfl (fun hb14 => ?_) (fun hb14 => ?_)
    · obtain ⟨x18, tl, hx19, h, hk1⟩ := RG.t hA30 h hb14
      unfold M99_L1 at h
      refine awp_skip ?_
      refine sq ?_
      replace h := jn_elim h
      obtain ⟨k15, hk15, h⟩ := h
      refine awp_cut (fun (p : (List TWindow) × (List (TExposure × Int))) => (⟨[(1, (V.ptr 0 4 0 0)), (3, (V.own 1 (p.1).length)), (4, (V.map 2)), (13, (V.lst 5 (y4.map encTprovenderref11_stretch))), (14, (iV ((y4.length : Nat) : Int))), (15, (iV n11))], [(0, (Ob.arr 52 4 [(encTStory a1)])), (1, (Ob.arr 35 6 ((p.1).map encTWindow))), (2, (Ob.map ((p.2).map encM47_3)))], 3⟩ : St)) (fun (p : (List TWindow) × (List (TExposure × Int))) => k15 p.1 p.2 = some r) ?_ ?_
      · clear hk15
        refine awp_block ?_
        refine sr ?_
        refine aops_index_lst (encTprovenderref11_stretch x18) tSl159 wants_none rfl rfl (idx_some hx19).1 (idx_map encTprovenderref11_stretch hx19) rfl ?_
        refine aops_iload_agg (cs := (encTprovenderref11_stretch x18)) tA162 wants_none rfl rfl rfl rfl ?_
        refine aops_alloc tZ162 rfl rfl wants_none rfl ?_
        refine aops_store (encTprovenderref11_stretch x18) [(encTprovenderref11_stretch x18)] tS162 wants_none rfl rfl rfl rfl rfl rfl rfl rfl ?_
        refine an ?_
        refine sr ?_
        refine aops_fieldAddr tF162_0 wants_none rfl rfl ?_
        refine aops_load_agg (cs := (encTExposure x18.x)) tA47 wants_none rfl rfl rfl rfl rfl rfl ?_
        refine aops_alloc tZ47 rfl rfl wants_none rfl ?_
        refine aops_store (encTExposure x18.x) [(encTExposure x18.x)] tS47 wants_none rfl rfl rfl rfl rfl rfl rfl rfl ?_
        refine an ?_
        refine sr ?_
        refine aops_fieldAddr tF47_2 wants_none rfl rfl ?_
        refine aops_store [(iV 0)] [[(sV x18.x.Advisory), (sV x18.x.Component), (iV 0)]] tS3 wants_none rfl rfl rfl rfl rfl rfl rfl rfl ?_
        refine an ?_
        refine sq ?_
        refine sr ?_
        refine am (V.map 2) rfl rfl ?_
        refine aops_load_agg (cs := [(sV x18.x.Advisory), (sV x18.x.Component), (iV 0)]) tA47 wants_none rfl rfl rfl rfl rfl rfl ?_
        refine aops_lookup _ (iV 0) (iV ((mget m13 (TExposure.mk x18.x.Advisory x18.x.Component 0)).getD 0)) tMap175 tKey47 tZo3 (irel_con _) wants_none rfl (.own rfl) (.agg (cv47 (TExposure.mk x18.x.Advisory x18.x.Component 0)) rfl) ⟨_, rfl⟩ encM47_3_good (encM47_3_look m13 (TExposure.mk x18.x.Advisory x18.x.Component 0)) (getD_map (encM47_3_val) (mget m13 (TExposure.mk x18.x.Advisory x18.x.Component 0)) 0) rfl ?_
        refine aa (iV ((mget m13 (TExposure.mk x18.x.Advisory x18.x.Component 0)).getD 0)) rfl rfl ?_
        refine an ?_
        refine sq ?_
        rcases Bool.eq_false_or_eq_true (decide (((mget m13 (TExposure.mk x18.x.Advisory x18.x.Component 0)).getD 0) > 0)) with hb20 | hb20
        · replace h := ite_t hb20 h
          replace h := bind_some h
          obtain ⟨x21, hx22, h⟩ := h
          refine awp_any [OD.mk [(8, (iV ((mget m13 (TExposure.mk x18.x.Advisory x18.x.Component 0)).getD 0)))] [] [(25, (iV ((mget m13 (TExposure.mk x18.x.Advisory x18.x.Component 0)).getD 0)))] [],
                OD.mk [(25, (iV ((mget m13 (TExposure.mk x18.x.Advisory x18.x.Component 0)).getD 0)))] [] [(26, (bV (decide (((mget m13 (TExposure.mk x18.x.Advisory x18.x.Component 0)).getD 0) > 0))))] [],
                OD.mk [(26, (bV (decide (((mget m13 (TExposure.mk x18.x.Advisory x18.x.Component 0)).getD 0) > 0))))] [] [(27, (bV (decide (((mget m13 (TExposure.mk x18.x.Advisory x18.x.Component 0)).getD 0) > 0))))] [],
                OD.mk [(27, (bV (decide (((mget m13 (TExposure.mk x18.x.Advisory x18.x.Component 0)).getD 0) > 0)))), (3, (V.own 1 l12.length))] [] [(28, (V.own 1 l12.length))] [],
                OD.mk [(27, (bV (decide (((mget m13 (TExposure.mk x18.x.Advisory x18.x.Component 0)).getD 0) > 0)))), (8, (iV ((mget m13 (TExposure.mk x18.x.Advisory x18.x.Component 0)).getD 0)))] [] [(29, (iV ((mget m13 (TExposure.mk x18.x.Advisory x18.x.Component 0)).getD 0)))] [],
                OD.mk [(27, (bV (decide (((mget m13 (TExposure.mk x18.x.Advisory x18.x.Component 0)).getD 0) > 0)))), (29, (iV ((mget m13 (TExposure.mk x18.x.Advisory x18.x.Component 0)).getD 0)))] [] [(30, (iV (w64 (((mget m13 (TExposure.mk x18.x.Advisory x18.x.Component 0)).getD 0) - 1))))] [],
                OD.mk [(27, (bV (decide (((mget m13 (TExposure.mk x18.x.Advisory x18.x.Component 0)).getD 0) > 0)))), (28, (V.own 1 l12.length)), (30, (iV (w64 (((mget m13 (TExposure.mk x18.x.Advisory x18.x.Component 0)).getD 0) - 1))))] [] [(31, (V.ptr 1 6 (w64 (((mget m13 (TExposure.mk x18.x.Advisory x18.x.Component 0)).getD 0) - 1)).toNat 0))] [],
                OD.mk [(27, (bV (decide (((mget m13 (TExposure.mk x18.x.Advisory x18.x.Component 0)).getD 0) > 0)))), (31, (V.ptr 1 6 (w64 (((mget m13 (TExposure.mk x18.x.Advisory x18.x.Component 0)).getD 0) - 1)).toNat 0))] [] [(32, (V.ptr 1 6 (w64 (((mget m13 (TExposure.mk x18.x.Advisory x18.x.Component 0)).getD 0) - 1)).toNat 4))] [],
                OD.mk [(27, (bV (decide (((mget m13 (TExposure.mk x18.x.Advisory x18.x.Component 0)).getD 0) > 0)))), (32, (V.ptr 1 6 (w64 (((mget m13 (TExposure.mk x18.x.Advisory x18.x.Component 0)).getD 0) - 1)).toNat 4))] [(1, (Ob.arr 35 6 (l12.map encTWindow)))] [(33, (iV x21.To))] [],
                OD.mk [(27, (bV (decide (((mget m13 (TExposure.mk x18.x.Advisory x18.x.Component 0)).getD 0) > 0)))), (6, (V.ptr 3 5 0 0))] [] [(34, (V.ptr 3 5 0 3))] [],
                OD.mk [(27, (bV (decide (((mget m13 (TExposure.mk x18.x.Advisory x18.x.Component 0)).getD 0) > 0)))), (34, (V.ptr 3 5 0 3))] [(3, (Ob.arr 162 5 [(encTprovenderref11_stretch x18)]))] [(35, (iV x18.from_))] [],
                OD.mk [(27, (bV (decide (((mget m13 (TExposure.mk x18.x.Advisory x18.x.Component 0)).getD 0) > 0)))), (33, (iV x21.To)), (35, (iV x18.from_))] [] [(36, (bV (x21.To == x18.from_)))] [],
                OD.mk [(27, (bV (decide (((mget m13 (TExposure.mk x18.x.Advisory x18.x.Component 0)).getD 0) > 0)))), (36, (bV (x21.To == x18.from_)))] [] [(37, (bV (x21.To == x18.from_)))] []] mixed ⟨⟨rfl, trivial⟩, trivial, ⟨⟨rfl, trivial⟩, trivial, ⟨⟨rfl, trivial⟩, trivial, ⟨⟨rfl, rfl, trivial⟩, trivial, ⟨⟨rfl, rfl, trivial⟩, trivial, ⟨⟨rfl, rfl, trivial⟩, trivial, ⟨⟨rfl, rfl, rfl, trivial⟩, trivial, ⟨⟨rfl, rfl, trivial⟩, trivial, ⟨⟨rfl, rfl, trivial⟩, ⟨rfl, trivial⟩, ⟨⟨rfl, rfl, trivial⟩, trivial, ⟨⟨rfl, rfl, trivial⟩, ⟨rfl, trivial⟩, ⟨⟨rfl, rfl, rfl, trivial⟩, trivial, ⟨⟨rfl, rfl, trivial⟩, trivial, trivial⟩⟩⟩⟩⟩⟩⟩⟩⟩⟩⟩⟩⟩ (by kernel_rfl) (.cons (fun S hn h hh => aops_move (iV ((mget m13 (TExposure.mk x18.x.Advisory x18.x.Component 0)).getD 0)) wants_none h.1 rfl (an ⟨rfl, rfl⟩)) (.cons (fun S hn h hh => aops_bin (.bool (decide (((mget m13 (TExposure.mk x18.x.Advisory x18.x.Component 0)).getD 0) > 0))) wants_none h.1 rfl rfl rfl (an ⟨rfl, rfl⟩)) (.cons (fun S hn h hh => aops_move (bV (decide (((mget m13 (TExposure.mk x18.x.Advisory x18.x.Component 0)).getD 0) > 0))) wants_none h.1 rfl (an ⟨rfl, rfl⟩)) (.cons (fun S hn h hh => aops_move (V.own 1 l12.length) (wants_some (c := (decide (((mget m13 (TExposure.mk x18.x.Advisory x18.x.Component 0)).getD 0) > 0))) (b := true) 27 rfl h.1 hb20) h.2.1 rfl (an ⟨rfl, rfl⟩)) (.cons (fun S hn h hh => aops_move (iV ((mget m13 (TExposure.mk x18.x.Advisory x18.x.Component 0)).getD 0)) (wants_some (c := (decide (((mget m13 (TExposure.mk x18.x.Advisory x18.x.Component 0)).getD 0) > 0))) (b := true) 27 rfl h.1 hb20) h.2.1 rfl (an ⟨rfl, rfl⟩)) (.cons (fun S hn h hh => aops_bin (.int .i64 (w64 (((mget m13 (TExposure.mk x18.x.Advisory x18.x.Component 0)).getD 0) - 1))) (wants_some (c := (decide (((mget m13 (TExposure.mk x18.x.Advisory x18.x.Component 0)).getD 0) > 0))) (b := true) 27 rfl h.1 hb20) h.2.1 rfl rfl rfl (an ⟨rfl, rfl⟩)) (.cons (fun S hn h hh => aops_index_own tSl59 (wants_some (c := (decide (((mget m13 (TExposure.mk x18.x.Advisory x18.x.Component 0)).getD 0) > 0))) (b := true) 27 rfl h.1 hb20) h.2.1 h.2.2.1 (idx_some hx22).1 (by simpa using idx_lt hx22) rfl (an ⟨rfl, rfl⟩)) (.cons (fun S hn h hh => aops_fieldAddr tF35_4 (wants_some (c := (decide (((mget m13 (TExposure.mk x18.x.Advisory x18.x.Component 0)).getD 0) > 0))) (b := true) 27 rfl h.1 hb20) h.2.1 rfl (an ⟨rfl, rfl⟩)) (.cons (fun S hn h hh => aops_load_cell (iV x21.To) tC3 (wants_some (c := (decide (((mget m13 (TExposure.mk x18.x.Advisory x18.x.Component 0)).getD 0) > 0))) (b := true) 27 rfl h.1 hb20) h.2.1 hh.1 (idx_map encTWindow hx22) rfl rfl (an ⟨rfl, rfl⟩)) (.cons (fun S hn h hh => aops_fieldAddr tF162_1 (wants_some (c := (decide (((mget m13 (TExposure.mk x18.x.Advisory x18.x.Component 0)).getD 0) > 0))) (b := true) 27 rfl h.1 hb20) h.2.1 rfl (an ⟨rfl, rfl⟩)) (.cons (fun S hn h hh => aops_load_cell (iV x18.from_) tC3 (wants_some (c := (decide (((mget m13 (TExposure.mk x18.x.Advisory x18.x.Component 0)).getD 0) > 0))) (b := true) 27 rfl h.1 hb20) h.2.1 hh.1 rfl rfl rfl (an ⟨rfl, rfl⟩)) (.cons (fun S hn h hh => aops_bin (.bool (x21.To == x18.from_)) (wants_some (c := (decide (((mget m13 (TExposure.mk x18.x.Advisory x18.x.Component 0)).getD 0) > 0))) (b := true) 27 rfl h.1 hb20) h.2.1 h.2.2.1 rfl rfl (an ⟨rfl, rfl⟩)) (.cons (fun S hn h hh => aops_pick true (cb := (decide (((mget m13 (TExposure.mk x18.x.Advisory x18.x.Component 0)).getD 0) > 0))) (bV (x21.To == x18.from_)) wants_none h.1 hb20 h.2.1 rfl (an ⟨rfl, rfl⟩)) .nil))))))))))))) ?_
          refine awp_cond (x21.To == x18.from_) rfl (fun hb23 => ?_) (fun hb23 => ?_)
          · replace h := ite_t hb23 h
            refine sq ?_
            replace h := bind_some h
            obtain ⟨x24, hx25, h⟩ := h
            replace h := bind_some h
            obtain ⟨x26, hx27, h⟩ := h
            refine awp_any [OD.mk [(3, (V.own 1 l12.length))] [] [(38, (V.own 1 l12.length))] [],
                  OD.mk [(8, (iV ((mget m13 (TExposure.mk x18.x.Advisory x18.x.Component 0)).getD 0)))] [] [(39, (iV ((mget m13 (TExposure.mk x18.x.Advisory x18.x.Component 0)).getD 0)))] [],
                  OD.mk [(39, (iV ((mget m13 (TExposure.mk x18.x.Advisory x18.x.Component 0)).getD 0)))] [] [(40, (iV (w64 (((mget m13 (TExposure.mk x18.x.Advisory x18.x.Component 0)).getD 0) - 1))))] [],
                  OD.mk [(3, (V.own 1 l12.length))] [] [(41, (V.own 1 l12.length))] [],
                  OD.mk [(8, (iV ((mget m13 (TExposure.mk x18.x.Advisory x18.x.Component 0)).getD 0)))] [] [(42, (iV ((mget m13 (TExposure.mk x18.x.Advisory x18.x.Component 0)).getD 0)))] [],
                  OD.mk [(42, (iV ((mget m13 (TExposure.mk x18.x.Advisory x18.x.Component 0)).getD 0)))] [] [(43, (iV (w64 (((mget m13 (TExposure.mk x18.x.Advisory x18.x.Component 0)).getD 0) - 1))))] [],
                  OD.mk [(6, (V.ptr 3 5 0 0))] [] [(44, (V.ptr 3 5 0 4))] [],
                  OD.mk [(44, (V.ptr 3 5 0 4))] [(3, (Ob.arr 162 5 [(encTprovenderref11_stretch x18)]))] [(45, (iV x18.to))] [],
                  OD.mk [(6, (V.ptr 3 5 0 0))] [] [(46, (V.ptr 3 5 0 0))] [],
                  OD.mk [(46, (V.ptr 3 5 0 0))] [] [(47, (V.ptr 3 5 0 2))] [],
                  OD.mk [(47, (V.ptr 3 5 0 2))] [(3, (Ob.arr 162 5 [(encTprovenderref11_stretch x18)]))] [(48, (iV x18.x.Severity))] [],
                  OD.mk [(38, (V.own 1 l12.length)), (40, (iV (w64 (((mget m13 (TExposure.mk x18.x.Advisory x18.x.Component 0)).getD 0) - 1))))] [] [(49, (V.ptr 1 6 (w64 (((mget m13 (TExposure.mk x18.x.Advisory x18.x.Component 0)).getD 0) - 1)).toNat 0))] [],
                  OD.mk [(49, (V.ptr 1 6 (w64 (((mget m13 (TExposure.mk x18.x.Advisory x18.x.Component 0)).getD 0) - 1)).toNat 0))] [] [(50, (V.ptr 1 6 (w64 (((mget m13 (TExposure.mk x18.x.Advisory x18.x.Component 0)).getD 0) - 1)).toNat 4))] [],
                  OD.mk [(50, (V.ptr 1 6 (w64 (((mget m13 (TExposure.mk x18.x.Advisory x18.x.Component 0)).getD 0) - 1)).toNat 4)), (45, (iV x18.to))] [(1, (Ob.arr 35 6 (l12.map encTWindow)))] [] [(1, (Ob.arr 35 6 ((l12.set (w64 (((mget m13 (TExposure.mk x18.x.Advisory x18.x.Component 0)).getD 0) - 1)).toNat (TWindow.mk x24.Advisory x24.Component x24.Severity x24.From x18.to x24.Open)).map encTWindow)))],
                  OD.mk [(41, (V.own 1 l12.length)), (43, (iV (w64 (((mget m13 (TExposure.mk x18.x.Advisory x18.x.Component 0)).getD 0) - 1))))] [] [(51, (V.ptr 1 6 (w64 (((mget m13 (TExposure.mk x18.x.Advisory x18.x.Component 0)).getD 0) - 1)).toNat 0))] [],
                  OD.mk [(51, (V.ptr 1 6 (w64 (((mget m13 (TExposure.mk x18.x.Advisory x18.x.Component 0)).getD 0) - 1)).toNat 0))] [] [(52, (V.ptr 1 6 (w64 (((mget m13 (TExposure.mk x18.x.Advisory x18.x.Component 0)).getD 0) - 1)).toNat 2))] [],
                  OD.mk [(52, (V.ptr 1 6 (w64 (((mget m13 (TExposure.mk x18.x.Advisory x18.x.Component 0)).getD 0) - 1)).toNat 2)), (48, (iV x18.x.Severity))] [(1, (Ob.arr 35 6 ((l12.set (w64 (((mget m13 (TExposure.mk x18.x.Advisory x18.x.Component 0)).getD 0) - 1)).toNat (TWindow.mk x24.Advisory x24.Component x24.Severity x24.From x18.to x24.Open)).map encTWindow)))] [] [(1, (Ob.arr 35 6 (((l12.set (w64 (((mget m13 (TExposure.mk x18.x.Advisory x18.x.Component 0)).getD 0) - 1)).toNat (TWindow.mk x24.Advisory x24.Component x24.Severity x24.From x18.to x24.Open)).set (w64 (((mget m13 (TExposure.mk x18.x.Advisory x18.x.Component 0)).getD 0) - 1)).toNat (TWindow.mk x26.Advisory x26.Component x18.x.Severity x26.From x26.To x26.Open)).map encTWindow)))]] mixed ⟨⟨rfl, trivial⟩, trivial, ⟨⟨rfl, trivial⟩, trivial, ⟨⟨rfl, trivial⟩, trivial, ⟨⟨rfl, trivial⟩, trivial, ⟨⟨rfl, trivial⟩, trivial, ⟨⟨rfl, trivial⟩, trivial, ⟨⟨rfl, trivial⟩, trivial, ⟨⟨rfl, trivial⟩, ⟨rfl, trivial⟩, ⟨⟨rfl, trivial⟩, trivial, ⟨⟨rfl, trivial⟩, trivial, ⟨⟨rfl, trivial⟩, ⟨rfl, trivial⟩, ⟨⟨rfl, rfl, trivial⟩, trivial, ⟨⟨rfl, trivial⟩, trivial, ⟨⟨rfl, rfl, trivial⟩, ⟨rfl, trivial⟩, ⟨⟨rfl, rfl, trivial⟩, trivial, ⟨⟨rfl, trivial⟩, trivial, ⟨⟨rfl, rfl, trivial⟩, ⟨rfl, trivial⟩, trivial⟩⟩⟩⟩⟩⟩⟩⟩⟩⟩⟩⟩⟩⟩⟩⟩⟩ (by kernel_rfl) (.cons (fun S hn h hh => aops_move (V.own 1 l12.length) wants_none h.1 rfl (an ⟨rfl, rfl⟩)) (.cons (fun S hn h hh => aops_move (iV ((mget m13 (TExposure.mk x18.x.Advisory x18.x.Component 0)).getD 0)) wants_none h.1 rfl (an ⟨rfl, rfl⟩)) (.cons (fun S hn h hh => aops_bin (.int .i64 (w64 (((mget m13 (TExposure.mk x18.x.Advisory x18.x.Component 0)).getD 0) - 1))) wants_none h.1 rfl rfl rfl (an ⟨rfl, rfl⟩)) (.cons (fun S hn h hh => aops_move (V.own 1 l12.length) wants_none h.1 rfl (an ⟨rfl, rfl⟩)) (.cons (fun S hn h hh => aops_move (iV ((mget m13 (TExposure.mk x18.x.Advisory x18.x.Component 0)).getD 0)) wants_none h.1 rfl (an ⟨rfl, rfl⟩)) (.cons (fun S hn h hh => aops_bin (.int .i64 (w64 (((mget m13 (TExposure.mk x18.x.Advisory x18.x.Component 0)).getD 0) - 1))) wants_none h.1 rfl rfl rfl (an ⟨rfl, rfl⟩)) (.cons (fun S hn h hh => aops_fieldAddr tF162_2 wants_none h.1 rfl (an ⟨rfl, rfl⟩)) (.cons (fun S hn h hh => aops_load_cell (iV x18.to) tC3 wants_none h.1 hh.1 rfl rfl rfl (an ⟨rfl, rfl⟩)) (.cons (fun S hn h hh => aops_fieldAddr tF162_0 wants_none h.1 rfl (an ⟨rfl, rfl⟩)) (.cons (fun S hn h hh => aops_fieldAddr tF47_2 wants_none h.1 rfl (an ⟨rfl, rfl⟩)) (.cons (fun S hn h hh => aops_load_cell (iV x18.x.Severity) tC3 wants_none h.1 hh.1 rfl rfl rfl (an ⟨rfl, rfl⟩)) (.cons (fun S hn h hh => aops_index_own tSl59 wants_none h.1 h.2.1 (idx_some hx25).1 (by simpa using idx_lt hx25) rfl (an ⟨rfl, rfl⟩)) (.cons (fun S hn h hh => aops_fieldAddr tF35_4 wants_none h.1 rfl (an ⟨rfl, rfl⟩)) (.cons (fun S hn h hh => aops_store [(iV x18.to)] ((l12.set (w64 (((mget m13 (TExposure.mk x18.x.Advisory x18.x.Component 0)).getD 0) - 1)).toNat (TWindow.mk x24.Advisory x24.Component x24.Severity x24.From x18.to x24.Open)).map encTWindow) tS3 wants_none h.1 h.2.1 rfl rfl hh.1 (idx_map encTWindow hx25) rfl (map_set encTWindow l12 _ (TWindow.mk x24.Advisory x24.Component x24.Severity x24.From x18.to x24.Open)) (an ⟨rfl, rfl⟩)) (.cons (fun S hn h hh => aops_index_own tSl59 wants_none h.1 h.2.1 (idx_some hx27).1 (by simpa using idx_lt hx27) rfl (an ⟨rfl, rfl⟩)) (.cons (fun S hn h hh => aops_fieldAddr tF35_2 wants_none h.1 rfl (an ⟨rfl, rfl⟩)) (.cons (fun S hn h hh => aops_store [(iV x18.x.Severity)] (((l12.set (w64 (((mget m13 (TExposure.mk x18.x.Advisory x18.x.Component 0)).getD 0) - 1)).toNat (TWindow.mk x24.Advisory x24.Component x24.Severity x24.From x18.to x24.Open)).set (w64 (((mget m13 (TExposure.mk x18.x.Advisory x18.x.Component 0)).getD 0) - 1)).toNat (TWindow.mk x26.Advisory x26.Component x18.x.Severity x26.From x26.To x26.Open)).map encTWindow) tS3 wants_none h.1 h.2.1 rfl rfl hh.1 (idx_map encTWindow hx27) rfl (map_set encTWindow (l12.set (w64 (((mget m13 (TExposure.mk x18.x.Advisory x18.x.Component 0)).getD 0) - 1)).toNat (TWindow.mk x24.Advisory x24.Component x24.Severity x24.From x18.to x24.Open)) _ (TWindow.mk x26.Advisory x26.Component x18.x.Severity x26.From x26.To x26.Open)) (an ⟨rfl, rfl⟩)) .nil))))))))))))))))) ?_
            refine awp_exit ?_
            exact ⟨(((l12.set (w64 (((mget m13 (TExposure.mk x18.x.Advisory x18.x.Component 0)).getD 0) - 1)).toNat (TWindow.mk x24.Advisory x24.Component x24.Severity x24.From x18.to x24.Open)).set (w64 (((mget m13 (TExposure.mk x18.x.Advisory x18.x.Component 0)).getD 0) - 1)).toNat (TWindow.mk x26.Advisory x26.Component x18.x.Severity x26.From x26.To x26.Open)), m13), h, (ghost_ren 3 (fun i => ([0, 1, 2] : List Nat).getD i 0) _ _ (by decide) (EnvSub.get (.cons (Sub.ptr rfl rfl) (.cons (Sub.ownE rfl rfl (by simp)) (.cons (Sub.map rfl rfl) (.cons (Sub.imm (Imm.lst _ _)) (.cons (Sub.imm (Imm.con _)) (.cons (Sub.imm (Imm.con _)) .nil))))))) (HpSub.get (.cons rfl (ObSub.box (.cons (Sub.imm (Imm.con _)) (.cons (Sub.imm (Imm.lst _ _)) (.cons (Sub.imm (Imm.lst _ _)) (.cons (Sub.imm (Imm.con _)) .nil))))) (.cons rfl (ObSub.rows (rows_imm imms_encTWindow)) (.cons rfl (ObSub.maps encM47_3_imm) .nil)))) rfl)⟩
          replace h := ite_f hb23 h
          refine awp_skip ?_
          refine sr ?_
          refine am (V.own 1 l12.length) rfl rfl ?_
          refine aops_fieldAddr tF47_0 wants_none rfl rfl ?_
          refine aops_load_cell (sV x18.x.Advisory) tC9 wants_none rfl rfl rfl rfl rfl ?_
          refine aops_fieldAddr tF47_1 wants_none rfl rfl ?_
          refine aops_load_cell (sV x18.x.Component) tC9 wants_none rfl rfl rfl rfl rfl ?_
          refine aops_fieldAddr tF162_0 wants_none rfl rfl ?_
          refine aops_fieldAddr tF47_2 wants_none rfl rfl ?_
          refine aops_load_cell (iV x18.x.Severity) tC3 wants_none rfl rfl rfl rfl rfl ?_
          refine aops_fieldAddr tF162_1 wants_none rfl rfl ?_
          refine aops_load_cell (iV x18.from_) tC3 wants_none rfl rfl rfl rfl rfl ?_
          refine aops_fieldAddr tF162_2 wants_none rfl rfl ?_
          refine aops_load_cell (iV x18.to) tC3 wants_none rfl rfl rfl rfl rfl ?_
          refine aops_build [(0, (sV x18.x.Advisory)), (1, (sV x18.x.Component)), (2, (iV x18.x.Severity)), (3, (iV x18.from_)), (4, (iV x18.to))] [(sV x18.x.Advisory), (sV x18.x.Component), (iV x18.x.Severity), (iV x18.from_), (iV x18.to), (bV false)] tZ35 tPl35 rfl wants_none (evp_cons rfl (evp_cons rfl (evp_cons rfl (evp_cons rfl (evp_cons rfl evp_nil))))) rfl rfl ?_
          refine aops_buildSlice [(0, (V.agg [(sV x18.x.Advisory), (sV x18.x.Component), (iV x18.x.Severity), (iV x18.from_), (iV x18.to), (bV false)]))] [[(sV x18.x.Advisory), (sV x18.x.Component), (iV x18.x.Severity), (iV x18.from_), (iV x18.to), (bV false)]] tEl59 tZ35 rfl rfl rfl rfl wants_none (evp_cons rfl evp_nil) rfl rfl (by simp) rfl ?_
          replace h := chk_some h
          obtain ⟨hc28, h⟩ := h
          refine aops_append [[(sV x18.x.Advisory), (sV x18.x.Component), (iV x18.x.Severity), (iV x18.from_), (iV x18.to), (bV false)]] ((l12 ++ ([(TWindow.mk x18.x.Advisory x18.x.Component x18.x.Severity x18.from_ x18.to false)] : List TWindow)).map encTWindow) tEl59 tIsSl59 rfl rfl wants_none rfl rfl (by simp) rfl (.own rfl (by simp)) (map_snoc encTWindow l12 ([(TWindow.mk x18.x.Advisory x18.x.Component x18.x.Severity x18.from_ x18.to false)] : List TWindow)) (List.length_map ..) hc28 rfl ?_
          refine aa (V.own 6 (l12 ++ ([(TWindow.mk x18.x.Advisory x18.x.Component x18.x.Severity x18.from_ x18.to false)] : List TWindow)).length) rfl rfl ?_
          refine an ?_
          refine rg ?_
          refine am (V.map 2) rfl rfl ?_
          refine aops_load_agg (cs := [(sV x18.x.Advisory), (sV x18.x.Component), (iV 0)]) tA47 wants_none rfl rfl rfl rfl rfl rfl ?_
          refine am (V.own 6 (l12 ++ ([(TWindow.mk x18.x.Advisory x18.x.Component x18.x.Severity x18.from_ x18.to false)] : List TWindow)).length) rfl rfl ?_
          refine aops_len (n := (l12 ++ ([(TWindow.mk x18.x.Advisory x18.x.Component x18.x.Severity x18.from_ x18.to false)] : List TWindow)).length) tIsSl59 wants_none rfl rfl rfl ?_
          refine aops_mapUpdate ((mput m13 (TExposure.mk x18.x.Advisory x18.x.Component 0) (((l12 ++ ([(TWindow.mk x18.x.Advisory x18.x.Component x18.x.Severity x18.from_ x18.to false)] : List TWindow)).length : Nat) : Int)).map encM47_3) tMap175 tKey47 wants_none rfl rfl (.agg (cv47 (TExposure.mk x18.x.Advisory x18.x.Component 0)) rfl) ⟨_, rfl⟩ encM47_3_good rfl (encM47_3_puts m13 (TExposure.mk x18.x.Advisory x18.x.Component 0) (((l12 ++ ([(TWindow.mk x18.x.Advisory x18.x.Component x18.x.Severity x18.from_ x18.to false)] : List TWindow)).length : Nat) : Int)) ?_
          refine an ?_
          exact ⟨((l12 ++ ([(TWindow.mk x18.x.Advisory x18.x.Component x18.x.Severity x18.from_ x18.to false)] : List TWindow)), (mput m13 (TExposure.mk x18.x.Advisory x18.x.Component 0) (((l12 ++ ([(TWindow.mk x18.x.Advisory x18.x.Component x18.x.Severity x18.from_ x18.to false)] : List TWindow)).length : Nat) : Int))), h, (ghost_ren 3 (fun i => ([0, 6, 2] : List Nat).getD i 0) _ _ (by decide) (EnvSub.get (.cons (Sub.ptr rfl rfl) (.cons (Sub.own rfl rfl) (.cons (Sub.map rfl rfl) (.cons (Sub.imm (Imm.lst _ _)) (.cons (Sub.imm (Imm.con _)) (.cons (Sub.imm (Imm.con _)) .nil))))))) (HpSub.get (.cons rfl (ObSub.box (.cons (Sub.imm (Imm.con _)) (.cons (Sub.imm (Imm.lst _ _)) (.cons (Sub.imm (Imm.lst _ _)) (.cons (Sub.imm (Imm.con _)) .nil))))) (.cons rfl (ObSub.rows (rows_imm imms_encTWindow)) (.cons rfl (ObSub.maps encM47_3_imm) .nil)))) rfl)⟩
        replace h := ite_f hb20 h
        refine awp_any [OD.mk [(8, (iV ((mget m13 (TExposure.mk x18.x.Advisory x18.x.Component 0)).getD 0)))] [] [(25, (iV ((mget m13 (TExposure.mk x18.x.Advisory x18.x.Component 0)).getD 0)))] [],
              OD.mk [(25, (iV ((mget m13 (TExposure.mk x18.x.Advisory x18.x.Component 0)).getD 0)))] [] [(26, (bV (decide (((mget m13 (TExposure.mk x18.x.Advisory x18.x.Component 0)).getD 0) > 0))))] [],
              OD.mk [(26, (bV (decide (((mget m13 (TExposure.mk x18.x.Advisory x18.x.Component 0)).getD 0) > 0))))] [] [(27, (bV (decide (((mget m13 (TExposure.mk x18.x.Advisory x18.x.Component 0)).getD 0) > 0))))] [],
              OD.mk [(27, (bV (decide (((mget m13 (TExposure.mk x18.x.Advisory x18.x.Component 0)).getD 0) > 0))))] [] [(28, (V.con undef))] [],
              OD.mk [(27, (bV (decide (((mget m13 (TExposure.mk x18.x.Advisory x18.x.Component 0)).getD 0) > 0))))] [] [(29, (V.con undef))] [],
              OD.mk [(27, (bV (decide (((mget m13 (TExposure.mk x18.x.Advisory x18.x.Component 0)).getD 0) > 0))))] [] [(30, (V.con undef))] [],
              OD.mk [(27, (bV (decide (((mget m13 (TExposure.mk x18.x.Advisory x18.x.Component 0)).getD 0) > 0))))] [] [(31, (V.con undef))] [],
              OD.mk [(27, (bV (decide (((mget m13 (TExposure.mk x18.x.Advisory x18.x.Component 0)).getD 0) > 0))))] [] [(32, (V.con undef))] [],
              OD.mk [(27, (bV (decide (((mget m13 (TExposure.mk x18.x.Advisory x18.x.Component 0)).getD 0) > 0))))] [] [(33, (V.con undef))] [],
              OD.mk [(27, (bV (decide (((mget m13 (TExposure.mk x18.x.Advisory x18.x.Component 0)).getD 0) > 0))))] [] [(34, (V.con undef))] [],
              OD.mk [(27, (bV (decide (((mget m13 (TExposure.mk x18.x.Advisory x18.x.Component 0)).getD 0) > 0))))] [] [(35, (V.con undef))] [],
              OD.mk [(27, (bV (decide (((mget m13 (TExposure.mk x18.x.Advisory x18.x.Component 0)).getD 0) > 0))))] [] [(36, (V.con undef))] [],
              OD.mk [(27, (bV (decide (((mget m13 (TExposure.mk x18.x.Advisory x18.x.Component 0)).getD 0) > 0))))] [] [(37, (bV false))] []] mixed ⟨⟨rfl, trivial⟩, trivial, ⟨⟨rfl, trivial⟩, trivial, ⟨⟨rfl, trivial⟩, trivial, ⟨⟨rfl, trivial⟩, trivial, ⟨⟨rfl, trivial⟩, trivial, ⟨⟨rfl, trivial⟩, trivial, ⟨⟨rfl, trivial⟩, trivial, ⟨⟨rfl, trivial⟩, trivial, ⟨⟨rfl, trivial⟩, trivial, ⟨⟨rfl, trivial⟩, trivial, ⟨⟨rfl, trivial⟩, trivial, ⟨⟨rfl, trivial⟩, trivial, ⟨⟨rfl, trivial⟩, trivial, trivial⟩⟩⟩⟩⟩⟩⟩⟩⟩⟩⟩⟩⟩ (by kernel_rfl) (.cons (fun S hn h hh => aops_move (iV ((mget m13 (TExposure.mk x18.x.Advisory x18.x.Component 0)).getD 0)) wants_none h.1 rfl (an ⟨rfl, rfl⟩)) (.cons (fun S hn h hh => aops_bin (.bool (decide (((mget m13 (TExposure.mk x18.x.Advisory x18.x.Component 0)).getD 0) > 0))) wants_none h.1 rfl rfl rfl (an ⟨rfl, rfl⟩)) (.cons (fun S hn h hh => aops_move (bV (decide (((mget m13 (TExposure.mk x18.x.Advisory x18.x.Component 0)).getD 0) > 0))) wants_none h.1 rfl (an ⟨rfl, rfl⟩)) (.cons (fun S hn h hh => aops_skip (wants_some (c := (decide (((mget m13 (TExposure.mk x18.x.Advisory x18.x.Component 0)).getD 0) > 0))) (b := false) 27 rfl h.1 hb20) rfl rfl (an ⟨rfl, rfl⟩)) (.cons (fun S hn h hh => aops_skip (wants_some (c := (decide (((mget m13 (TExposure.mk x18.x.Advisory x18.x.Component 0)).getD 0) > 0))) (b := false) 27 rfl h.1 hb20) rfl rfl (an ⟨rfl, rfl⟩)) (.cons (fun S hn h hh => aops_skip (wants_some (c := (decide (((mget m13 (TExposure.mk x18.x.Advisory x18.x.Component 0)).getD 0) > 0))) (b := false) 27 rfl h.1 hb20) rfl rfl (an ⟨rfl, rfl⟩)) (.cons (fun S hn h hh => aops_skip (wants_some (c := (decide (((mget m13 (TExposure.mk x18.x.Advisory x18.x.Component 0)).getD 0) > 0))) (b := false) 27 rfl h.1 hb20) rfl rfl (an ⟨rfl, rfl⟩)) (.cons (fun S hn h hh => aops_skip (wants_some (c := (decide (((mget m13 (TExposure.mk x18.x.Advisory x18.x.Component 0)).getD 0) > 0))) (b := false) 27 rfl h.1 hb20) rfl rfl (an ⟨rfl, rfl⟩)) (.cons (fun S hn h hh => aops_skip (wants_some (c := (decide (((mget m13 (TExposure.mk x18.x.Advisory x18.x.Component 0)).getD 0) > 0))) (b := false) 27 rfl h.1 hb20) rfl rfl (an ⟨rfl, rfl⟩)) (.cons (fun S hn h hh => aops_skip (wants_some (c := (decide (((mget m13 (TExposure.mk x18.x.Advisory x18.x.Component 0)).getD 0) > 0))) (b := false) 27 rfl h.1 hb20) rfl rfl (an ⟨rfl, rfl⟩)) (.cons (fun S hn h hh => aops_skip (wants_some (c := (decide (((mget m13 (TExposure.mk x18.x.Advisory x18.x.Component 0)).getD 0) > 0))) (b := false) 27 rfl h.1 hb20) rfl rfl (an ⟨rfl, rfl⟩)) (.cons (fun S hn h hh => aops_skip (wants_some (c := (decide (((mget m13 (TExposure.mk x18.x.Advisory x18.x.Component 0)).getD 0) > 0))) (b := false) 27 rfl h.1 hb20) rfl rfl (an ⟨rfl, rfl⟩)) (.cons (fun S hn h hh => aops_pick false (cb := (decide (((mget m13 (TExposure.mk x18.x.Advisory x18.x.Component 0)).getD 0) > 0))) (bV false) wants_none h.1 hb20 rfl rfl (an ⟨rfl, rfl⟩)) .nil))))))))))))) ?_
        refine awp_cond_f rfl rfl ?_
        refine awp_skip ?_
        refine sr ?_
        refine am (V.own 1 l12.length) rfl rfl ?_
        refine aops_fieldAddr tF47_0 wants_none rfl rfl ?_
        refine aops_load_cell (sV x18.x.Advisory) tC9 wants_none rfl rfl rfl rfl rfl ?_
        refine aops_fieldAddr tF47_1 wants_none rfl rfl ?_
        refine aops_load_cell (sV x18.x.Component) tC9 wants_none rfl rfl rfl rfl rfl ?_
        refine aops_fieldAddr tF162_0 wants_none rfl rfl ?_
        refine aops_fieldAddr tF47_2 wants_none rfl rfl ?_
        refine aops_load_cell (iV x18.x.Severity) tC3 wants_none rfl rfl rfl rfl rfl ?_
        refine aops_fieldAddr tF162_1 wants_none rfl rfl ?_
        refine aops_load_cell (iV x18.from_) tC3 wants_none rfl rfl rfl rfl rfl ?_
        refine aops_fieldAddr tF162_2 wants_none rfl rfl ?_
        refine aops_load_cell (iV x18.to) tC3 wants_none rfl rfl rfl rfl rfl ?_
        refine aops_build [(0, (sV x18.x.Advisory)), (1, (sV x18.x.Component)), (2, (iV x18.x.Severity)), (3, (iV x18.from_)), (4, (iV x18.to))] [(sV x18.x.Advisory), (sV x18.x.Component), (iV x18.x.Severity), (iV x18.from_), (iV x18.to), (bV false)] tZ35 tPl35 rfl wants_none (evp_cons rfl (evp_cons rfl (evp_cons rfl (evp_cons rfl (evp_cons rfl evp_nil))))) rfl rfl ?_
        refine aops_buildSlice [(0, (V.agg [(sV x18.x.Advisory), (sV x18.x.Component), (iV x18.x.Severity), (iV x18.from_), (iV x18.to), (bV false)]))] [[(sV x18.x.Advisory), (sV x18.x.Component), (iV x18.x.Severity), (iV x18.from_), (iV x18.to), (bV false)]] tEl59 tZ35 rfl rfl rfl rfl wants_none (evp_cons rfl evp_nil) rfl rfl (by simp) rfl ?_
        replace h := chk_some h
        obtain ⟨hc29, h⟩ := h
        refine aops_append [[(sV x18.x.Advisory), (sV x18.x.Component), (iV x18.x.Severity), (iV x18.from_), (iV x18.to), (bV false)]] ((l12 ++ ([(TWindow.mk x18.x.Advisory x18.x.Component x18.x.Severity x18.from_ x18.to false)] : List TWindow)).map encTWindow) tEl59 tIsSl59 rfl rfl wants_none rfl rfl (by simp) rfl (.own rfl (by simp)) (map_snoc encTWindow l12 ([(TWindow.mk x18.x.Advisory x18.x.Component x18.x.Severity x18.from_ x18.to false)] : List TWindow)) (List.length_map ..) hc29 rfl ?_
        refine aa (V.own 6 (l12 ++ ([(TWindow.mk x18.x.Advisory x18.x.Component x18.x.Severity x18.from_ x18.to false)] : List TWindow)).length) rfl rfl ?_
        refine an ?_
        refine rg ?_
        refine am (V.map 2) rfl rfl ?_
        refine aops_load_agg (cs := [(sV x18.x.Advisory), (sV x18.x.Component), (iV 0)]) tA47 wants_none rfl rfl rfl rfl rfl rfl ?_
        refine am (V.own 6 (l12 ++ ([(TWindow.mk x18.x.Advisory x18.x.Component x18.x.Severity x18.from_ x18.to false)] : List TWindow)).length) rfl rfl ?_
        refine aops_len (n := (l12 ++ ([(TWindow.mk x18.x.Advisory x18.x.Component x18.x.Severity x18.from_ x18.to false)] : List TWindow)).length) tIsSl59 wants_none rfl rfl rfl ?_
        refine aops_mapUpdate ((mput m13 (TExposure.mk x18.x.Advisory x18.x.Component 0) (((l12 ++ ([(TWindow.mk x18.x.Advisory x18.x.Component x18.x.Severity x18.from_ x18.to false)] : List TWindow)).length : Nat) : Int)).map encM47_3) tMap175 tKey47 wants_none rfl rfl (.agg (cv47 (TExposure.mk x18.x.Advisory x18.x.Component 0)) rfl) ⟨_, rfl⟩ encM47_3_good rfl (encM47_3_puts m13 (TExposure.mk x18.x.Advisory x18.x.Component 0) (((l12 ++ ([(TWindow.mk x18.x.Advisory x18.x.Component x18.x.Severity x18.from_ x18.to false)] : List TWindow)).length : Nat) : Int)) ?_
        refine an ?_
        exact ⟨((l12 ++ ([(TWindow.mk x18.x.Advisory x18.x.Component x18.x.Severity x18.from_ x18.to false)] : List TWindow)), (mput m13 (TExposure.mk x18.x.Advisory x18.x.Component 0) (((l12 ++ ([(TWindow.mk x18.x.Advisory x18.x.Component x18.x.Severity x18.from_ x18.to false)] : List TWindow)).length : Nat) : Int))), h, (ghost_ren 3 (fun i => ([0, 6, 2] : List Nat).getD i 0) _ _ (by decide) (EnvSub.get (.cons (Sub.ptr rfl rfl) (.cons (Sub.own rfl rfl) (.cons (Sub.map rfl rfl) (.cons (Sub.imm (Imm.lst _ _)) (.cons (Sub.imm (Imm.con _)) (.cons (Sub.imm (Imm.con _)) .nil))))))) (HpSub.get (.cons rfl (ObSub.box (.cons (Sub.imm (Imm.con _)) (.cons (Sub.imm (Imm.lst _ _)) (.cons (Sub.imm (Imm.lst _ _)) (.cons (Sub.imm (Imm.con _)) .nil))))) (.cons rfl (ObSub.rows (rows_imm imms_encTWindow)) (.cons rfl (ObSub.maps encM47_3_imm) .nil)))) rfl)⟩
      clear h
      rintro ⟨l16, m17⟩ h
      subst hk15
      refine rg ?_
      refine aops_bin (.int .i64 (w64 (n11 + 1))) wants_none rfl rfl rfl rfl ?_
      refine am (iV (w64 (n11 + 1))) rfl rfl ?_
      refine an ?_
      exact awp_back (ih1 ((w64 (n11 + 1)), l16, m17) (hk1 _ h)) (ghost_ren 3 (fun i => ([0, 1, 2] : List Nat).getD i 0) _ _ (by decide) (EnvSub.get (.cons (Sub.ptr rfl rfl) (.cons (Sub.own rfl rfl) (.cons (Sub.map rfl rfl) (.cons (Sub.imm (Imm.lst _ _)) (.cons (Sub.imm (Imm.con _)) (.cons (Sub.imm (Imm.con _)) .nil))))))) (HpSub.get (.cons rfl (ObSub.box (.cons (Sub.imm (Imm.con _)) (.cons (Sub.imm (Imm.lst _ _)) (.cons (Sub.imm (Imm.lst _ _)) (.cons (Sub.imm (Imm.con _)) .nil))))) (.cons rfl (ObSub.rows (rows_imm imms_encTWindow)) (.cons rfl (ObSub.maps encM47_3_imm) .nil)))) rfl)
    replace h := RG.f h hb14
    unfold M99_L1 at h
    refine awp_exit ?_
    exact ⟨l12, h, (ghost_ren 2 (fun i => ([0, 1] : List Nat).getD i 0) _ _ (by decide) (EnvSub.get (.cons (Sub.ptr rfl rfl) (.cons (Sub.own rfl rfl) .nil))) (HpSub.get (.cons rfl (ObSub.box (.cons (Sub.imm (Imm.con _)) (.cons (Sub.imm (Imm.lst _ _)) (.cons (Sub.imm (Imm.lst _ _)) (.cons (Sub.imm (Imm.con _)) .nil))))) (.cons rfl (ObSub.rows (rows_imm imms_encTWindow)) .nil))) rfl)⟩
  clear h
  intro l7 h
  subst hk6
  refine sq ?_
  refine sr ?_
  refine am (V.own 1 l7.length) rfl rfl ?_
  refine aops_len (n := l7.length) tIsSl59 wants_none rfl rfl rfl ?_
  refine am (iV 0) rfl rfl ?_
  refine an ?_
  replace h := jn_elim h
  obtain ⟨k31, hk31, h⟩ := h
  refine awp_cut (fun (p : (List TWindow)) => (⟨[(3, (V.own 0 p.length))], [(0, (Ob.arr 35 6 (p.map encTWindow)))], 1⟩ : St)) (fun (p : (List TWindow)) => k31 p = some r) ?_ ?_
  · clear hk31
    refine awp_block ?_
    refine awp_lenO (A := l7) 1 rfl (fun hA42 => ?_)
    refine awp_loop_ind (fun (p : Int × (List TWindow)) => (⟨[(1, (V.ptr 0 4 0 0)), (3, (V.own 1 (p.2).length)), (74, (iV ((l7.length : Nat) : Int))), (75, (iV (p.1)))], [(0, (Ob.arr 52 4 [(encTStory a1)])), (1, (Ob.arr 35 6 ((p.2).map encTWindow)))], 2⟩ : St)) (fun n (p : Int × (List TWindow)) => RC ((l7.length : Nat) : Int) (fun tl nn => M99_L2 F a1 k31 tl nn p.2 = some r) n p.1) (fun p h => RC.zero h) (fun n ih2 p h => ?_) (Int.toNat ((l7.length : Nat) : Int) + 1) (0, l7) (RC.start h) (ghost_ren 2 (fun i => ([0, 1] : List Nat).getD i 0) _ _ (by decide) (EnvSub.get (.cons (Sub.ptr rfl rfl) (.cons (Sub.own rfl rfl) (.cons (Sub.imm (Imm.con _)) (.cons (Sub.imm (Imm.con _)) .nil))))) (HpSub.get (.cons rfl (ObSub.box (.cons (Sub.imm (Imm.con _)) (.cons (Sub.imm (Imm.lst _ _)) (.cons (Sub.imm (Imm.lst _ _)) (.cons (Sub.imm (Imm.con _)) .nil))))) (.cons rfl (ObSub.rows (rows_imm imms_encTWindow)) .nil))) rfl)
    obtain ⟨n35, l36⟩ := p
    refine awp_loop ?_
    refine sr ?_
    refine aops_bin (.bool (decide (n35 < ((l7.length : Nat) : Int)))) wants_none rfl rfl rfl rfl ?_
    refine an ?_
    refine sq ?_
    refine awp_cond (decide (n35 < ((l7.length : Nat) : Int))) rfl (fun hb37 => ?_) (fun hb37 => ?_)
    · obtain ⟨tl, h, hk2⟩ := RC.t (by unfold maxLen at hA42; omega) h hb37
      unfold M99_L2 at h
      refine awp_skip ?_
      refine sq ?_
      refine awp_block ?_
      refine sr ?_
      refine am (iV n35) rfl rfl ?_
      refine aa (iV n35) rfl rfl ?_
      refine an ?_
      replace h := bind_some h
      obtain ⟨x38, hx39, h⟩ := h
      replace h := bind_some h
      obtain ⟨x40, hx41, h⟩ := h
      refine awp_any [OD.mk [(3, (V.own 1 l36.length))] [] [(78, (V.own 1 l36.length))] [],
            OD.mk [(9, (iV n35))] [] [(79, (iV n35))] [],
            OD.mk [(3, (V.own 1 l36.length))] [] [(80, (V.own 1 l36.length))] [],
            OD.mk [(9, (iV n35))] [] [(81, (iV n35))] [],
            OD.mk [(80, (V.own 1 l36.length)), (81, (iV n35))] [] [(82, (V.ptr 1 6 n35.toNat 0))] [],
            OD.mk [(82, (V.ptr 1 6 n35.toNat 0))] [] [(83, (V.ptr 1 6 n35.toNat 4))] [],
            OD.mk [(83, (V.ptr 1 6 n35.toNat 4))] [(1, (Ob.arr 35 6 (l36.map encTWindow)))] [(84, (iV x38.To))] [],
            OD.mk [(1, (V.ptr 0 4 0 0))] [] [(85, (V.ptr 0 4 0 3))] [],
            OD.mk [(85, (V.ptr 0 4 0 3))] [(0, (Ob.arr 52 4 [(encTStory a1)]))] [(86, (iV a1.Until))] [],
            OD.mk [(84, (iV x38.To)), (86, (iV a1.Until))] [] [(87, (bV (x38.To == a1.Until)))] [],
            OD.mk [(78, (V.own 1 l36.length)), (79, (iV n35))] [] [(88, (V.ptr 1 6 n35.toNat 0))] [],
            OD.mk [(88, (V.ptr 1 6 n35.toNat 0))] [] [(89, (V.ptr 1 6 n35.toNat 5))] [],
            OD.mk [(89, (V.ptr 1 6 n35.toNat 5)), (87, (bV (x38.To == a1.Until)))] [(1, (Ob.arr 35 6 (l36.map encTWindow)))] [] [(1, (Ob.arr 35 6 ((l36.set n35.toNat (TWindow.mk x40.Advisory x40.Component x40.Severity x40.From x40.To (x38.To == a1.Until))).map encTWindow)))]] mixed ⟨⟨rfl, trivial⟩, trivial, ⟨⟨rfl, trivial⟩, trivial, ⟨⟨rfl, trivial⟩, trivial, ⟨⟨rfl, trivial⟩, trivial, ⟨⟨rfl, rfl, trivial⟩, trivial, ⟨⟨rfl, trivial⟩, trivial, ⟨⟨rfl, trivial⟩, ⟨rfl, trivial⟩, ⟨⟨rfl, trivial⟩, trivial, ⟨⟨rfl, trivial⟩, ⟨rfl, trivial⟩, ⟨⟨rfl, rfl, trivial⟩, trivial, ⟨⟨rfl, rfl, trivial⟩, trivial, ⟨⟨rfl, trivial⟩, trivial, ⟨⟨rfl, rfl, trivial⟩, ⟨rfl, trivial⟩, trivial⟩⟩⟩⟩⟩⟩⟩⟩⟩⟩⟩⟩⟩ (by kernel_rfl) (.cons (fun S hn h hh => aops_move (V.own 1 l36.length) wants_none h.1 rfl (an ⟨rfl, rfl⟩)) (.cons (fun S hn h hh => aops_move (iV n35) wants_none h.1 rfl (an ⟨rfl, rfl⟩)) (.cons (fun S hn h hh => aops_move (V.own 1 l36.length) wants_none h.1 rfl (an ⟨rfl, rfl⟩)) (.cons (fun S hn h hh => aops_move (iV n35) wants_none h.1 rfl (an ⟨rfl, rfl⟩)) (.cons (fun S hn h hh => aops_index_own tSl59 wants_none h.1 h.2.1 (idx_some hx39).1 (by simpa using idx_lt hx39) rfl (an ⟨rfl, rfl⟩)) (.cons (fun S hn h hh => aops_fieldAddr tF35_4 wants_none h.1 rfl (an ⟨rfl, rfl⟩)) (.cons (fun S hn h hh => aops_load_cell (iV x38.To) tC3 wants_none h.1 hh.1 (idx_map encTWindow hx39) rfl rfl (an ⟨rfl, rfl⟩)) (.cons (fun S hn h hh => aops_fieldAddr tF52_3 wants_none h.1 rfl (an ⟨rfl, rfl⟩)) (.cons (fun S hn h hh => aops_load_cell (iV a1.Until) tC3 wants_none h.1 hh.1 rfl rfl rfl (an ⟨rfl, rfl⟩)) (.cons (fun S hn h hh => aops_bin (.bool (x38.To == a1.Until)) wants_none h.1 h.2.1 rfl rfl (an ⟨rfl, rfl⟩)) (.cons (fun S hn h hh => aops_index_own tSl59 wants_none h.1 h.2.1 (idx_some hx41).1 (by simpa using idx_lt hx41) rfl (an ⟨rfl, rfl⟩)) (.cons (fun S hn h hh => aops_fieldAddr tF35_5 wants_none h.1 rfl (an ⟨rfl, rfl⟩)) (.cons (fun S hn h hh => aops_store [(bV (x38.To == a1.Until))] ((l36.set n35.toNat (TWindow.mk x40.Advisory x40.Component x40.Severity x40.From x40.To (x38.To == a1.Until))).map encTWindow) tS4 wants_none h.1 h.2.1 rfl rfl hh.1 (idx_map encTWindow hx41) rfl (map_set encTWindow l36 _ (TWindow.mk x40.Advisory x40.Component x40.Severity x40.From x40.To (x38.To == a1.Until))) (an ⟨rfl, rfl⟩)) .nil))))))))))))) ?_
      refine rg ?_
      refine aops_bin (.int .i64 (w64 (n35 + 1))) wants_none rfl rfl rfl rfl ?_
      refine am (iV (w64 (n35 + 1))) rfl rfl ?_
      refine an ?_
      exact awp_back (ih2 ((w64 (n35 + 1)), (l36.set n35.toNat (TWindow.mk x40.Advisory x40.Component x40.Severity x40.From x40.To (x38.To == a1.Until)))) (hk2 _ h)) (ghost_ren 2 (fun i => ([0, 1] : List Nat).getD i 0) _ _ (by decide) (EnvSub.get (.cons (Sub.ptr rfl rfl) (.cons (Sub.ownE rfl rfl (by simp)) (.cons (Sub.imm (Imm.con _)) (.cons (Sub.imm (Imm.con _)) .nil))))) (HpSub.get (.cons rfl (ObSub.box (.cons (Sub.imm (Imm.con _)) (.cons (Sub.imm (Imm.lst _ _)) (.cons (Sub.imm (Imm.lst _ _)) (.cons (Sub.imm (Imm.con _)) .nil))))) (.cons rfl (ObSub.rows (rows_imm imms_encTWindow)) .nil))) rfl)
    replace h := RC.f h hb37
    unfold M99_L2 at h
    refine awp_exit ?_
    exact ⟨l36, h, (ghost_ren 1 (fun i => ([1] : List Nat).getD i 0) _ _ (by decide) (EnvSub.get (.cons (Sub.own rfl rfl) .nil)) (HpSub.get (.cons rfl (ObSub.rows (rows_imm imms_encTWindow)) .nil)) rfl)⟩
  clear h
  intro l32 h
  subst hk31
  refine sr ?_
  refine am (V.own 0 l32.length) rfl rfl ?_
  replace h := bind_some h
  obtain ⟨y43, hx44, h⟩ := h
  refine aops_ghost (ghost_frzE 0 91 rfl (rows_imm imms_encTWindow) rfl (List.length_map ..).symm) ?_
  refine aops_call (V.lst 6 (y43.map encTWindow)) [(V.lst 6 (l32.map encTWindow))] fOk135 wants_none (evm_cons rfl evm_nil) (.cons (Imm.lst _ _) .nil) (W135 F l32 y43 hx44) rfl ?_
  refine aa (V.lst 6 (y43.map encTWindow)) rfl rfl ?_
  refine an ?_
  refine awp_ret ?_
  obtain rfl := Option.some.inj h
  exact ⟨.inl rfl, .one (.tmp rfl (Imm.lst _ _))⟩
theorem W40 (F : Nat) (a1 : (List TWindow)) (a2 : (List TWindow)) (r : Bool) (h : M40 F a1 a2 = some r) : Pure Try.prog 40 [(V.lst 6 (a1.map encTWindow)), (V.lst 6 (a2.map encTWindow))] (bV r) := by
  refine pure_enter Try.func40 rfl rfl (l := [.tmp 4]) rfl rfl [(0, (V.lst 6 (a1.map encTWindow))), (1, (V.lst 6 (a2.map encTWindow)))] rfl (fun w0 m0 => ?_)
  unfold M40 at h
  refine sr ?_
  refine aa (bV false) rfl rfl ?_
  refine an ?_
  refine sq ?_
  refine sr ?_
  refine am (V.lst 6 (a1.map encTWindow)) rfl rfl ?_
  refine aops_len (n := a1.length) tIsSl59 wants_none rfl (congrArg some (List.length_map ..)) rfl ?_
  refine am (V.lst 6 (a2.map encTWindow)) rfl rfl ?_
  refine aops_len (n := a2.length) tIsSl59 wants_none rfl (congrArg some (List.length_map ..)) rfl ?_
  refine aops_bin (.bool (((a1.length : Nat) : Int) != ((a2.length : Nat) : Int))) wants_none rfl rfl rfl rfl ?_
  refine an ?_
  refine awp_cond (((a1.length : Nat) : Int) != ((a2.length : Nat) : Int)) rfl (fun hb3 => ?_) (fun hb3 => ?_)
  · replace h := ite_t hb3 h
    refine sr ?_
    refine aa (bV false) rfl rfl ?_
    refine an ?_
    refine awp_ret ?_
    obtain rfl := Option.some.inj h
    exact ⟨.inl rfl, .one (.tmp rfl (Imm.con _))⟩
  replace h := ite_f hb3 h
  refine awp_skip ?_
  refine sq ?_
  refine sr ?_
  refine am (V.lst 6 (a1.map encTWindow)) rfl rfl ?_
  refine aops_len (n := a1.length) tIsSl59 wants_none rfl (congrArg some (List.length_map ..)) rfl ?_
  refine am (iV 0) rfl rfl ?_
  refine an ?_
  replace h := jn_elim h
  obtain ⟨k4, hk4, h⟩ := h
  refine awp_cut (fun _ : Unit => (⟨[], [], 0⟩ : St)) (fun _ : Unit => k4 = some r) ?_ ?_
  · clear hk4
    refine awp_block ?_
    refine awp_len (A := a1) 0 rfl (fun hA13 => ?_)
    refine awp_loop_ind (fun (p : Int) => (⟨[(0, (V.lst 6 (a1.map encTWindow))), (1, (V.lst 6 (a2.map encTWindow))), (12, (iV ((a1.length : Nat) : Int))), (13, (iV p))], [], 0⟩ : St)) (fun n (p : Int) => RG a1 (fun tl nn => M40_L1 F a2 k4 tl nn = some r) n p) (fun p h => RG.zero h) (fun n ih1 p h => ?_) (a1.length + 1) 0 (RG.start h) (ghost_ren 0 (fun i => ([] : List Nat).getD i 0) _ _ (by decide) (EnvSub.get (.cons (Sub.imm (Imm.lst _ _)) (.cons (Sub.imm (Imm.lst _ _)) (.cons (Sub.imm (Imm.con _)) (.cons (Sub.imm (Imm.con _)) .nil))))) (HpSub.get .nil) rfl)
    revert p
    intro n6 h
    refine awp_loop ?_
    refine sr ?_
    refine aops_bin (.bool (decide (n6 < ((a1.length : Nat) : Int)))) wants_none rfl rfl rfl rfl ?_
    refine an ?_
    refine sq ?_
    refine awp_cond (decide (n6 < ((a1.length : Nat) : Int))) rfl (fun hb7 => ?_) (fun hb7 => ?_)
    · obtain ⟨x8, tl, hx9, h, hk1⟩ := RG.t hA13 h hb7
      unfold M40_L1 at h
      refine awp_skip ?_
      refine sq ?_
      refine awp_block ?_
      refine sr ?_
      refine am (iV n6) rfl rfl ?_
      refine aa (iV n6) rfl rfl ?_
      refine an ?_
      refine sq ?_
      replace h := bind_some h
      obtain ⟨x10, hx11, h⟩ := h
      refine awp_any [OD.mk [(0, (V.lst 6 (a1.map encTWindow)))] [] [(16, (V.lst 6 (a1.map encTWindow)))] [],
            OD.mk [(5, (iV n6))] [] [(17, (iV n6))] [],
            OD.mk [(16, (V.lst 6 (a1.map encTWindow))), (17, (iV n6))] [] [(18, (V.iptr (encTWindow x8) 0))] [],
            OD.mk [(18, (V.iptr (encTWindow x8) 0))] [] [(19, (V.agg (encTWindow x8)))] [],
            OD.mk [(1, (V.lst 6 (a2.map encTWindow)))] [] [(20, (V.lst 6 (a2.map encTWindow)))] [],
            OD.mk [(5, (iV n6))] [] [(21, (iV n6))] [],
            OD.mk [(20, (V.lst 6 (a2.map encTWindow))), (21, (iV n6))] [] [(22, (V.iptr (encTWindow x10) 0))] [],
            OD.mk [(22, (V.iptr (encTWindow x10) 0))] [] [(23, (V.agg (encTWindow x10)))] [],
            OD.mk [(19, (V.agg (encTWindow x8))), (23, (V.agg (encTWindow x10)))] [] [(24, (bV (!(decide (x8 = x10)))))] []] mixed ⟨⟨rfl, trivial⟩, trivial, ⟨⟨rfl, trivial⟩, trivial, ⟨⟨rfl, rfl, trivial⟩, trivial, ⟨⟨rfl, trivial⟩, trivial, ⟨⟨rfl, trivial⟩, trivial, ⟨⟨rfl, trivial⟩, trivial, ⟨⟨rfl, rfl, trivial⟩, trivial, ⟨⟨rfl, trivial⟩, trivial, ⟨⟨rfl, rfl, trivial⟩, trivial, trivial⟩⟩⟩⟩⟩⟩⟩⟩⟩ (by kernel_rfl) (.cons (fun S hn h hh => aops_move (V.lst 6 (a1.map encTWindow)) wants_none h.1 rfl (an ⟨rfl, rfl⟩)) (.cons (fun S hn h hh => aops_move (iV n6) wants_none h.1 rfl (an ⟨rfl, rfl⟩)) (.cons (fun S hn h hh => aops_index_lst (encTWindow x8) tSl59 wants_none h.1 h.2.1 (idx_some hx9).1 (idx_map encTWindow hx9) rfl (an ⟨rfl, rfl⟩)) (.cons (fun S hn h hh => aops_iload_agg (cs := (encTWindow x8)) tA35 wants_none h.1 rfl rfl rfl (an ⟨rfl, rfl⟩)) (.cons (fun S hn h hh => aops_move (V.lst 6 (a2.map encTWindow)) wants_none h.1 rfl (an ⟨rfl, rfl⟩)) (.cons (fun S hn h hh => aops_move (iV n6) wants_none h.1 rfl (an ⟨rfl, rfl⟩)) (.cons (fun S hn h hh => aops_index_lst (encTWindow x10) tSl59 wants_none h.1 h.2.1 (idx_some hx11).1 (idx_map encTWindow hx11) rfl (an ⟨rfl, rfl⟩)) (.cons (fun S hn h hh => aops_iload_agg (cs := (encTWindow x10)) tA35 wants_none h.1 rfl rfl rfl (an ⟨rfl, rfl⟩)) (.cons (fun S hn h hh => aops_eqS true (xs := cv35 x8) (ys := cv35 x10) (b := (decide (x8 = x10))) eqk35 ⟨_, rfl⟩ ⟨_, rfl⟩ (eq_b cv35 _ _ (inj_cv35 _ _)) tEqG35 wants_none h.1 h.2.1 rfl (an ⟨rfl, rfl⟩)) .nil))))))))) ?_
      refine awp_cond (!(decide (x8 = x10))) rfl (fun hb12 => ?_) (fun hb12 => ?_)
      · replace h := ite_t hb12 h
        refine sr ?_
        refine aa (bV false) rfl rfl ?_
        refine an ?_
        refine awp_ret ?_
        obtain rfl := Option.some.inj h
        exact ⟨.inl rfl, .one (.tmp rfl (Imm.con _))⟩
      replace h := ite_f hb12 h
      refine awp_skip ?_
      refine rg ?_
      refine aops_bin (.int .i64 (w64 (n6 + 1))) wants_none rfl rfl rfl rfl ?_
      refine am (iV (w64 (n6 + 1))) rfl rfl ?_
      refine an ?_
      exact awp_back (ih1 (w64 (n6 + 1)) (hk1 _ h)) (ghost_ren 0 (fun i => ([] : List Nat).getD i 0) _ _ (by decide) (EnvSub.get (.cons (Sub.imm (Imm.lst _ _)) (.cons (Sub.imm (Imm.lst _ _)) (.cons (Sub.imm (Imm.con _)) (.cons (Sub.imm (Imm.con _)) .nil))))) (HpSub.get .nil) rfl)
    replace h := RG.f h hb7
    unfold M40_L1 at h
    refine awp_exit ?_
    exact ⟨(), h, (ghost_ren 0 (fun i => ([] : List Nat).getD i 0) _ _ (by decide) (EnvSub.get .nil) (HpSub.get .nil) rfl)⟩
  clear h
  intro _ h
  subst hk4
  refine sr ?_
  refine aa (bV true) rfl rfl ?_
  refine an ?_
  refine awp_ret ?_
  obtain rfl := Option.some.inj h
  exact ⟨.inl rfl, .one (.tmp rfl (Imm.con _))⟩
end Go.Proofs.Ytkciogeafbbggaa
