/- Part of the proof: HW7a. -/
import Derived.Test.YtkciogeafbbggaaDHM
import Derived.Test.YtkciogeafbbggaaDHW6a
import Derived.Test.YtkciogeafbbggaaDHW3a
import Derived.KernelRfl
namespace Go.Proofs.Ytkciogeafbbggaa
open Go Go.Pv
set_option linter.unusedVariables false
set_option maxRecDepth 100000
theorem W94 (F : Nat) (a1 : TStory) (r : Int) (h : M94 F a1 = some r) : Pure Try.prog 94 [(V.agg (encTStory a1))] (iV r) := by
  refine pure_enter Try.func94 rfl rfl (l := [.tmp 2]) rfl rfl [(0, (V.agg (encTStory a1)))] rfl (fun w0 m0 => ?_)
  unfold M94 at h
  refine sr ?_
  refine aops_box (encTStory a1) wants_none rfl rfl rfl rfl ?_
  refine aa (iV 0) rfl rfl ?_
  refine an ?_
  refine sr ?_
  refine aops_makeMap wants_none rfl ?_
  refine aa (V.map 1) rfl rfl ?_
  refine an ?_
  refine sq ?_
  refine sr ?_
  refine aops_fieldAddr tF52_1 wants_none rfl rfl ?_
  refine aops_load_cell (V.lst 3 (a1.Releases.map encTRelease)) tC49 wants_none rfl rfl rfl rfl rfl ?_
  refine aops_len (n := a1.Releases.length) tIsSl49 wants_none rfl (congrArg some (List.length_map ..)) rfl ?_
  refine am (iV 0) rfl rfl ?_
  refine an ?_
  replace h := jn_elim h
  obtain ⟨k2, hk2, h⟩ := h
  refine awp_cut (fun _ : Unit => (⟨[], [], 0⟩ : St)) (fun _ : Unit => k2 = some r) ?_ ?_
  · clear hk2
    refine awp_block ?_
    refine awp_len (A := a1.Releases) 9 rfl (fun hA24 => ?_)
    refine awp_loop_ind (fun (p : Int × (List ((List UInt8) × Bool))) => (⟨[(1, (V.ptr 0 4 0 0)), (3, (V.map 1)), (9, (V.lst 3 (a1.Releases.map encTRelease))), (10, (iV ((a1.Releases.length : Nat) : Int))), (11, (iV (p.1)))], [(0, (Ob.arr 52 4 [(encTStory a1)])), (1, (Ob.map ((p.2).map encM9_4)))], 2⟩ : St)) (fun n (p : Int × (List ((List UInt8) × Bool))) => RG a1.Releases (fun tl nn => M94_L1 F a1 k2 tl nn p.2 = some r) n p.1) (fun p h => RG.zero h) (fun n ih1 p h => ?_) (a1.Releases.length + 1) (0, ([] : List ((List UInt8) × Bool))) (RG.start h) (ghost_ren 2 (fun i => ([0, 1] : List Nat).getD i 0) _ _ (by decide) (EnvSub.get (.cons (Sub.ptr rfl rfl) (.cons (Sub.map rfl rfl) (.cons (Sub.imm (Imm.lst _ _)) (.cons (Sub.imm (Imm.con _)) (.cons (Sub.imm (Imm.con _)) .nil)))))) (HpSub.get (.cons rfl (ObSub.box (.cons (Sub.imm (Imm.con _)) (.cons (Sub.imm (Imm.lst _ _)) (.cons (Sub.imm (Imm.lst _ _)) (.cons (Sub.imm (Imm.con _)) .nil))))) (.cons rfl (ObSub.maps encM9_4_imm) .nil))) rfl)
    obtain ⟨n5, m6⟩ := p
    refine awp_loop ?_
    refine sr ?_
    refine aops_bin (.bool (decide (n5 < ((a1.Releases.length : Nat) : Int)))) wants_none rfl rfl rfl rfl ?_
    refine an ?_
    refine sq ?_
    refine awp_cond (decide (n5 < ((a1.Releases.length : Nat) : Int))) rfl (fun hb7 => ?_) (fun hb7 => ?_)
    · obtain ⟨x8, tl, hx9, h, hk1⟩ := RG.t hA24 h hb7
      unfold M94_L1 at h
      refine awp_skip ?_
      refine sq ?_
      refine awp_block ?_
      refine sr ?_
      refine am (iV n5) rfl rfl ?_
      refine aops_index_lst (encTRelease x8) tSl49 wants_none rfl rfl (idx_some hx9).1 (idx_map encTRelease hx9) rfl ?_
      refine aops_iload_agg (cs := (encTRelease x8)) tA42 wants_none rfl rfl rfl rfl ?_
      refine aops_alloc tZ42 rfl rfl wants_none rfl ?_
      refine aa (iV n5) rfl rfl ?_
      refine aops_store (encTRelease x8) [(encTRelease x8)] tS42 wants_none rfl rfl rfl rfl rfl rfl rfl rfl ?_
      refine an ?_
      refine sq ?_
      refine awp_block ?_
      refine sr ?_
      refine aops_fieldAddr tF42_0 wants_none rfl rfl ?_
      refine aops_load_cell (sV x8.Version) tC9 wants_none rfl rfl rfl rfl rfl ?_
      replace h := bind_some h
      obtain ⟨y10, hx11, h⟩ := h
      refine aops_call (bV y10) [(sV x8.Version)] fOk93 wants_none (evm_cons rfl evm_nil) (.cons (Imm.con _) .nil) (W93 F x8.Version y10 hx11) rfl ?_
      refine aops_not wants_none rfl rfl ?_
      refine aa (bV (!y10)) rfl rfl ?_
      refine an ?_
      replace h := jn_elim h
      obtain ⟨k12, hk12, h⟩ := h
      refine awp_cut (fun _ : Unit => (⟨[(1, (V.ptr 0 4 0 0)), (3, (V.map 1)), (5, (V.ptr 2 3 0 0)), (9, (V.lst 3 (a1.Releases.map encTRelease))), (10, (iV ((a1.Releases.length : Nat) : Int))), (11, (iV n5)), (31, (V.ptr 2 3 0 1)), (32, (iV x8.Day)), (33, (V.ptr 0 4 0 3)), (34, (iV a1.Until)), (35, (bV (decide (x8.Day > a1.Until))))], [(0, (Ob.arr 52 4 [(encTStory a1)])), (1, (Ob.map (m6.map encM9_4))), (2, (Ob.arr 42 3 [(encTRelease x8)]))], 3⟩ : St)) (fun _ : Unit => k12 = some r) ?_ ?_
      · clear hk12
        refine awp_cond (!y10) rfl (fun hb13 => ?_) (fun hb13 => ?_)
        · replace h := ite_t hb13 h
          refine sr ?_
          refine aa (iV 8) rfl rfl ?_
          refine an ?_
          refine awp_ret ?_
          obtain rfl := Option.some.inj h
          exact ⟨.inl rfl, .one (.tmp rfl (Imm.con _))⟩
        replace h := ite_f hb13 h
        refine sr ?_
        refine am (V.map 1) rfl rfl ?_
        refine aops_fieldAddr tF42_0 wants_none rfl rfl ?_
        refine aops_load_cell (sV x8.Version) tC9 wants_none rfl rfl rfl rfl rfl ?_
        refine aops_lookup _ (bV false) (bV ((mget m6 x8.Version).getD false)) tMap135 tKey9 tZo4 (irel_con _) wants_none rfl (.own rfl) (.con rfl) ⟨_, rfl⟩ encM9_4_good (encM9_4_look m6 x8.Version) (getD_map (encM9_4_val) (mget m6 x8.Version) false) rfl ?_
        refine aa (bV ((mget m6 x8.Version).getD false)) rfl rfl ?_
        refine an ?_
        refine awp_cond ((mget m6 x8.Version).getD false) rfl (fun hb14 => ?_) (fun hb14 => ?_)
        · replace h := ite_t hb14 h
          refine sr ?_
          refine aa (iV 5) rfl rfl ?_
          refine an ?_
          refine awp_ret ?_
          obtain rfl := Option.some.inj h
          exact ⟨.inl rfl, .one (.tmp rfl (Imm.con _))⟩
        replace h := ite_f hb14 h
        refine sr ?_
        refine aops_fieldAddr tF42_1 wants_none rfl rfl ?_
        refine aops_load_cell (iV x8.Day) tC3 wants_none rfl rfl rfl rfl rfl ?_
        refine aops_bin (.bool (decide (x8.Day < 0))) wants_none rfl rfl rfl rfl ?_
        refine am (bV (decide (x8.Day < 0))) rfl rfl ?_
        rcases Bool.eq_false_or_eq_true (decide (x8.Day < 0)) with hb15 | hb15
        · replace h := ite_t hb15 h
          refine aops_skips 5 3 30 false (c := (decide (x8.Day < 0))) (b := true) rfl rfl hb15 rfl rfl ?_
          refine aops_pick true (cb := (decide (x8.Day < 0))) (bV true) wants_none rfl hb15 rfl rfl ?_
          refine aa (bV true) rfl rfl ?_
          refine an ?_
          refine awp_cond_t rfl rfl ?_
          refine sr ?_
          refine aa (iV 9) rfl rfl ?_
          refine an ?_
          refine awp_ret ?_
          obtain rfl := Option.some.inj h
          exact ⟨.inl rfl, .one (.tmp rfl (Imm.con _))⟩
        replace h := ite_f hb15 h
        refine aops_fieldAddr tF42_1 (wants_some (c := (decide (x8.Day < 0))) (b := false) 30 rfl rfl hb15) rfl rfl ?_
        refine aops_load_cell (iV x8.Day) tC3 (wants_some (c := (decide (x8.Day < 0))) (b := false) 30 rfl rfl hb15) rfl rfl rfl rfl rfl ?_
        refine aops_fieldAddr tF52_3 (wants_some (c := (decide (x8.Day < 0))) (b := false) 30 rfl rfl hb15) rfl rfl ?_
        refine aops_load_cell (iV a1.Until) tC3 (wants_some (c := (decide (x8.Day < 0))) (b := false) 30 rfl rfl hb15) rfl rfl rfl rfl rfl ?_
        refine aops_bin (.bool (decide (x8.Day > a1.Until))) (wants_some (c := (decide (x8.Day < 0))) (b := false) 30 rfl rfl hb15) rfl rfl rfl rfl ?_
        refine aops_pick false (cb := (decide (x8.Day < 0))) (bV (decide (x8.Day > a1.Until))) wants_none rfl hb15 rfl rfl ?_
        refine aa (bV (decide (x8.Day > a1.Until))) rfl rfl ?_
        refine an ?_
        refine awp_cond (decide (x8.Day > a1.Until)) rfl (fun hb16 => ?_) (fun hb16 => ?_)
        · replace h := ite_t hb16 h
          refine sr ?_
          refine aa (iV 9) rfl rfl ?_
          refine an ?_
          refine awp_ret ?_
          obtain rfl := Option.some.inj h
          exact ⟨.inl rfl, .one (.tmp rfl (Imm.con _))⟩
        replace h := ite_f hb16 h
        refine sq ?_
        rcases Bool.eq_false_or_eq_true (decide (n5 > 0)) with hb17 | hb17
        · replace h := ite_t hb17 h
          replace h := bind_some h
          obtain ⟨x18, hx19, h⟩ := h
          refine awp_any [OD.mk [(4, (iV n5))] [] [(38, (iV n5))] [],
                OD.mk [(38, (iV n5))] [] [(39, (bV (decide (n5 > 0))))] [],
                OD.mk [(39, (bV (decide (n5 > 0))))] [] [(40, (bV (decide (n5 > 0))))] [],
                OD.mk [(40, (bV (decide (n5 > 0)))), (5, (V.ptr 2 3 0 0))] [] [(41, (V.ptr 2 3 0 1))] [],
                OD.mk [(40, (bV (decide (n5 > 0)))), (41, (V.ptr 2 3 0 1))] [(2, (Ob.arr 42 3 [(encTRelease x8)]))] [(42, (iV x8.Day))] [],
                OD.mk [(40, (bV (decide (n5 > 0)))), (1, (V.ptr 0 4 0 0))] [] [(43, (V.ptr 0 4 0 1))] [],
                OD.mk [(40, (bV (decide (n5 > 0)))), (43, (V.ptr 0 4 0 1))] [(0, (Ob.arr 52 4 [(encTStory a1)]))] [(44, (V.lst 3 (a1.Releases.map encTRelease)))] [],
                OD.mk [(40, (bV (decide (n5 > 0)))), (4, (iV n5))] [] [(45, (iV n5))] [],
                OD.mk [(40, (bV (decide (n5 > 0)))), (45, (iV n5))] [] [(46, (iV (w64 (n5 - 1))))] [],
                OD.mk [(40, (bV (decide (n5 > 0)))), (44, (V.lst 3 (a1.Releases.map encTRelease))), (46, (iV (w64 (n5 - 1))))] [] [(47, (V.iptr (encTRelease x18) 0))] [],
                OD.mk [(40, (bV (decide (n5 > 0)))), (47, (V.iptr (encTRelease x18) 0))] [] [(48, (V.iptr (encTRelease x18) 1))] [],
                OD.mk [(40, (bV (decide (n5 > 0)))), (48, (V.iptr (encTRelease x18) 1))] [] [(49, (iV x18.Day))] [],
                OD.mk [(40, (bV (decide (n5 > 0)))), (42, (iV x8.Day)), (49, (iV x18.Day))] [] [(50, (bV (decide (x8.Day ≤ x18.Day))))] [],
                OD.mk [(40, (bV (decide (n5 > 0)))), (50, (bV (decide (x8.Day ≤ x18.Day))))] [] [(51, (bV (decide (x8.Day ≤ x18.Day))))] [],
                OD.mk [(51, (bV (decide (x8.Day ≤ x18.Day))))] [] [(37, (bV (decide (x8.Day ≤ x18.Day))))] []] mixed ⟨⟨rfl, trivial⟩, trivial, ⟨⟨rfl, trivial⟩, trivial, ⟨⟨rfl, trivial⟩, trivial, ⟨⟨rfl, rfl, trivial⟩, trivial, ⟨⟨rfl, rfl, trivial⟩, ⟨rfl, trivial⟩, ⟨⟨rfl, rfl, trivial⟩, trivial, ⟨⟨rfl, rfl, trivial⟩, ⟨rfl, trivial⟩, ⟨⟨rfl, rfl, trivial⟩, trivial, ⟨⟨rfl, rfl, trivial⟩, trivial, ⟨⟨rfl, rfl, rfl, trivial⟩, trivial, ⟨⟨rfl, rfl, trivial⟩, trivial, ⟨⟨rfl, rfl, trivial⟩, trivial, ⟨⟨rfl, rfl, rfl, trivial⟩, trivial, ⟨⟨rfl, rfl, trivial⟩, trivial, ⟨⟨rfl, trivial⟩, trivial, trivial⟩⟩⟩⟩⟩⟩⟩⟩⟩⟩⟩⟩⟩⟩⟩ (by kernel_rfl) (.cons (fun S hn h hh => aops_move (iV n5) wants_none h.1 rfl (an ⟨rfl, rfl⟩)) (.cons (fun S hn h hh => aops_bin (.bool (decide (n5 > 0))) wants_none h.1 rfl rfl rfl (an ⟨rfl, rfl⟩)) (.cons (fun S hn h hh => aops_move (bV (decide (n5 > 0))) wants_none h.1 rfl (an ⟨rfl, rfl⟩)) (.cons (fun S hn h hh => aops_fieldAddr tF42_1 (wants_some (c := (decide (n5 > 0))) (b := true) 40 rfl h.1 hb17) h.2.1 rfl (an ⟨rfl, rfl⟩)) (.cons (fun S hn h hh => aops_load_cell (iV x8.Day) tC3 (wants_some (c := (decide (n5 > 0))) (b := true) 40 rfl h.1 hb17) h.2.1 hh.1 rfl rfl rfl (an ⟨rfl, rfl⟩)) (.cons (fun S hn h hh => aops_fieldAddr tF52_1 (wants_some (c := (decide (n5 > 0))) (b := true) 40 rfl h.1 hb17) h.2.1 rfl (an ⟨rfl, rfl⟩)) (.cons (fun S hn h hh => aops_load_cell (V.lst 3 (a1.Releases.map encTRelease)) tC49 (wants_some (c := (decide (n5 > 0))) (b := true) 40 rfl h.1 hb17) h.2.1 hh.1 rfl rfl rfl (an ⟨rfl, rfl⟩)) (.cons (fun S hn h hh => aops_move (iV n5) (wants_some (c := (decide (n5 > 0))) (b := true) 40 rfl h.1 hb17) h.2.1 rfl (an ⟨rfl, rfl⟩)) (.cons (fun S hn h hh => aops_bin (.int .i64 (w64 (n5 - 1))) (wants_some (c := (decide (n5 > 0))) (b := true) 40 rfl h.1 hb17) h.2.1 rfl rfl rfl (an ⟨rfl, rfl⟩)) (.cons (fun S hn h hh => aops_index_lst (encTRelease x18) tSl49 (wants_some (c := (decide (n5 > 0))) (b := true) 40 rfl h.1 hb17) h.2.1 h.2.2.1 (idx_some hx19).1 (idx_map encTRelease hx19) rfl (an ⟨rfl, rfl⟩)) (.cons (fun S hn h hh => aops_ifieldAddr tF42_1 (wants_some (c := (decide (n5 > 0))) (b := true) 40 rfl h.1 hb17) h.2.1 rfl (an ⟨rfl, rfl⟩)) (.cons (fun S hn h hh => aops_iload_cell (iV x18.Day) tC3 (wants_some (c := (decide (n5 > 0))) (b := true) 40 rfl h.1 hb17) h.2.1 rfl rfl (an ⟨rfl, rfl⟩)) (.cons (fun S hn h hh => aops_bin (.bool (decide (x8.Day ≤ x18.Day))) (wants_some (c := (decide (n5 > 0))) (b := true) 40 rfl h.1 hb17) h.2.1 h.2.2.1 rfl rfl (an ⟨rfl, rfl⟩)) (.cons (fun S hn h hh => aops_pick true (cb := (decide (n5 > 0))) (bV (decide (x8.Day ≤ x18.Day))) wants_none h.1 hb17 h.2.1 rfl (an ⟨rfl, rfl⟩)) (.cons (fun S hn h hh => aops_assign (bV (decide (x8.Day ≤ x18.Day))) wants_none h.1 rfl (an ⟨rfl, rfl⟩)) .nil))))))))))))))) ?_
          refine awp_cond (decide (x8.Day ≤ x18.Day)) rfl (fun hb20 => ?_) (fun hb20 => ?_)
          · replace h := ite_t hb20 h
            refine sr ?_
            refine aa (iV 10) rfl rfl ?_
            refine an ?_
            refine awp_ret ?_
            obtain rfl := Option.some.inj h
            exact ⟨.inl rfl, .one (.tmp rfl (Imm.con _))⟩
          replace h := ite_f hb20 h
          refine awp_skip ?_
          exact ⟨(), h, (ghost_ren 3 (fun i => ([0, 1, 2] : List Nat).getD i 0) _ _ (by decide) (EnvSub.get (.cons (Sub.ptr rfl rfl) (.cons (Sub.map rfl rfl) (.cons (Sub.ptr rfl rfl) (.cons (Sub.imm (Imm.lst _ _)) (.cons (Sub.imm (Imm.con _)) (.cons (Sub.imm (Imm.con _)) (.cons (Sub.ptr rfl rfl) (.cons (Sub.imm (Imm.con _)) (.cons (Sub.ptr rfl rfl) (.cons (Sub.imm (Imm.con _)) (.cons (Sub.imm (Imm.con _)) .nil)))))))))))) (HpSub.get (.cons rfl (ObSub.box (.cons (Sub.imm (Imm.con _)) (.cons (Sub.imm (Imm.lst _ _)) (.cons (Sub.imm (Imm.lst _ _)) (.cons (Sub.imm (Imm.con _)) .nil))))) (.cons rfl (ObSub.maps encM9_4_imm) (.cons rfl (ObSub.box (.cons (Sub.imm (Imm.con _)) (.cons (Sub.imm (Imm.con _)) (.cons (Sub.imm (Imm.lst _ _)) .nil)))) .nil)))) rfl)⟩
        replace h := ite_f hb17 h
        refine awp_any [OD.mk [(4, (iV n5))] [] [(38, (iV n5))] [],
              OD.mk [(38, (iV n5))] [] [(39, (bV (decide (n5 > 0))))] [],
              OD.mk [(39, (bV (decide (n5 > 0))))] [] [(40, (bV (decide (n5 > 0))))] [],
              OD.mk [(40, (bV (decide (n5 > 0))))] [] [(41, (V.con undef))] [],
              OD.mk [(40, (bV (decide (n5 > 0))))] [] [(42, (V.con undef))] [],
              OD.mk [(40, (bV (decide (n5 > 0))))] [] [(43, (V.con undef))] [],
              OD.mk [(40, (bV (decide (n5 > 0))))] [] [(44, (V.con undef))] [],
              OD.mk [(40, (bV (decide (n5 > 0))))] [] [(45, (V.con undef))] [],
              OD.mk [(40, (bV (decide (n5 > 0))))] [] [(46, (V.con undef))] [],
              OD.mk [(40, (bV (decide (n5 > 0))))] [] [(47, (V.con undef))] [],
              OD.mk [(40, (bV (decide (n5 > 0))))] [] [(48, (V.con undef))] [],
              OD.mk [(40, (bV (decide (n5 > 0))))] [] [(49, (V.con undef))] [],
              OD.mk [(40, (bV (decide (n5 > 0))))] [] [(50, (V.con undef))] [],
              OD.mk [(40, (bV (decide (n5 > 0))))] [] [(51, (bV false))] [],
              OD.mk [(51, (bV false))] [] [(37, (bV false))] []] mixed ⟨⟨rfl, trivial⟩, trivial, ⟨⟨rfl, trivial⟩, trivial, ⟨⟨rfl, trivial⟩, trivial, ⟨⟨rfl, trivial⟩, trivial, ⟨⟨rfl, trivial⟩, trivial, ⟨⟨rfl, trivial⟩, trivial, ⟨⟨rfl, trivial⟩, trivial, ⟨⟨rfl, trivial⟩, trivial, ⟨⟨rfl, trivial⟩, trivial, ⟨⟨rfl, trivial⟩, trivial, ⟨⟨rfl, trivial⟩, trivial, ⟨⟨rfl, trivial⟩, trivial, ⟨⟨rfl, trivial⟩, trivial, ⟨⟨rfl, trivial⟩, trivial, ⟨⟨rfl, trivial⟩, trivial, trivial⟩⟩⟩⟩⟩⟩⟩⟩⟩⟩⟩⟩⟩⟩⟩ (by kernel_rfl) (.cons (fun S hn h hh => aops_move (iV n5) wants_none h.1 rfl (an ⟨rfl, rfl⟩)) (.cons (fun S hn h hh => aops_bin (.bool (decide (n5 > 0))) wants_none h.1 rfl rfl rfl (an ⟨rfl, rfl⟩)) (.cons (fun S hn h hh => aops_move (bV (decide (n5 > 0))) wants_none h.1 rfl (an ⟨rfl, rfl⟩)) (.cons (fun S hn h hh => aops_skip (wants_some (c := (decide (n5 > 0))) (b := false) 40 rfl h.1 hb17) rfl rfl (an ⟨rfl, rfl⟩)) (.cons (fun S hn h hh => aops_skip (wants_some (c := (decide (n5 > 0))) (b := false) 40 rfl h.1 hb17) rfl rfl (an ⟨rfl, rfl⟩)) (.cons (fun S hn h hh => aops_skip (wants_some (c := (decide (n5 > 0))) (b := false) 40 rfl h.1 hb17) rfl rfl (an ⟨rfl, rfl⟩)) (.cons (fun S hn h hh => aops_skip (wants_some (c := (decide (n5 > 0))) (b := false) 40 rfl h.1 hb17) rfl rfl (an ⟨rfl, rfl⟩)) (.cons (fun S hn h hh => aops_skip (wants_some (c := (decide (n5 > 0))) (b := false) 40 rfl h.1 hb17) rfl rfl (an ⟨rfl, rfl⟩)) (.cons (fun S hn h hh => aops_skip (wants_some (c := (decide (n5 > 0))) (b := false) 40 rfl h.1 hb17) rfl rfl (an ⟨rfl, rfl⟩)) (.cons (fun S hn h hh => aops_skip (wants_some (c := (decide (n5 > 0))) (b := false) 40 rfl h.1 hb17) rfl rfl (an ⟨rfl, rfl⟩)) (.cons (fun S hn h hh => aops_skip (wants_some (c := (decide (n5 > 0))) (b := false) 40 rfl h.1 hb17) rfl rfl (an ⟨rfl, rfl⟩)) (.cons (fun S hn h hh => aops_skip (wants_some (c := (decide (n5 > 0))) (b := false) 40 rfl h.1 hb17) rfl rfl (an ⟨rfl, rfl⟩)) (.cons (fun S hn h hh => aops_skip (wants_some (c := (decide (n5 > 0))) (b := false) 40 rfl h.1 hb17) rfl rfl (an ⟨rfl, rfl⟩)) (.cons (fun S hn h hh => aops_pick false (cb := (decide (n5 > 0))) (bV false) wants_none h.1 hb17 rfl rfl (an ⟨rfl, rfl⟩)) (.cons (fun S hn h hh => aops_assign (bV false) wants_none h.1 rfl (an ⟨rfl, rfl⟩)) .nil))))))))))))))) ?_
        refine awp_cond_f rfl rfl ?_
        refine awp_skip ?_
        exact ⟨(), h, (ghost_ren 3 (fun i => ([0, 1, 2] : List Nat).getD i 0) _ _ (by decide) (EnvSub.get (.cons (Sub.ptr rfl rfl) (.cons (Sub.map rfl rfl) (.cons (Sub.ptr rfl rfl) (.cons (Sub.imm (Imm.lst _ _)) (.cons (Sub.imm (Imm.con _)) (.cons (Sub.imm (Imm.con _)) (.cons (Sub.ptr rfl rfl) (.cons (Sub.imm (Imm.con _)) (.cons (Sub.ptr rfl rfl) (.cons (Sub.imm (Imm.con _)) (.cons (Sub.imm (Imm.con _)) .nil)))))))))))) (HpSub.get (.cons rfl (ObSub.box (.cons (Sub.imm (Imm.con _)) (.cons (Sub.imm (Imm.lst _ _)) (.cons (Sub.imm (Imm.lst _ _)) (.cons (Sub.imm (Imm.con _)) .nil))))) (.cons rfl (ObSub.maps encM9_4_imm) (.cons rfl (ObSub.box (.cons (Sub.imm (Imm.con _)) (.cons (Sub.imm (Imm.con _)) (.cons (Sub.imm (Imm.lst _ _)) .nil)))) .nil)))) rfl)⟩
      clear h
      intro _ h
      subst hk12
      refine sr ?_
      refine am (V.map 1) rfl rfl ?_
      refine aops_fieldAddr tF42_0 wants_none rfl rfl ?_
      refine aops_load_cell (sV x8.Version) tC9 wants_none rfl rfl rfl rfl rfl ?_
      refine aops_mapUpdate ((mput m6 x8.Version true).map encM9_4) tMap135 tKey9 wants_none rfl rfl (.con rfl) ⟨_, rfl⟩ encM9_4_good rfl (encM9_4_puts m6 x8.Version true) ?_
      refine an ?_
      refine sr ?_
      refine aops_fieldAddr tF42_2 wants_none rfl rfl ?_
      refine aops_load_cell (V.lst 3 (x8.Exposures.map encTExposure)) tC40 wants_none rfl rfl rfl rfl rfl ?_
      replace h := bind_some h
      obtain ⟨y21, hx22, h⟩ := h
      refine aops_call (iV y21) [(V.lst 3 (x8.Exposures.map encTExposure))] fOk127 wants_none (evm_cons rfl evm_nil) (.cons (Imm.lst _ _) .nil) (W127 F x8.Exposures y21 hx22) rfl ?_
      refine aa (iV y21) rfl rfl ?_
      refine an ?_
      refine sr ?_
      refine am (iV y21) rfl rfl ?_
      refine aops_bin (.bool (y21 != 0)) wants_none rfl rfl rfl rfl ?_
      refine an ?_
      refine awp_cond (y21 != 0) rfl (fun hb23 => ?_) (fun hb23 => ?_)
      · replace h := ite_t hb23 h
        refine sr ?_
        refine am (iV y21) rfl rfl ?_
        refine aa (iV y21) rfl rfl ?_
        refine an ?_
        refine awp_ret ?_
        obtain rfl := Option.some.inj h
        exact ⟨.inl rfl, .one (.tmp rfl (Imm.con _))⟩
      replace h := ite_f hb23 h
      refine awp_skip ?_
      refine rg ?_
      refine aops_bin (.int .i64 (w64 (n5 + 1))) wants_none rfl rfl rfl rfl ?_
      refine am (iV (w64 (n5 + 1))) rfl rfl ?_
      refine an ?_
      exact awp_back (ih1 ((w64 (n5 + 1)), (mput m6 x8.Version true)) (hk1 _ h)) (ghost_ren 2 (fun i => ([0, 1] : List Nat).getD i 0) _ _ (by decide) (EnvSub.get (.cons (Sub.ptr rfl rfl) (.cons (Sub.map rfl rfl) (.cons (Sub.imm (Imm.lst _ _)) (.cons (Sub.imm (Imm.con _)) (.cons (Sub.imm (Imm.con _)) .nil)))))) (HpSub.get (.cons rfl (ObSub.box (.cons (Sub.imm (Imm.con _)) (.cons (Sub.imm (Imm.lst _ _)) (.cons (Sub.imm (Imm.lst _ _)) (.cons (Sub.imm (Imm.con _)) .nil))))) (.cons rfl (ObSub.maps encM9_4_imm) .nil))) rfl)
    replace h := RG.f h hb7
    unfold M94_L1 at h
    refine awp_exit ?_
    exact ⟨(), h, (ghost_ren 0 (fun i => ([] : List Nat).getD i 0) _ _ (by decide) (EnvSub.get .nil) (HpSub.get .nil) rfl)⟩
  clear h
  intro _ h
  subst hk2
  refine sr ?_
  refine aa (iV 0) rfl rfl ?_
  refine an ?_
  refine awp_ret ?_
  obtain rfl := Option.some.inj h
  exact ⟨.inl rfl, .one (.tmp rfl (Imm.con _))⟩
theorem W35 (F : Nat) (a1 : TStory) (r : Int) (h : M35 F a1 = some r) : Pure Try.prog 35 [(V.agg (encTStory a1))] (iV r) := by
  refine pure_enter Try.func35 rfl rfl (l := [.tmp 2]) rfl rfl [(0, (V.agg (encTStory a1)))] rfl (fun w0 m0 => ?_)
  unfold M35 at h
  refine sr ?_
  refine aops_box (encTStory a1) wants_none rfl rfl rfl rfl ?_
  refine aa (iV 0) rfl rfl ?_
  refine an ?_
  refine sq ?_
  refine awp_block ?_
  refine sr ?_
  refine aops_fieldAddr tF52_0 wants_none rfl rfl ?_
  refine aops_load_cell (sV a1.Product) tC9 wants_none rfl rfl rfl rfl rfl ?_
  replace h := bind_some h
  obtain ⟨y2, hx3, h⟩ := h
  refine aops_call (bV y2) [(sV a1.Product)] fOk93 wants_none (evm_cons rfl evm_nil) (.cons (Imm.con _) .nil) (W93 F a1.Product y2 hx3) rfl ?_
  refine aops_not wants_none rfl rfl ?_
  refine aa (bV (!y2)) rfl rfl ?_
  refine an ?_
  refine awp_cond (!y2) rfl (fun hb4 => ?_) (fun hb4 => ?_)
  · replace h := ite_t hb4 h
    refine sr ?_
    refine aa (iV 8) rfl rfl ?_
    refine an ?_
    refine awp_ret ?_
    obtain rfl := Option.some.inj h
    exact ⟨.inl rfl, .one (.tmp rfl (Imm.con _))⟩
  replace h := ite_f hb4 h
  refine sr ?_
  refine aops_fieldAddr tF52_3 wants_none rfl rfl ?_
  refine aops_load_cell (iV a1.Until) tC3 wants_none rfl rfl rfl rfl rfl ?_
  replace h := bind_some h
  obtain ⟨y5, hx6, h⟩ := h
  refine aops_call (bV y5) [(iV a1.Until)] fOk69 wants_none (evm_cons rfl evm_nil) (.cons (Imm.con _) .nil) (W69 F a1.Until y5 hx6) rfl ?_
  refine aops_not wants_none rfl rfl ?_
  refine aa (bV (!y5)) rfl rfl ?_
  refine an ?_
  refine awp_cond (!y5) rfl (fun hb7 => ?_) (fun hb7 => ?_)
  · replace h := ite_t hb7 h
    refine sr ?_
    refine aa (iV 9) rfl rfl ?_
    refine an ?_
    refine awp_ret ?_
    obtain rfl := Option.some.inj h
    exact ⟨.inl rfl, .one (.tmp rfl (Imm.con _))⟩
  replace h := ite_f hb7 h
  refine sr ?_
  refine aops_fieldAddr tF52_1 wants_none rfl rfl ?_
  refine aops_load_cell (V.lst 3 (a1.Releases.map encTRelease)) tC49 wants_none rfl rfl rfl rfl rfl ?_
  refine aops_len (n := a1.Releases.length) tIsSl49 wants_none rfl (congrArg some (List.length_map ..)) rfl ?_
  refine aops_bin (.bool (decide (((a1.Releases.length : Nat) : Int) > 500))) wants_none rfl rfl rfl rfl ?_
  refine am (bV (decide (((a1.Releases.length : Nat) : Int) > 500))) rfl rfl ?_
  rcases Bool.eq_false_or_eq_true (decide (((a1.Releases.length : Nat) : Int) > 500)) with hb8 | hb8
  · replace h := ite_t hb8 h
    refine aops_skips 4 4 26 false (c := (decide (((a1.Releases.length : Nat) : Int) > 500))) (b := true) rfl rfl hb8 rfl rfl ?_
    refine aops_pick true (cb := (decide (((a1.Releases.length : Nat) : Int) > 500))) (bV true) wants_none rfl hb8 rfl rfl ?_
    refine aa (bV true) rfl rfl ?_
    refine an ?_
    refine awp_cond_t rfl rfl ?_
    refine sr ?_
    refine aa (iV 3) rfl rfl ?_
    refine an ?_
    refine awp_ret ?_
    obtain rfl := Option.some.inj h
    exact ⟨.inl rfl, .one (.tmp rfl (Imm.con _))⟩
  replace h := ite_f hb8 h
  refine aops_fieldAddr tF52_2 (wants_some (c := (decide (((a1.Releases.length : Nat) : Int) > 500))) (b := false) 26 rfl rfl hb8) rfl rfl ?_
  refine aops_load_cell (V.lst 3 (a1.Known.map encTPublished)) tC50 (wants_some (c := (decide (((a1.Releases.length : Nat) : Int) > 500))) (b := false) 26 rfl rfl hb8) rfl rfl rfl rfl rfl ?_
  refine aops_len (n := a1.Known.length) tIsSl50 (wants_some (c := (decide (((a1.Releases.length : Nat) : Int) > 500))) (b := false) 26 rfl rfl hb8) rfl (congrArg some (List.length_map ..)) rfl ?_
  refine aops_bin (.bool (decide (((a1.Known.length : Nat) : Int) > 2000))) (wants_some (c := (decide (((a1.Releases.length : Nat) : Int) > 500))) (b := false) 26 rfl rfl hb8) rfl rfl rfl rfl ?_
  refine aops_pick false (cb := (decide (((a1.Releases.length : Nat) : Int) > 500))) (bV (decide (((a1.Known.length : Nat) : Int) > 2000))) wants_none rfl hb8 rfl rfl ?_
  refine aa (bV (decide (((a1.Known.length : Nat) : Int) > 2000))) rfl rfl ?_
  refine an ?_
  refine awp_cond (decide (((a1.Known.length : Nat) : Int) > 2000)) rfl (fun hb9 => ?_) (fun hb9 => ?_)
  · replace h := ite_t hb9 h
    refine sr ?_
    refine aa (iV 3) rfl rfl ?_
    refine an ?_
    refine awp_ret ?_
    obtain rfl := Option.some.inj h
    exact ⟨.inl rfl, .one (.tmp rfl (Imm.con _))⟩
  replace h := ite_f hb9 h
  refine awp_skip ?_
  refine sq ?_
  refine sr ?_
  refine aops_load_agg (cs := (encTStory a1)) tA52 wants_none rfl rfl rfl rfl rfl rfl ?_
  replace h := bind_some h
  obtain ⟨y10, hx11, h⟩ := h
  refine aops_call (iV y10) [(V.agg (encTStory a1))] fOk94 wants_none (evm_cons rfl evm_nil) (.cons (Imm.agg (imms_encTStory _)) .nil) (W94 F a1 y10 hx11) rfl ?_
  refine aa (iV y10) rfl rfl ?_
  refine an ?_
  refine sr ?_
  refine am (iV y10) rfl rfl ?_
  refine aops_bin (.bool (y10 != 0)) wants_none rfl rfl rfl rfl ?_
  refine an ?_
  refine awp_cond (y10 != 0) rfl (fun hb12 => ?_) (fun hb12 => ?_)
  · replace h := ite_t hb12 h
    refine sr ?_
    refine am (iV y10) rfl rfl ?_
    refine aa (iV y10) rfl rfl ?_
    refine an ?_
    refine awp_ret ?_
    obtain rfl := Option.some.inj h
    exact ⟨.inl rfl, .one (.tmp rfl (Imm.con _))⟩
  replace h := ite_f hb12 h
  refine awp_skip ?_
  refine sr ?_
  refine aops_makeMap wants_none rfl ?_
  refine aa (V.map 1) rfl rfl ?_
  refine an ?_
  refine sq ?_
  refine sr ?_
  refine aops_fieldAddr tF52_2 wants_none rfl rfl ?_
  refine aops_load_cell (V.lst 3 (a1.Known.map encTPublished)) tC50 wants_none rfl rfl rfl rfl rfl ?_
  refine aops_len (n := a1.Known.length) tIsSl50 wants_none rfl (congrArg some (List.length_map ..)) rfl ?_
  refine am (iV 0) rfl rfl ?_
  refine an ?_
  replace h := jn_elim h
  obtain ⟨k13, hk13, h⟩ := h
  refine awp_cut (fun (p : (List ((List UInt8) × Bool))) => (⟨[(1, (V.ptr 0 4 0 0)), (4, (V.map 1))], [(0, (Ob.arr 52 4 [(encTStory a1)])), (1, (Ob.map (p.map encM9_4)))], 2⟩ : St)) (fun (p : (List ((List UInt8) × Bool))) => k13 p = some r) ?_ ?_
  · clear hk13
    refine awp_block ?_
    refine awp_len (A := a1.Known) 28 rfl (fun hA43 => ?_)
    refine awp_loop_ind (fun (p : Int × (List ((List UInt8) × Bool))) => (⟨[(1, (V.ptr 0 4 0 0)), (4, (V.map 1)), (39, (V.lst 3 (a1.Known.map encTPublished))), (40, (iV ((a1.Known.length : Nat) : Int))), (41, (iV (p.1)))], [(0, (Ob.arr 52 4 [(encTStory a1)])), (1, (Ob.map ((p.2).map encM9_4)))], 2⟩ : St)) (fun n (p : Int × (List ((List UInt8) × Bool))) => RG a1.Known (fun tl nn => M35_L1 F a1 k13 tl nn p.2 = some r) n p.1) (fun p h => RG.zero h) (fun n ih1 p h => ?_) (a1.Known.length + 1) (0, ([] : List ((List UInt8) × Bool))) (RG.start h) (ghost_ren 2 (fun i => ([0, 1] : List Nat).getD i 0) _ _ (by decide) (EnvSub.get (.cons (Sub.ptr rfl rfl) (.cons (Sub.map rfl rfl) (.cons (Sub.imm (Imm.lst _ _)) (.cons (Sub.imm (Imm.con _)) (.cons (Sub.imm (Imm.con _)) .nil)))))) (HpSub.get (.cons rfl (ObSub.box (.cons (Sub.imm (Imm.con _)) (.cons (Sub.imm (Imm.lst _ _)) (.cons (Sub.imm (Imm.lst _ _)) (.cons (Sub.imm (Imm.con _)) .nil))))) (.cons rfl (ObSub.maps encM9_4_imm) .nil))) rfl)
    obtain ⟨n17, m18⟩ := p
    refine awp_loop ?_
    refine sr ?_
    refine aops_bin (.bool (decide (n17 < ((a1.Known.length : Nat) : Int)))) wants_none rfl rfl rfl rfl ?_
    refine an ?_
    refine sq ?_
    refine awp_cond (decide (n17 < ((a1.Known.length : Nat) : Int))) rfl (fun hb19 => ?_) (fun hb19 => ?_)
    · obtain ⟨x20, tl, hx21, h, hk1⟩ := RG.t hA43 h hb19
      unfold M35_L1 at h
      refine awp_skip ?_
      refine sq ?_
      refine awp_block ?_
      refine sr ?_
      refine am (iV n17) rfl rfl ?_
      refine aops_index_lst (encTPublished x20) tSl50 wants_none rfl rfl (idx_some hx21).1 (idx_map encTPublished hx21) rfl ?_
      refine aops_iload_agg (cs := (encTPublished x20)) tA137 wants_none rfl rfl rfl rfl ?_
      refine aops_alloc tZ137 rfl rfl wants_none rfl ?_
      refine aa (iV n17) rfl rfl ?_
      refine aops_store (encTPublished x20) [(encTPublished x20)] tS137 wants_none rfl rfl rfl rfl rfl rfl rfl rfl ?_
      refine an ?_
      refine sq ?_
      refine awp_block ?_
      refine sr ?_
      refine aops_fieldAddr tF137_0 wants_none rfl rfl ?_
      refine aops_load_cell (sV x20.Advisory) tC9 wants_none rfl rfl rfl rfl rfl ?_
      replace h := bind_some h
      obtain ⟨y22, hx23, h⟩ := h
      refine aops_call (bV y22) [(sV x20.Advisory)] fOk93 wants_none (evm_cons rfl evm_nil) (.cons (Imm.con _) .nil) (W93 F x20.Advisory y22 hx23) rfl ?_
      refine aops_not wants_none rfl rfl ?_
      refine aa (bV (!y22)) rfl rfl ?_
      refine an ?_
      replace h := jn_elim h
      obtain ⟨k24, hk24, h⟩ := h
      refine awp_cut (fun (p : Bool) => (⟨[(1, (V.ptr 0 4 0 0)), (4, (V.map 1)), (6, (V.ptr 2 3 0 0)), (39, (V.lst 3 (a1.Known.map encTPublished))), (40, (iV ((a1.Known.length : Nat) : Int))), (41, (iV n17)), (72, (V.ptr 2 3 0 2)), (73, (iV x20.Ended)), (74, (bV (x20.Ended != (-1)))), (75, (bV (x20.Ended != (-1)))), (86, (bV p))], [(0, (Ob.arr 52 4 [(encTStory a1)])), (1, (Ob.map (m18.map encM9_4))), (2, (Ob.arr 137 3 [(encTPublished x20)]))], 3⟩ : St)) (fun (p : Bool) => k24 p = some r) ?_ ?_
      · clear hk24
        refine awp_cond (!y22) rfl (fun hb26 => ?_) (fun hb26 => ?_)
        · replace h := ite_t hb26 h
          refine sr ?_
          refine aa (iV 8) rfl rfl ?_
          refine an ?_
          refine awp_ret ?_
          obtain rfl := Option.some.inj h
          exact ⟨.inl rfl, .one (.tmp rfl (Imm.con _))⟩
        replace h := ite_f hb26 h
        refine sq ?_
        rcases Bool.eq_false_or_eq_true (decide (n17 > 0)) with hb27 | hb27
        · replace h := ite_t hb27 h
          replace h := bind_some h
          obtain ⟨x28, hx29, h⟩ := h
          refine awp_any [OD.mk [(5, (iV n17))] [] [(52, (iV n17))] [],
                OD.mk [(52, (iV n17))] [] [(53, (bV (decide (n17 > 0))))] [],
                OD.mk [(53, (bV (decide (n17 > 0))))] [] [(54, (bV (decide (n17 > 0))))] [],
                OD.mk [(54, (bV (decide (n17 > 0)))), (6, (V.ptr 2 3 0 0))] [] [(55, (V.ptr 2 3 0 0))] [],
                OD.mk [(54, (bV (decide (n17 > 0)))), (55, (V.ptr 2 3 0 0))] [(2, (Ob.arr 137 3 [(encTPublished x20)]))] [(56, (sV x20.Advisory))] [],
                OD.mk [(54, (bV (decide (n17 > 0)))), (1, (V.ptr 0 4 0 0))] [] [(57, (V.ptr 0 4 0 2))] [],
                OD.mk [(54, (bV (decide (n17 > 0)))), (57, (V.ptr 0 4 0 2))] [(0, (Ob.arr 52 4 [(encTStory a1)]))] [(58, (V.lst 3 (a1.Known.map encTPublished)))] [],
                OD.mk [(54, (bV (decide (n17 > 0)))), (5, (iV n17))] [] [(59, (iV n17))] [],
                OD.mk [(54, (bV (decide (n17 > 0)))), (59, (iV n17))] [] [(60, (iV (w64 (n17 - 1))))] [],
                OD.mk [(54, (bV (decide (n17 > 0)))), (58, (V.lst 3 (a1.Known.map encTPublished))), (60, (iV (w64 (n17 - 1))))] [] [(61, (V.iptr (encTPublished x28) 0))] [],
                OD.mk [(54, (bV (decide (n17 > 0)))), (61, (V.iptr (encTPublished x28) 0))] [] [(62, (V.iptr (encTPublished x28) 0))] [],
                OD.mk [(54, (bV (decide (n17 > 0)))), (62, (V.iptr (encTPublished x28) 0))] [] [(63, (sV x28.Advisory))] [],
                OD.mk [(54, (bV (decide (n17 > 0)))), (56, (sV x20.Advisory)), (63, (sV x28.Advisory))] [] [(64, (bV (Op.bytesLess x20.Advisory x28.Advisory || x20.Advisory == x28.Advisory)))] [],
                OD.mk [(54, (bV (decide (n17 > 0)))), (64, (bV (Op.bytesLess x20.Advisory x28.Advisory || x20.Advisory == x28.Advisory)))] [] [(65, (bV (Op.bytesLess x20.Advisory x28.Advisory || x20.Advisory == x28.Advisory)))] [],
                OD.mk [(65, (bV (Op.bytesLess x20.Advisory x28.Advisory || x20.Advisory == x28.Advisory)))] [] [(51, (bV (Op.bytesLess x20.Advisory x28.Advisory || x20.Advisory == x28.Advisory)))] []] mixed ⟨⟨rfl, trivial⟩, trivial, ⟨⟨rfl, trivial⟩, trivial, ⟨⟨rfl, trivial⟩, trivial, ⟨⟨rfl, rfl, trivial⟩, trivial, ⟨⟨rfl, rfl, trivial⟩, ⟨rfl, trivial⟩, ⟨⟨rfl, rfl, trivial⟩, trivial, ⟨⟨rfl, rfl, trivial⟩, ⟨rfl, trivial⟩, ⟨⟨rfl, rfl, trivial⟩, trivial, ⟨⟨rfl, rfl, trivial⟩, trivial, ⟨⟨rfl, rfl, rfl, trivial⟩, trivial, ⟨⟨rfl, rfl, trivial⟩, trivial, ⟨⟨rfl, rfl, trivial⟩, trivial, ⟨⟨rfl, rfl, rfl, trivial⟩, trivial, ⟨⟨rfl, rfl, trivial⟩, trivial, ⟨⟨rfl, trivial⟩, trivial, trivial⟩⟩⟩⟩⟩⟩⟩⟩⟩⟩⟩⟩⟩⟩⟩ (by kernel_rfl) (.cons (fun S hn h hh => aops_move (iV n17) wants_none h.1 rfl (an ⟨rfl, rfl⟩)) (.cons (fun S hn h hh => aops_bin (.bool (decide (n17 > 0))) wants_none h.1 rfl rfl rfl (an ⟨rfl, rfl⟩)) (.cons (fun S hn h hh => aops_move (bV (decide (n17 > 0))) wants_none h.1 rfl (an ⟨rfl, rfl⟩)) (.cons (fun S hn h hh => aops_fieldAddr tF137_0 (wants_some (c := (decide (n17 > 0))) (b := true) 54 rfl h.1 hb27) h.2.1 rfl (an ⟨rfl, rfl⟩)) (.cons (fun S hn h hh => aops_load_cell (sV x20.Advisory) tC9 (wants_some (c := (decide (n17 > 0))) (b := true) 54 rfl h.1 hb27) h.2.1 hh.1 rfl rfl rfl (an ⟨rfl, rfl⟩)) (.cons (fun S hn h hh => aops_fieldAddr tF52_2 (wants_some (c := (decide (n17 > 0))) (b := true) 54 rfl h.1 hb27) h.2.1 rfl (an ⟨rfl, rfl⟩)) (.cons (fun S hn h hh => aops_load_cell (V.lst 3 (a1.Known.map encTPublished)) tC50 (wants_some (c := (decide (n17 > 0))) (b := true) 54 rfl h.1 hb27) h.2.1 hh.1 rfl rfl rfl (an ⟨rfl, rfl⟩)) (.cons (fun S hn h hh => aops_move (iV n17) (wants_some (c := (decide (n17 > 0))) (b := true) 54 rfl h.1 hb27) h.2.1 rfl (an ⟨rfl, rfl⟩)) (.cons (fun S hn h hh => aops_bin (.int .i64 (w64 (n17 - 1))) (wants_some (c := (decide (n17 > 0))) (b := true) 54 rfl h.1 hb27) h.2.1 rfl rfl rfl (an ⟨rfl, rfl⟩)) (.cons (fun S hn h hh => aops_index_lst (encTPublished x28) tSl50 (wants_some (c := (decide (n17 > 0))) (b := true) 54 rfl h.1 hb27) h.2.1 h.2.2.1 (idx_some hx29).1 (idx_map encTPublished hx29) rfl (an ⟨rfl, rfl⟩)) (.cons (fun S hn h hh => aops_ifieldAddr tF137_0 (wants_some (c := (decide (n17 > 0))) (b := true) 54 rfl h.1 hb27) h.2.1 rfl (an ⟨rfl, rfl⟩)) (.cons (fun S hn h hh => aops_iload_cell (sV x28.Advisory) tC9 (wants_some (c := (decide (n17 > 0))) (b := true) 54 rfl h.1 hb27) h.2.1 rfl rfl (an ⟨rfl, rfl⟩)) (.cons (fun S hn h hh => aops_binT (.bool (Op.bytesLess x20.Advisory x28.Advisory || x20.Advisory == x28.Advisory)) (wants_some (c := (decide (n17 > 0))) (b := true) 54 rfl h.1 hb27) h.2.1 h.2.2.1 rfl rfl (an ⟨rfl, rfl⟩)) (.cons (fun S hn h hh => aops_pick true (cb := (decide (n17 > 0))) (bV (Op.bytesLess x20.Advisory x28.Advisory || x20.Advisory == x28.Advisory)) wants_none h.1 hb27 h.2.1 rfl (an ⟨rfl, rfl⟩)) (.cons (fun S hn h hh => aops_assign (bV (Op.bytesLess x20.Advisory x28.Advisory || x20.Advisory == x28.Advisory)) wants_none h.1 rfl (an ⟨rfl, rfl⟩)) .nil))))))))))))))) ?_
          refine awp_cond (Op.bytesLess x20.Advisory x28.Advisory || x20.Advisory == x28.Advisory) rfl (fun hb30 => ?_) (fun hb30 => ?_)
          · replace h := ite_t hb30 h
            refine sr ?_
            refine aa (iV 10) rfl rfl ?_
            refine an ?_
            refine awp_ret ?_
            obtain rfl := Option.some.inj h
            exact ⟨.inl rfl, .one (.tmp rfl (Imm.con _))⟩
          replace h := ite_f hb30 h
          refine sr ?_
          refine aops_fieldAddr tF137_1 wants_none rfl rfl ?_
          refine aops_load_cell (iV x20.Day) tC3 wants_none rfl rfl rfl rfl rfl ?_
          replace h := bind_some h
          obtain ⟨y31, hx32, h⟩ := h
          refine aops_call (bV y31) [(iV x20.Day)] fOk69 wants_none (evm_cons rfl evm_nil) (.cons (Imm.con _) .nil) (W69 F x20.Day y31 hx32) rfl ?_
          refine aops_not wants_none rfl rfl ?_
          refine am (bV (!y31)) rfl rfl ?_
          rcases Bool.eq_false_or_eq_true (!y31) with hb33 | hb33
          · replace h := ite_t hb33 h
            refine aops_skips 4 4 71 false (c := (!y31)) (b := true) rfl rfl hb33 rfl rfl ?_
            refine aops_skip (wants_undef 75 rfl rfl) rfl rfl ?_
            refine aops_skip (wants_undef 75 rfl rfl) rfl rfl ?_
            refine aops_skip (wants_undef 75 rfl rfl) rfl rfl ?_
            refine aops_skip (wants_undef 75 rfl rfl) rfl rfl ?_
            refine aops_skip (wants_undef 75 rfl rfl) rfl rfl ?_
            refine aops_skip (wants_undef 75 rfl rfl) rfl rfl ?_
            refine aops_skip (wants_undef 81 rfl rfl) rfl rfl ?_
            refine aops_skip (wants_undef 81 rfl rfl) rfl rfl ?_
            refine aops_skip (wants_undef 81 rfl rfl) rfl rfl ?_
            refine aops_skip (wants_undef 75 rfl rfl) rfl rfl ?_
            refine aops_skip (wants_some (c := (!y31)) (b := true) 71 rfl rfl hb33) rfl rfl ?_
            refine aops_pick true (cb := (!y31)) (bV true) wants_none rfl hb33 rfl rfl ?_
            refine aa (bV true) rfl rfl ?_
            refine an ?_
            refine awp_cond_t rfl rfl ?_
            refine sr ?_
            refine aa (iV 9) rfl rfl ?_
            refine an ?_
            refine awp_ret ?_
            obtain rfl := Option.some.inj h
            exact ⟨.inl rfl, .one (.tmp rfl (Imm.con _))⟩
          replace h := ite_f hb33 h
          refine aops_fieldAddr tF137_2 (wants_some (c := (!y31)) (b := false) 71 rfl rfl hb33) rfl rfl ?_
          refine aops_load_cell (iV x20.Ended) tC3 (wants_some (c := (!y31)) (b := false) 71 rfl rfl hb33) rfl rfl rfl rfl rfl ?_
          refine aops_bin (.bool (x20.Ended != (-1))) (wants_some (c := (!y31)) (b := false) 71 rfl rfl hb33) rfl rfl rfl rfl ?_
          refine aops_move (bV (x20.Ended != (-1))) (wants_some (c := (!y31)) (b := false) 71 rfl rfl hb33) rfl rfl ?_
          rcases Bool.eq_false_or_eq_true (x20.Ended != (-1)) with hb34 | hb34
          · replace h := ite_t hb34 h
            refine aops_fieldAddr tF137_2 (wants_some (c := (x20.Ended != (-1))) (b := true) 75 rfl rfl hb34) rfl rfl ?_
            refine aops_load_cell (iV x20.Ended) tC3 (wants_some (c := (x20.Ended != (-1))) (b := true) 75 rfl rfl hb34) rfl rfl rfl rfl rfl ?_
            refine aops_fieldAddr tF137_1 (wants_some (c := (x20.Ended != (-1))) (b := true) 75 rfl rfl hb34) rfl rfl ?_
            refine aops_load_cell (iV x20.Day) tC3 (wants_some (c := (x20.Ended != (-1))) (b := true) 75 rfl rfl hb34) rfl rfl rfl rfl rfl ?_
            refine aops_bin (.bool (decide (x20.Ended < x20.Day))) (wants_some (c := (x20.Ended != (-1))) (b := true) 75 rfl rfl hb34) rfl rfl rfl rfl ?_
            refine aops_move (bV (decide (x20.Ended < x20.Day))) (wants_some (c := (x20.Ended != (-1))) (b := true) 75 rfl rfl hb34) rfl rfl ?_
            rcases Bool.eq_false_or_eq_true (decide (x20.Ended < x20.Day)) with hb35 | hb35
            · replace h := ite_t hb35 h
              refine aops_skips 3 14 81 false (c := (decide (x20.Ended < x20.Day))) (b := true) rfl rfl hb35 rfl rfl ?_
              refine aops_pick true (cb := (decide (x20.Ended < x20.Day))) (bV true) (wants_some (c := (x20.Ended != (-1))) (b := true) 75 rfl rfl hb34) rfl hb35 rfl rfl ?_
              refine aops_pick true (cb := (x20.Ended != (-1))) (bV true) (wants_some (c := (!y31)) (b := false) 71 rfl rfl hb33) rfl hb34 rfl rfl ?_
              refine aops_pick false (cb := (!y31)) (bV true) wants_none rfl hb33 rfl rfl ?_
              refine aa (bV true) rfl rfl ?_
              refine an ?_
              refine awp_cond_t rfl rfl ?_
              refine sr ?_
              refine aa (iV 9) rfl rfl ?_
              refine an ?_
              refine awp_ret ?_
              obtain rfl := Option.some.inj h
              exact ⟨.inl rfl, .one (.tmp rfl (Imm.con _))⟩
            replace h := ite_f hb35 h
            refine aops_fieldAddr tF137_2 (wants_some (c := (decide (x20.Ended < x20.Day))) (b := false) 81 rfl rfl hb35) rfl rfl ?_
            refine aops_load_cell (iV x20.Ended) tC3 (wants_some (c := (decide (x20.Ended < x20.Day))) (b := false) 81 rfl rfl hb35) rfl rfl rfl rfl rfl ?_
            refine aops_bin (.bool (decide (x20.Ended > 1000000))) (wants_some (c := (decide (x20.Ended < x20.Day))) (b := false) 81 rfl rfl hb35) rfl rfl rfl rfl ?_
            refine aops_pick false (cb := (decide (x20.Ended < x20.Day))) (bV (decide (x20.Ended > 1000000))) (wants_some (c := (x20.Ended != (-1))) (b := true) 75 rfl rfl hb34) rfl hb35 rfl rfl ?_
            refine aops_pick true (cb := (x20.Ended != (-1))) (bV (decide (x20.Ended > 1000000))) (wants_some (c := (!y31)) (b := false) 71 rfl rfl hb33) rfl hb34 rfl rfl ?_
            refine aops_pick false (cb := (!y31)) (bV (decide (x20.Ended > 1000000))) wants_none rfl hb33 rfl rfl ?_
            refine aa (bV (decide (x20.Ended > 1000000))) rfl rfl ?_
            refine an ?_
            refine awp_cond (decide (x20.Ended > 1000000)) rfl (fun hb36 => ?_) (fun hb36 => ?_)
            · replace h := ite_t hb36 h
              refine sr ?_
              refine aa (iV 9) rfl rfl ?_
              refine an ?_
              refine awp_ret ?_
              obtain rfl := Option.some.inj h
              exact ⟨.inl rfl, .one (.tmp rfl (Imm.con _))⟩
            replace h := ite_f hb36 h
            refine awp_skip ?_
            exact ⟨(decide (x20.Ended > 1000000)), h, (ghost_ren 3 (fun i => ([0, 1, 2] : List Nat).getD i 0) _ _ (by decide) (EnvSub.get (.cons (Sub.ptr rfl rfl) (.cons (Sub.map rfl rfl) (.cons (Sub.ptr rfl rfl) (.cons (Sub.imm (Imm.lst _ _)) (.cons (Sub.imm (Imm.con _)) (.cons (Sub.imm (Imm.con _)) (.cons (Sub.ptr rfl rfl) (.cons (Sub.imm (Imm.con _)) (.cons (Sub.imm (Imm.con _)) (.cons (Sub.imm (Imm.con _)) (.cons (Sub.imm (Imm.con _)) .nil)))))))))))) (HpSub.get (.cons rfl (ObSub.box (.cons (Sub.imm (Imm.con _)) (.cons (Sub.imm (Imm.lst _ _)) (.cons (Sub.imm (Imm.lst _ _)) (.cons (Sub.imm (Imm.con _)) .nil))))) (.cons rfl (ObSub.maps encM9_4_imm) (.cons rfl (ObSub.box (.cons (Sub.imm (Imm.con _)) (.cons (Sub.imm (Imm.con _)) (.cons (Sub.imm (Imm.con _)) .nil)))) .nil)))) rfl)⟩
          replace h := ite_f hb34 h
          refine aops_skips 6 8 75 true (c := (x20.Ended != (-1))) (b := false) rfl rfl hb34 rfl rfl ?_
          refine aops_skip (wants_undef 81 rfl rfl) rfl rfl ?_
          refine aops_skip (wants_undef 81 rfl rfl) rfl rfl ?_
          refine aops_skip (wants_undef 81 rfl rfl) rfl rfl ?_
          refine aops_skip (wants_some (c := (x20.Ended != (-1))) (b := false) 75 rfl rfl hb34) rfl rfl ?_
          refine aops_pick false (cb := (x20.Ended != (-1))) (bV false) (wants_some (c := (!y31)) (b := false) 71 rfl rfl hb33) rfl hb34 rfl rfl ?_
          refine aops_pick false (cb := (!y31)) (bV false) wants_none rfl hb33 rfl rfl ?_
          refine aa (bV false) rfl rfl ?_
          refine an ?_
          refine awp_cond_f rfl rfl ?_
          refine awp_skip ?_
          exact ⟨false, h, (ghost_ren 3 (fun i => ([0, 1, 2] : List Nat).getD i 0) _ _ (by decide) (EnvSub.get (.cons (Sub.ptr rfl rfl) (.cons (Sub.map rfl rfl) (.cons (Sub.ptr rfl rfl) (.cons (Sub.imm (Imm.lst _ _)) (.cons (Sub.imm (Imm.con _)) (.cons (Sub.imm (Imm.con _)) (.cons (Sub.ptr rfl rfl) (.cons (Sub.imm (Imm.con _)) (.cons (Sub.imm (Imm.con _)) (.cons (Sub.imm (Imm.con _)) (.cons (Sub.imm (Imm.con _)) .nil)))))))))))) (HpSub.get (.cons rfl (ObSub.box (.cons (Sub.imm (Imm.con _)) (.cons (Sub.imm (Imm.lst _ _)) (.cons (Sub.imm (Imm.lst _ _)) (.cons (Sub.imm (Imm.con _)) .nil))))) (.cons rfl (ObSub.maps encM9_4_imm) (.cons rfl (ObSub.box (.cons (Sub.imm (Imm.con _)) (.cons (Sub.imm (Imm.con _)) (.cons (Sub.imm (Imm.con _)) .nil)))) .nil)))) rfl)⟩
        replace h := ite_f hb27 h
        refine awp_any [OD.mk [(5, (iV n17))] [] [(52, (iV n17))] [],
              OD.mk [(52, (iV n17))] [] [(53, (bV (decide (n17 > 0))))] [],
              OD.mk [(53, (bV (decide (n17 > 0))))] [] [(54, (bV (decide (n17 > 0))))] [],
              OD.mk [(54, (bV (decide (n17 > 0))))] [] [(55, (V.con undef))] [],
              OD.mk [(54, (bV (decide (n17 > 0))))] [] [(56, (V.con undef))] [],
              OD.mk [(54, (bV (decide (n17 > 0))))] [] [(57, (V.con undef))] [],
              OD.mk [(54, (bV (decide (n17 > 0))))] [] [(58, (V.con undef))] [],
              OD.mk [(54, (bV (decide (n17 > 0))))] [] [(59, (V.con undef))] [],
              OD.mk [(54, (bV (decide (n17 > 0))))] [] [(60, (V.con undef))] [],
              OD.mk [(54, (bV (decide (n17 > 0))))] [] [(61, (V.con undef))] [],
              OD.mk [(54, (bV (decide (n17 > 0))))] [] [(62, (V.con undef))] [],
              OD.mk [(54, (bV (decide (n17 > 0))))] [] [(63, (V.con undef))] [],
              OD.mk [(54, (bV (decide (n17 > 0))))] [] [(64, (V.con undef))] [],
              OD.mk [(54, (bV (decide (n17 > 0))))] [] [(65, (bV false))] [],
              OD.mk [(65, (bV false))] [] [(51, (bV false))] []] mixed ⟨⟨rfl, trivial⟩, trivial, ⟨⟨rfl, trivial⟩, trivial, ⟨⟨rfl, trivial⟩, trivial, ⟨⟨rfl, trivial⟩, trivial, ⟨⟨rfl, trivial⟩, trivial, ⟨⟨rfl, trivial⟩, trivial, ⟨⟨rfl, trivial⟩, trivial, ⟨⟨rfl, trivial⟩, trivial, ⟨⟨rfl, trivial⟩, trivial, ⟨⟨rfl, trivial⟩, trivial, ⟨⟨rfl, trivial⟩, trivial, ⟨⟨rfl, trivial⟩, trivial, ⟨⟨rfl, trivial⟩, trivial, ⟨⟨rfl, trivial⟩, trivial, ⟨⟨rfl, trivial⟩, trivial, trivial⟩⟩⟩⟩⟩⟩⟩⟩⟩⟩⟩⟩⟩⟩⟩ (by kernel_rfl) (.cons (fun S hn h hh => aops_move (iV n17) wants_none h.1 rfl (an ⟨rfl, rfl⟩)) (.cons (fun S hn h hh => aops_bin (.bool (decide (n17 > 0))) wants_none h.1 rfl rfl rfl (an ⟨rfl, rfl⟩)) (.cons (fun S hn h hh => aops_move (bV (decide (n17 > 0))) wants_none h.1 rfl (an ⟨rfl, rfl⟩)) (.cons (fun S hn h hh => aops_skip (wants_some (c := (decide (n17 > 0))) (b := false) 54 rfl h.1 hb27) rfl rfl (an ⟨rfl, rfl⟩)) (.cons (fun S hn h hh => aops_skip (wants_some (c := (decide (n17 > 0))) (b := false) 54 rfl h.1 hb27) rfl rfl (an ⟨rfl, rfl⟩)) (.cons (fun S hn h hh => aops_skip (wants_some (c := (decide (n17 > 0))) (b := false) 54 rfl h.1 hb27) rfl rfl (an ⟨rfl, rfl⟩)) (.cons (fun S hn h hh => aops_skip (wants_some (c := (decide (n17 > 0))) (b := false) 54 rfl h.1 hb27) rfl rfl (an ⟨rfl, rfl⟩)) (.cons (fun S hn h hh => aops_skip (wants_some (c := (decide (n17 > 0))) (b := false) 54 rfl h.1 hb27) rfl rfl (an ⟨rfl, rfl⟩)) (.cons (fun S hn h hh => aops_skip (wants_some (c := (decide (n17 > 0))) (b := false) 54 rfl h.1 hb27) rfl rfl (an ⟨rfl, rfl⟩)) (.cons (fun S hn h hh => aops_skip (wants_some (c := (decide (n17 > 0))) (b := false) 54 rfl h.1 hb27) rfl rfl (an ⟨rfl, rfl⟩)) (.cons (fun S hn h hh => aops_skip (wants_some (c := (decide (n17 > 0))) (b := false) 54 rfl h.1 hb27) rfl rfl (an ⟨rfl, rfl⟩)) (.cons (fun S hn h hh => aops_skip (wants_some (c := (decide (n17 > 0))) (b := false) 54 rfl h.1 hb27) rfl rfl (an ⟨rfl, rfl⟩)) (.cons (fun S hn h hh => aops_skip (wants_some (c := (decide (n17 > 0))) (b := false) 54 rfl h.1 hb27) rfl rfl (an ⟨rfl, rfl⟩)) (.cons (fun S hn h hh => aops_pick false (cb := (decide (n17 > 0))) (bV false) wants_none h.1 hb27 rfl rfl (an ⟨rfl, rfl⟩)) (.cons (fun S hn h hh => aops_assign (bV false) wants_none h.1 rfl (an ⟨rfl, rfl⟩)) .nil))))))))))))))) ?_
        refine awp_cond_f rfl rfl ?_
        refine sr ?_
        refine aops_fieldAddr tF137_1 wants_none rfl rfl ?_
        refine aops_load_cell (iV x20.Day) tC3 wants_none rfl rfl rfl rfl rfl ?_
        replace h := bind_some h
        obtain ⟨y37, hx38, h⟩ := h
        refine aops_call (bV y37) [(iV x20.Day)] fOk69 wants_none (evm_cons rfl evm_nil) (.cons (Imm.con _) .nil) (W69 F x20.Day y37 hx38) rfl ?_
        refine aops_not wants_none rfl rfl ?_
        refine am (bV (!y37)) rfl rfl ?_
        rcases Bool.eq_false_or_eq_true (!y37) with hb39 | hb39
        · replace h := ite_t hb39 h
          refine aops_skips 4 4 71 false (c := (!y37)) (b := true) rfl rfl hb39 rfl rfl ?_
          refine aops_skip (wants_undef 75 rfl rfl) rfl rfl ?_
          refine aops_skip (wants_undef 75 rfl rfl) rfl rfl ?_
          refine aops_skip (wants_undef 75 rfl rfl) rfl rfl ?_
          refine aops_skip (wants_undef 75 rfl rfl) rfl rfl ?_
          refine aops_skip (wants_undef 75 rfl rfl) rfl rfl ?_
          refine aops_skip (wants_undef 75 rfl rfl) rfl rfl ?_
          refine aops_skip (wants_undef 81 rfl rfl) rfl rfl ?_
          refine aops_skip (wants_undef 81 rfl rfl) rfl rfl ?_
          refine aops_skip (wants_undef 81 rfl rfl) rfl rfl ?_
          refine aops_skip (wants_undef 75 rfl rfl) rfl rfl ?_
          refine aops_skip (wants_some (c := (!y37)) (b := true) 71 rfl rfl hb39) rfl rfl ?_
          refine aops_pick true (cb := (!y37)) (bV true) wants_none rfl hb39 rfl rfl ?_
          refine aa (bV true) rfl rfl ?_
          refine an ?_
          refine awp_cond_t rfl rfl ?_
          refine sr ?_
          refine aa (iV 9) rfl rfl ?_
          refine an ?_
          refine awp_ret ?_
          obtain rfl := Option.some.inj h
          exact ⟨.inl rfl, .one (.tmp rfl (Imm.con _))⟩
        replace h := ite_f hb39 h
        refine aops_fieldAddr tF137_2 (wants_some (c := (!y37)) (b := false) 71 rfl rfl hb39) rfl rfl ?_
        refine aops_load_cell (iV x20.Ended) tC3 (wants_some (c := (!y37)) (b := false) 71 rfl rfl hb39) rfl rfl rfl rfl rfl ?_
        refine aops_bin (.bool (x20.Ended != (-1))) (wants_some (c := (!y37)) (b := false) 71 rfl rfl hb39) rfl rfl rfl rfl ?_
        refine aops_move (bV (x20.Ended != (-1))) (wants_some (c := (!y37)) (b := false) 71 rfl rfl hb39) rfl rfl ?_
        rcases Bool.eq_false_or_eq_true (x20.Ended != (-1)) with hb40 | hb40
        · replace h := ite_t hb40 h
          refine aops_fieldAddr tF137_2 (wants_some (c := (x20.Ended != (-1))) (b := true) 75 rfl rfl hb40) rfl rfl ?_
          refine aops_load_cell (iV x20.Ended) tC3 (wants_some (c := (x20.Ended != (-1))) (b := true) 75 rfl rfl hb40) rfl rfl rfl rfl rfl ?_
          refine aops_fieldAddr tF137_1 (wants_some (c := (x20.Ended != (-1))) (b := true) 75 rfl rfl hb40) rfl rfl ?_
          refine aops_load_cell (iV x20.Day) tC3 (wants_some (c := (x20.Ended != (-1))) (b := true) 75 rfl rfl hb40) rfl rfl rfl rfl rfl ?_
          refine aops_bin (.bool (decide (x20.Ended < x20.Day))) (wants_some (c := (x20.Ended != (-1))) (b := true) 75 rfl rfl hb40) rfl rfl rfl rfl ?_
          refine aops_move (bV (decide (x20.Ended < x20.Day))) (wants_some (c := (x20.Ended != (-1))) (b := true) 75 rfl rfl hb40) rfl rfl ?_
          rcases Bool.eq_false_or_eq_true (decide (x20.Ended < x20.Day)) with hb41 | hb41
          · replace h := ite_t hb41 h
            refine aops_skips 3 14 81 false (c := (decide (x20.Ended < x20.Day))) (b := true) rfl rfl hb41 rfl rfl ?_
            refine aops_pick true (cb := (decide (x20.Ended < x20.Day))) (bV true) (wants_some (c := (x20.Ended != (-1))) (b := true) 75 rfl rfl hb40) rfl hb41 rfl rfl ?_
            refine aops_pick true (cb := (x20.Ended != (-1))) (bV true) (wants_some (c := (!y37)) (b := false) 71 rfl rfl hb39) rfl hb40 rfl rfl ?_
            refine aops_pick false (cb := (!y37)) (bV true) wants_none rfl hb39 rfl rfl ?_
            refine aa (bV true) rfl rfl ?_
            refine an ?_
            refine awp_cond_t rfl rfl ?_
            refine sr ?_
            refine aa (iV 9) rfl rfl ?_
            refine an ?_
            refine awp_ret ?_
            obtain rfl := Option.some.inj h
            exact ⟨.inl rfl, .one (.tmp rfl (Imm.con _))⟩
          replace h := ite_f hb41 h
          refine aops_fieldAddr tF137_2 (wants_some (c := (decide (x20.Ended < x20.Day))) (b := false) 81 rfl rfl hb41) rfl rfl ?_
          refine aops_load_cell (iV x20.Ended) tC3 (wants_some (c := (decide (x20.Ended < x20.Day))) (b := false) 81 rfl rfl hb41) rfl rfl rfl rfl rfl ?_
          refine aops_bin (.bool (decide (x20.Ended > 1000000))) (wants_some (c := (decide (x20.Ended < x20.Day))) (b := false) 81 rfl rfl hb41) rfl rfl rfl rfl ?_
          refine aops_pick false (cb := (decide (x20.Ended < x20.Day))) (bV (decide (x20.Ended > 1000000))) (wants_some (c := (x20.Ended != (-1))) (b := true) 75 rfl rfl hb40) rfl hb41 rfl rfl ?_
          refine aops_pick true (cb := (x20.Ended != (-1))) (bV (decide (x20.Ended > 1000000))) (wants_some (c := (!y37)) (b := false) 71 rfl rfl hb39) rfl hb40 rfl rfl ?_
          refine aops_pick false (cb := (!y37)) (bV (decide (x20.Ended > 1000000))) wants_none rfl hb39 rfl rfl ?_
          refine aa (bV (decide (x20.Ended > 1000000))) rfl rfl ?_
          refine an ?_
          refine awp_cond (decide (x20.Ended > 1000000)) rfl (fun hb42 => ?_) (fun hb42 => ?_)
          · replace h := ite_t hb42 h
            refine sr ?_
            refine aa (iV 9) rfl rfl ?_
            refine an ?_
            refine awp_ret ?_
            obtain rfl := Option.some.inj h
            exact ⟨.inl rfl, .one (.tmp rfl (Imm.con _))⟩
          replace h := ite_f hb42 h
          refine awp_skip ?_
          exact ⟨(decide (x20.Ended > 1000000)), h, (ghost_ren 3 (fun i => ([0, 1, 2] : List Nat).getD i 0) _ _ (by decide) (EnvSub.get (.cons (Sub.ptr rfl rfl) (.cons (Sub.map rfl rfl) (.cons (Sub.ptr rfl rfl) (.cons (Sub.imm (Imm.lst _ _)) (.cons (Sub.imm (Imm.con _)) (.cons (Sub.imm (Imm.con _)) (.cons (Sub.ptr rfl rfl) (.cons (Sub.imm (Imm.con _)) (.cons (Sub.imm (Imm.con _)) (.cons (Sub.imm (Imm.con _)) (.cons (Sub.imm (Imm.con _)) .nil)))))))))))) (HpSub.get (.cons rfl (ObSub.box (.cons (Sub.imm (Imm.con _)) (.cons (Sub.imm (Imm.lst _ _)) (.cons (Sub.imm (Imm.lst _ _)) (.cons (Sub.imm (Imm.con _)) .nil))))) (.cons rfl (ObSub.maps encM9_4_imm) (.cons rfl (ObSub.box (.cons (Sub.imm (Imm.con _)) (.cons (Sub.imm (Imm.con _)) (.cons (Sub.imm (Imm.con _)) .nil)))) .nil)))) rfl)⟩
        replace h := ite_f hb40 h
        refine aops_skips 6 8 75 true (c := (x20.Ended != (-1))) (b := false) rfl rfl hb40 rfl rfl ?_
        refine aops_skip (wants_undef 81 rfl rfl) rfl rfl ?_
        refine aops_skip (wants_undef 81 rfl rfl) rfl rfl ?_
        refine aops_skip (wants_undef 81 rfl rfl) rfl rfl ?_
        refine aops_skip (wants_some (c := (x20.Ended != (-1))) (b := false) 75 rfl rfl hb40) rfl rfl ?_
        refine aops_pick false (cb := (x20.Ended != (-1))) (bV false) (wants_some (c := (!y37)) (b := false) 71 rfl rfl hb39) rfl hb40 rfl rfl ?_
        refine aops_pick false (cb := (!y37)) (bV false) wants_none rfl hb39 rfl rfl ?_
        refine aa (bV false) rfl rfl ?_
        refine an ?_
        refine awp_cond_f rfl rfl ?_
        refine awp_skip ?_
        exact ⟨false, h, (ghost_ren 3 (fun i => ([0, 1, 2] : List Nat).getD i 0) _ _ (by decide) (EnvSub.get (.cons (Sub.ptr rfl rfl) (.cons (Sub.map rfl rfl) (.cons (Sub.ptr rfl rfl) (.cons (Sub.imm (Imm.lst _ _)) (.cons (Sub.imm (Imm.con _)) (.cons (Sub.imm (Imm.con _)) (.cons (Sub.ptr rfl rfl) (.cons (Sub.imm (Imm.con _)) (.cons (Sub.imm (Imm.con _)) (.cons (Sub.imm (Imm.con _)) (.cons (Sub.imm (Imm.con _)) .nil)))))))))))) (HpSub.get (.cons rfl (ObSub.box (.cons (Sub.imm (Imm.con _)) (.cons (Sub.imm (Imm.lst _ _)) (.cons (Sub.imm (Imm.lst _ _)) (.cons (Sub.imm (Imm.con _)) .nil))))) (.cons rfl (ObSub.maps encM9_4_imm) (.cons rfl (ObSub.box (.cons (Sub.imm (Imm.con _)) (.cons (Sub.imm (Imm.con _)) (.cons (Sub.imm (Imm.con _)) .nil)))) .nil)))) rfl)⟩
      clear h
      intro b25 h
      subst hk24
      refine rg ?_
      refine am (V.map 1) rfl rfl ?_
      refine aops_fieldAddr tF137_0 wants_none rfl rfl ?_
      refine aops_load_cell (sV x20.Advisory) tC9 wants_none rfl rfl rfl rfl rfl ?_
      refine aops_mapUpdate ((mput m18 x20.Advisory true).map encM9_4) tMap135 tKey9 wants_none rfl rfl (.con rfl) ⟨_, rfl⟩ encM9_4_good rfl (encM9_4_puts m18 x20.Advisory true) ?_
      refine an ?_
      refine rg ?_
      refine aops_bin (.int .i64 (w64 (n17 + 1))) wants_none rfl rfl rfl rfl ?_
      refine am (iV (w64 (n17 + 1))) rfl rfl ?_
      refine an ?_
      exact awp_back (ih1 ((w64 (n17 + 1)), (mput m18 x20.Advisory true)) (hk1 _ h)) (ghost_ren 2 (fun i => ([0, 1] : List Nat).getD i 0) _ _ (by decide) (EnvSub.get (.cons (Sub.ptr rfl rfl) (.cons (Sub.map rfl rfl) (.cons (Sub.imm (Imm.lst _ _)) (.cons (Sub.imm (Imm.con _)) (.cons (Sub.imm (Imm.con _)) .nil)))))) (HpSub.get (.cons rfl (ObSub.box (.cons (Sub.imm (Imm.con _)) (.cons (Sub.imm (Imm.lst _ _)) (.cons (Sub.imm (Imm.lst _ _)) (.cons (Sub.imm (Imm.con _)) .nil))))) (.cons rfl (ObSub.maps encM9_4_imm) .nil))) rfl)
    replace h := RG.f h hb19
    unfold M35_L1 at h
    refine awp_exit ?_
    exact ⟨m18, h, (ghost_ren 2 (fun i => ([0, 1] : List Nat).getD i 0) _ _ (by decide) (EnvSub.get (.cons (Sub.ptr rfl rfl) (.cons (Sub.map rfl rfl) .nil))) (HpSub.get (.cons rfl (ObSub.box (.cons (Sub.imm (Imm.con _)) (.cons (Sub.imm (Imm.lst _ _)) (.cons (Sub.imm (Imm.lst _ _)) (.cons (Sub.imm (Imm.con _)) .nil))))) (.cons rfl (ObSub.maps encM9_4_imm) .nil))) rfl)⟩
  clear h
  intro m14 h
  subst hk13
  refine sq ?_
  refine sr ?_
  refine aops_fieldAddr tF52_1 wants_none rfl rfl ?_
  refine aops_load_cell (V.lst 3 (a1.Releases.map encTRelease)) tC49 wants_none rfl rfl rfl rfl rfl ?_
  refine aops_len (n := a1.Releases.length) tIsSl49 wants_none rfl (congrArg some (List.length_map ..)) rfl ?_
  refine am (iV 0) rfl rfl ?_
  refine an ?_
  replace h := jn_elim h
  obtain ⟨k44, hk44, h⟩ := h
  refine awp_cut (fun _ : Unit => (⟨[], [], 0⟩ : St)) (fun _ : Unit => k44 = some r) ?_ ?_
  · clear hk44
    refine awp_block ?_
    refine awp_len (A := a1.Releases) 93 rfl (fun hA59 => ?_)
    refine awp_loop_ind (fun (p : Int) => (⟨[(4, (V.map 0)), (93, (V.lst 3 (a1.Releases.map encTRelease))), (94, (iV ((a1.Releases.length : Nat) : Int))), (95, (iV p))], [(0, (Ob.map (m14.map encM9_4)))], 1⟩ : St)) (fun n (p : Int) => RG a1.Releases (fun tl nn => M35_L2 F m14 k44 tl = some r) n p) (fun p h => RG.zero h) (fun n ih2 p h => ?_) (a1.Releases.length + 1) 0 (RG.start h) (ghost_ren 1 (fun i => ([1] : List Nat).getD i 0) _ _ (by decide) (EnvSub.get (.cons (Sub.map rfl rfl) (.cons (Sub.imm (Imm.lst _ _)) (.cons (Sub.imm (Imm.con _)) (.cons (Sub.imm (Imm.con _)) .nil))))) (HpSub.get (.cons rfl (ObSub.maps encM9_4_imm) .nil)) rfl)
    revert p
    intro n46 h
    refine awp_loop ?_
    refine sr ?_
    refine aops_bin (.bool (decide (n46 < ((a1.Releases.length : Nat) : Int)))) wants_none rfl rfl rfl rfl ?_
    refine an ?_
    refine sq ?_
    refine awp_cond (decide (n46 < ((a1.Releases.length : Nat) : Int))) rfl (fun hb47 => ?_) (fun hb47 => ?_)
    · obtain ⟨x49, tl, hx50, h, hk2⟩ := RG.t hA59 h hb47
      unfold M35_L2 at h
      refine awp_skip ?_
      refine sq ?_
      replace h := jn_elim h
      obtain ⟨k48, hk48, h⟩ := h
      refine awp_cut (fun _ : Unit => (⟨[(4, (V.map 0)), (93, (V.lst 3 (a1.Releases.map encTRelease))), (94, (iV ((a1.Releases.length : Nat) : Int))), (95, (iV n46))], [(0, (Ob.map (m14.map encM9_4)))], 1⟩ : St)) (fun _ : Unit => k48 = some r) ?_ ?_
      · clear hk48
        refine awp_block ?_
        refine sr ?_
        refine aops_index_lst (encTRelease x49) tSl49 wants_none rfl rfl (idx_some hx50).1 (idx_map encTRelease hx50) rfl ?_
        refine aops_iload_agg (cs := (encTRelease x49)) tA42 wants_none rfl rfl rfl rfl ?_
        refine aops_alloc tZ42 rfl rfl wants_none rfl ?_
        refine aops_store (encTRelease x49) [(encTRelease x49)] tS42 wants_none rfl rfl rfl rfl rfl rfl rfl rfl ?_
        refine an ?_
        refine sr ?_
        refine aops_fieldAddr tF42_2 wants_none rfl rfl ?_
        refine aops_load_cell (V.lst 3 (x49.Exposures.map encTExposure)) tC40 wants_none rfl rfl rfl rfl rfl ?_
        refine aops_len (n := x49.Exposures.length) tIsSl40 wants_none rfl (congrArg some (List.length_map ..)) rfl ?_
        refine am (iV 0) rfl rfl ?_
        refine an ?_
        replace h := jn_elim h
        obtain ⟨k51, hk51, h⟩ := h
        refine awp_cut (fun _ : Unit => (⟨[(4, (V.map 0)), (93, (V.lst 3 (a1.Releases.map encTRelease))), (94, (iV ((a1.Releases.length : Nat) : Int))), (95, (iV n46))], [(0, (Ob.map (m14.map encM9_4)))], 1⟩ : St)) (fun _ : Unit => k51 = some r) ?_ ?_
        · clear hk51
          refine awp_block ?_
          refine awp_len (A := x49.Exposures) 100 rfl (fun hA58 => ?_)
          refine awp_loop_ind (fun (p : Int) => (⟨[(4, (V.map 0)), (93, (V.lst 3 (a1.Releases.map encTRelease))), (94, (iV ((a1.Releases.length : Nat) : Int))), (95, (iV n46)), (100, (V.lst 3 (x49.Exposures.map encTExposure))), (101, (iV ((x49.Exposures.length : Nat) : Int))), (102, (iV p))], [(0, (Ob.map (m14.map encM9_4)))], 1⟩ : St)) (fun n (p : Int) => RG x49.Exposures (fun tl nn => M35_L3 F m14 k51 tl = some r) n p) (fun p h => RG.zero h) (fun n ih3 p h => ?_) (x49.Exposures.length + 1) 0 (RG.start h) (ghost_ren 1 (fun i => ([0] : List Nat).getD i 0) _ _ (by decide) (EnvSub.get (.cons (Sub.map rfl rfl) (.cons (Sub.imm (Imm.lst _ _)) (.cons (Sub.imm (Imm.con _)) (.cons (Sub.imm (Imm.con _)) (.cons (Sub.imm (Imm.lst _ _)) (.cons (Sub.imm (Imm.con _)) (.cons (Sub.imm (Imm.con _)) .nil)))))))) (HpSub.get (.cons rfl (ObSub.maps encM9_4_imm) .nil)) rfl)
          revert p
          intro n53 h
          refine awp_loop ?_
          refine sr ?_
          refine aops_bin (.bool (decide (n53 < ((x49.Exposures.length : Nat) : Int)))) wants_none rfl rfl rfl rfl ?_
          refine an ?_
          refine sq ?_
          refine awp_cond (decide (n53 < ((x49.Exposures.length : Nat) : Int))) rfl (fun hb54 => ?_) (fun hb54 => ?_)
          · obtain ⟨x55, tl, hx56, h, hk3⟩ := RG.t hA58 h hb54
            unfold M35_L3 at h
            refine awp_skip ?_
            refine sq ?_
            refine awp_block ?_
            refine sr ?_
            refine aops_index_lst (encTExposure x55) tSl40 wants_none rfl rfl (idx_some hx56).1 (idx_map encTExposure hx56) rfl ?_
            refine aops_iload_agg (cs := (encTExposure x55)) tA47 wants_none rfl rfl rfl rfl ?_
            refine aops_alloc tZ47 rfl rfl wants_none rfl ?_
            refine aops_store (encTExposure x55) [(encTExposure x55)] tS47 wants_none rfl rfl rfl rfl rfl rfl rfl rfl ?_
            refine an ?_
            refine sr ?_
            refine am (V.map 0) rfl rfl ?_
            refine aops_fieldAddr tF47_0 wants_none rfl rfl ?_
            refine aops_load_cell (sV x55.Advisory) tC9 wants_none rfl rfl rfl rfl rfl ?_
            refine aops_lookup _ (bV false) (bV ((mget m14 x55.Advisory).getD false)) tMap135 tKey9 tZo4 (irel_con _) wants_none rfl (.own rfl) (.con rfl) ⟨_, rfl⟩ encM9_4_good (encM9_4_look m14 x55.Advisory) (getD_map (encM9_4_val) (mget m14 x55.Advisory) false) rfl ?_
            refine aops_not wants_none rfl rfl ?_
            refine an ?_
            refine awp_cond (!((mget m14 x55.Advisory).getD false)) rfl (fun hb57 => ?_) (fun hb57 => ?_)
            · replace h := ite_t hb57 h
              refine sr ?_
              refine aa (iV 4) rfl rfl ?_
              refine an ?_
              refine awp_ret ?_
              obtain rfl := Option.some.inj h
              exact ⟨.inl rfl, .one (.tmp rfl (Imm.con _))⟩
            replace h := ite_f hb57 h
            refine awp_skip ?_
            refine rg ?_
            refine aops_bin (.int .i64 (w64 (n53 + 1))) wants_none rfl rfl rfl rfl ?_
            refine am (iV (w64 (n53 + 1))) rfl rfl ?_
            refine an ?_
            exact awp_back (ih3 (w64 (n53 + 1)) (hk3 _ h)) (ghost_ren 1 (fun i => ([0] : List Nat).getD i 0) _ _ (by decide) (EnvSub.get (.cons (Sub.map rfl rfl) (.cons (Sub.imm (Imm.lst _ _)) (.cons (Sub.imm (Imm.con _)) (.cons (Sub.imm (Imm.con _)) (.cons (Sub.imm (Imm.lst _ _)) (.cons (Sub.imm (Imm.con _)) (.cons (Sub.imm (Imm.con _)) .nil)))))))) (HpSub.get (.cons rfl (ObSub.maps encM9_4_imm) .nil)) rfl)
          replace h := RG.f h hb54
          unfold M35_L3 at h
          refine awp_exit ?_
          exact ⟨(), h, (ghost_ren 1 (fun i => ([0] : List Nat).getD i 0) _ _ (by decide) (EnvSub.get (.cons (Sub.map rfl rfl) (.cons (Sub.imm (Imm.lst _ _)) (.cons (Sub.imm (Imm.con _)) (.cons (Sub.imm (Imm.con _)) .nil))))) (HpSub.get (.cons rfl (ObSub.maps encM9_4_imm) .nil)) rfl)⟩
        clear h
        intro _ h
        subst hk51
        exact ⟨(), h, (ghost_ren 1 (fun i => ([0] : List Nat).getD i 0) _ _ (by decide) (EnvSub.get (.cons (Sub.map rfl rfl) (.cons (Sub.imm (Imm.lst _ _)) (.cons (Sub.imm (Imm.con _)) (.cons (Sub.imm (Imm.con _)) .nil))))) (HpSub.get (.cons rfl (ObSub.maps encM9_4_imm) .nil)) rfl)⟩
      clear h
      intro _ h
      subst hk48
      refine rg ?_
      refine aops_bin (.int .i64 (w64 (n46 + 1))) wants_none rfl rfl rfl rfl ?_
      refine am (iV (w64 (n46 + 1))) rfl rfl ?_
      refine an ?_
      exact awp_back (ih2 (w64 (n46 + 1)) (hk2 _ h)) (ghost_ren 1 (fun i => ([0] : List Nat).getD i 0) _ _ (by decide) (EnvSub.get (.cons (Sub.map rfl rfl) (.cons (Sub.imm (Imm.lst _ _)) (.cons (Sub.imm (Imm.con _)) (.cons (Sub.imm (Imm.con _)) .nil))))) (HpSub.get (.cons rfl (ObSub.maps encM9_4_imm) .nil)) rfl)
    replace h := RG.f h hb47
    unfold M35_L2 at h
    refine awp_exit ?_
    exact ⟨(), h, (ghost_ren 0 (fun i => ([] : List Nat).getD i 0) _ _ (by decide) (EnvSub.get .nil) (HpSub.get .nil) rfl)⟩
  clear h
  intro _ h
  subst hk44
  refine sr ?_
  refine aa (iV 0) rfl rfl ?_
  refine an ?_
  refine awp_ret ?_
  obtain rfl := Option.some.inj h
  exact ⟨.inl rfl, .one (.tmp rfl (Imm.con _))⟩
theorem W97 (F : Nat) (a1 : (List TPublished)) (r : Int) (h : M97 F a1 = some r) : Pure Try.prog 97 [(V.lst 3 (a1.map encTPublished))] (iV r) := by
  refine pure_enter Try.func97 rfl rfl (l := [.tmp 2]) rfl rfl [(0, (V.lst 3 (a1.map encTPublished)))] rfl (fun w0 m0 => ?_)
  unfold M97 at h
  refine sr ?_
  refine aa (iV 0) rfl rfl ?_
  refine an ?_
  refine sq ?_
  refine sr ?_
  refine am (V.lst 3 (a1.map encTPublished)) rfl rfl ?_
  refine aops_len (n := a1.length) tIsSl50 wants_none rfl (congrArg some (List.length_map ..)) rfl ?_
  refine am (iV 0) rfl rfl ?_
  refine an ?_
  replace h := jn_elim h
  obtain ⟨k2, hk2, h⟩ := h
  refine awp_cut (fun _ : Unit => (⟨[], [], 0⟩ : St)) (fun _ : Unit => k2 = some r) ?_ ?_
  · clear hk2
    refine awp_block ?_
    refine awp_len (A := a1) 0 rfl (fun hA29 => ?_)
    refine awp_loop_ind (fun (p : Int) => (⟨[(0, (V.lst 3 (a1.map encTPublished))), (5, (V.lst 3 (a1.map encTPublished))), (6, (iV ((a1.length : Nat) : Int))), (7, (iV p))], [], 0⟩ : St)) (fun n (p : Int) => RG a1 (fun tl nn => M97_L1 F a1 k2 tl nn = some r) n p) (fun p h => RG.zero h) (fun n ih1 p h => ?_) (a1.length + 1) 0 (RG.start h) (ghost_ren 0 (fun i => ([] : List Nat).getD i 0) _ _ (by decide) (EnvSub.get (.cons (Sub.imm (Imm.lst _ _)) (.cons (Sub.imm (Imm.lst _ _)) (.cons (Sub.imm (Imm.con _)) (.cons (Sub.imm (Imm.con _)) .nil))))) (HpSub.get .nil) rfl)
    revert p
    intro n4 h
    refine awp_loop ?_
    refine sr ?_
    refine aops_bin (.bool (decide (n4 < ((a1.length : Nat) : Int)))) wants_none rfl rfl rfl rfl ?_
    refine an ?_
    refine sq ?_
    refine awp_cond (decide (n4 < ((a1.length : Nat) : Int))) rfl (fun hb5 => ?_) (fun hb5 => ?_)
    · obtain ⟨x6, tl, hx7, h, hk1⟩ := RG.t hA29 h hb5
      unfold M97_L1 at h
      refine awp_skip ?_
      refine sq ?_
      refine awp_block ?_
      refine sr ?_
      refine am (iV n4) rfl rfl ?_
      refine aops_index_lst (encTPublished x6) tSl50 wants_none rfl rfl (idx_some hx7).1 (idx_map encTPublished hx7) rfl ?_
      refine aops_iload_agg (cs := (encTPublished x6)) tA137 wants_none rfl rfl rfl rfl ?_
      refine aops_alloc tZ137 rfl rfl wants_none rfl ?_
      refine aa (iV n4) rfl rfl ?_
      refine aops_store (encTPublished x6) [(encTPublished x6)] tS137 wants_none rfl rfl rfl rfl rfl rfl rfl rfl ?_
      refine an ?_
      refine awp_block ?_
      refine sr ?_
      refine aops_fieldAddr tF137_0 wants_none rfl rfl ?_
      refine aops_load_cell (sV x6.Advisory) tC9 wants_none rfl rfl rfl rfl rfl ?_
      replace h := bind_some h
      obtain ⟨y8, hx9, h⟩ := h
      refine aops_call (bV y8) [(sV x6.Advisory)] fOk95 wants_none (evm_cons rfl evm_nil) (.cons (Imm.con _) .nil) (W95 F x6.Advisory y8 hx9) rfl ?_
      refine aops_not wants_none rfl rfl ?_
      refine aa (bV (!y8)) rfl rfl ?_
      refine an ?_
      replace h := jn_elim h
      obtain ⟨k10, hk10, h⟩ := h
      refine awp_cut (fun (p : Bool) => (⟨[(0, (V.lst 3 (a1.map encTPublished))), (5, (V.lst 3 (a1.map encTPublished))), (6, (iV ((a1.length : Nat) : Int))), (7, (iV n4)), (37, (V.ptr 0 3 0 2)), (38, (iV x6.Ended)), (39, (bV (x6.Ended != (-1)))), (40, (bV (x6.Ended != (-1)))), (51, (bV p))], [(0, (Ob.arr 137 3 [(encTPublished x6)]))], 1⟩ : St)) (fun (p : Bool) => k10 p = some r) ?_ ?_
      · clear hk10
        refine awp_cond (!y8) rfl (fun hb12 => ?_) (fun hb12 => ?_)
        · replace h := ite_t hb12 h
          refine sr ?_
          refine aa (iV 8) rfl rfl ?_
          refine an ?_
          refine awp_ret ?_
          obtain rfl := Option.some.inj h
          exact ⟨.inl rfl, .one (.tmp rfl (Imm.con _))⟩
        replace h := ite_f hb12 h
        refine sq ?_
        rcases Bool.eq_false_or_eq_true (decide (n4 > 0)) with hb13 | hb13
        · replace h := ite_t hb13 h
          replace h := bind_some h
          obtain ⟨x14, hx15, h⟩ := h
          refine awp_any [OD.mk [(3, (iV n4))] [] [(18, (iV n4))] [],
                OD.mk [(18, (iV n4))] [] [(19, (bV (decide (n4 > 0))))] [],
                OD.mk [(19, (bV (decide (n4 > 0))))] [] [(20, (bV (decide (n4 > 0))))] [],
                OD.mk [(20, (bV (decide (n4 > 0)))), (4, (V.ptr 0 3 0 0))] [] [(21, (V.ptr 0 3 0 0))] [],
                OD.mk [(20, (bV (decide (n4 > 0)))), (21, (V.ptr 0 3 0 0))] [(0, (Ob.arr 137 3 [(encTPublished x6)]))] [(22, (sV x6.Advisory))] [],
                OD.mk [(20, (bV (decide (n4 > 0)))), (0, (V.lst 3 (a1.map encTPublished)))] [] [(23, (V.lst 3 (a1.map encTPublished)))] [],
                OD.mk [(20, (bV (decide (n4 > 0)))), (3, (iV n4))] [] [(24, (iV n4))] [],
                OD.mk [(20, (bV (decide (n4 > 0)))), (24, (iV n4))] [] [(25, (iV (w64 (n4 - 1))))] [],
                OD.mk [(20, (bV (decide (n4 > 0)))), (23, (V.lst 3 (a1.map encTPublished))), (25, (iV (w64 (n4 - 1))))] [] [(26, (V.iptr (encTPublished x14) 0))] [],
                OD.mk [(20, (bV (decide (n4 > 0)))), (26, (V.iptr (encTPublished x14) 0))] [] [(27, (V.iptr (encTPublished x14) 0))] [],
                OD.mk [(20, (bV (decide (n4 > 0)))), (27, (V.iptr (encTPublished x14) 0))] [] [(28, (sV x14.Advisory))] [],
                OD.mk [(20, (bV (decide (n4 > 0)))), (22, (sV x6.Advisory)), (28, (sV x14.Advisory))] [] [(29, (bV (Op.bytesLess x6.Advisory x14.Advisory || x6.Advisory == x14.Advisory)))] [],
                OD.mk [(20, (bV (decide (n4 > 0)))), (29, (bV (Op.bytesLess x6.Advisory x14.Advisory || x6.Advisory == x14.Advisory)))] [] [(30, (bV (Op.bytesLess x6.Advisory x14.Advisory || x6.Advisory == x14.Advisory)))] [],
                OD.mk [(30, (bV (Op.bytesLess x6.Advisory x14.Advisory || x6.Advisory == x14.Advisory)))] [] [(17, (bV (Op.bytesLess x6.Advisory x14.Advisory || x6.Advisory == x14.Advisory)))] []] mixed ⟨⟨rfl, trivial⟩, trivial, ⟨⟨rfl, trivial⟩, trivial, ⟨⟨rfl, trivial⟩, trivial, ⟨⟨rfl, rfl, trivial⟩, trivial, ⟨⟨rfl, rfl, trivial⟩, ⟨rfl, trivial⟩, ⟨⟨rfl, rfl, trivial⟩, trivial, ⟨⟨rfl, rfl, trivial⟩, trivial, ⟨⟨rfl, rfl, trivial⟩, trivial, ⟨⟨rfl, rfl, rfl, trivial⟩, trivial, ⟨⟨rfl, rfl, trivial⟩, trivial, ⟨⟨rfl, rfl, trivial⟩, trivial, ⟨⟨rfl, rfl, rfl, trivial⟩, trivial, ⟨⟨rfl, rfl, trivial⟩, trivial, ⟨⟨rfl, trivial⟩, trivial, trivial⟩⟩⟩⟩⟩⟩⟩⟩⟩⟩⟩⟩⟩⟩ (by kernel_rfl) (.cons (fun S hn h hh => aops_move (iV n4) wants_none h.1 rfl (an ⟨rfl, rfl⟩)) (.cons (fun S hn h hh => aops_bin (.bool (decide (n4 > 0))) wants_none h.1 rfl rfl rfl (an ⟨rfl, rfl⟩)) (.cons (fun S hn h hh => aops_move (bV (decide (n4 > 0))) wants_none h.1 rfl (an ⟨rfl, rfl⟩)) (.cons (fun S hn h hh => aops_fieldAddr tF137_0 (wants_some (c := (decide (n4 > 0))) (b := true) 20 rfl h.1 hb13) h.2.1 rfl (an ⟨rfl, rfl⟩)) (.cons (fun S hn h hh => aops_load_cell (sV x6.Advisory) tC9 (wants_some (c := (decide (n4 > 0))) (b := true) 20 rfl h.1 hb13) h.2.1 hh.1 rfl rfl rfl (an ⟨rfl, rfl⟩)) (.cons (fun S hn h hh => aops_move (V.lst 3 (a1.map encTPublished)) (wants_some (c := (decide (n4 > 0))) (b := true) 20 rfl h.1 hb13) h.2.1 rfl (an ⟨rfl, rfl⟩)) (.cons (fun S hn h hh => aops_move (iV n4) (wants_some (c := (decide (n4 > 0))) (b := true) 20 rfl h.1 hb13) h.2.1 rfl (an ⟨rfl, rfl⟩)) (.cons (fun S hn h hh => aops_bin (.int .i64 (w64 (n4 - 1))) (wants_some (c := (decide (n4 > 0))) (b := true) 20 rfl h.1 hb13) h.2.1 rfl rfl rfl (an ⟨rfl, rfl⟩)) (.cons (fun S hn h hh => aops_index_lst (encTPublished x14) tSl50 (wants_some (c := (decide (n4 > 0))) (b := true) 20 rfl h.1 hb13) h.2.1 h.2.2.1 (idx_some hx15).1 (idx_map encTPublished hx15) rfl (an ⟨rfl, rfl⟩)) (.cons (fun S hn h hh => aops_ifieldAddr tF137_0 (wants_some (c := (decide (n4 > 0))) (b := true) 20 rfl h.1 hb13) h.2.1 rfl (an ⟨rfl, rfl⟩)) (.cons (fun S hn h hh => aops_iload_cell (sV x14.Advisory) tC9 (wants_some (c := (decide (n4 > 0))) (b := true) 20 rfl h.1 hb13) h.2.1 rfl rfl (an ⟨rfl, rfl⟩)) (.cons (fun S hn h hh => aops_binT (.bool (Op.bytesLess x6.Advisory x14.Advisory || x6.Advisory == x14.Advisory)) (wants_some (c := (decide (n4 > 0))) (b := true) 20 rfl h.1 hb13) h.2.1 h.2.2.1 rfl rfl (an ⟨rfl, rfl⟩)) (.cons (fun S hn h hh => aops_pick true (cb := (decide (n4 > 0))) (bV (Op.bytesLess x6.Advisory x14.Advisory || x6.Advisory == x14.Advisory)) wants_none h.1 hb13 h.2.1 rfl (an ⟨rfl, rfl⟩)) (.cons (fun S hn h hh => aops_assign (bV (Op.bytesLess x6.Advisory x14.Advisory || x6.Advisory == x14.Advisory)) wants_none h.1 rfl (an ⟨rfl, rfl⟩)) .nil)))))))))))))) ?_
          refine awp_cond (Op.bytesLess x6.Advisory x14.Advisory || x6.Advisory == x14.Advisory) rfl (fun hb16 => ?_) (fun hb16 => ?_)
          · replace h := ite_t hb16 h
            refine sr ?_
            refine aa (iV 10) rfl rfl ?_
            refine an ?_
            refine awp_ret ?_
            obtain rfl := Option.some.inj h
            exact ⟨.inl rfl, .one (.tmp rfl (Imm.con _))⟩
          replace h := ite_f hb16 h
          refine sr ?_
          refine aops_fieldAddr tF137_1 wants_none rfl rfl ?_
          refine aops_load_cell (iV x6.Day) tC3 wants_none rfl rfl rfl rfl rfl ?_
          replace h := bind_some h
          obtain ⟨y17, hx18, h⟩ := h
          refine aops_call (bV y17) [(iV x6.Day)] fOk72 wants_none (evm_cons rfl evm_nil) (.cons (Imm.con _) .nil) (W72 F x6.Day y17 hx18) rfl ?_
          refine aops_not wants_none rfl rfl ?_
          refine am (bV (!y17)) rfl rfl ?_
          rcases Bool.eq_false_or_eq_true (!y17) with hb19 | hb19
          · replace h := ite_t hb19 h
            refine aops_skips 4 4 36 false (c := (!y17)) (b := true) rfl rfl hb19 rfl rfl ?_
            refine aops_skip (wants_undef 40 rfl rfl) rfl rfl ?_
            refine aops_skip (wants_undef 40 rfl rfl) rfl rfl ?_
            refine aops_skip (wants_undef 40 rfl rfl) rfl rfl ?_
            refine aops_skip (wants_undef 40 rfl rfl) rfl rfl ?_
            refine aops_skip (wants_undef 40 rfl rfl) rfl rfl ?_
            refine aops_skip (wants_undef 40 rfl rfl) rfl rfl ?_
            refine aops_skip (wants_undef 46 rfl rfl) rfl rfl ?_
            refine aops_skip (wants_undef 46 rfl rfl) rfl rfl ?_
            refine aops_skip (wants_undef 46 rfl rfl) rfl rfl ?_
            refine aops_skip (wants_undef 40 rfl rfl) rfl rfl ?_
            refine aops_skip (wants_some (c := (!y17)) (b := true) 36 rfl rfl hb19) rfl rfl ?_
            refine aops_pick true (cb := (!y17)) (bV true) wants_none rfl hb19 rfl rfl ?_
            refine aa (bV true) rfl rfl ?_
            refine an ?_
            refine awp_cond_t rfl rfl ?_
            refine sr ?_
            refine aa (iV 9) rfl rfl ?_
            refine an ?_
            refine awp_ret ?_
            obtain rfl := Option.some.inj h
            exact ⟨.inl rfl, .one (.tmp rfl (Imm.con _))⟩
          replace h := ite_f hb19 h
          refine aops_fieldAddr tF137_2 (wants_some (c := (!y17)) (b := false) 36 rfl rfl hb19) rfl rfl ?_
          refine aops_load_cell (iV x6.Ended) tC3 (wants_some (c := (!y17)) (b := false) 36 rfl rfl hb19) rfl rfl rfl rfl rfl ?_
          refine aops_bin (.bool (x6.Ended != (-1))) (wants_some (c := (!y17)) (b := false) 36 rfl rfl hb19) rfl rfl rfl rfl ?_
          refine aops_move (bV (x6.Ended != (-1))) (wants_some (c := (!y17)) (b := false) 36 rfl rfl hb19) rfl rfl ?_
          rcases Bool.eq_false_or_eq_true (x6.Ended != (-1)) with hb20 | hb20
          · replace h := ite_t hb20 h
            refine aops_fieldAddr tF137_2 (wants_some (c := (x6.Ended != (-1))) (b := true) 40 rfl rfl hb20) rfl rfl ?_
            refine aops_load_cell (iV x6.Ended) tC3 (wants_some (c := (x6.Ended != (-1))) (b := true) 40 rfl rfl hb20) rfl rfl rfl rfl rfl ?_
            refine aops_fieldAddr tF137_1 (wants_some (c := (x6.Ended != (-1))) (b := true) 40 rfl rfl hb20) rfl rfl ?_
            refine aops_load_cell (iV x6.Day) tC3 (wants_some (c := (x6.Ended != (-1))) (b := true) 40 rfl rfl hb20) rfl rfl rfl rfl rfl ?_
            refine aops_bin (.bool (decide (x6.Ended < x6.Day))) (wants_some (c := (x6.Ended != (-1))) (b := true) 40 rfl rfl hb20) rfl rfl rfl rfl ?_
            refine aops_move (bV (decide (x6.Ended < x6.Day))) (wants_some (c := (x6.Ended != (-1))) (b := true) 40 rfl rfl hb20) rfl rfl ?_
            rcases Bool.eq_false_or_eq_true (decide (x6.Ended < x6.Day)) with hb21 | hb21
            · replace h := ite_t hb21 h
              refine aops_skips 3 14 46 false (c := (decide (x6.Ended < x6.Day))) (b := true) rfl rfl hb21 rfl rfl ?_
              refine aops_pick true (cb := (decide (x6.Ended < x6.Day))) (bV true) (wants_some (c := (x6.Ended != (-1))) (b := true) 40 rfl rfl hb20) rfl hb21 rfl rfl ?_
              refine aops_pick true (cb := (x6.Ended != (-1))) (bV true) (wants_some (c := (!y17)) (b := false) 36 rfl rfl hb19) rfl hb20 rfl rfl ?_
              refine aops_pick false (cb := (!y17)) (bV true) wants_none rfl hb19 rfl rfl ?_
              refine aa (bV true) rfl rfl ?_
              refine an ?_
              refine awp_cond_t rfl rfl ?_
              refine sr ?_
              refine aa (iV 9) rfl rfl ?_
              refine an ?_
              refine awp_ret ?_
              obtain rfl := Option.some.inj h
              exact ⟨.inl rfl, .one (.tmp rfl (Imm.con _))⟩
            replace h := ite_f hb21 h
            refine aops_fieldAddr tF137_2 (wants_some (c := (decide (x6.Ended < x6.Day))) (b := false) 46 rfl rfl hb21) rfl rfl ?_
            refine aops_load_cell (iV x6.Ended) tC3 (wants_some (c := (decide (x6.Ended < x6.Day))) (b := false) 46 rfl rfl hb21) rfl rfl rfl rfl rfl ?_
            refine aops_bin (.bool (decide (x6.Ended > 1000000))) (wants_some (c := (decide (x6.Ended < x6.Day))) (b := false) 46 rfl rfl hb21) rfl rfl rfl rfl ?_
            refine aops_pick false (cb := (decide (x6.Ended < x6.Day))) (bV (decide (x6.Ended > 1000000))) (wants_some (c := (x6.Ended != (-1))) (b := true) 40 rfl rfl hb20) rfl hb21 rfl rfl ?_
            refine aops_pick true (cb := (x6.Ended != (-1))) (bV (decide (x6.Ended > 1000000))) (wants_some (c := (!y17)) (b := false) 36 rfl rfl hb19) rfl hb20 rfl rfl ?_
            refine aops_pick false (cb := (!y17)) (bV (decide (x6.Ended > 1000000))) wants_none rfl hb19 rfl rfl ?_
            refine aa (bV (decide (x6.Ended > 1000000))) rfl rfl ?_
            refine an ?_
            refine awp_cond (decide (x6.Ended > 1000000)) rfl (fun hb22 => ?_) (fun hb22 => ?_)
            · replace h := ite_t hb22 h
              refine sr ?_
              refine aa (iV 9) rfl rfl ?_
              refine an ?_
              refine awp_ret ?_
              obtain rfl := Option.some.inj h
              exact ⟨.inl rfl, .one (.tmp rfl (Imm.con _))⟩
            replace h := ite_f hb22 h
            refine awp_skip ?_
            exact ⟨(decide (x6.Ended > 1000000)), h, (ghost_ren 1 (fun i => ([0] : List Nat).getD i 0) _ _ (by decide) (EnvSub.get (.cons (Sub.imm (Imm.lst _ _)) (.cons (Sub.imm (Imm.lst _ _)) (.cons (Sub.imm (Imm.con _)) (.cons (Sub.imm (Imm.con _)) (.cons (Sub.ptr rfl rfl) (.cons (Sub.imm (Imm.con _)) (.cons (Sub.imm (Imm.con _)) (.cons (Sub.imm (Imm.con _)) (.cons (Sub.imm (Imm.con _)) .nil)))))))))) (HpSub.get (.cons rfl (ObSub.box (.cons (Sub.imm (Imm.con _)) (.cons (Sub.imm (Imm.con _)) (.cons (Sub.imm (Imm.con _)) .nil)))) .nil)) rfl)⟩
          replace h := ite_f hb20 h
          refine aops_skips 6 8 40 true (c := (x6.Ended != (-1))) (b := false) rfl rfl hb20 rfl rfl ?_
          refine aops_skip (wants_undef 46 rfl rfl) rfl rfl ?_
          refine aops_skip (wants_undef 46 rfl rfl) rfl rfl ?_
          refine aops_skip (wants_undef 46 rfl rfl) rfl rfl ?_
          refine aops_skip (wants_some (c := (x6.Ended != (-1))) (b := false) 40 rfl rfl hb20) rfl rfl ?_
          refine aops_pick false (cb := (x6.Ended != (-1))) (bV false) (wants_some (c := (!y17)) (b := false) 36 rfl rfl hb19) rfl hb20 rfl rfl ?_
          refine aops_pick false (cb := (!y17)) (bV false) wants_none rfl hb19 rfl rfl ?_
          refine aa (bV false) rfl rfl ?_
          refine an ?_
          refine awp_cond_f rfl rfl ?_
          refine awp_skip ?_
          exact ⟨false, h, (ghost_ren 1 (fun i => ([0] : List Nat).getD i 0) _ _ (by decide) (EnvSub.get (.cons (Sub.imm (Imm.lst _ _)) (.cons (Sub.imm (Imm.lst _ _)) (.cons (Sub.imm (Imm.con _)) (.cons (Sub.imm (Imm.con _)) (.cons (Sub.ptr rfl rfl) (.cons (Sub.imm (Imm.con _)) (.cons (Sub.imm (Imm.con _)) (.cons (Sub.imm (Imm.con _)) (.cons (Sub.imm (Imm.con _)) .nil)))))))))) (HpSub.get (.cons rfl (ObSub.box (.cons (Sub.imm (Imm.con _)) (.cons (Sub.imm (Imm.con _)) (.cons (Sub.imm (Imm.con _)) .nil)))) .nil)) rfl)⟩
        replace h := ite_f hb13 h
        refine awp_any [OD.mk [(3, (iV n4))] [] [(18, (iV n4))] [],
              OD.mk [(18, (iV n4))] [] [(19, (bV (decide (n4 > 0))))] [],
              OD.mk [(19, (bV (decide (n4 > 0))))] [] [(20, (bV (decide (n4 > 0))))] [],
              OD.mk [(20, (bV (decide (n4 > 0))))] [] [(21, (V.con undef))] [],
              OD.mk [(20, (bV (decide (n4 > 0))))] [] [(22, (V.con undef))] [],
              OD.mk [(20, (bV (decide (n4 > 0))))] [] [(23, (V.con undef))] [],
              OD.mk [(20, (bV (decide (n4 > 0))))] [] [(24, (V.con undef))] [],
              OD.mk [(20, (bV (decide (n4 > 0))))] [] [(25, (V.con undef))] [],
              OD.mk [(20, (bV (decide (n4 > 0))))] [] [(26, (V.con undef))] [],
              OD.mk [(20, (bV (decide (n4 > 0))))] [] [(27, (V.con undef))] [],
              OD.mk [(20, (bV (decide (n4 > 0))))] [] [(28, (V.con undef))] [],
              OD.mk [(20, (bV (decide (n4 > 0))))] [] [(29, (V.con undef))] [],
              OD.mk [(20, (bV (decide (n4 > 0))))] [] [(30, (bV false))] [],
              OD.mk [(30, (bV false))] [] [(17, (bV false))] []] mixed ⟨⟨rfl, trivial⟩, trivial, ⟨⟨rfl, trivial⟩, trivial, ⟨⟨rfl, trivial⟩, trivial, ⟨⟨rfl, trivial⟩, trivial, ⟨⟨rfl, trivial⟩, trivial, ⟨⟨rfl, trivial⟩, trivial, ⟨⟨rfl, trivial⟩, trivial, ⟨⟨rfl, trivial⟩, trivial, ⟨⟨rfl, trivial⟩, trivial, ⟨⟨rfl, trivial⟩, trivial, ⟨⟨rfl, trivial⟩, trivial, ⟨⟨rfl, trivial⟩, trivial, ⟨⟨rfl, trivial⟩, trivial, ⟨⟨rfl, trivial⟩, trivial, trivial⟩⟩⟩⟩⟩⟩⟩⟩⟩⟩⟩⟩⟩⟩ (by kernel_rfl) (.cons (fun S hn h hh => aops_move (iV n4) wants_none h.1 rfl (an ⟨rfl, rfl⟩)) (.cons (fun S hn h hh => aops_bin (.bool (decide (n4 > 0))) wants_none h.1 rfl rfl rfl (an ⟨rfl, rfl⟩)) (.cons (fun S hn h hh => aops_move (bV (decide (n4 > 0))) wants_none h.1 rfl (an ⟨rfl, rfl⟩)) (.cons (fun S hn h hh => aops_skip (wants_some (c := (decide (n4 > 0))) (b := false) 20 rfl h.1 hb13) rfl rfl (an ⟨rfl, rfl⟩)) (.cons (fun S hn h hh => aops_skip (wants_some (c := (decide (n4 > 0))) (b := false) 20 rfl h.1 hb13) rfl rfl (an ⟨rfl, rfl⟩)) (.cons (fun S hn h hh => aops_skip (wants_some (c := (decide (n4 > 0))) (b := false) 20 rfl h.1 hb13) rfl rfl (an ⟨rfl, rfl⟩)) (.cons (fun S hn h hh => aops_skip (wants_some (c := (decide (n4 > 0))) (b := false) 20 rfl h.1 hb13) rfl rfl (an ⟨rfl, rfl⟩)) (.cons (fun S hn h hh => aops_skip (wants_some (c := (decide (n4 > 0))) (b := false) 20 rfl h.1 hb13) rfl rfl (an ⟨rfl, rfl⟩)) (.cons (fun S hn h hh => aops_skip (wants_some (c := (decide (n4 > 0))) (b := false) 20 rfl h.1 hb13) rfl rfl (an ⟨rfl, rfl⟩)) (.cons (fun S hn h hh => aops_skip (wants_some (c := (decide (n4 > 0))) (b := false) 20 rfl h.1 hb13) rfl rfl (an ⟨rfl, rfl⟩)) (.cons (fun S hn h hh => aops_skip (wants_some (c := (decide (n4 > 0))) (b := false) 20 rfl h.1 hb13) rfl rfl (an ⟨rfl, rfl⟩)) (.cons (fun S hn h hh => aops_skip (wants_some (c := (decide (n4 > 0))) (b := false) 20 rfl h.1 hb13) rfl rfl (an ⟨rfl, rfl⟩)) (.cons (fun S hn h hh => aops_pick false (cb := (decide (n4 > 0))) (bV false) wants_none h.1 hb13 rfl rfl (an ⟨rfl, rfl⟩)) (.cons (fun S hn h hh => aops_assign (bV false) wants_none h.1 rfl (an ⟨rfl, rfl⟩)) .nil)))))))))))))) ?_
        refine awp_cond_f rfl rfl ?_
        refine sr ?_
        refine aops_fieldAddr tF137_1 wants_none rfl rfl ?_
        refine aops_load_cell (iV x6.Day) tC3 wants_none rfl rfl rfl rfl rfl ?_
        replace h := bind_some h
        obtain ⟨y23, hx24, h⟩ := h
        refine aops_call (bV y23) [(iV x6.Day)] fOk72 wants_none (evm_cons rfl evm_nil) (.cons (Imm.con _) .nil) (W72 F x6.Day y23 hx24) rfl ?_
        refine aops_not wants_none rfl rfl ?_
        refine am (bV (!y23)) rfl rfl ?_
        rcases Bool.eq_false_or_eq_true (!y23) with hb25 | hb25
        · replace h := ite_t hb25 h
          refine aops_skips 4 4 36 false (c := (!y23)) (b := true) rfl rfl hb25 rfl rfl ?_
          refine aops_skip (wants_undef 40 rfl rfl) rfl rfl ?_
          refine aops_skip (wants_undef 40 rfl rfl) rfl rfl ?_
          refine aops_skip (wants_undef 40 rfl rfl) rfl rfl ?_
          refine aops_skip (wants_undef 40 rfl rfl) rfl rfl ?_
          refine aops_skip (wants_undef 40 rfl rfl) rfl rfl ?_
          refine aops_skip (wants_undef 40 rfl rfl) rfl rfl ?_
          refine aops_skip (wants_undef 46 rfl rfl) rfl rfl ?_
          refine aops_skip (wants_undef 46 rfl rfl) rfl rfl ?_
          refine aops_skip (wants_undef 46 rfl rfl) rfl rfl ?_
          refine aops_skip (wants_undef 40 rfl rfl) rfl rfl ?_
          refine aops_skip (wants_some (c := (!y23)) (b := true) 36 rfl rfl hb25) rfl rfl ?_
          refine aops_pick true (cb := (!y23)) (bV true) wants_none rfl hb25 rfl rfl ?_
          refine aa (bV true) rfl rfl ?_
          refine an ?_
          refine awp_cond_t rfl rfl ?_
          refine sr ?_
          refine aa (iV 9) rfl rfl ?_
          refine an ?_
          refine awp_ret ?_
          obtain rfl := Option.some.inj h
          exact ⟨.inl rfl, .one (.tmp rfl (Imm.con _))⟩
        replace h := ite_f hb25 h
        refine aops_fieldAddr tF137_2 (wants_some (c := (!y23)) (b := false) 36 rfl rfl hb25) rfl rfl ?_
        refine aops_load_cell (iV x6.Ended) tC3 (wants_some (c := (!y23)) (b := false) 36 rfl rfl hb25) rfl rfl rfl rfl rfl ?_
        refine aops_bin (.bool (x6.Ended != (-1))) (wants_some (c := (!y23)) (b := false) 36 rfl rfl hb25) rfl rfl rfl rfl ?_
        refine aops_move (bV (x6.Ended != (-1))) (wants_some (c := (!y23)) (b := false) 36 rfl rfl hb25) rfl rfl ?_
        rcases Bool.eq_false_or_eq_true (x6.Ended != (-1)) with hb26 | hb26
        · replace h := ite_t hb26 h
          refine aops_fieldAddr tF137_2 (wants_some (c := (x6.Ended != (-1))) (b := true) 40 rfl rfl hb26) rfl rfl ?_
          refine aops_load_cell (iV x6.Ended) tC3 (wants_some (c := (x6.Ended != (-1))) (b := true) 40 rfl rfl hb26) rfl rfl rfl rfl rfl ?_
          refine aops_fieldAddr tF137_1 (wants_some (c := (x6.Ended != (-1))) (b := true) 40 rfl rfl hb26) rfl rfl ?_
          refine aops_load_cell (iV x6.Day) tC3 (wants_some (c := (x6.Ended != (-1))) (b := true) 40 rfl rfl hb26) rfl rfl rfl rfl rfl ?_
          refine aops_bin (.bool (decide (x6.Ended < x6.Day))) (wants_some (c := (x6.Ended != (-1))) (b := true) 40 rfl rfl hb26) rfl rfl rfl rfl ?_
          refine aops_move (bV (decide (x6.Ended < x6.Day))) (wants_some (c := (x6.Ended != (-1))) (b := true) 40 rfl rfl hb26) rfl rfl ?_
          rcases Bool.eq_false_or_eq_true (decide (x6.Ended < x6.Day)) with hb27 | hb27
          · replace h := ite_t hb27 h
            refine aops_skips 3 14 46 false (c := (decide (x6.Ended < x6.Day))) (b := true) rfl rfl hb27 rfl rfl ?_
            refine aops_pick true (cb := (decide (x6.Ended < x6.Day))) (bV true) (wants_some (c := (x6.Ended != (-1))) (b := true) 40 rfl rfl hb26) rfl hb27 rfl rfl ?_
            refine aops_pick true (cb := (x6.Ended != (-1))) (bV true) (wants_some (c := (!y23)) (b := false) 36 rfl rfl hb25) rfl hb26 rfl rfl ?_
            refine aops_pick false (cb := (!y23)) (bV true) wants_none rfl hb25 rfl rfl ?_
            refine aa (bV true) rfl rfl ?_
            refine an ?_
            refine awp_cond_t rfl rfl ?_
            refine sr ?_
            refine aa (iV 9) rfl rfl ?_
            refine an ?_
            refine awp_ret ?_
            obtain rfl := Option.some.inj h
            exact ⟨.inl rfl, .one (.tmp rfl (Imm.con _))⟩
          replace h := ite_f hb27 h
          refine aops_fieldAddr tF137_2 (wants_some (c := (decide (x6.Ended < x6.Day))) (b := false) 46 rfl rfl hb27) rfl rfl ?_
          refine aops_load_cell (iV x6.Ended) tC3 (wants_some (c := (decide (x6.Ended < x6.Day))) (b := false) 46 rfl rfl hb27) rfl rfl rfl rfl rfl ?_
          refine aops_bin (.bool (decide (x6.Ended > 1000000))) (wants_some (c := (decide (x6.Ended < x6.Day))) (b := false) 46 rfl rfl hb27) rfl rfl rfl rfl ?_
          refine aops_pick false (cb := (decide (x6.Ended < x6.Day))) (bV (decide (x6.Ended > 1000000))) (wants_some (c := (x6.Ended != (-1))) (b := true) 40 rfl rfl hb26) rfl hb27 rfl rfl ?_
          refine aops_pick true (cb := (x6.Ended != (-1))) (bV (decide (x6.Ended > 1000000))) (wants_some (c := (!y23)) (b := false) 36 rfl rfl hb25) rfl hb26 rfl rfl ?_
          refine aops_pick false (cb := (!y23)) (bV (decide (x6.Ended > 1000000))) wants_none rfl hb25 rfl rfl ?_
          refine aa (bV (decide (x6.Ended > 1000000))) rfl rfl ?_
          refine an ?_
          refine awp_cond (decide (x6.Ended > 1000000)) rfl (fun hb28 => ?_) (fun hb28 => ?_)
          · replace h := ite_t hb28 h
            refine sr ?_
            refine aa (iV 9) rfl rfl ?_
            refine an ?_
            refine awp_ret ?_
            obtain rfl := Option.some.inj h
            exact ⟨.inl rfl, .one (.tmp rfl (Imm.con _))⟩
          replace h := ite_f hb28 h
          refine awp_skip ?_
          exact ⟨(decide (x6.Ended > 1000000)), h, (ghost_ren 1 (fun i => ([0] : List Nat).getD i 0) _ _ (by decide) (EnvSub.get (.cons (Sub.imm (Imm.lst _ _)) (.cons (Sub.imm (Imm.lst _ _)) (.cons (Sub.imm (Imm.con _)) (.cons (Sub.imm (Imm.con _)) (.cons (Sub.ptr rfl rfl) (.cons (Sub.imm (Imm.con _)) (.cons (Sub.imm (Imm.con _)) (.cons (Sub.imm (Imm.con _)) (.cons (Sub.imm (Imm.con _)) .nil)))))))))) (HpSub.get (.cons rfl (ObSub.box (.cons (Sub.imm (Imm.con _)) (.cons (Sub.imm (Imm.con _)) (.cons (Sub.imm (Imm.con _)) .nil)))) .nil)) rfl)⟩
        replace h := ite_f hb26 h
        refine aops_skips 6 8 40 true (c := (x6.Ended != (-1))) (b := false) rfl rfl hb26 rfl rfl ?_
        refine aops_skip (wants_undef 46 rfl rfl) rfl rfl ?_
        refine aops_skip (wants_undef 46 rfl rfl) rfl rfl ?_
        refine aops_skip (wants_undef 46 rfl rfl) rfl rfl ?_
        refine aops_skip (wants_some (c := (x6.Ended != (-1))) (b := false) 40 rfl rfl hb26) rfl rfl ?_
        refine aops_pick false (cb := (x6.Ended != (-1))) (bV false) (wants_some (c := (!y23)) (b := false) 36 rfl rfl hb25) rfl hb26 rfl rfl ?_
        refine aops_pick false (cb := (!y23)) (bV false) wants_none rfl hb25 rfl rfl ?_
        refine aa (bV false) rfl rfl ?_
        refine an ?_
        refine awp_cond_f rfl rfl ?_
        refine awp_skip ?_
        exact ⟨false, h, (ghost_ren 1 (fun i => ([0] : List Nat).getD i 0) _ _ (by decide) (EnvSub.get (.cons (Sub.imm (Imm.lst _ _)) (.cons (Sub.imm (Imm.lst _ _)) (.cons (Sub.imm (Imm.con _)) (.cons (Sub.imm (Imm.con _)) (.cons (Sub.ptr rfl rfl) (.cons (Sub.imm (Imm.con _)) (.cons (Sub.imm (Imm.con _)) (.cons (Sub.imm (Imm.con _)) (.cons (Sub.imm (Imm.con _)) .nil)))))))))) (HpSub.get (.cons rfl (ObSub.box (.cons (Sub.imm (Imm.con _)) (.cons (Sub.imm (Imm.con _)) (.cons (Sub.imm (Imm.con _)) .nil)))) .nil)) rfl)⟩
      clear h
      intro b11 h
      subst hk10
      refine rg ?_
      refine aops_bin (.int .i64 (w64 (n4 + 1))) wants_none rfl rfl rfl rfl ?_
      refine am (iV (w64 (n4 + 1))) rfl rfl ?_
      refine an ?_
      exact awp_back (ih1 (w64 (n4 + 1)) (hk1 _ h)) (ghost_ren 0 (fun i => ([] : List Nat).getD i 0) _ _ (by decide) (EnvSub.get (.cons (Sub.imm (Imm.lst _ _)) (.cons (Sub.imm (Imm.lst _ _)) (.cons (Sub.imm (Imm.con _)) (.cons (Sub.imm (Imm.con _)) .nil))))) (HpSub.get .nil) rfl)
    replace h := RG.f h hb5
    unfold M97_L1 at h
    refine awp_exit ?_
    exact ⟨(), h, (ghost_ren 0 (fun i => ([] : List Nat).getD i 0) _ _ (by decide) (EnvSub.get .nil) (HpSub.get .nil) rfl)⟩
  clear h
  intro _ h
  subst hk2
  refine sr ?_
  refine aa (iV 0) rfl rfl ?_
  refine an ?_
  refine awp_ret ?_
  obtain rfl := Option.some.inj h
  exact ⟨.inl rfl, .one (.tmp rfl (Imm.con _))⟩
theorem W36 (F : Nat) (a1 : TStory) (r : Int) (h : M36 F a1 = some r) : Pure Try.prog 36 [(V.agg (encTStory a1))] (iV r) := by
  refine pure_enter Try.func36 rfl rfl (l := [.tmp 2]) rfl rfl [(0, (V.agg (encTStory a1)))] rfl (fun w0 m0 => ?_)
  unfold M36 at h
  refine sr ?_
  refine aops_box (encTStory a1) wants_none rfl rfl rfl rfl ?_
  refine aa (iV 0) rfl rfl ?_
  refine an ?_
  refine sq ?_
  refine awp_block ?_
  refine sr ?_
  refine aops_fieldAddr tF52_0 wants_none rfl rfl ?_
  refine aops_load_cell (sV a1.Product) tC9 wants_none rfl rfl rfl rfl rfl ?_
  replace h := bind_some h
  obtain ⟨y2, hx3, h⟩ := h
  refine aops_call (bV y2) [(sV a1.Product)] fOk95 wants_none (evm_cons rfl evm_nil) (.cons (Imm.con _) .nil) (W95 F a1.Product y2 hx3) rfl ?_
  refine aops_not wants_none rfl rfl ?_
  refine aa (bV (!y2)) rfl rfl ?_
  refine an ?_
  refine awp_cond (!y2) rfl (fun hb4 => ?_) (fun hb4 => ?_)
  · replace h := ite_t hb4 h
    refine sr ?_
    refine aa (iV 8) rfl rfl ?_
    refine an ?_
    refine awp_ret ?_
    obtain rfl := Option.some.inj h
    exact ⟨.inl rfl, .one (.tmp rfl (Imm.con _))⟩
  replace h := ite_f hb4 h
  refine sr ?_
  refine aops_fieldAddr tF52_3 wants_none rfl rfl ?_
  refine aops_load_cell (iV a1.Until) tC3 wants_none rfl rfl rfl rfl rfl ?_
  replace h := bind_some h
  obtain ⟨y5, hx6, h⟩ := h
  refine aops_call (bV y5) [(iV a1.Until)] fOk72 wants_none (evm_cons rfl evm_nil) (.cons (Imm.con _) .nil) (W72 F a1.Until y5 hx6) rfl ?_
  refine aops_not wants_none rfl rfl ?_
  refine aa (bV (!y5)) rfl rfl ?_
  refine an ?_
  refine awp_cond (!y5) rfl (fun hb7 => ?_) (fun hb7 => ?_)
  · replace h := ite_t hb7 h
    refine sr ?_
    refine aa (iV 9) rfl rfl ?_
    refine an ?_
    refine awp_ret ?_
    obtain rfl := Option.some.inj h
    exact ⟨.inl rfl, .one (.tmp rfl (Imm.con _))⟩
  replace h := ite_f hb7 h
  refine sr ?_
  refine aops_fieldAddr tF52_1 wants_none rfl rfl ?_
  refine aops_load_cell (V.lst 3 (a1.Releases.map encTRelease)) tC49 wants_none rfl rfl rfl rfl rfl ?_
  refine aops_len (n := a1.Releases.length) tIsSl49 wants_none rfl (congrArg some (List.length_map ..)) rfl ?_
  refine aops_bin (.bool (decide (((a1.Releases.length : Nat) : Int) > 500))) wants_none rfl rfl rfl rfl ?_
  refine am (bV (decide (((a1.Releases.length : Nat) : Int) > 500))) rfl rfl ?_
  rcases Bool.eq_false_or_eq_true (decide (((a1.Releases.length : Nat) : Int) > 500)) with hb8 | hb8
  · replace h := ite_t hb8 h
    refine aops_skips 4 4 30 false (c := (decide (((a1.Releases.length : Nat) : Int) > 500))) (b := true) rfl rfl hb8 rfl rfl ?_
    refine aops_pick true (cb := (decide (((a1.Releases.length : Nat) : Int) > 500))) (bV true) wants_none rfl hb8 rfl rfl ?_
    refine aa (bV true) rfl rfl ?_
    refine an ?_
    refine awp_cond_t rfl rfl ?_
    refine sr ?_
    refine aa (iV 3) rfl rfl ?_
    refine an ?_
    refine awp_ret ?_
    obtain rfl := Option.some.inj h
    exact ⟨.inl rfl, .one (.tmp rfl (Imm.con _))⟩
  replace h := ite_f hb8 h
  refine aops_fieldAddr tF52_2 (wants_some (c := (decide (((a1.Releases.length : Nat) : Int) > 500))) (b := false) 30 rfl rfl hb8) rfl rfl ?_
  refine aops_load_cell (V.lst 3 (a1.Known.map encTPublished)) tC50 (wants_some (c := (decide (((a1.Releases.length : Nat) : Int) > 500))) (b := false) 30 rfl rfl hb8) rfl rfl rfl rfl rfl ?_
  refine aops_len (n := a1.Known.length) tIsSl50 (wants_some (c := (decide (((a1.Releases.length : Nat) : Int) > 500))) (b := false) 30 rfl rfl hb8) rfl (congrArg some (List.length_map ..)) rfl ?_
  refine aops_bin (.bool (decide (((a1.Known.length : Nat) : Int) > 2000))) (wants_some (c := (decide (((a1.Releases.length : Nat) : Int) > 500))) (b := false) 30 rfl rfl hb8) rfl rfl rfl rfl ?_
  refine aops_pick false (cb := (decide (((a1.Releases.length : Nat) : Int) > 500))) (bV (decide (((a1.Known.length : Nat) : Int) > 2000))) wants_none rfl hb8 rfl rfl ?_
  refine aa (bV (decide (((a1.Known.length : Nat) : Int) > 2000))) rfl rfl ?_
  refine an ?_
  refine awp_cond (decide (((a1.Known.length : Nat) : Int) > 2000)) rfl (fun hb9 => ?_) (fun hb9 => ?_)
  · replace h := ite_t hb9 h
    refine sr ?_
    refine aa (iV 3) rfl rfl ?_
    refine an ?_
    refine awp_ret ?_
    obtain rfl := Option.some.inj h
    exact ⟨.inl rfl, .one (.tmp rfl (Imm.con _))⟩
  replace h := ite_f hb9 h
  refine awp_skip ?_
  refine sr ?_
  refine aops_makeMap wants_none rfl ?_
  refine aa (V.map 1) rfl rfl ?_
  refine an ?_
  refine sq ?_
  refine sr ?_
  refine aops_fieldAddr tF52_1 wants_none rfl rfl ?_
  refine aops_load_cell (V.lst 3 (a1.Releases.map encTRelease)) tC49 wants_none rfl rfl rfl rfl rfl ?_
  refine aops_len (n := a1.Releases.length) tIsSl49 wants_none rfl (congrArg some (List.length_map ..)) rfl ?_
  refine am (iV 0) rfl rfl ?_
  refine an ?_
  replace h := jn_elim h
  obtain ⟨k10, hk10, h⟩ := h
  refine awp_cut (fun _ : Unit => (⟨[(1, (V.ptr 0 4 0 0))], [(0, (Ob.arr 52 4 [(encTStory a1)]))], 1⟩ : St)) (fun _ : Unit => k10 = some r) ?_ ?_
  · clear hk10
    refine awp_block ?_
    refine awp_len (A := a1.Releases) 27 rfl (fun hA32 => ?_)
    refine awp_loop_ind (fun (p : Int × (List ((List UInt8) × Bool))) => (⟨[(1, (V.ptr 0 4 0 0)), (3, (V.map 1)), (38, (V.lst 3 (a1.Releases.map encTRelease))), (39, (iV ((a1.Releases.length : Nat) : Int))), (40, (iV (p.1)))], [(0, (Ob.arr 52 4 [(encTStory a1)])), (1, (Ob.map ((p.2).map encM9_4)))], 2⟩ : St)) (fun n (p : Int × (List ((List UInt8) × Bool))) => RG a1.Releases (fun tl nn => M36_L1 F a1 k10 tl nn p.2 = some r) n p.1) (fun p h => RG.zero h) (fun n ih1 p h => ?_) (a1.Releases.length + 1) (0, ([] : List ((List UInt8) × Bool))) (RG.start h) (ghost_ren 2 (fun i => ([0, 1] : List Nat).getD i 0) _ _ (by decide) (EnvSub.get (.cons (Sub.ptr rfl rfl) (.cons (Sub.map rfl rfl) (.cons (Sub.imm (Imm.lst _ _)) (.cons (Sub.imm (Imm.con _)) (.cons (Sub.imm (Imm.con _)) .nil)))))) (HpSub.get (.cons rfl (ObSub.box (.cons (Sub.imm (Imm.con _)) (.cons (Sub.imm (Imm.lst _ _)) (.cons (Sub.imm (Imm.lst _ _)) (.cons (Sub.imm (Imm.con _)) .nil))))) (.cons rfl (ObSub.maps encM9_4_imm) .nil))) rfl)
    obtain ⟨n13, m14⟩ := p
    refine awp_loop ?_
    refine sr ?_
    refine aops_bin (.bool (decide (n13 < ((a1.Releases.length : Nat) : Int)))) wants_none rfl rfl rfl rfl ?_
    refine an ?_
    refine sq ?_
    refine awp_cond (decide (n13 < ((a1.Releases.length : Nat) : Int))) rfl (fun hb15 => ?_) (fun hb15 => ?_)
    · obtain ⟨x16, tl, hx17, h, hk1⟩ := RG.t hA32 h hb15
      unfold M36_L1 at h
      refine awp_skip ?_
      refine sq ?_
      refine awp_block ?_
      refine sr ?_
      refine am (iV n13) rfl rfl ?_
      refine aops_index_lst (encTRelease x16) tSl49 wants_none rfl rfl (idx_some hx17).1 (idx_map encTRelease hx17) rfl ?_
      refine aops_iload_agg (cs := (encTRelease x16)) tA42 wants_none rfl rfl rfl rfl ?_
      refine aops_alloc tZ42 rfl rfl wants_none rfl ?_
      refine aa (iV n13) rfl rfl ?_
      refine aops_store (encTRelease x16) [(encTRelease x16)] tS42 wants_none rfl rfl rfl rfl rfl rfl rfl rfl ?_
      refine an ?_
      refine sq ?_
      refine awp_block ?_
      refine sr ?_
      refine aops_fieldAddr tF42_0 wants_none rfl rfl ?_
      refine aops_load_cell (sV x16.Version) tC9 wants_none rfl rfl rfl rfl rfl ?_
      replace h := bind_some h
      obtain ⟨y18, hx19, h⟩ := h
      refine aops_call (bV y18) [(sV x16.Version)] fOk95 wants_none (evm_cons rfl evm_nil) (.cons (Imm.con _) .nil) (W95 F x16.Version y18 hx19) rfl ?_
      refine aops_not wants_none rfl rfl ?_
      refine aa (bV (!y18)) rfl rfl ?_
      refine an ?_
      replace h := jn_elim h
      obtain ⟨k20, hk20, h⟩ := h
      refine awp_cut (fun _ : Unit => (⟨[(1, (V.ptr 0 4 0 0)), (3, (V.map 1)), (5, (V.ptr 2 3 0 0)), (38, (V.lst 3 (a1.Releases.map encTRelease))), (39, (iV ((a1.Releases.length : Nat) : Int))), (40, (iV n13)), (60, (V.ptr 2 3 0 1)), (61, (iV x16.Day)), (62, (V.ptr 0 4 0 3)), (63, (iV a1.Until)), (64, (bV (decide (x16.Day > a1.Until))))], [(0, (Ob.arr 52 4 [(encTStory a1)])), (1, (Ob.map (m14.map encM9_4))), (2, (Ob.arr 42 3 [(encTRelease x16)]))], 3⟩ : St)) (fun _ : Unit => k20 = some r) ?_ ?_
      · clear hk20
        refine awp_cond (!y18) rfl (fun hb21 => ?_) (fun hb21 => ?_)
        · replace h := ite_t hb21 h
          refine sr ?_
          refine aa (iV 8) rfl rfl ?_
          refine an ?_
          refine awp_ret ?_
          obtain rfl := Option.some.inj h
          exact ⟨.inl rfl, .one (.tmp rfl (Imm.con _))⟩
        replace h := ite_f hb21 h
        refine sr ?_
        refine am (V.map 1) rfl rfl ?_
        refine aops_fieldAddr tF42_0 wants_none rfl rfl ?_
        refine aops_load_cell (sV x16.Version) tC9 wants_none rfl rfl rfl rfl rfl ?_
        refine aops_lookup _ (bV false) (bV ((mget m14 x16.Version).getD false)) tMap135 tKey9 tZo4 (irel_con _) wants_none rfl (.own rfl) (.con rfl) ⟨_, rfl⟩ encM9_4_good (encM9_4_look m14 x16.Version) (getD_map (encM9_4_val) (mget m14 x16.Version) false) rfl ?_
        refine aa (bV ((mget m14 x16.Version).getD false)) rfl rfl ?_
        refine an ?_
        refine awp_cond ((mget m14 x16.Version).getD false) rfl (fun hb22 => ?_) (fun hb22 => ?_)
        · replace h := ite_t hb22 h
          refine sr ?_
          refine aa (iV 5) rfl rfl ?_
          refine an ?_
          refine awp_ret ?_
          obtain rfl := Option.some.inj h
          exact ⟨.inl rfl, .one (.tmp rfl (Imm.con _))⟩
        replace h := ite_f hb22 h
        refine sr ?_
        refine aops_fieldAddr tF42_1 wants_none rfl rfl ?_
        refine aops_load_cell (iV x16.Day) tC3 wants_none rfl rfl rfl rfl rfl ?_
        refine aops_bin (.bool (decide (x16.Day < 0))) wants_none rfl rfl rfl rfl ?_
        refine am (bV (decide (x16.Day < 0))) rfl rfl ?_
        rcases Bool.eq_false_or_eq_true (decide (x16.Day < 0)) with hb23 | hb23
        · replace h := ite_t hb23 h
          refine aops_skips 5 3 59 false (c := (decide (x16.Day < 0))) (b := true) rfl rfl hb23 rfl rfl ?_
          refine aops_pick true (cb := (decide (x16.Day < 0))) (bV true) wants_none rfl hb23 rfl rfl ?_
          refine aa (bV true) rfl rfl ?_
          refine an ?_
          refine awp_cond_t rfl rfl ?_
          refine sr ?_
          refine aa (iV 9) rfl rfl ?_
          refine an ?_
          refine awp_ret ?_
          obtain rfl := Option.some.inj h
          exact ⟨.inl rfl, .one (.tmp rfl (Imm.con _))⟩
        replace h := ite_f hb23 h
        refine aops_fieldAddr tF42_1 (wants_some (c := (decide (x16.Day < 0))) (b := false) 59 rfl rfl hb23) rfl rfl ?_
        refine aops_load_cell (iV x16.Day) tC3 (wants_some (c := (decide (x16.Day < 0))) (b := false) 59 rfl rfl hb23) rfl rfl rfl rfl rfl ?_
        refine aops_fieldAddr tF52_3 (wants_some (c := (decide (x16.Day < 0))) (b := false) 59 rfl rfl hb23) rfl rfl ?_
        refine aops_load_cell (iV a1.Until) tC3 (wants_some (c := (decide (x16.Day < 0))) (b := false) 59 rfl rfl hb23) rfl rfl rfl rfl rfl ?_
        refine aops_bin (.bool (decide (x16.Day > a1.Until))) (wants_some (c := (decide (x16.Day < 0))) (b := false) 59 rfl rfl hb23) rfl rfl rfl rfl ?_
        refine aops_pick false (cb := (decide (x16.Day < 0))) (bV (decide (x16.Day > a1.Until))) wants_none rfl hb23 rfl rfl ?_
        refine aa (bV (decide (x16.Day > a1.Until))) rfl rfl ?_
        refine an ?_
        refine awp_cond (decide (x16.Day > a1.Until)) rfl (fun hb24 => ?_) (fun hb24 => ?_)
        · replace h := ite_t hb24 h
          refine sr ?_
          refine aa (iV 9) rfl rfl ?_
          refine an ?_
          refine awp_ret ?_
          obtain rfl := Option.some.inj h
          exact ⟨.inl rfl, .one (.tmp rfl (Imm.con _))⟩
        replace h := ite_f hb24 h
        refine sq ?_
        rcases Bool.eq_false_or_eq_true (decide (n13 > 0)) with hb25 | hb25
        · replace h := ite_t hb25 h
          replace h := bind_some h
          obtain ⟨x26, hx27, h⟩ := h
          refine awp_any [OD.mk [(4, (iV n13))] [] [(67, (iV n13))] [],
                OD.mk [(67, (iV n13))] [] [(68, (bV (decide (n13 > 0))))] [],
                OD.mk [(68, (bV (decide (n13 > 0))))] [] [(69, (bV (decide (n13 > 0))))] [],
                OD.mk [(69, (bV (decide (n13 > 0)))), (5, (V.ptr 2 3 0 0))] [] [(70, (V.ptr 2 3 0 1))] [],
                OD.mk [(69, (bV (decide (n13 > 0)))), (70, (V.ptr 2 3 0 1))] [(2, (Ob.arr 42 3 [(encTRelease x16)]))] [(71, (iV x16.Day))] [],
                OD.mk [(69, (bV (decide (n13 > 0)))), (1, (V.ptr 0 4 0 0))] [] [(72, (V.ptr 0 4 0 1))] [],
                OD.mk [(69, (bV (decide (n13 > 0)))), (72, (V.ptr 0 4 0 1))] [(0, (Ob.arr 52 4 [(encTStory a1)]))] [(73, (V.lst 3 (a1.Releases.map encTRelease)))] [],
                OD.mk [(69, (bV (decide (n13 > 0)))), (4, (iV n13))] [] [(74, (iV n13))] [],
                OD.mk [(69, (bV (decide (n13 > 0)))), (74, (iV n13))] [] [(75, (iV (w64 (n13 - 1))))] [],
                OD.mk [(69, (bV (decide (n13 > 0)))), (73, (V.lst 3 (a1.Releases.map encTRelease))), (75, (iV (w64 (n13 - 1))))] [] [(76, (V.iptr (encTRelease x26) 0))] [],
                OD.mk [(69, (bV (decide (n13 > 0)))), (76, (V.iptr (encTRelease x26) 0))] [] [(77, (V.iptr (encTRelease x26) 1))] [],
                OD.mk [(69, (bV (decide (n13 > 0)))), (77, (V.iptr (encTRelease x26) 1))] [] [(78, (iV x26.Day))] [],
                OD.mk [(69, (bV (decide (n13 > 0)))), (71, (iV x16.Day)), (78, (iV x26.Day))] [] [(79, (bV (decide (x16.Day ≤ x26.Day))))] [],
                OD.mk [(69, (bV (decide (n13 > 0)))), (79, (bV (decide (x16.Day ≤ x26.Day))))] [] [(80, (bV (decide (x16.Day ≤ x26.Day))))] [],
                OD.mk [(80, (bV (decide (x16.Day ≤ x26.Day))))] [] [(66, (bV (decide (x16.Day ≤ x26.Day))))] []] mixed ⟨⟨rfl, trivial⟩, trivial, ⟨⟨rfl, trivial⟩, trivial, ⟨⟨rfl, trivial⟩, trivial, ⟨⟨rfl, rfl, trivial⟩, trivial, ⟨⟨rfl, rfl, trivial⟩, ⟨rfl, trivial⟩, ⟨⟨rfl, rfl, trivial⟩, trivial, ⟨⟨rfl, rfl, trivial⟩, ⟨rfl, trivial⟩, ⟨⟨rfl, rfl, trivial⟩, trivial, ⟨⟨rfl, rfl, trivial⟩, trivial, ⟨⟨rfl, rfl, rfl, trivial⟩, trivial, ⟨⟨rfl, rfl, trivial⟩, trivial, ⟨⟨rfl, rfl, trivial⟩, trivial, ⟨⟨rfl, rfl, rfl, trivial⟩, trivial, ⟨⟨rfl, rfl, trivial⟩, trivial, ⟨⟨rfl, trivial⟩, trivial, trivial⟩⟩⟩⟩⟩⟩⟩⟩⟩⟩⟩⟩⟩⟩⟩ (by kernel_rfl) (.cons (fun S hn h hh => aops_move (iV n13) wants_none h.1 rfl (an ⟨rfl, rfl⟩)) (.cons (fun S hn h hh => aops_bin (.bool (decide (n13 > 0))) wants_none h.1 rfl rfl rfl (an ⟨rfl, rfl⟩)) (.cons (fun S hn h hh => aops_move (bV (decide (n13 > 0))) wants_none h.1 rfl (an ⟨rfl, rfl⟩)) (.cons (fun S hn h hh => aops_fieldAddr tF42_1 (wants_some (c := (decide (n13 > 0))) (b := true) 69 rfl h.1 hb25) h.2.1 rfl (an ⟨rfl, rfl⟩)) (.cons (fun S hn h hh => aops_load_cell (iV x16.Day) tC3 (wants_some (c := (decide (n13 > 0))) (b := true) 69 rfl h.1 hb25) h.2.1 hh.1 rfl rfl rfl (an ⟨rfl, rfl⟩)) (.cons (fun S hn h hh => aops_fieldAddr tF52_1 (wants_some (c := (decide (n13 > 0))) (b := true) 69 rfl h.1 hb25) h.2.1 rfl (an ⟨rfl, rfl⟩)) (.cons (fun S hn h hh => aops_load_cell (V.lst 3 (a1.Releases.map encTRelease)) tC49 (wants_some (c := (decide (n13 > 0))) (b := true) 69 rfl h.1 hb25) h.2.1 hh.1 rfl rfl rfl (an ⟨rfl, rfl⟩)) (.cons (fun S hn h hh => aops_move (iV n13) (wants_some (c := (decide (n13 > 0))) (b := true) 69 rfl h.1 hb25) h.2.1 rfl (an ⟨rfl, rfl⟩)) (.cons (fun S hn h hh => aops_bin (.int .i64 (w64 (n13 - 1))) (wants_some (c := (decide (n13 > 0))) (b := true) 69 rfl h.1 hb25) h.2.1 rfl rfl rfl (an ⟨rfl, rfl⟩)) (.cons (fun S hn h hh => aops_index_lst (encTRelease x26) tSl49 (wants_some (c := (decide (n13 > 0))) (b := true) 69 rfl h.1 hb25) h.2.1 h.2.2.1 (idx_some hx27).1 (idx_map encTRelease hx27) rfl (an ⟨rfl, rfl⟩)) (.cons (fun S hn h hh => aops_ifieldAddr tF42_1 (wants_some (c := (decide (n13 > 0))) (b := true) 69 rfl h.1 hb25) h.2.1 rfl (an ⟨rfl, rfl⟩)) (.cons (fun S hn h hh => aops_iload_cell (iV x26.Day) tC3 (wants_some (c := (decide (n13 > 0))) (b := true) 69 rfl h.1 hb25) h.2.1 rfl rfl (an ⟨rfl, rfl⟩)) (.cons (fun S hn h hh => aops_bin (.bool (decide (x16.Day ≤ x26.Day))) (wants_some (c := (decide (n13 > 0))) (b := true) 69 rfl h.1 hb25) h.2.1 h.2.2.1 rfl rfl (an ⟨rfl, rfl⟩)) (.cons (fun S hn h hh => aops_pick true (cb := (decide (n13 > 0))) (bV (decide (x16.Day ≤ x26.Day))) wants_none h.1 hb25 h.2.1 rfl (an ⟨rfl, rfl⟩)) (.cons (fun S hn h hh => aops_assign (bV (decide (x16.Day ≤ x26.Day))) wants_none h.1 rfl (an ⟨rfl, rfl⟩)) .nil))))))))))))))) ?_
          refine awp_cond (decide (x16.Day ≤ x26.Day)) rfl (fun hb28 => ?_) (fun hb28 => ?_)
          · replace h := ite_t hb28 h
            refine sr ?_
            refine aa (iV 10) rfl rfl ?_
            refine an ?_
            refine awp_ret ?_
            obtain rfl := Option.some.inj h
            exact ⟨.inl rfl, .one (.tmp rfl (Imm.con _))⟩
          replace h := ite_f hb28 h
          refine awp_skip ?_
          exact ⟨(), h, (ghost_ren 3 (fun i => ([0, 1, 2] : List Nat).getD i 0) _ _ (by decide) (EnvSub.get (.cons (Sub.ptr rfl rfl) (.cons (Sub.map rfl rfl) (.cons (Sub.ptr rfl rfl) (.cons (Sub.imm (Imm.lst _ _)) (.cons (Sub.imm (Imm.con _)) (.cons (Sub.imm (Imm.con _)) (.cons (Sub.ptr rfl rfl) (.cons (Sub.imm (Imm.con _)) (.cons (Sub.ptr rfl rfl) (.cons (Sub.imm (Imm.con _)) (.cons (Sub.imm (Imm.con _)) .nil)))))))))))) (HpSub.get (.cons rfl (ObSub.box (.cons (Sub.imm (Imm.con _)) (.cons (Sub.imm (Imm.lst _ _)) (.cons (Sub.imm (Imm.lst _ _)) (.cons (Sub.imm (Imm.con _)) .nil))))) (.cons rfl (ObSub.maps encM9_4_imm) (.cons rfl (ObSub.box (.cons (Sub.imm (Imm.con _)) (.cons (Sub.imm (Imm.con _)) (.cons (Sub.imm (Imm.lst _ _)) .nil)))) .nil)))) rfl)⟩
        replace h := ite_f hb25 h
        refine awp_any [OD.mk [(4, (iV n13))] [] [(67, (iV n13))] [],
              OD.mk [(67, (iV n13))] [] [(68, (bV (decide (n13 > 0))))] [],
              OD.mk [(68, (bV (decide (n13 > 0))))] [] [(69, (bV (decide (n13 > 0))))] [],
              OD.mk [(69, (bV (decide (n13 > 0))))] [] [(70, (V.con undef))] [],
              OD.mk [(69, (bV (decide (n13 > 0))))] [] [(71, (V.con undef))] [],
              OD.mk [(69, (bV (decide (n13 > 0))))] [] [(72, (V.con undef))] [],
              OD.mk [(69, (bV (decide (n13 > 0))))] [] [(73, (V.con undef))] [],
              OD.mk [(69, (bV (decide (n13 > 0))))] [] [(74, (V.con undef))] [],
              OD.mk [(69, (bV (decide (n13 > 0))))] [] [(75, (V.con undef))] [],
              OD.mk [(69, (bV (decide (n13 > 0))))] [] [(76, (V.con undef))] [],
              OD.mk [(69, (bV (decide (n13 > 0))))] [] [(77, (V.con undef))] [],
              OD.mk [(69, (bV (decide (n13 > 0))))] [] [(78, (V.con undef))] [],
              OD.mk [(69, (bV (decide (n13 > 0))))] [] [(79, (V.con undef))] [],
              OD.mk [(69, (bV (decide (n13 > 0))))] [] [(80, (bV false))] [],
              OD.mk [(80, (bV false))] [] [(66, (bV false))] []] mixed ⟨⟨rfl, trivial⟩, trivial, ⟨⟨rfl, trivial⟩, trivial, ⟨⟨rfl, trivial⟩, trivial, ⟨⟨rfl, trivial⟩, trivial, ⟨⟨rfl, trivial⟩, trivial, ⟨⟨rfl, trivial⟩, trivial, ⟨⟨rfl, trivial⟩, trivial, ⟨⟨rfl, trivial⟩, trivial, ⟨⟨rfl, trivial⟩, trivial, ⟨⟨rfl, trivial⟩, trivial, ⟨⟨rfl, trivial⟩, trivial, ⟨⟨rfl, trivial⟩, trivial, ⟨⟨rfl, trivial⟩, trivial, ⟨⟨rfl, trivial⟩, trivial, ⟨⟨rfl, trivial⟩, trivial, trivial⟩⟩⟩⟩⟩⟩⟩⟩⟩⟩⟩⟩⟩⟩⟩ (by kernel_rfl) (.cons (fun S hn h hh => aops_move (iV n13) wants_none h.1 rfl (an ⟨rfl, rfl⟩)) (.cons (fun S hn h hh => aops_bin (.bool (decide (n13 > 0))) wants_none h.1 rfl rfl rfl (an ⟨rfl, rfl⟩)) (.cons (fun S hn h hh => aops_move (bV (decide (n13 > 0))) wants_none h.1 rfl (an ⟨rfl, rfl⟩)) (.cons (fun S hn h hh => aops_skip (wants_some (c := (decide (n13 > 0))) (b := false) 69 rfl h.1 hb25) rfl rfl (an ⟨rfl, rfl⟩)) (.cons (fun S hn h hh => aops_skip (wants_some (c := (decide (n13 > 0))) (b := false) 69 rfl h.1 hb25) rfl rfl (an ⟨rfl, rfl⟩)) (.cons (fun S hn h hh => aops_skip (wants_some (c := (decide (n13 > 0))) (b := false) 69 rfl h.1 hb25) rfl rfl (an ⟨rfl, rfl⟩)) (.cons (fun S hn h hh => aops_skip (wants_some (c := (decide (n13 > 0))) (b := false) 69 rfl h.1 hb25) rfl rfl (an ⟨rfl, rfl⟩)) (.cons (fun S hn h hh => aops_skip (wants_some (c := (decide (n13 > 0))) (b := false) 69 rfl h.1 hb25) rfl rfl (an ⟨rfl, rfl⟩)) (.cons (fun S hn h hh => aops_skip (wants_some (c := (decide (n13 > 0))) (b := false) 69 rfl h.1 hb25) rfl rfl (an ⟨rfl, rfl⟩)) (.cons (fun S hn h hh => aops_skip (wants_some (c := (decide (n13 > 0))) (b := false) 69 rfl h.1 hb25) rfl rfl (an ⟨rfl, rfl⟩)) (.cons (fun S hn h hh => aops_skip (wants_some (c := (decide (n13 > 0))) (b := false) 69 rfl h.1 hb25) rfl rfl (an ⟨rfl, rfl⟩)) (.cons (fun S hn h hh => aops_skip (wants_some (c := (decide (n13 > 0))) (b := false) 69 rfl h.1 hb25) rfl rfl (an ⟨rfl, rfl⟩)) (.cons (fun S hn h hh => aops_skip (wants_some (c := (decide (n13 > 0))) (b := false) 69 rfl h.1 hb25) rfl rfl (an ⟨rfl, rfl⟩)) (.cons (fun S hn h hh => aops_pick false (cb := (decide (n13 > 0))) (bV false) wants_none h.1 hb25 rfl rfl (an ⟨rfl, rfl⟩)) (.cons (fun S hn h hh => aops_assign (bV false) wants_none h.1 rfl (an ⟨rfl, rfl⟩)) .nil))))))))))))))) ?_
        refine awp_cond_f rfl rfl ?_
        refine awp_skip ?_
        exact ⟨(), h, (ghost_ren 3 (fun i => ([0, 1, 2] : List Nat).getD i 0) _ _ (by decide) (EnvSub.get (.cons (Sub.ptr rfl rfl) (.cons (Sub.map rfl rfl) (.cons (Sub.ptr rfl rfl) (.cons (Sub.imm (Imm.lst _ _)) (.cons (Sub.imm (Imm.con _)) (.cons (Sub.imm (Imm.con _)) (.cons (Sub.ptr rfl rfl) (.cons (Sub.imm (Imm.con _)) (.cons (Sub.ptr rfl rfl) (.cons (Sub.imm (Imm.con _)) (.cons (Sub.imm (Imm.con _)) .nil)))))))))))) (HpSub.get (.cons rfl (ObSub.box (.cons (Sub.imm (Imm.con _)) (.cons (Sub.imm (Imm.lst _ _)) (.cons (Sub.imm (Imm.lst _ _)) (.cons (Sub.imm (Imm.con _)) .nil))))) (.cons rfl (ObSub.maps encM9_4_imm) (.cons rfl (ObSub.box (.cons (Sub.imm (Imm.con _)) (.cons (Sub.imm (Imm.con _)) (.cons (Sub.imm (Imm.lst _ _)) .nil)))) .nil)))) rfl)⟩
      clear h
      intro _ h
      subst hk20
      refine sr ?_
      refine am (V.map 1) rfl rfl ?_
      refine aops_fieldAddr tF42_0 wants_none rfl rfl ?_
      refine aops_load_cell (sV x16.Version) tC9 wants_none rfl rfl rfl rfl rfl ?_
      refine aops_mapUpdate ((mput m14 x16.Version true).map encM9_4) tMap135 tKey9 wants_none rfl rfl (.con rfl) ⟨_, rfl⟩ encM9_4_good rfl (encM9_4_puts m14 x16.Version true) ?_
      refine an ?_
      refine sr ?_
      refine aops_fieldAddr tF42_2 wants_none rfl rfl ?_
      refine aops_load_cell (V.lst 3 (x16.Exposures.map encTExposure)) tC40 wants_none rfl rfl rfl rfl rfl ?_
      replace h := bind_some h
      obtain ⟨y29, hx30, h⟩ := h
      refine aops_call (iV y29) [(V.lst 3 (x16.Exposures.map encTExposure))] fOk96 wants_none (evm_cons rfl evm_nil) (.cons (Imm.lst _ _) .nil) (W96 F x16.Exposures y29 hx30) rfl ?_
      refine aa (iV y29) rfl rfl ?_
      refine an ?_
      refine sr ?_
      refine am (iV y29) rfl rfl ?_
      refine aops_bin (.bool (y29 != 0)) wants_none rfl rfl rfl rfl ?_
      refine an ?_
      refine awp_cond (y29 != 0) rfl (fun hb31 => ?_) (fun hb31 => ?_)
      · replace h := ite_t hb31 h
        refine sr ?_
        refine am (iV y29) rfl rfl ?_
        refine aa (iV y29) rfl rfl ?_
        refine an ?_
        refine awp_ret ?_
        obtain rfl := Option.some.inj h
        exact ⟨.inl rfl, .one (.tmp rfl (Imm.con _))⟩
      replace h := ite_f hb31 h
      refine awp_skip ?_
      refine rg ?_
      refine aops_bin (.int .i64 (w64 (n13 + 1))) wants_none rfl rfl rfl rfl ?_
      refine am (iV (w64 (n13 + 1))) rfl rfl ?_
      refine an ?_
      exact awp_back (ih1 ((w64 (n13 + 1)), (mput m14 x16.Version true)) (hk1 _ h)) (ghost_ren 2 (fun i => ([0, 1] : List Nat).getD i 0) _ _ (by decide) (EnvSub.get (.cons (Sub.ptr rfl rfl) (.cons (Sub.map rfl rfl) (.cons (Sub.imm (Imm.lst _ _)) (.cons (Sub.imm (Imm.con _)) (.cons (Sub.imm (Imm.con _)) .nil)))))) (HpSub.get (.cons rfl (ObSub.box (.cons (Sub.imm (Imm.con _)) (.cons (Sub.imm (Imm.lst _ _)) (.cons (Sub.imm (Imm.lst _ _)) (.cons (Sub.imm (Imm.con _)) .nil))))) (.cons rfl (ObSub.maps encM9_4_imm) .nil))) rfl)
    replace h := RG.f h hb15
    unfold M36_L1 at h
    refine awp_exit ?_
    exact ⟨(), h, (ghost_ren 1 (fun i => ([0] : List Nat).getD i 0) _ _ (by decide) (EnvSub.get (.cons (Sub.ptr rfl rfl) .nil)) (HpSub.get (.cons rfl (ObSub.box (.cons (Sub.imm (Imm.con _)) (.cons (Sub.imm (Imm.lst _ _)) (.cons (Sub.imm (Imm.lst _ _)) (.cons (Sub.imm (Imm.con _)) .nil))))) .nil)) rfl)⟩
  clear h
  intro _ h
  subst hk10
  refine sq ?_
  refine sr ?_
  refine aops_fieldAddr tF52_2 wants_none rfl rfl ?_
  refine aops_load_cell (V.lst 3 (a1.Known.map encTPublished)) tC50 wants_none rfl rfl rfl rfl rfl ?_
  replace h := bind_some h
  obtain ⟨y33, hx34, h⟩ := h
  refine aops_call (iV y33) [(V.lst 3 (a1.Known.map encTPublished))] fOk97 wants_none (evm_cons rfl evm_nil) (.cons (Imm.lst _ _) .nil) (W97 F a1.Known y33 hx34) rfl ?_
  refine aa (iV y33) rfl rfl ?_
  refine an ?_
  refine sr ?_
  refine am (iV y33) rfl rfl ?_
  refine aops_bin (.bool (y33 != 0)) wants_none rfl rfl rfl rfl ?_
  refine an ?_
  refine awp_cond (y33 != 0) rfl (fun hb35 => ?_) (fun hb35 => ?_)
  · replace h := ite_t hb35 h
    refine sr ?_
    refine am (iV y33) rfl rfl ?_
    refine aa (iV y33) rfl rfl ?_
    refine an ?_
    refine awp_ret ?_
    obtain rfl := Option.some.inj h
    exact ⟨.inl rfl, .one (.tmp rfl (Imm.con _))⟩
  replace h := ite_f hb35 h
  refine awp_skip ?_
  refine sr ?_
  refine aops_makeMap wants_none rfl ?_
  refine aa (V.map 1) rfl rfl ?_
  refine an ?_
  refine sq ?_
  refine sr ?_
  refine aops_fieldAddr tF52_2 wants_none rfl rfl ?_
  refine aops_load_cell (V.lst 3 (a1.Known.map encTPublished)) tC50 wants_none rfl rfl rfl rfl rfl ?_
  refine aops_len (n := a1.Known.length) tIsSl50 wants_none rfl (congrArg some (List.length_map ..)) rfl ?_
  refine am (iV 0) rfl rfl ?_
  refine an ?_
  replace h := jn_elim h
  obtain ⟨k36, hk36, h⟩ := h
  refine awp_cut (fun (p : (List ((List UInt8) × Bool))) => (⟨[(1, (V.ptr 0 4 0 0)), (8, (V.map 1))], [(0, (Ob.arr 52 4 [(encTStory a1)])), (1, (Ob.map (p.map encM9_4)))], 2⟩ : St)) (fun (p : (List ((List UInt8) × Bool))) => k36 p = some r) ?_ ?_
  · clear hk36
    refine awp_block ?_
    refine awp_len (A := a1.Known) 92 rfl (fun hA45 => ?_)
    refine awp_loop_ind (fun (p : Int × (List ((List UInt8) × Bool))) => (⟨[(1, (V.ptr 0 4 0 0)), (8, (V.map 1)), (99, (V.lst 3 (a1.Known.map encTPublished))), (100, (iV ((a1.Known.length : Nat) : Int))), (101, (iV (p.1)))], [(0, (Ob.arr 52 4 [(encTStory a1)])), (1, (Ob.map ((p.2).map encM9_4)))], 2⟩ : St)) (fun n (p : Int × (List ((List UInt8) × Bool))) => RG a1.Known (fun tl nn => M36_L2 F k36 tl p.2 = some r) n p.1) (fun p h => RG.zero h) (fun n ih2 p h => ?_) (a1.Known.length + 1) (0, ([] : List ((List UInt8) × Bool))) (RG.start h) (ghost_ren 2 (fun i => ([0, 1] : List Nat).getD i 0) _ _ (by decide) (EnvSub.get (.cons (Sub.ptr rfl rfl) (.cons (Sub.map rfl rfl) (.cons (Sub.imm (Imm.lst _ _)) (.cons (Sub.imm (Imm.con _)) (.cons (Sub.imm (Imm.con _)) .nil)))))) (HpSub.get (.cons rfl (ObSub.box (.cons (Sub.imm (Imm.con _)) (.cons (Sub.imm (Imm.lst _ _)) (.cons (Sub.imm (Imm.lst _ _)) (.cons (Sub.imm (Imm.con _)) .nil))))) (.cons rfl (ObSub.maps encM9_4_imm) .nil))) rfl)
    obtain ⟨n40, m41⟩ := p
    refine awp_loop ?_
    refine sr ?_
    refine aops_bin (.bool (decide (n40 < ((a1.Known.length : Nat) : Int)))) wants_none rfl rfl rfl rfl ?_
    refine an ?_
    refine sq ?_
    refine awp_cond (decide (n40 < ((a1.Known.length : Nat) : Int))) rfl (fun hb42 => ?_) (fun hb42 => ?_)
    · obtain ⟨x43, tl, hx44, h, hk2⟩ := RG.t hA45 h hb42
      unfold M36_L2 at h
      refine awp_skip ?_
      refine sq ?_
      refine awp_block ?_
      refine sr ?_
      refine aops_index_lst (encTPublished x43) tSl50 wants_none rfl rfl (idx_some hx44).1 (idx_map encTPublished hx44) rfl ?_
      refine aops_iload_agg (cs := (encTPublished x43)) tA137 wants_none rfl rfl rfl rfl ?_
      refine aops_alloc tZ137 rfl rfl wants_none rfl ?_
      refine aops_store (encTPublished x43) [(encTPublished x43)] tS137 wants_none rfl rfl rfl rfl rfl rfl rfl rfl ?_
      refine an ?_
      refine rg ?_
      refine am (V.map 1) rfl rfl ?_
      refine aops_fieldAddr tF137_0 wants_none rfl rfl ?_
      refine aops_load_cell (sV x43.Advisory) tC9 wants_none rfl rfl rfl rfl rfl ?_
      refine aops_mapUpdate ((mput m41 x43.Advisory true).map encM9_4) tMap135 tKey9 wants_none rfl rfl (.con rfl) ⟨_, rfl⟩ encM9_4_good rfl (encM9_4_puts m41 x43.Advisory true) ?_
      refine an ?_
      refine rg ?_
      refine aops_bin (.int .i64 (w64 (n40 + 1))) wants_none rfl rfl rfl rfl ?_
      refine am (iV (w64 (n40 + 1))) rfl rfl ?_
      refine an ?_
      exact awp_back (ih2 ((w64 (n40 + 1)), (mput m41 x43.Advisory true)) (hk2 _ h)) (ghost_ren 2 (fun i => ([0, 1] : List Nat).getD i 0) _ _ (by decide) (EnvSub.get (.cons (Sub.ptr rfl rfl) (.cons (Sub.map rfl rfl) (.cons (Sub.imm (Imm.lst _ _)) (.cons (Sub.imm (Imm.con _)) (.cons (Sub.imm (Imm.con _)) .nil)))))) (HpSub.get (.cons rfl (ObSub.box (.cons (Sub.imm (Imm.con _)) (.cons (Sub.imm (Imm.lst _ _)) (.cons (Sub.imm (Imm.lst _ _)) (.cons (Sub.imm (Imm.con _)) .nil))))) (.cons rfl (ObSub.maps encM9_4_imm) .nil))) rfl)
    replace h := RG.f h hb42
    unfold M36_L2 at h
    refine awp_exit ?_
    exact ⟨m41, h, (ghost_ren 2 (fun i => ([0, 1] : List Nat).getD i 0) _ _ (by decide) (EnvSub.get (.cons (Sub.ptr rfl rfl) (.cons (Sub.map rfl rfl) .nil))) (HpSub.get (.cons rfl (ObSub.box (.cons (Sub.imm (Imm.con _)) (.cons (Sub.imm (Imm.lst _ _)) (.cons (Sub.imm (Imm.lst _ _)) (.cons (Sub.imm (Imm.con _)) .nil))))) (.cons rfl (ObSub.maps encM9_4_imm) .nil))) rfl)⟩
  clear h
  intro m37 h
  subst hk36
  refine sq ?_
  refine sr ?_
  refine aops_fieldAddr tF52_1 wants_none rfl rfl ?_
  refine aops_load_cell (V.lst 3 (a1.Releases.map encTRelease)) tC49 wants_none rfl rfl rfl rfl rfl ?_
  refine aops_len (n := a1.Releases.length) tIsSl49 wants_none rfl (congrArg some (List.length_map ..)) rfl ?_
  refine am (iV 0) rfl rfl ?_
  refine an ?_
  replace h := jn_elim h
  obtain ⟨k46, hk46, h⟩ := h
  refine awp_cut (fun _ : Unit => (⟨[], [], 0⟩ : St)) (fun _ : Unit => k46 = some r) ?_ ?_
  · clear hk46
    refine awp_block ?_
    refine awp_len (A := a1.Releases) 110 rfl (fun hA61 => ?_)
    refine awp_loop_ind (fun (p : Int) => (⟨[(8, (V.map 0)), (110, (V.lst 3 (a1.Releases.map encTRelease))), (111, (iV ((a1.Releases.length : Nat) : Int))), (112, (iV p))], [(0, (Ob.map (m37.map encM9_4)))], 1⟩ : St)) (fun n (p : Int) => RG a1.Releases (fun tl nn => M36_L3 F m37 k46 tl = some r) n p) (fun p h => RG.zero h) (fun n ih3 p h => ?_) (a1.Releases.length + 1) 0 (RG.start h) (ghost_ren 1 (fun i => ([1] : List Nat).getD i 0) _ _ (by decide) (EnvSub.get (.cons (Sub.map rfl rfl) (.cons (Sub.imm (Imm.lst _ _)) (.cons (Sub.imm (Imm.con _)) (.cons (Sub.imm (Imm.con _)) .nil))))) (HpSub.get (.cons rfl (ObSub.maps encM9_4_imm) .nil)) rfl)
    revert p
    intro n48 h
    refine awp_loop ?_
    refine sr ?_
    refine aops_bin (.bool (decide (n48 < ((a1.Releases.length : Nat) : Int)))) wants_none rfl rfl rfl rfl ?_
    refine an ?_
    refine sq ?_
    refine awp_cond (decide (n48 < ((a1.Releases.length : Nat) : Int))) rfl (fun hb49 => ?_) (fun hb49 => ?_)
    · obtain ⟨x51, tl, hx52, h, hk3⟩ := RG.t hA61 h hb49
      unfold M36_L3 at h
      refine awp_skip ?_
      refine sq ?_
      replace h := jn_elim h
      obtain ⟨k50, hk50, h⟩ := h
      refine awp_cut (fun _ : Unit => (⟨[(8, (V.map 0)), (110, (V.lst 3 (a1.Releases.map encTRelease))), (111, (iV ((a1.Releases.length : Nat) : Int))), (112, (iV n48))], [(0, (Ob.map (m37.map encM9_4)))], 1⟩ : St)) (fun _ : Unit => k50 = some r) ?_ ?_
      · clear hk50
        refine awp_block ?_
        refine sr ?_
        refine aops_index_lst (encTRelease x51) tSl49 wants_none rfl rfl (idx_some hx52).1 (idx_map encTRelease hx52) rfl ?_
        refine aops_iload_agg (cs := (encTRelease x51)) tA42 wants_none rfl rfl rfl rfl ?_
        refine aops_alloc tZ42 rfl rfl wants_none rfl ?_
        refine aops_store (encTRelease x51) [(encTRelease x51)] tS42 wants_none rfl rfl rfl rfl rfl rfl rfl rfl ?_
        refine an ?_
        refine sr ?_
        refine aops_fieldAddr tF42_2 wants_none rfl rfl ?_
        refine aops_load_cell (V.lst 3 (x51.Exposures.map encTExposure)) tC40 wants_none rfl rfl rfl rfl rfl ?_
        refine aops_len (n := x51.Exposures.length) tIsSl40 wants_none rfl (congrArg some (List.length_map ..)) rfl ?_
        refine am (iV 0) rfl rfl ?_
        refine an ?_
        replace h := jn_elim h
        obtain ⟨k53, hk53, h⟩ := h
        refine awp_cut (fun _ : Unit => (⟨[(8, (V.map 0)), (110, (V.lst 3 (a1.Releases.map encTRelease))), (111, (iV ((a1.Releases.length : Nat) : Int))), (112, (iV n48))], [(0, (Ob.map (m37.map encM9_4)))], 1⟩ : St)) (fun _ : Unit => k53 = some r) ?_ ?_
        · clear hk53
          refine awp_block ?_
          refine awp_len (A := x51.Exposures) 117 rfl (fun hA60 => ?_)
          refine awp_loop_ind (fun (p : Int) => (⟨[(8, (V.map 0)), (110, (V.lst 3 (a1.Releases.map encTRelease))), (111, (iV ((a1.Releases.length : Nat) : Int))), (112, (iV n48)), (117, (V.lst 3 (x51.Exposures.map encTExposure))), (118, (iV ((x51.Exposures.length : Nat) : Int))), (119, (iV p))], [(0, (Ob.map (m37.map encM9_4)))], 1⟩ : St)) (fun n (p : Int) => RG x51.Exposures (fun tl nn => M36_L4 F m37 k53 tl = some r) n p) (fun p h => RG.zero h) (fun n ih4 p h => ?_) (x51.Exposures.length + 1) 0 (RG.start h) (ghost_ren 1 (fun i => ([0] : List Nat).getD i 0) _ _ (by decide) (EnvSub.get (.cons (Sub.map rfl rfl) (.cons (Sub.imm (Imm.lst _ _)) (.cons (Sub.imm (Imm.con _)) (.cons (Sub.imm (Imm.con _)) (.cons (Sub.imm (Imm.lst _ _)) (.cons (Sub.imm (Imm.con _)) (.cons (Sub.imm (Imm.con _)) .nil)))))))) (HpSub.get (.cons rfl (ObSub.maps encM9_4_imm) .nil)) rfl)
          revert p
          intro n55 h
          refine awp_loop ?_
          refine sr ?_
          refine aops_bin (.bool (decide (n55 < ((x51.Exposures.length : Nat) : Int)))) wants_none rfl rfl rfl rfl ?_
          refine an ?_
          refine sq ?_
          refine awp_cond (decide (n55 < ((x51.Exposures.length : Nat) : Int))) rfl (fun hb56 => ?_) (fun hb56 => ?_)
          · obtain ⟨x57, tl, hx58, h, hk4⟩ := RG.t hA60 h hb56
            unfold M36_L4 at h
            refine awp_skip ?_
            refine sq ?_
            refine awp_block ?_
            refine sr ?_
            refine aops_index_lst (encTExposure x57) tSl40 wants_none rfl rfl (idx_some hx58).1 (idx_map encTExposure hx58) rfl ?_
            refine aops_iload_agg (cs := (encTExposure x57)) tA47 wants_none rfl rfl rfl rfl ?_
            refine aops_alloc tZ47 rfl rfl wants_none rfl ?_
            refine aops_store (encTExposure x57) [(encTExposure x57)] tS47 wants_none rfl rfl rfl rfl rfl rfl rfl rfl ?_
            refine an ?_
            refine sr ?_
            refine am (V.map 0) rfl rfl ?_
            refine aops_fieldAddr tF47_0 wants_none rfl rfl ?_
            refine aops_load_cell (sV x57.Advisory) tC9 wants_none rfl rfl rfl rfl rfl ?_
            refine aops_lookup _ (bV false) (bV ((mget m37 x57.Advisory).getD false)) tMap135 tKey9 tZo4 (irel_con _) wants_none rfl (.own rfl) (.con rfl) ⟨_, rfl⟩ encM9_4_good (encM9_4_look m37 x57.Advisory) (getD_map (encM9_4_val) (mget m37 x57.Advisory) false) rfl ?_
            refine aops_not wants_none rfl rfl ?_
            refine an ?_
            refine awp_cond (!((mget m37 x57.Advisory).getD false)) rfl (fun hb59 => ?_) (fun hb59 => ?_)
            · replace h := ite_t hb59 h
              refine sr ?_
              refine aa (iV 4) rfl rfl ?_
              refine an ?_
              refine awp_ret ?_
              obtain rfl := Option.some.inj h
              exact ⟨.inl rfl, .one (.tmp rfl (Imm.con _))⟩
            replace h := ite_f hb59 h
            refine awp_skip ?_
            refine rg ?_
            refine aops_bin (.int .i64 (w64 (n55 + 1))) wants_none rfl rfl rfl rfl ?_
            refine am (iV (w64 (n55 + 1))) rfl rfl ?_
            refine an ?_
            exact awp_back (ih4 (w64 (n55 + 1)) (hk4 _ h)) (ghost_ren 1 (fun i => ([0] : List Nat).getD i 0) _ _ (by decide) (EnvSub.get (.cons (Sub.map rfl rfl) (.cons (Sub.imm (Imm.lst _ _)) (.cons (Sub.imm (Imm.con _)) (.cons (Sub.imm (Imm.con _)) (.cons (Sub.imm (Imm.lst _ _)) (.cons (Sub.imm (Imm.con _)) (.cons (Sub.imm (Imm.con _)) .nil)))))))) (HpSub.get (.cons rfl (ObSub.maps encM9_4_imm) .nil)) rfl)
          replace h := RG.f h hb56
          unfold M36_L4 at h
          refine awp_exit ?_
          exact ⟨(), h, (ghost_ren 1 (fun i => ([0] : List Nat).getD i 0) _ _ (by decide) (EnvSub.get (.cons (Sub.map rfl rfl) (.cons (Sub.imm (Imm.lst _ _)) (.cons (Sub.imm (Imm.con _)) (.cons (Sub.imm (Imm.con _)) .nil))))) (HpSub.get (.cons rfl (ObSub.maps encM9_4_imm) .nil)) rfl)⟩
        clear h
        intro _ h
        subst hk53
        exact ⟨(), h, (ghost_ren 1 (fun i => ([0] : List Nat).getD i 0) _ _ (by decide) (EnvSub.get (.cons (Sub.map rfl rfl) (.cons (Sub.imm (Imm.lst _ _)) (.cons (Sub.imm (Imm.con _)) (.cons (Sub.imm (Imm.con _)) .nil))))) (HpSub.get (.cons rfl (ObSub.maps encM9_4_imm) .nil)) rfl)⟩
      clear h
      intro _ h
      subst hk50
      refine rg ?_
      refine aops_bin (.int .i64 (w64 (n48 + 1))) wants_none rfl rfl rfl rfl ?_
      refine am (iV (w64 (n48 + 1))) rfl rfl ?_
      refine an ?_
      exact awp_back (ih3 (w64 (n48 + 1)) (hk3 _ h)) (ghost_ren 1 (fun i => ([0] : List Nat).getD i 0) _ _ (by decide) (EnvSub.get (.cons (Sub.map rfl rfl) (.cons (Sub.imm (Imm.lst _ _)) (.cons (Sub.imm (Imm.con _)) (.cons (Sub.imm (Imm.con _)) .nil))))) (HpSub.get (.cons rfl (ObSub.maps encM9_4_imm) .nil)) rfl)
    replace h := RG.f h hb49
    unfold M36_L3 at h
    refine awp_exit ?_
    exact ⟨(), h, (ghost_ren 0 (fun i => ([] : List Nat).getD i 0) _ _ (by decide) (EnvSub.get .nil) (HpSub.get .nil) rfl)⟩
  clear h
  intro _ h
  subst hk46
  refine sr ?_
  refine aa (iV 0) rfl rfl ?_
  refine an ?_
  refine awp_ret ?_
  obtain rfl := Option.some.inj h
  exact ⟨.inl rfl, .one (.tmp rfl (Imm.con _))⟩
theorem W89 (F : Nat) (a1 : TStory) (a2 : Int) (r : (TRelease × Bool)) (h : M89 F a1 a2 = some r) : Pure Try.prog 89 [(V.agg (encTStory a1)), (iV a2)] (V.tup [(V.agg (encTRelease (r.1))), (bV (r.2))]) := by
  refine pure_enter Try.func89 rfl rfl (l := [.cell 4 42, .tmp 5]) rfl rfl [(0, (V.agg (encTStory a1))), (1, (iV a2))] rfl (fun w0 m0 => ?_)
  unfold M89 at h
  refine sr ?_
  refine aops_box (encTStory a1) wants_none rfl rfl rfl rfl ?_
  refine aops_alloc tZ42 rfl rfl wants_none rfl ?_
  refine aa (bV false) rfl rfl ?_
  refine an ?_
  refine sr ?_
  refine aops_build [] [(sV ([] : List UInt8)), (iV 0), nV] tZ42 tPl42 rfl wants_none evp_nil rfl rfl ?_
  refine aops_alloc tZ42 rfl rfl wants_none rfl ?_
  refine aops_store [(sV ([] : List UInt8)), (iV 0), nV] [[(sV ([] : List UInt8)), (iV 0), nV]] tS42 wants_none rfl rfl rfl rfl rfl rfl rfl rfl ?_
  refine aa (bV false) rfl rfl ?_
  refine an ?_
  refine sq ?_
  refine sr ?_
  refine aops_fieldAddr tF52_1 wants_none rfl rfl ?_
  refine aops_load_cell (V.lst 3 (a1.Releases.map encTRelease)) tC49 wants_none rfl rfl rfl rfl rfl ?_
  refine aops_len (n := a1.Releases.length) tIsSl49 wants_none rfl (congrArg some (List.length_map ..)) rfl ?_
  refine am (iV 0) rfl rfl ?_
  refine an ?_
  replace h := jn_elim h
  obtain ⟨k3, hk3, h⟩ := h
  refine awp_cut (fun (p : Bool × (List UInt8) × Int × (List TExposure)) => (⟨[(1, (iV a2)), (2, (V.ptr 0 4 0 0)), (4, (V.ptr 1 3 0 0)), (6, (V.ptr 2 3 0 0)), (7, (bV (p.1)))], [(0, (Ob.arr 52 4 [(encTStory a1)])), (1, (Ob.arr 42 3 [[(sV ([] : List UInt8)), (iV 0), nV]])), (2, (Ob.arr 42 3 [[(sV (p.2.1)), (iV (p.2.2.1)), (V.lst 3 ((p.2.2.2).map encTExposure))]]))], 3⟩ : St)) (fun (p : Bool × (List UInt8) × Int × (List TExposure)) => k3 p.1 p.2.1 p.2.2.1 p.2.2.2 = some r) ?_ ?_
  · clear hk3
    refine awp_block ?_
    refine awp_len (A := a1.Releases) 12 rfl (fun hA27 => ?_)
    refine awp_loop_ind (fun (p : Bool × Int × (List UInt8) × Int × (List TExposure)) => (⟨[(1, (iV a2)), (2, (V.ptr 0 4 0 0)), (4, (V.ptr 1 3 0 0)), (6, (V.ptr 2 3 0 0)), (7, (bV (p.1))), (12, (V.lst 3 (a1.Releases.map encTRelease))), (13, (iV ((a1.Releases.length : Nat) : Int))), (14, (iV (p.2.1)))], [(0, (Ob.arr 52 4 [(encTStory a1)])), (1, (Ob.arr 42 3 [[(sV ([] : List UInt8)), (iV 0), nV]])), (2, (Ob.arr 42 3 [[(sV (p.2.2.1)), (iV (p.2.2.2.1)), (V.lst 3 ((p.2.2.2.2).map encTExposure))]]))], 3⟩ : St)) (fun n (p : Bool × Int × (List UInt8) × Int × (List TExposure)) => RG a1.Releases (fun tl nn => M89_L1 F a2 k3 tl p.1 p.2.2.1 p.2.2.2.1 p.2.2.2.2 = some r) n p.2.1) (fun p h => RG.zero h) (fun n ih1 p h => ?_) (a1.Releases.length + 1) (false, 0, ([] : List UInt8), 0, ([] : List TExposure)) (RG.start h) (ghost_ren 3 (fun i => ([0, 1, 2] : List Nat).getD i 0) _ _ (by decide) (EnvSub.get (.cons (Sub.imm (Imm.con _)) (.cons (Sub.ptr rfl rfl) (.cons (Sub.ptr rfl rfl) (.cons (Sub.ptr rfl rfl) (.cons (Sub.imm (Imm.con _)) (.cons (Sub.imm (Imm.lst _ _)) (.cons (Sub.imm (Imm.con _)) (.cons (Sub.imm (Imm.con _)) .nil))))))))) (HpSub.get (.cons rfl (ObSub.box (.cons (Sub.imm (Imm.con _)) (.cons (Sub.imm (Imm.lst _ _)) (.cons (Sub.imm (Imm.lst _ _)) (.cons (Sub.imm (Imm.con _)) .nil))))) (.cons rfl (ObSub.box (.cons (Sub.imm (Imm.con _)) (.cons (Sub.imm (Imm.con _)) (.cons (Sub.imm (Imm.con _)) .nil)))) (.cons rfl (ObSub.box (.cons (Sub.imm (Imm.con _)) (.cons (Sub.imm (Imm.con _)) (.cons (Sub.nil _) .nil)))) .nil)))) rfl)
    obtain ⟨b13, n14, s15, n16, l17⟩ := p
    refine awp_loop ?_
    refine sr ?_
    refine aops_bin (.bool (decide (n14 < ((a1.Releases.length : Nat) : Int)))) wants_none rfl rfl rfl rfl ?_
    refine an ?_
    refine sq ?_
    refine awp_cond (decide (n14 < ((a1.Releases.length : Nat) : Int))) rfl (fun hb18 => ?_) (fun hb18 => ?_)
    · obtain ⟨x19, tl, hx20, h, hk1⟩ := RG.t hA27 h hb18
      unfold M89_L1 at h
      refine awp_skip ?_
      refine sq ?_
      refine awp_block ?_
      refine sr ?_
      refine aops_index_lst (encTRelease x19) tSl49 wants_none rfl rfl (idx_some hx20).1 (idx_map encTRelease hx20) rfl ?_
      refine aops_iload_agg (cs := (encTRelease x19)) tA42 wants_none rfl rfl rfl rfl ?_
      refine aops_alloc tZ42 rfl rfl wants_none rfl ?_
      refine aops_store (encTRelease x19) [(encTRelease x19)] tS42 wants_none rfl rfl rfl rfl rfl rfl rfl rfl ?_
      refine an ?_
      refine sr ?_
      refine aops_fieldAddr tF42_1 wants_none rfl rfl ?_
      refine aops_load_cell (iV x19.Day) tC3 wants_none rfl rfl rfl rfl rfl ?_
      refine am (iV a2) rfl rfl ?_
      refine aops_bin (.bool (decide (x19.Day ≤ a2))) wants_none rfl rfl rfl rfl ?_
      refine an ?_
      replace h := jn_elim h
      obtain ⟨k21, hk21, h⟩ := h
      refine awp_cut (fun (p : Bool × (List UInt8) × Int × (List TExposure)) => (⟨[(1, (iV a2)), (2, (V.ptr 0 4 0 0)), (4, (V.ptr 1 3 0 0)), (6, (V.ptr 2 3 0 0)), (7, (bV (p.1))), (12, (V.lst 3 (a1.Releases.map encTRelease))), (13, (iV ((a1.Releases.length : Nat) : Int))), (14, (iV n14))], [(0, (Ob.arr 52 4 [(encTStory a1)])), (1, (Ob.arr 42 3 [[(sV ([] : List UInt8)), (iV 0), nV]])), (2, (Ob.arr 42 3 [[(sV (p.2.1)), (iV (p.2.2.1)), (V.lst 3 ((p.2.2.2).map encTExposure))]]))], 3⟩ : St)) (fun (p : Bool × (List UInt8) × Int × (List TExposure)) => k21 p.1 p.2.1 p.2.2.1 p.2.2.2 = some r) ?_ ?_
      · clear hk21
        refine awp_cond (decide (x19.Day ≤ a2)) rfl (fun hb26 => ?_) (fun hb26 => ?_)
        · replace h := ite_t hb26 h
          refine rg ?_
          refine aops_load_agg (cs := (encTRelease x19)) tA42 wants_none rfl rfl rfl rfl rfl rfl ?_
          refine aops_store (encTRelease x19) [(encTRelease x19)] tS42 wants_none rfl rfl rfl rfl rfl rfl rfl rfl ?_
          refine aa (bV true) rfl rfl ?_
          refine an ?_
          exact ⟨(true, x19.Version, x19.Day, x19.Exposures), h, (ghost_ren 3 (fun i => ([0, 1, 2] : List Nat).getD i 0) _ _ (by decide) (EnvSub.get (.cons (Sub.imm (Imm.con _)) (.cons (Sub.ptr rfl rfl) (.cons (Sub.ptr rfl rfl) (.cons (Sub.ptr rfl rfl) (.cons (Sub.imm (Imm.con _)) (.cons (Sub.imm (Imm.lst _ _)) (.cons (Sub.imm (Imm.con _)) (.cons (Sub.imm (Imm.con _)) .nil))))))))) (HpSub.get (.cons rfl (ObSub.box (.cons (Sub.imm (Imm.con _)) (.cons (Sub.imm (Imm.lst _ _)) (.cons (Sub.imm (Imm.lst _ _)) (.cons (Sub.imm (Imm.con _)) .nil))))) (.cons rfl (ObSub.box (.cons (Sub.imm (Imm.con _)) (.cons (Sub.imm (Imm.con _)) (.cons (Sub.imm (Imm.con _)) .nil)))) (.cons rfl (ObSub.box (.cons (Sub.imm (Imm.con _)) (.cons (Sub.imm (Imm.con _)) (.cons (Sub.imm (Imm.lst _ _)) .nil)))) .nil)))) rfl)⟩
        replace h := ite_f hb26 h
        refine awp_skip ?_
        exact ⟨(b13, s15, n16, l17), h, (ghost_ren 3 (fun i => ([0, 1, 2] : List Nat).getD i 0) _ _ (by decide) (EnvSub.get (.cons (Sub.imm (Imm.con _)) (.cons (Sub.ptr rfl rfl) (.cons (Sub.ptr rfl rfl) (.cons (Sub.ptr rfl rfl) (.cons (Sub.imm (Imm.con _)) (.cons (Sub.imm (Imm.lst _ _)) (.cons (Sub.imm (Imm.con _)) (.cons (Sub.imm (Imm.con _)) .nil))))))))) (HpSub.get (.cons rfl (ObSub.box (.cons (Sub.imm (Imm.con _)) (.cons (Sub.imm (Imm.lst _ _)) (.cons (Sub.imm (Imm.lst _ _)) (.cons (Sub.imm (Imm.con _)) .nil))))) (.cons rfl (ObSub.box (.cons (Sub.imm (Imm.con _)) (.cons (Sub.imm (Imm.con _)) (.cons (Sub.imm (Imm.con _)) .nil)))) (.cons rfl (ObSub.box (.cons (Sub.imm (Imm.con _)) (.cons (Sub.imm (Imm.con _)) (.cons (Sub.imm (Imm.lst _ _)) .nil)))) .nil)))) rfl)⟩
      clear h
      rintro ⟨b22, s23, n24, l25⟩ h
      subst hk21
      refine rg ?_
      refine aops_bin (.int .i64 (w64 (n14 + 1))) wants_none rfl rfl rfl rfl ?_
      refine am (iV (w64 (n14 + 1))) rfl rfl ?_
      refine an ?_
      exact awp_back (ih1 (b22, (w64 (n14 + 1)), s23, n24, l25) (hk1 _ h)) (ghost_ren 3 (fun i => ([0, 1, 2] : List Nat).getD i 0) _ _ (by decide) (EnvSub.get (.cons (Sub.imm (Imm.con _)) (.cons (Sub.ptr rfl rfl) (.cons (Sub.ptr rfl rfl) (.cons (Sub.ptr rfl rfl) (.cons (Sub.imm (Imm.con _)) (.cons (Sub.imm (Imm.lst _ _)) (.cons (Sub.imm (Imm.con _)) (.cons (Sub.imm (Imm.con _)) .nil))))))))) (HpSub.get (.cons rfl (ObSub.box (.cons (Sub.imm (Imm.con _)) (.cons (Sub.imm (Imm.lst _ _)) (.cons (Sub.imm (Imm.lst _ _)) (.cons (Sub.imm (Imm.con _)) .nil))))) (.cons rfl (ObSub.box (.cons (Sub.imm (Imm.con _)) (.cons (Sub.imm (Imm.con _)) (.cons (Sub.imm (Imm.con _)) .nil)))) (.cons rfl (ObSub.box (.cons (Sub.imm (Imm.con _)) (.cons (Sub.imm (Imm.con _)) (.cons (Sub.imm (Imm.lst _ _)) .nil)))) .nil)))) rfl)
    replace h := RG.f h hb18
    unfold M89_L1 at h
    refine awp_exit ?_
    exact ⟨(b13, s15, n16, l17), h, (ghost_ren 3 (fun i => ([0, 1, 2] : List Nat).getD i 0) _ _ (by decide) (EnvSub.get (.cons (Sub.imm (Imm.con _)) (.cons (Sub.ptr rfl rfl) (.cons (Sub.ptr rfl rfl) (.cons (Sub.ptr rfl rfl) (.cons (Sub.imm (Imm.con _)) .nil)))))) (HpSub.get (.cons rfl (ObSub.box (.cons (Sub.imm (Imm.con _)) (.cons (Sub.imm (Imm.lst _ _)) (.cons (Sub.imm (Imm.lst _ _)) (.cons (Sub.imm (Imm.con _)) .nil))))) (.cons rfl (ObSub.box (.cons (Sub.imm (Imm.con _)) (.cons (Sub.imm (Imm.con _)) (.cons (Sub.imm (Imm.con _)) .nil)))) (.cons rfl (ObSub.box (.cons (Sub.imm (Imm.con _)) (.cons (Sub.imm (Imm.con _)) (.cons (Sub.imm (Imm.lst _ _)) .nil)))) .nil)))) rfl)⟩
  clear h
  rintro ⟨b4, s5, n6, l7⟩ h
  subst hk3
  refine sq ?_
  refine sr ?_
  refine am (bV b4) rfl rfl ?_
  refine aops_not wants_none rfl rfl ?_
  refine am (bV (!b4)) rfl rfl ?_
  rcases Bool.eq_false_or_eq_true (!b4) with hb28 | hb28
  · replace h := ite_t hb28 h
    refine aops_skips 4 2 26 false (c := (!b4)) (b := true) rfl rfl hb28 rfl rfl ?_
    refine aops_pick true (cb := (!b4)) (bV true) wants_none rfl hb28 rfl rfl ?_
    refine an ?_
    refine awp_cond_t rfl rfl ?_
    refine sr ?_
    refine aops_build [] [(sV ([] : List UInt8)), (iV 0), nV] tZ42 tPl42 rfl wants_none evp_nil rfl rfl ?_
    refine aops_store [(sV ([] : List UInt8)), (iV 0), nV] [[(sV ([] : List UInt8)), (iV 0), nV]] tS42 wants_none rfl rfl rfl rfl rfl rfl rfl rfl ?_
    refine aa (bV false) rfl rfl ?_
    refine an ?_
    refine awp_ghost (ghost_tellC 1 (Ob.arr 42 3 [[(sV ([] : List UInt8)), (iV 0), (V.lst 3 (([] : List TExposure).map encTExposure))]]) rfl (ObSub.box (.cons Sub.keepI (.cons Sub.keepI (.cons (Sub.nil _) .nil))))) ?_
    refine awp_ret ?_
    obtain rfl := Option.some.inj h
    exact ⟨.inl rfl, .two (.agg tA42 rfl rfl rfl rfl rfl (.cons (Imm.con _) (.cons (Imm.con _) (.cons (Imm.lst _ _) .nil)))) (.tmp rfl (Imm.con _))⟩
  replace h := ite_f hb28 h
  refine aops_move (iV a2) (wants_some (c := (!b4)) (b := false) 26 rfl rfl hb28) rfl rfl ?_
  refine aops_fieldAddr tF52_3 (wants_some (c := (!b4)) (b := false) 26 rfl rfl hb28) rfl rfl ?_
  refine aops_load_cell (iV a1.Until) tC3 (wants_some (c := (!b4)) (b := false) 26 rfl rfl hb28) rfl rfl rfl rfl rfl ?_
  refine aops_bin (.bool (decide (a2 ≥ a1.Until))) (wants_some (c := (!b4)) (b := false) 26 rfl rfl hb28) rfl rfl rfl rfl ?_
  refine aops_pick false (cb := (!b4)) (bV (decide (a2 ≥ a1.Until))) wants_none rfl hb28 rfl rfl ?_
  refine an ?_
  refine awp_cond (decide (a2 ≥ a1.Until)) rfl (fun hb29 => ?_) (fun hb29 => ?_)
  · replace h := ite_t hb29 h
    refine sr ?_
    refine aops_build [] [(sV ([] : List UInt8)), (iV 0), nV] tZ42 tPl42 rfl wants_none evp_nil rfl rfl ?_
    refine aops_store [(sV ([] : List UInt8)), (iV 0), nV] [[(sV ([] : List UInt8)), (iV 0), nV]] tS42 wants_none rfl rfl rfl rfl rfl rfl rfl rfl ?_
    refine aa (bV false) rfl rfl ?_
    refine an ?_
    refine awp_ghost (ghost_tellC 1 (Ob.arr 42 3 [[(sV ([] : List UInt8)), (iV 0), (V.lst 3 (([] : List TExposure).map encTExposure))]]) rfl (ObSub.box (.cons Sub.keepI (.cons Sub.keepI (.cons (Sub.nil _) .nil))))) ?_
    refine awp_ret ?_
    obtain rfl := Option.some.inj h
    exact ⟨.inl rfl, .two (.agg tA42 rfl rfl rfl rfl rfl (.cons (Imm.con _) (.cons (Imm.con _) (.cons (Imm.lst _ _) .nil)))) (.tmp rfl (Imm.con _))⟩
  replace h := ite_f hb29 h
  refine awp_skip ?_
  refine sr ?_
  refine aops_load_agg (cs := [(sV s5), (iV n6), (V.lst 3 (l7.map encTExposure))]) tA42 wants_none rfl rfl rfl rfl rfl rfl ?_
  refine aops_store [(sV s5), (iV n6), (V.lst 3 (l7.map encTExposure))] [[(sV s5), (iV n6), (V.lst 3 (l7.map encTExposure))]] tS42 wants_none rfl rfl rfl rfl rfl rfl rfl rfl ?_
  refine aa (bV true) rfl rfl ?_
  refine an ?_
  refine awp_ret ?_
  obtain rfl := Option.some.inj h
  exact ⟨.inl rfl, .two (.agg tA42 rfl rfl rfl rfl rfl (.cons (Imm.con _) (.cons (Imm.con _) (.cons (Imm.lst _ _) .nil)))) (.tmp rfl (Imm.con _))⟩
theorem W90 (F : Nat) (a1 : TStory) (r : (List Thistory_piece)) (h : M90 F a1 = some r) : Pure Try.prog 90 [(V.agg (encTStory a1))] (V.lst 5 (r.map encThistory_piece)) := by
  refine pure_enter Try.func90 rfl rfl (l := [.tmp 2]) rfl rfl [(0, (V.agg (encTStory a1)))] rfl (fun w0 m0 => ?_)
  unfold M90 at h
  refine sr ?_
  refine aops_box (encTStory a1) wants_none rfl rfl rfl rfl ?_
  refine aa nV rfl rfl ?_
  refine an ?_
  refine sr ?_
  refine aops_makeMap wants_none rfl ?_
  refine aa (V.map 1) rfl rfl ?_
  refine an ?_
  refine sq ?_
  refine sr ?_
  refine aops_fieldAddr tF52_2 wants_none rfl rfl ?_
  refine aops_load_cell (V.lst 3 (a1.Known.map encTPublished)) tC50 wants_none rfl rfl rfl rfl rfl ?_
  refine aops_len (n := a1.Known.length) tIsSl50 wants_none rfl (congrArg some (List.length_map ..)) rfl ?_
  refine am (iV 0) rfl rfl ?_
  refine an ?_
  replace h := jn_elim h
  obtain ⟨k2, hk2, h⟩ := h
  refine awp_cut (fun (p : (List ((List UInt8) × TPublished))) => (⟨[(1, (V.ptr 0 4 0 0)), (3, (V.map 1))], [(0, (Ob.arr 52 4 [(encTStory a1)])), (1, (Ob.map (p.map encM9_137)))], 2⟩ : St)) (fun (p : (List ((List UInt8) × TPublished))) => k2 p = some r) ?_ ?_
  · clear hk2
    refine awp_block ?_
    refine awp_len (A := a1.Known) 16 rfl (fun hA11 => ?_)
    refine awp_loop_ind (fun (p : Int × (List ((List UInt8) × TPublished))) => (⟨[(1, (V.ptr 0 4 0 0)), (3, (V.map 1)), (16, (V.lst 3 (a1.Known.map encTPublished))), (17, (iV ((a1.Known.length : Nat) : Int))), (18, (iV (p.1)))], [(0, (Ob.arr 52 4 [(encTStory a1)])), (1, (Ob.map ((p.2).map encM9_137)))], 2⟩ : St)) (fun n (p : Int × (List ((List UInt8) × TPublished))) => RG a1.Known (fun tl nn => M90_L1 F k2 tl p.2 = some r) n p.1) (fun p h => RG.zero h) (fun n ih1 p h => ?_) (a1.Known.length + 1) (0, ([] : List ((List UInt8) × TPublished))) (RG.start h) (ghost_ren 2 (fun i => ([0, 1] : List Nat).getD i 0) _ _ (by decide) (EnvSub.get (.cons (Sub.ptr rfl rfl) (.cons (Sub.map rfl rfl) (.cons (Sub.imm (Imm.lst _ _)) (.cons (Sub.imm (Imm.con _)) (.cons (Sub.imm (Imm.con _)) .nil)))))) (HpSub.get (.cons rfl (ObSub.box (.cons (Sub.imm (Imm.con _)) (.cons (Sub.imm (Imm.lst _ _)) (.cons (Sub.imm (Imm.lst _ _)) (.cons (Sub.imm (Imm.con _)) .nil))))) (.cons rfl (ObSub.maps encM9_137_imm) .nil))) rfl)
    obtain ⟨n6, m7⟩ := p
    refine awp_loop ?_
    refine sr ?_
    refine aops_bin (.bool (decide (n6 < ((a1.Known.length : Nat) : Int)))) wants_none rfl rfl rfl rfl ?_
    refine an ?_
    refine sq ?_
    refine awp_cond (decide (n6 < ((a1.Known.length : Nat) : Int))) rfl (fun hb8 => ?_) (fun hb8 => ?_)
    · obtain ⟨x9, tl, hx10, h, hk1⟩ := RG.t hA11 h hb8
      unfold M90_L1 at h
      refine awp_skip ?_
      refine sq ?_
      refine awp_block ?_
      refine sr ?_
      refine aops_index_lst (encTPublished x9) tSl50 wants_none rfl rfl (idx_some hx10).1 (idx_map encTPublished hx10) rfl ?_
      refine aops_iload_agg (cs := (encTPublished x9)) tA137 wants_none rfl rfl rfl rfl ?_
      refine aops_alloc tZ137 rfl rfl wants_none rfl ?_
      refine aops_store (encTPublished x9) [(encTPublished x9)] tS137 wants_none rfl rfl rfl rfl rfl rfl rfl rfl ?_
      refine an ?_
      refine rg ?_
      refine am (V.map 1) rfl rfl ?_
      refine aops_fieldAddr tF137_0 wants_none rfl rfl ?_
      refine aops_load_cell (sV x9.Advisory) tC9 wants_none rfl rfl rfl rfl rfl ?_
      refine aops_load_agg (cs := (encTPublished x9)) tA137 wants_none rfl rfl rfl rfl rfl rfl ?_
      refine aops_mapUpdate ((mput m7 x9.Advisory x9).map encM9_137) tMap129 tKey9 wants_none rfl rfl (.con rfl) ⟨_, rfl⟩ encM9_137_good rfl (encM9_137_puts m7 x9.Advisory x9) ?_
      refine an ?_
      refine rg ?_
      refine aops_bin (.int .i64 (w64 (n6 + 1))) wants_none rfl rfl rfl rfl ?_
      refine am (iV (w64 (n6 + 1))) rfl rfl ?_
      refine an ?_
      exact awp_back (ih1 ((w64 (n6 + 1)), (mput m7 x9.Advisory x9)) (hk1 _ h)) (ghost_ren 2 (fun i => ([0, 1] : List Nat).getD i 0) _ _ (by decide) (EnvSub.get (.cons (Sub.ptr rfl rfl) (.cons (Sub.map rfl rfl) (.cons (Sub.imm (Imm.lst _ _)) (.cons (Sub.imm (Imm.con _)) (.cons (Sub.imm (Imm.con _)) .nil)))))) (HpSub.get (.cons rfl (ObSub.box (.cons (Sub.imm (Imm.con _)) (.cons (Sub.imm (Imm.lst _ _)) (.cons (Sub.imm (Imm.lst _ _)) (.cons (Sub.imm (Imm.con _)) .nil))))) (.cons rfl (ObSub.maps encM9_137_imm) .nil))) rfl)
    replace h := RG.f h hb8
    unfold M90_L1 at h
    refine awp_exit ?_
    exact ⟨m7, h, (ghost_ren 2 (fun i => ([0, 1] : List Nat).getD i 0) _ _ (by decide) (EnvSub.get (.cons (Sub.ptr rfl rfl) (.cons (Sub.map rfl rfl) .nil))) (HpSub.get (.cons rfl (ObSub.box (.cons (Sub.imm (Imm.con _)) (.cons (Sub.imm (Imm.lst _ _)) (.cons (Sub.imm (Imm.lst _ _)) (.cons (Sub.imm (Imm.con _)) .nil))))) (.cons rfl (ObSub.maps encM9_137_imm) .nil))) rfl)⟩
  clear h
  intro m3 h
  subst hk2
  refine sr ?_
  refine aa nV rfl rfl ?_
  refine an ?_
  refine sq ?_
  refine sr ?_
  refine aops_fieldAddr tF52_1 wants_none rfl rfl ?_
  refine aops_load_cell (V.lst 3 (a1.Releases.map encTRelease)) tC49 wants_none rfl rfl rfl rfl rfl ?_
  refine aops_len (n := a1.Releases.length) tIsSl49 wants_none rfl (congrArg some (List.length_map ..)) rfl ?_
  refine am (iV 0) rfl rfl ?_
  refine an ?_
  replace h := jn_elim h
  obtain ⟨k12, hk12, h⟩ := h
  refine awp_cut (fun (p : (List Thistory_piece)) => (⟨[(6, (V.own 0 p.length))], [(0, (Ob.arr 128 5 (p.map encThistory_piece)))], 1⟩ : St)) (fun (p : (List Thistory_piece)) => k12 p = some r) ?_ ?_
  · clear hk12
    refine awp_block ?_
    refine awp_len (A := a1.Releases) 28 rfl (fun hA45 => ?_)
    refine awp_loop_ind (fun (p : Int × (List Thistory_piece)) => (⟨[(1, (V.ptr 0 4 0 0)), (3, (V.map 1)), (6, (V.own 2 (p.2).length)), (28, (V.lst 3 (a1.Releases.map encTRelease))), (29, (iV ((a1.Releases.length : Nat) : Int))), (30, (iV (p.1)))], [(0, (Ob.arr 52 4 [(encTStory a1)])), (1, (Ob.map (m3.map encM9_137))), (2, (Ob.arr 128 5 ((p.2).map encThistory_piece)))], 3⟩ : St)) (fun n (p : Int × (List Thistory_piece)) => RG a1.Releases (fun tl nn => M90_L2 F a1 m3 k12 tl nn p.2 = some r) n p.1) (fun p h => RG.zero h) (fun n ih2 p h => ?_) (a1.Releases.length + 1) (0, ([] : List Thistory_piece)) (RG.start h) (Ghost.trans (ghost_nilE 6 128 5 rfl) (ghost_ren 3 (fun i => ([0, 1, 2] : List Nat).getD i 0) _ _ (by decide) (EnvSub.get (.cons (Sub.ptr rfl rfl) (.cons (Sub.map rfl rfl) (.cons (Sub.ownE rfl rfl (by simp)) (.cons (Sub.imm (Imm.lst _ _)) (.cons (Sub.imm (Imm.con _)) (.cons (Sub.imm (Imm.con _)) .nil))))))) (HpSub.get (.cons rfl (ObSub.box (.cons (Sub.imm (Imm.con _)) (.cons (Sub.imm (Imm.lst _ _)) (.cons (Sub.imm (Imm.lst _ _)) (.cons (Sub.imm (Imm.con _)) .nil))))) (.cons rfl (ObSub.maps encM9_137_imm) (.cons rfl (ObSub.rows (rows_imm imms_encThistory_piece)) .nil)))) rfl))
    obtain ⟨n16, l17⟩ := p
    refine awp_loop ?_
    refine sr ?_
    refine aops_bin (.bool (decide (n16 < ((a1.Releases.length : Nat) : Int)))) wants_none rfl rfl rfl rfl ?_
    refine an ?_
    refine sq ?_
    refine awp_cond (decide (n16 < ((a1.Releases.length : Nat) : Int))) rfl (fun hb18 => ?_) (fun hb18 => ?_)
    · obtain ⟨x21, tl, hx22, h, hk2⟩ := RG.t hA45 h hb18
      unfold M90_L2 at h
      refine awp_skip ?_
      refine sq ?_
      replace h := jn_elim h
      obtain ⟨k19, hk19, h⟩ := h
      refine awp_cut (fun (p : (List Thistory_piece)) => (⟨[(1, (V.ptr 0 4 0 0)), (3, (V.map 1)), (6, (V.own 2 p.length)), (28, (V.lst 3 (a1.Releases.map encTRelease))), (29, (iV ((a1.Releases.length : Nat) : Int))), (30, (iV n16))], [(0, (Ob.arr 52 4 [(encTStory a1)])), (1, (Ob.map (m3.map encM9_137))), (2, (Ob.arr 128 5 (p.map encThistory_piece)))], 3⟩ : St)) (fun (p : (List Thistory_piece)) => k19 p = some r) ?_ ?_
      · clear hk19
        refine awp_block ?_
        refine sr ?_
        refine am (iV n16) rfl rfl ?_
        refine aops_index_lst (encTRelease x21) tSl49 wants_none rfl rfl (idx_some hx22).1 (idx_map encTRelease hx22) rfl ?_
        refine aops_iload_agg (cs := (encTRelease x21)) tA42 wants_none rfl rfl rfl rfl ?_
        refine aops_alloc tZ42 rfl rfl wants_none rfl ?_
        refine aa (iV n16) rfl rfl ?_
        refine aops_store (encTRelease x21) [(encTRelease x21)] tS42 wants_none rfl rfl rfl rfl rfl rfl rfl rfl ?_
        refine an ?_
        refine sr ?_
        refine aops_fieldAddr tF52_3 wants_none rfl rfl ?_
        refine aops_load_cell (iV a1.Until) tC3 wants_none rfl rfl rfl rfl rfl ?_
        refine aa (iV a1.Until) rfl rfl ?_
        refine an ?_
        refine sq ?_
        refine sr ?_
        refine am (iV n16) rfl rfl ?_
        refine aops_bin (.int .i64 (w64 (n16 + 1))) wants_none rfl rfl rfl rfl ?_
        refine aops_fieldAddr tF52_1 wants_none rfl rfl ?_
        refine aops_load_cell (V.lst 3 (a1.Releases.map encTRelease)) tC49 wants_none rfl rfl rfl rfl rfl ?_
        refine aops_len (n := a1.Releases.length) tIsSl49 wants_none rfl (congrArg some (List.length_map ..)) rfl ?_
        refine aops_bin (.bool (decide ((w64 (n16 + 1)) < ((a1.Releases.length : Nat) : Int)))) wants_none rfl rfl rfl rfl ?_
        refine an ?_
        replace h := jn_elim h
        obtain ⟨k23, hk23, h⟩ := h
        refine awp_cut (fun (p : Int) => (⟨[(1, (V.ptr 0 4 0 0)), (3, (V.map 1)), (6, (V.own 2 l17.length)), (8, (V.ptr 3 3 0 0)), (9, (iV p)), (28, (V.lst 3 (a1.Releases.map encTRelease))), (29, (iV ((a1.Releases.length : Nat) : Int))), (30, (iV n16))], [(0, (Ob.arr 52 4 [(encTStory a1)])), (1, (Ob.map (m3.map encM9_137))), (2, (Ob.arr 128 5 (l17.map encThistory_piece))), (3, (Ob.arr 42 3 [(encTRelease x21)]))], 4⟩ : St)) (fun (p : Int) => k23 p = some r) ?_ ?_
        · clear hk23
          refine awp_cond (decide ((w64 (n16 + 1)) < ((a1.Releases.length : Nat) : Int))) rfl (fun hb25 => ?_) (fun hb25 => ?_)
          · replace h := ite_t hb25 h
            refine rg ?_
            refine aops_fieldAddr tF52_1 wants_none rfl rfl ?_
            refine aops_load_cell (V.lst 3 (a1.Releases.map encTRelease)) tC49 wants_none rfl rfl rfl rfl rfl ?_
            refine am (iV n16) rfl rfl ?_
            refine aops_bin (.int .i64 (w64 (n16 + 1))) wants_none rfl rfl rfl rfl ?_
            replace h := bind_some h
            obtain ⟨x26, hx27, h⟩ := h
            refine aops_index_lst (encTRelease x26) tSl49 wants_none rfl rfl (idx_some hx27).1 (idx_map encTRelease hx27) rfl ?_
            refine aops_ifieldAddr tF42_1 wants_none rfl rfl ?_
            refine aops_iload_cell (iV x26.Day) tC3 wants_none rfl rfl rfl ?_
            refine aa (iV x26.Day) rfl rfl ?_
            refine an ?_
            exact ⟨x26.Day, h, (ghost_ren 4 (fun i => ([0, 1, 2, 3] : List Nat).getD i 0) _ _ (by decide) (EnvSub.get (.cons (Sub.ptr rfl rfl) (.cons (Sub.map rfl rfl) (.cons (Sub.own rfl rfl) (.cons (Sub.ptr rfl rfl) (.cons (Sub.imm (Imm.con _)) (.cons (Sub.imm (Imm.lst _ _)) (.cons (Sub.imm (Imm.con _)) (.cons (Sub.imm (Imm.con _)) .nil))))))))) (HpSub.get (.cons rfl (ObSub.box (.cons (Sub.imm (Imm.con _)) (.cons (Sub.imm (Imm.lst _ _)) (.cons (Sub.imm (Imm.lst _ _)) (.cons (Sub.imm (Imm.con _)) .nil))))) (.cons rfl (ObSub.maps encM9_137_imm) (.cons rfl (ObSub.rows (rows_imm imms_encThistory_piece)) (.cons rfl (ObSub.box (.cons (Sub.imm (Imm.con _)) (.cons (Sub.imm (Imm.con _)) (.cons (Sub.imm (Imm.lst _ _)) .nil)))) .nil))))) rfl)⟩
          replace h := ite_f hb25 h
          refine awp_skip ?_
          exact ⟨a1.Until, h, (ghost_ren 4 (fun i => ([0, 1, 2, 3] : List Nat).getD i 0) _ _ (by decide) (EnvSub.get (.cons (Sub.ptr rfl rfl) (.cons (Sub.map rfl rfl) (.cons (Sub.own rfl rfl) (.cons (Sub.ptr rfl rfl) (.cons (Sub.imm (Imm.con _)) (.cons (Sub.imm (Imm.lst _ _)) (.cons (Sub.imm (Imm.con _)) (.cons (Sub.imm (Imm.con _)) .nil))))))))) (HpSub.get (.cons rfl (ObSub.box (.cons (Sub.imm (Imm.con _)) (.cons (Sub.imm (Imm.lst _ _)) (.cons (Sub.imm (Imm.lst _ _)) (.cons (Sub.imm (Imm.con _)) .nil))))) (.cons rfl (ObSub.maps encM9_137_imm) (.cons rfl (ObSub.rows (rows_imm imms_encThistory_piece)) (.cons rfl (ObSub.box (.cons (Sub.imm (Imm.con _)) (.cons (Sub.imm (Imm.con _)) (.cons (Sub.imm (Imm.lst _ _)) .nil)))) .nil))))) rfl)⟩
        clear h
        intro n24 h
        subst hk23
        refine sr ?_
        refine aops_fieldAddr tF42_2 wants_none rfl rfl ?_
        refine aops_load_cell (V.lst 3 (x21.Exposures.map encTExposure)) tC40 wants_none rfl rfl rfl rfl rfl ?_
        refine aops_len (n := x21.Exposures.length) tIsSl40 wants_none rfl (congrArg some (List.length_map ..)) rfl ?_
        refine am (iV 0) rfl rfl ?_
        refine an ?_
        replace h := jn_elim h
        obtain ⟨k28, hk28, h⟩ := h
        refine awp_cut (fun (p : (List Thistory_piece)) => (⟨[(1, (V.ptr 0 4 0 0)), (3, (V.map 1)), (6, (V.own 2 p.length)), (28, (V.lst 3 (a1.Releases.map encTRelease))), (29, (iV ((a1.Releases.length : Nat) : Int))), (30, (iV n16))], [(0, (Ob.arr 52 4 [(encTStory a1)])), (1, (Ob.map (m3.map encM9_137))), (2, (Ob.arr 128 5 (p.map encThistory_piece)))], 3⟩ : St)) (fun (p : (List Thistory_piece)) => k28 p = some r) ?_ ?_
        · clear hk28
          refine awp_block ?_
          refine awp_len (A := x21.Exposures) 51 rfl (fun hA44 => ?_)
          refine awp_loop_ind (fun (p : Int × (List Thistory_piece)) => (⟨[(1, (V.ptr 0 4 0 0)), (3, (V.map 1)), (6, (V.own 2 (p.2).length)), (8, (V.ptr 3 3 0 0)), (9, (iV n24)), (28, (V.lst 3 (a1.Releases.map encTRelease))), (29, (iV ((a1.Releases.length : Nat) : Int))), (30, (iV n16)), (51, (V.lst 3 (x21.Exposures.map encTExposure))), (52, (iV ((x21.Exposures.length : Nat) : Int))), (53, (iV (p.1)))], [(0, (Ob.arr 52 4 [(encTStory a1)])), (1, (Ob.map (m3.map encM9_137))), (2, (Ob.arr 128 5 ((p.2).map encThistory_piece))), (3, (Ob.arr 42 3 [(encTRelease x21)]))], 4⟩ : St)) (fun n (p : Int × (List Thistory_piece)) => RG x21.Exposures (fun tl nn => M90_L3 F m3 x21 n24 k28 tl p.2 = some r) n p.1) (fun p h => RG.zero h) (fun n ih3 p h => ?_) (x21.Exposures.length + 1) (0, l17) (RG.start h) (ghost_ren 4 (fun i => ([0, 1, 2, 3] : List Nat).getD i 0) _ _ (by decide) (EnvSub.get (.cons (Sub.ptr rfl rfl) (.cons (Sub.map rfl rfl) (.cons (Sub.own rfl rfl) (.cons (Sub.ptr rfl rfl) (.cons (Sub.imm (Imm.con _)) (.cons (Sub.imm (Imm.lst _ _)) (.cons (Sub.imm (Imm.con _)) (.cons (Sub.imm (Imm.con _)) (.cons (Sub.imm (Imm.lst _ _)) (.cons (Sub.imm (Imm.con _)) (.cons (Sub.imm (Imm.con _)) .nil)))))))))))) (HpSub.get (.cons rfl (ObSub.box (.cons (Sub.imm (Imm.con _)) (.cons (Sub.imm (Imm.lst _ _)) (.cons (Sub.imm (Imm.lst _ _)) (.cons (Sub.imm (Imm.con _)) .nil))))) (.cons rfl (ObSub.maps encM9_137_imm) (.cons rfl (ObSub.rows (rows_imm imms_encThistory_piece)) (.cons rfl (ObSub.box (.cons (Sub.imm (Imm.con _)) (.cons (Sub.imm (Imm.con _)) (.cons (Sub.imm (Imm.lst _ _)) .nil)))) .nil))))) rfl)
          obtain ⟨n32, l33⟩ := p
          refine awp_loop ?_
          refine sr ?_
          refine aops_bin (.bool (decide (n32 < ((x21.Exposures.length : Nat) : Int)))) wants_none rfl rfl rfl rfl ?_
          refine an ?_
          refine sq ?_
          refine awp_cond (decide (n32 < ((x21.Exposures.length : Nat) : Int))) rfl (fun hb34 => ?_) (fun hb34 => ?_)
          · obtain ⟨x35, tl, hx36, h, hk3⟩ := RG.t hA44 h hb34
            unfold M90_L3 at h
            refine awp_skip ?_
            refine sq ?_
            refine awp_block ?_
            refine sr ?_
            refine aops_index_lst (encTExposure x35) tSl40 wants_none rfl rfl (idx_some hx36).1 (idx_map encTExposure hx36) rfl ?_
            refine aops_iload_agg (cs := (encTExposure x35)) tA47 wants_none rfl rfl rfl rfl ?_
            refine aops_alloc tZ47 rfl rfl wants_none rfl ?_
            refine aops_store (encTExposure x35) [(encTExposure x35)] tS47 wants_none rfl rfl rfl rfl rfl rfl rfl rfl ?_
            refine an ?_
            refine sr ?_
            refine am (V.map 1) rfl rfl ?_
            refine aops_fieldAddr tF47_0 wants_none rfl rfl ?_
            refine aops_load_cell (sV x35.Advisory) tC9 wants_none rfl rfl rfl rfl rfl ?_
            refine aops_lookup _ (V.agg [(sV ([] : List UInt8)), (iV 0), (iV 0)]) (V.agg (encTPublished ((mget m3 x35.Advisory).getD (TPublished.mk ([] : List UInt8) 0 0)))) tMap129 tKey9 tZo137 (irel_conAgg [str ([] : List UInt8), .int .i64 0, .int .i64 0]) wants_none rfl (.own rfl) (.con rfl) ⟨_, rfl⟩ encM9_137_good (encM9_137_look m3 x35.Advisory) (getD_map (encM9_137_val) (mget m3 x35.Advisory) (TPublished.mk ([] : List UInt8) 0 0)) rfl ?_
            refine aops_alloc tZ137 rfl rfl wants_none rfl ?_
            refine aops_store (encTPublished ((mget m3 x35.Advisory).getD (TPublished.mk ([] : List UInt8) 0 0))) [(encTPublished ((mget m3 x35.Advisory).getD (TPublished.mk ([] : List UInt8) 0 0)))] tS137 wants_none rfl rfl rfl rfl rfl rfl rfl rfl ?_
            refine an ?_
            refine sr ?_
            refine aops_load_agg (cs := (encTExposure x35)) tA47 wants_none rfl rfl rfl rfl rfl rfl ?_
            refine aops_fieldAddr tF42_1 wants_none rfl rfl ?_
            refine aops_load_cell (iV x21.Day) tC3 wants_none rfl rfl rfl rfl rfl ?_
            refine aops_fieldAddr tF137_1 wants_none rfl rfl ?_
            refine aops_load_cell (iV ((mget m3 x35.Advisory).getD (TPublished.mk ([] : List UInt8) 0 0)).Day) tC3 wants_none rfl rfl rfl rfl rfl ?_
            refine aops_max wants_none rfl rfl rfl ?_
            refine am (iV n24) rfl rfl ?_
            refine aops_build [(0, (V.agg (encTExposure x35))), (1, (iV (if ((mget m3 x35.Advisory).getD (TPublished.mk ([] : List UInt8) 0 0)).Day > x21.Day then ((mget m3 x35.Advisory).getD (TPublished.mk ([] : List UInt8) 0 0)).Day else x21.Day))), (2, (iV n24))] [(sV x35.Advisory), (sV x35.Component), (iV x35.Severity), (iV (if ((mget m3 x35.Advisory).getD (TPublished.mk ([] : List UInt8) 0 0)).Day > x21.Day then ((mget m3 x35.Advisory).getD (TPublished.mk ([] : List UInt8) 0 0)).Day else x21.Day)), (iV n24)] tZ128 tPl128 rfl wants_none (evp_cons rfl (evp_cons rfl (evp_cons rfl evp_nil))) rfl rfl ?_
            refine aops_alloc tZ128 rfl rfl wants_none rfl ?_
            refine aops_store [(sV x35.Advisory), (sV x35.Component), (iV x35.Severity), (iV (if ((mget m3 x35.Advisory).getD (TPublished.mk ([] : List UInt8) 0 0)).Day > x21.Day then ((mget m3 x35.Advisory).getD (TPublished.mk ([] : List UInt8) 0 0)).Day else x21.Day)), (iV n24)] [[(sV x35.Advisory), (sV x35.Component), (iV x35.Severity), (iV (if ((mget m3 x35.Advisory).getD (TPublished.mk ([] : List UInt8) 0 0)).Day > x21.Day then ((mget m3 x35.Advisory).getD (TPublished.mk ([] : List UInt8) 0 0)).Day else x21.Day)), (iV n24)]] tS128 wants_none rfl rfl rfl rfl rfl rfl rfl rfl ?_
            refine an ?_
            refine sq ?_
            refine sr ?_
            refine aops_fieldAddr tF137_2 wants_none rfl rfl ?_
            refine aops_load_cell (iV ((mget m3 x35.Advisory).getD (TPublished.mk ([] : List UInt8) 0 0)).Ended) tC3 wants_none rfl rfl rfl rfl rfl ?_
            refine aops_bin (.bool (decide (((mget m3 x35.Advisory).getD (TPublished.mk ([] : List UInt8) 0 0)).Ended ≥ 0))) wants_none rfl rfl rfl rfl ?_
            refine an ?_
            replace h := jn_elim h
            obtain ⟨k37, hk37, h⟩ := h
            refine awp_cut (fun (p : Int) => (⟨[(1, (V.ptr 0 4 0 0)), (3, (V.map 1)), (6, (V.own 2 l33.length)), (8, (V.ptr 3 3 0 0)), (9, (iV n24)), (13, (V.ptr 4 5 0 0)), (28, (V.lst 3 (a1.Releases.map encTRelease))), (29, (iV ((a1.Releases.length : Nat) : Int))), (30, (iV n16)), (51, (V.lst 3 (x21.Exposures.map encTExposure))), (52, (iV ((x21.Exposures.length : Nat) : Int))), (53, (iV n32))], [(0, (Ob.arr 52 4 [(encTStory a1)])), (1, (Ob.map (m3.map encM9_137))), (2, (Ob.arr 128 5 (l33.map encThistory_piece))), (3, (Ob.arr 42 3 [(encTRelease x21)])), (4, (Ob.arr 128 5 [[(sV x35.Advisory), (sV x35.Component), (iV x35.Severity), (iV (if ((mget m3 x35.Advisory).getD (TPublished.mk ([] : List UInt8) 0 0)).Day > x21.Day then ((mget m3 x35.Advisory).getD (TPublished.mk ([] : List UInt8) 0 0)).Day else x21.Day)), (iV p)]]))], 5⟩ : St)) (fun (p : Int) => k37 p = some r) ?_ ?_
            · clear hk37
              refine awp_cond (decide (((mget m3 x35.Advisory).getD (TPublished.mk ([] : List UInt8) 0 0)).Ended ≥ 0)) rfl (fun hb39 => ?_) (fun hb39 => ?_)
              · replace h := ite_t hb39 h
                refine rg ?_
                refine am (iV n24) rfl rfl ?_
                refine aops_fieldAddr tF137_2 wants_none rfl rfl ?_
                refine aops_load_cell (iV ((mget m3 x35.Advisory).getD (TPublished.mk ([] : List UInt8) 0 0)).Ended) tC3 wants_none rfl rfl rfl rfl rfl ?_
                refine aops_min wants_none rfl rfl rfl ?_
                refine aops_fieldAddr tF128_2 wants_none rfl rfl ?_
                refine aops_store [(iV (if ((mget m3 x35.Advisory).getD (TPublished.mk ([] : List UInt8) 0 0)).Ended < n24 then ((mget m3 x35.Advisory).getD (TPublished.mk ([] : List UInt8) 0 0)).Ended else n24))] [[(sV x35.Advisory), (sV x35.Component), (iV x35.Severity), (iV (if ((mget m3 x35.Advisory).getD (TPublished.mk ([] : List UInt8) 0 0)).Day > x21.Day then ((mget m3 x35.Advisory).getD (TPublished.mk ([] : List UInt8) 0 0)).Day else x21.Day)), (iV (if ((mget m3 x35.Advisory).getD (TPublished.mk ([] : List UInt8) 0 0)).Ended < n24 then ((mget m3 x35.Advisory).getD (TPublished.mk ([] : List UInt8) 0 0)).Ended else n24))]] tS3 wants_none rfl rfl rfl rfl rfl rfl rfl rfl ?_
                refine an ?_
                exact ⟨(if ((mget m3 x35.Advisory).getD (TPublished.mk ([] : List UInt8) 0 0)).Ended < n24 then ((mget m3 x35.Advisory).getD (TPublished.mk ([] : List UInt8) 0 0)).Ended else n24), h, (ghost_ren 5 (fun i => ([0, 1, 2, 3, 6] : List Nat).getD i 0) _ _ (by decide) (EnvSub.get (.cons (Sub.ptr rfl rfl) (.cons (Sub.map rfl rfl) (.cons (Sub.own rfl rfl) (.cons (Sub.ptr rfl rfl) (.cons (Sub.imm (Imm.con _)) (.cons (Sub.ptr rfl rfl) (.cons (Sub.imm (Imm.lst _ _)) (.cons (Sub.imm (Imm.con _)) (.cons (Sub.imm (Imm.con _)) (.cons (Sub.imm (Imm.lst _ _)) (.cons (Sub.imm (Imm.con _)) (.cons (Sub.imm (Imm.con _)) .nil))))))))))))) (HpSub.get (.cons rfl (ObSub.box (.cons (Sub.imm (Imm.con _)) (.cons (Sub.imm (Imm.lst _ _)) (.cons (Sub.imm (Imm.lst _ _)) (.cons (Sub.imm (Imm.con _)) .nil))))) (.cons rfl (ObSub.maps encM9_137_imm) (.cons rfl (ObSub.rows (rows_imm imms_encThistory_piece)) (.cons rfl (ObSub.box (.cons (Sub.imm (Imm.con _)) (.cons (Sub.imm (Imm.con _)) (.cons (Sub.imm (Imm.lst _ _)) .nil)))) (.cons rfl (ObSub.box (.cons (Sub.imm (Imm.con _)) (.cons (Sub.imm (Imm.con _)) (.cons (Sub.imm (Imm.con _)) (.cons (Sub.imm (Imm.con _)) (.cons (Sub.imm (Imm.con _)) .nil)))))) .nil)))))) rfl)⟩
              replace h := ite_f hb39 h
              refine awp_skip ?_
              exact ⟨n24, h, (ghost_ren 5 (fun i => ([0, 1, 2, 3, 6] : List Nat).getD i 0) _ _ (by decide) (EnvSub.get (.cons (Sub.ptr rfl rfl) (.cons (Sub.map rfl rfl) (.cons (Sub.own rfl rfl) (.cons (Sub.ptr rfl rfl) (.cons (Sub.imm (Imm.con _)) (.cons (Sub.ptr rfl rfl) (.cons (Sub.imm (Imm.lst _ _)) (.cons (Sub.imm (Imm.con _)) (.cons (Sub.imm (Imm.con _)) (.cons (Sub.imm (Imm.lst _ _)) (.cons (Sub.imm (Imm.con _)) (.cons (Sub.imm (Imm.con _)) .nil))))))))))))) (HpSub.get (.cons rfl (ObSub.box (.cons (Sub.imm (Imm.con _)) (.cons (Sub.imm (Imm.lst _ _)) (.cons (Sub.imm (Imm.lst _ _)) (.cons (Sub.imm (Imm.con _)) .nil))))) (.cons rfl (ObSub.maps encM9_137_imm) (.cons rfl (ObSub.rows (rows_imm imms_encThistory_piece)) (.cons rfl (ObSub.box (.cons (Sub.imm (Imm.con _)) (.cons (Sub.imm (Imm.con _)) (.cons (Sub.imm (Imm.lst _ _)) .nil)))) (.cons rfl (ObSub.box (.cons (Sub.imm (Imm.con _)) (.cons (Sub.imm (Imm.con _)) (.cons (Sub.imm (Imm.con _)) (.cons (Sub.imm (Imm.con _)) (.cons (Sub.imm (Imm.con _)) .nil)))))) .nil)))))) rfl)⟩
            clear h
            intro n38 h
            subst hk37
            refine sr ?_
            refine aops_fieldAddr tF128_1 wants_none rfl rfl ?_
            refine aops_load_cell (iV (if ((mget m3 x35.Advisory).getD (TPublished.mk ([] : List UInt8) 0 0)).Day > x21.Day then ((mget m3 x35.Advisory).getD (TPublished.mk ([] : List UInt8) 0 0)).Day else x21.Day)) tC3 wants_none rfl rfl rfl rfl rfl ?_
            refine aops_fieldAddr tF128_2 wants_none rfl rfl ?_
            refine aops_load_cell (iV n38) tC3 wants_none rfl rfl rfl rfl rfl ?_
            refine aops_bin (.bool (decide ((if ((mget m3 x35.Advisory).getD (TPublished.mk ([] : List UInt8) 0 0)).Day > x21.Day then ((mget m3 x35.Advisory).getD (TPublished.mk ([] : List UInt8) 0 0)).Day else x21.Day) < n38))) wants_none rfl rfl rfl rfl ?_
            refine an ?_
            replace h := jn_elim h
            obtain ⟨k40, hk40, h⟩ := h
            refine awp_cut (fun (p : (List Thistory_piece)) => (⟨[(1, (V.ptr 0 4 0 0)), (3, (V.map 1)), (6, (V.own 2 p.length)), (8, (V.ptr 3 3 0 0)), (9, (iV n24)), (28, (V.lst 3 (a1.Releases.map encTRelease))), (29, (iV ((a1.Releases.length : Nat) : Int))), (30, (iV n16)), (51, (V.lst 3 (x21.Exposures.map encTExposure))), (52, (iV ((x21.Exposures.length : Nat) : Int))), (53, (iV n32))], [(0, (Ob.arr 52 4 [(encTStory a1)])), (1, (Ob.map (m3.map encM9_137))), (2, (Ob.arr 128 5 (p.map encThistory_piece))), (3, (Ob.arr 42 3 [(encTRelease x21)]))], 4⟩ : St)) (fun (p : (List Thistory_piece)) => k40 p = some r) ?_ ?_
            · clear hk40
              refine awp_cond (decide ((if ((mget m3 x35.Advisory).getD (TPublished.mk ([] : List UInt8) 0 0)).Day > x21.Day then ((mget m3 x35.Advisory).getD (TPublished.mk ([] : List UInt8) 0 0)).Day else x21.Day) < n38)) rfl (fun hb42 => ?_) (fun hb42 => ?_)
              · replace h := ite_t hb42 h
                refine rg ?_
                refine am (V.own 2 l33.length) rfl rfl ?_
                refine aops_load_agg (cs := [(sV x35.Advisory), (sV x35.Component), (iV x35.Severity), (iV (if ((mget m3 x35.Advisory).getD (TPublished.mk ([] : List UInt8) 0 0)).Day > x21.Day then ((mget m3 x35.Advisory).getD (TPublished.mk ([] : List UInt8) 0 0)).Day else x21.Day)), (iV n38)]) tA128 wants_none rfl rfl rfl rfl rfl rfl ?_
                refine aops_buildSlice [(0, (V.agg [(sV x35.Advisory), (sV x35.Component), (iV x35.Severity), (iV (if ((mget m3 x35.Advisory).getD (TPublished.mk ([] : List UInt8) 0 0)).Day > x21.Day then ((mget m3 x35.Advisory).getD (TPublished.mk ([] : List UInt8) 0 0)).Day else x21.Day)), (iV n38)]))] [[(sV x35.Advisory), (sV x35.Component), (iV x35.Severity), (iV (if ((mget m3 x35.Advisory).getD (TPublished.mk ([] : List UInt8) 0 0)).Day > x21.Day then ((mget m3 x35.Advisory).getD (TPublished.mk ([] : List UInt8) 0 0)).Day else x21.Day)), (iV n38)]] tEl125 tZ128 rfl rfl rfl rfl wants_none (evp_cons rfl evp_nil) rfl rfl (by simp) rfl ?_
                replace h := chk_some h
                obtain ⟨hc43, h⟩ := h
                refine aops_append [[(sV x35.Advisory), (sV x35.Component), (iV x35.Severity), (iV (if ((mget m3 x35.Advisory).getD (TPublished.mk ([] : List UInt8) 0 0)).Day > x21.Day then ((mget m3 x35.Advisory).getD (TPublished.mk ([] : List UInt8) 0 0)).Day else x21.Day)), (iV n38)]] ((l33 ++ ([(Thistory_piece.mk x35 (if ((mget m3 x35.Advisory).getD (TPublished.mk ([] : List UInt8) 0 0)).Day > x21.Day then ((mget m3 x35.Advisory).getD (TPublished.mk ([] : List UInt8) 0 0)).Day else x21.Day) n38)] : List Thistory_piece)).map encThistory_piece) tEl125 tIsSl125 rfl rfl wants_none rfl rfl (by simp) rfl (.own rfl (by simp)) (map_snoc encThistory_piece l33 ([(Thistory_piece.mk x35 (if ((mget m3 x35.Advisory).getD (TPublished.mk ([] : List UInt8) 0 0)).Day > x21.Day then ((mget m3 x35.Advisory).getD (TPublished.mk ([] : List UInt8) 0 0)).Day else x21.Day) n38)] : List Thistory_piece)) (List.length_map ..) hc43 rfl ?_
                refine aa (V.own 6 (l33 ++ ([(Thistory_piece.mk x35 (if ((mget m3 x35.Advisory).getD (TPublished.mk ([] : List UInt8) 0 0)).Day > x21.Day then ((mget m3 x35.Advisory).getD (TPublished.mk ([] : List UInt8) 0 0)).Day else x21.Day) n38)] : List Thistory_piece)).length) rfl rfl ?_
                refine an ?_
                exact ⟨(l33 ++ ([(Thistory_piece.mk x35 (if ((mget m3 x35.Advisory).getD (TPublished.mk ([] : List UInt8) 0 0)).Day > x21.Day then ((mget m3 x35.Advisory).getD (TPublished.mk ([] : List UInt8) 0 0)).Day else x21.Day) n38)] : List Thistory_piece)), h, (ghost_ren 4 (fun i => ([0, 1, 6, 3] : List Nat).getD i 0) _ _ (by decide) (EnvSub.get (.cons (Sub.ptr rfl rfl) (.cons (Sub.map rfl rfl) (.cons (Sub.own rfl rfl) (.cons (Sub.ptr rfl rfl) (.cons (Sub.imm (Imm.con _)) (.cons (Sub.imm (Imm.lst _ _)) (.cons (Sub.imm (Imm.con _)) (.cons (Sub.imm (Imm.con _)) (.cons (Sub.imm (Imm.lst _ _)) (.cons (Sub.imm (Imm.con _)) (.cons (Sub.imm (Imm.con _)) .nil)))))))))))) (HpSub.get (.cons rfl (ObSub.box (.cons (Sub.imm (Imm.con _)) (.cons (Sub.imm (Imm.lst _ _)) (.cons (Sub.imm (Imm.lst _ _)) (.cons (Sub.imm (Imm.con _)) .nil))))) (.cons rfl (ObSub.maps encM9_137_imm) (.cons rfl (ObSub.rows (rows_imm imms_encThistory_piece)) (.cons rfl (ObSub.box (.cons (Sub.imm (Imm.con _)) (.cons (Sub.imm (Imm.con _)) (.cons (Sub.imm (Imm.lst _ _)) .nil)))) .nil))))) rfl)⟩
              replace h := ite_f hb42 h
              refine awp_skip ?_
              exact ⟨l33, h, (ghost_ren 4 (fun i => ([0, 1, 2, 3] : List Nat).getD i 0) _ _ (by decide) (EnvSub.get (.cons (Sub.ptr rfl rfl) (.cons (Sub.map rfl rfl) (.cons (Sub.own rfl rfl) (.cons (Sub.ptr rfl rfl) (.cons (Sub.imm (Imm.con _)) (.cons (Sub.imm (Imm.lst _ _)) (.cons (Sub.imm (Imm.con _)) (.cons (Sub.imm (Imm.con _)) (.cons (Sub.imm (Imm.lst _ _)) (.cons (Sub.imm (Imm.con _)) (.cons (Sub.imm (Imm.con _)) .nil)))))))))))) (HpSub.get (.cons rfl (ObSub.box (.cons (Sub.imm (Imm.con _)) (.cons (Sub.imm (Imm.lst _ _)) (.cons (Sub.imm (Imm.lst _ _)) (.cons (Sub.imm (Imm.con _)) .nil))))) (.cons rfl (ObSub.maps encM9_137_imm) (.cons rfl (ObSub.rows (rows_imm imms_encThistory_piece)) (.cons rfl (ObSub.box (.cons (Sub.imm (Imm.con _)) (.cons (Sub.imm (Imm.con _)) (.cons (Sub.imm (Imm.lst _ _)) .nil)))) .nil))))) rfl)⟩
            clear h
            intro l41 h
            subst hk40
            refine rg ?_
            refine aops_bin (.int .i64 (w64 (n32 + 1))) wants_none rfl rfl rfl rfl ?_
            refine am (iV (w64 (n32 + 1))) rfl rfl ?_
            refine an ?_
            exact awp_back (ih3 ((w64 (n32 + 1)), l41) (hk3 _ h)) (ghost_ren 4 (fun i => ([0, 1, 2, 3] : List Nat).getD i 0) _ _ (by decide) (EnvSub.get (.cons (Sub.ptr rfl rfl) (.cons (Sub.map rfl rfl) (.cons (Sub.own rfl rfl) (.cons (Sub.ptr rfl rfl) (.cons (Sub.imm (Imm.con _)) (.cons (Sub.imm (Imm.lst _ _)) (.cons (Sub.imm (Imm.con _)) (.cons (Sub.imm (Imm.con _)) (.cons (Sub.imm (Imm.lst _ _)) (.cons (Sub.imm (Imm.con _)) (.cons (Sub.imm (Imm.con _)) .nil)))))))))))) (HpSub.get (.cons rfl (ObSub.box (.cons (Sub.imm (Imm.con _)) (.cons (Sub.imm (Imm.lst _ _)) (.cons (Sub.imm (Imm.lst _ _)) (.cons (Sub.imm (Imm.con _)) .nil))))) (.cons rfl (ObSub.maps encM9_137_imm) (.cons rfl (ObSub.rows (rows_imm imms_encThistory_piece)) (.cons rfl (ObSub.box (.cons (Sub.imm (Imm.con _)) (.cons (Sub.imm (Imm.con _)) (.cons (Sub.imm (Imm.lst _ _)) .nil)))) .nil))))) rfl)
          replace h := RG.f h hb34
          unfold M90_L3 at h
          refine awp_exit ?_
          exact ⟨l33, h, (ghost_ren 3 (fun i => ([0, 1, 2] : List Nat).getD i 0) _ _ (by decide) (EnvSub.get (.cons (Sub.ptr rfl rfl) (.cons (Sub.map rfl rfl) (.cons (Sub.own rfl rfl) (.cons (Sub.imm (Imm.lst _ _)) (.cons (Sub.imm (Imm.con _)) (.cons (Sub.imm (Imm.con _)) .nil))))))) (HpSub.get (.cons rfl (ObSub.box (.cons (Sub.imm (Imm.con _)) (.cons (Sub.imm (Imm.lst _ _)) (.cons (Sub.imm (Imm.lst _ _)) (.cons (Sub.imm (Imm.con _)) .nil))))) (.cons rfl (ObSub.maps encM9_137_imm) (.cons rfl (ObSub.rows (rows_imm imms_encThistory_piece)) .nil)))) rfl)⟩
        clear h
        intro l29 h
        subst hk28
        exact ⟨l29, h, (ghost_ren 3 (fun i => ([0, 1, 2] : List Nat).getD i 0) _ _ (by decide) (EnvSub.get (.cons (Sub.ptr rfl rfl) (.cons (Sub.map rfl rfl) (.cons (Sub.own rfl rfl) (.cons (Sub.imm (Imm.lst _ _)) (.cons (Sub.imm (Imm.con _)) (.cons (Sub.imm (Imm.con _)) .nil))))))) (HpSub.get (.cons rfl (ObSub.box (.cons (Sub.imm (Imm.con _)) (.cons (Sub.imm (Imm.lst _ _)) (.cons (Sub.imm (Imm.lst _ _)) (.cons (Sub.imm (Imm.con _)) .nil))))) (.cons rfl (ObSub.maps encM9_137_imm) (.cons rfl (ObSub.rows (rows_imm imms_encThistory_piece)) .nil)))) rfl)⟩
      clear h
      intro l20 h
      subst hk19
      refine rg ?_
      refine aops_bin (.int .i64 (w64 (n16 + 1))) wants_none rfl rfl rfl rfl ?_
      refine am (iV (w64 (n16 + 1))) rfl rfl ?_
      refine an ?_
      exact awp_back (ih2 ((w64 (n16 + 1)), l20) (hk2 _ h)) (ghost_ren 3 (fun i => ([0, 1, 2] : List Nat).getD i 0) _ _ (by decide) (EnvSub.get (.cons (Sub.ptr rfl rfl) (.cons (Sub.map rfl rfl) (.cons (Sub.own rfl rfl) (.cons (Sub.imm (Imm.lst _ _)) (.cons (Sub.imm (Imm.con _)) (.cons (Sub.imm (Imm.con _)) .nil))))))) (HpSub.get (.cons rfl (ObSub.box (.cons (Sub.imm (Imm.con _)) (.cons (Sub.imm (Imm.lst _ _)) (.cons (Sub.imm (Imm.lst _ _)) (.cons (Sub.imm (Imm.con _)) .nil))))) (.cons rfl (ObSub.maps encM9_137_imm) (.cons rfl (ObSub.rows (rows_imm imms_encThistory_piece)) .nil)))) rfl)
    replace h := RG.f h hb18
    unfold M90_L2 at h
    refine awp_exit ?_
    exact ⟨l17, h, (ghost_ren 1 (fun i => ([2] : List Nat).getD i 0) _ _ (by decide) (EnvSub.get (.cons (Sub.own rfl rfl) .nil)) (HpSub.get (.cons rfl (ObSub.rows (rows_imm imms_encThistory_piece)) .nil)) rfl)⟩
  clear h
  intro l13 h
  subst hk12
  refine sr ?_
  refine am (V.own 0 l13.length) rfl rfl ?_
  refine aa (V.own 0 l13.length) rfl rfl ?_
  refine an ?_
  refine awp_ghost (ghost_frzE 0 2 rfl (rows_imm imms_encThistory_piece) rfl (List.length_map ..).symm) ?_
  refine awp_ret ?_
  obtain rfl := Option.some.inj h
  exact ⟨.inl rfl, .one (.tmp rfl (Imm.lst _ _))⟩
theorem W33 (F : Nat) (a1 : TStory) (a2 : Int) (r : ((List TExposure) × Int)) (h : M33 F a1 a2 = some r) : Pure Try.prog 33 [(V.agg (encTStory a1)), (iV a2)] (V.tup [(V.lst 3 ((r.1).map encTExposure)), (iV (r.2))]) := by
  refine pure_enter Try.func33 rfl rfl (l := [.tmp 4, .tmp 5]) rfl rfl [(0, (V.agg (encTStory a1))), (1, (iV a2))] rfl (fun w0 m0 => ?_)
  unfold M33 at h
  refine sr ?_
  refine aops_box (encTStory a1) wants_none rfl rfl rfl rfl ?_
  refine aa nV rfl rfl ?_
  refine aa (iV 0) rfl rfl ?_
  refine an ?_
  refine sq ?_
  refine sr ?_
  refine aops_load_agg (cs := (encTStory a1)) tA52 wants_none rfl rfl rfl rfl rfl rfl ?_
  replace h := bind_some h
  obtain ⟨y3, hx4, h⟩ := h
  refine aops_call (iV y3) [(V.agg (encTStory a1))] fOk35 wants_none (evm_cons rfl evm_nil) (.cons (Imm.agg (imms_encTStory _)) .nil) (W35 F a1 y3 hx4) rfl ?_
  refine aa (iV y3) rfl rfl ?_
  refine an ?_
  refine sr ?_
  refine am (iV y3) rfl rfl ?_
  refine aops_bin (.bool (y3 != 0)) wants_none rfl rfl rfl rfl ?_
  refine an ?_
  refine awp_cond (y3 != 0) rfl (fun hb5 => ?_) (fun hb5 => ?_)
  · replace h := ite_t hb5 h
    refine sr ?_
    refine am (iV y3) rfl rfl ?_
    refine aa nV rfl rfl ?_
    refine aa (iV y3) rfl rfl ?_
    refine an ?_
    refine awp_ghost (ghost_tell 4 (V.lst 3 (([] : List TExposure).map encTExposure)) rfl (Sub.nil _)) ?_
    refine awp_ret ?_
    obtain rfl := Option.some.inj h
    exact ⟨.inl rfl, .two (.tmp rfl (Imm.lst _ _)) (.tmp rfl (Imm.con _))⟩
  replace h := ite_f hb5 h
  refine awp_skip ?_
  refine sq ?_
  refine sr ?_
  refine am (iV a2) rfl rfl ?_
  replace h := bind_some h
  obtain ⟨y6, hx7, h⟩ := h
  refine aops_call (bV y6) [(iV a2)] fOk69 wants_none (evm_cons rfl evm_nil) (.cons (Imm.con _) .nil) (W69 F a2 y6 hx7) rfl ?_
  refine aops_not wants_none rfl rfl ?_
  refine an ?_
  refine awp_cond (!y6) rfl (fun hb8 => ?_) (fun hb8 => ?_)
  · replace h := ite_t hb8 h
    refine sr ?_
    refine aa nV rfl rfl ?_
    refine aa (iV 9) rfl rfl ?_
    refine an ?_
    refine awp_ghost (ghost_tell 4 (V.lst 3 (([] : List TExposure).map encTExposure)) rfl (Sub.nil _)) ?_
    refine awp_ret ?_
    obtain rfl := Option.some.inj h
    exact ⟨.inl rfl, .two (.tmp rfl (Imm.lst _ _)) (.tmp rfl (Imm.con _))⟩
  replace h := ite_f hb8 h
  refine awp_skip ?_
  refine sr ?_
  refine aa nV rfl rfl ?_
  refine an ?_
  refine sq ?_
  refine sr ?_
  refine aops_load_agg (cs := (encTStory a1)) tA52 wants_none rfl rfl rfl rfl rfl rfl ?_
  replace h := bind_some h
  obtain ⟨y9, hx10, h⟩ := h
  refine aops_call (V.lst 5 (y9.map encThistory_piece)) [(V.agg (encTStory a1))] fOk90 wants_none (evm_cons rfl evm_nil) (.cons (Imm.agg (imms_encTStory _)) .nil) (W90 F a1 y9 hx10) rfl ?_
  refine aops_len (n := y9.length) tIsSl125 wants_none rfl (congrArg some (List.length_map ..)) rfl ?_
  refine am (iV 0) rfl rfl ?_
  refine an ?_
  replace h := jn_elim h
  obtain ⟨k11, hk11, h⟩ := h
  refine awp_cut (fun (p : (List TExposure)) => (⟨[(7, (V.own 0 p.length))], [(0, (Ob.arr 47 3 (p.map encTExposure)))], 1⟩ : St)) (fun (p : (List TExposure)) => k11 p = some r) ?_ ?_
  · clear hk11
    refine awp_block ?_
    refine awp_len (A := y9) 19 rfl (fun hA27 => ?_)
    refine awp_loop_ind (fun (p : Int × (List TExposure)) => (⟨[(1, (iV a2)), (7, (V.own 0 (p.2).length)), (19, (V.lst 5 (y9.map encThistory_piece))), (20, (iV ((y9.length : Nat) : Int))), (21, (iV (p.1)))], [(0, (Ob.arr 47 3 ((p.2).map encTExposure)))], 1⟩ : St)) (fun n (p : Int × (List TExposure)) => RG y9 (fun tl nn => M33_L1 F a2 k11 tl p.2 = some r) n p.1) (fun p h => RG.zero h) (fun n ih1 p h => ?_) (y9.length + 1) (0, ([] : List TExposure)) (RG.start h) (Ghost.trans (ghost_nilE 7 47 3 rfl) (ghost_ren 1 (fun i => ([1] : List Nat).getD i 0) _ _ (by decide) (EnvSub.get (.cons (Sub.imm (Imm.con _)) (.cons (Sub.ownE rfl rfl (by simp)) (.cons (Sub.imm (Imm.lst _ _)) (.cons (Sub.imm (Imm.con _)) (.cons (Sub.imm (Imm.con _)) .nil)))))) (HpSub.get (.cons rfl (ObSub.rows (rows_imm imms_encTExposure)) .nil)) rfl))
    obtain ⟨n15, l16⟩ := p
    refine awp_loop ?_
    refine sr ?_
    refine aops_bin (.bool (decide (n15 < ((y9.length : Nat) : Int)))) wants_none rfl rfl rfl rfl ?_
    refine an ?_
    refine sq ?_
    refine awp_cond (decide (n15 < ((y9.length : Nat) : Int))) rfl (fun hb17 => ?_) (fun hb17 => ?_)
    · obtain ⟨x20, tl, hx21, h, hk1⟩ := RG.t hA27 h hb17
      unfold M33_L1 at h
      refine awp_skip ?_
      refine sq ?_
      replace h := jn_elim h
      obtain ⟨k18, hk18, h⟩ := h
      refine awp_cut (fun (p : (List TExposure)) => (⟨[(1, (iV a2)), (7, (V.own 0 p.length)), (19, (V.lst 5 (y9.map encThistory_piece))), (20, (iV ((y9.length : Nat) : Int))), (21, (iV n15))], [(0, (Ob.arr 47 3 (p.map encTExposure)))], 1⟩ : St)) (fun (p : (List TExposure)) => k18 p = some r) ?_ ?_
      · clear hk18
        refine awp_block ?_
        refine sr ?_
        refine aops_index_lst (encThistory_piece x20) tSl125 wants_none rfl rfl (idx_some hx21).1 (idx_map encThistory_piece hx21) rfl ?_
        refine aops_iload_agg (cs := (encThistory_piece x20)) tA128 wants_none rfl rfl rfl rfl ?_
        refine aops_alloc tZ128 rfl rfl wants_none rfl ?_
        refine aops_store (encThistory_piece x20) [(encThistory_piece x20)] tS128 wants_none rfl rfl rfl rfl rfl rfl rfl rfl ?_
        refine an ?_
        refine sr ?_
        refine aops_fieldAddr tF128_1 wants_none rfl rfl ?_
        refine aops_load_cell (iV x20.from_) tC3 wants_none rfl rfl rfl rfl rfl ?_
        refine am (iV a2) rfl rfl ?_
        refine aops_bin (.bool (decide (x20.from_ ≤ a2))) wants_none rfl rfl rfl rfl ?_
        refine am (bV (decide (x20.from_ ≤ a2))) rfl rfl ?_
        rcases Bool.eq_false_or_eq_true (decide (x20.from_ ≤ a2)) with hb22 | hb22
        · replace h := ite_t hb22 h
          refine aops_move (iV a2) (wants_some (c := (decide (x20.from_ ≤ a2))) (b := true) 29 rfl rfl hb22) rfl rfl ?_
          refine aops_fieldAddr tF128_2 (wants_some (c := (decide (x20.from_ ≤ a2))) (b := true) 29 rfl rfl hb22) rfl rfl ?_
          refine aops_load_cell (iV x20.to) tC3 (wants_some (c := (decide (x20.from_ ≤ a2))) (b := true) 29 rfl rfl hb22) rfl rfl rfl rfl rfl ?_
          refine aops_bin (.bool (decide (a2 < x20.to))) (wants_some (c := (decide (x20.from_ ≤ a2))) (b := true) 29 rfl rfl hb22) rfl rfl rfl rfl ?_
          refine aops_pick true (cb := (decide (x20.from_ ≤ a2))) (bV (decide (a2 < x20.to))) wants_none rfl hb22 rfl rfl ?_
          refine an ?_
          replace h := jn_elim h
          obtain ⟨k23, hk23, h⟩ := h
          refine awp_cut (fun (p : (List TExposure)) => (⟨[(1, (iV a2)), (7, (V.own 0 p.length)), (19, (V.lst 5 (y9.map encThistory_piece))), (20, (iV ((y9.length : Nat) : Int))), (21, (iV n15)), (30, (iV a2)), (31, (V.ptr 1 5 0 4)), (32, (iV x20.to)), (33, (bV (decide (a2 < x20.to))))], [(0, (Ob.arr 47 3 (p.map encTExposure))), (1, (Ob.arr 128 5 [(encThistory_piece x20)]))], 2⟩ : St)) (fun (p : (List TExposure)) => k23 p = some r) ?_ ?_
          · clear hk23
            refine awp_cond (decide (a2 < x20.to)) rfl (fun hb25 => ?_) (fun hb25 => ?_)
            · replace h := ite_t hb25 h
              refine rg ?_
              refine am (V.own 0 l16.length) rfl rfl ?_
              refine aops_fieldAddr tF128_0 wants_none rfl rfl ?_
              refine aops_load_agg (cs := (encTExposure x20.x)) tA47 wants_none rfl rfl rfl rfl rfl rfl ?_
              refine aops_buildSlice [(0, (V.agg (encTExposure x20.x)))] [(encTExposure x20.x)] tEl40 tZ47 rfl rfl rfl rfl wants_none (evp_cons rfl evp_nil) rfl rfl (by simp) rfl ?_
              replace h := chk_some h
              obtain ⟨hc26, h⟩ := h
              refine aops_append [(encTExposure x20.x)] ((l16 ++ ([x20.x] : List TExposure)).map encTExposure) tEl40 tIsSl40 rfl rfl wants_none rfl rfl (by simp) rfl (.own rfl (by simp)) (map_snoc encTExposure l16 ([x20.x] : List TExposure)) (List.length_map ..) hc26 rfl ?_
              refine aa (V.own 3 (l16 ++ ([x20.x] : List TExposure)).length) rfl rfl ?_
              refine an ?_
              exact ⟨(l16 ++ ([x20.x] : List TExposure)), h, (ghost_ren 2 (fun i => ([3, 1] : List Nat).getD i 0) _ _ (by decide) (EnvSub.get (.cons (Sub.imm (Imm.con _)) (.cons (Sub.own rfl rfl) (.cons (Sub.imm (Imm.lst _ _)) (.cons (Sub.imm (Imm.con _)) (.cons (Sub.imm (Imm.con _)) (.cons (Sub.imm (Imm.con _)) (.cons (Sub.ptr rfl rfl) (.cons (Sub.imm (Imm.con _)) (.cons (Sub.imm (Imm.con _)) .nil)))))))))) (HpSub.get (.cons rfl (ObSub.rows (rows_imm imms_encTExposure)) (.cons rfl (ObSub.box (.cons (Sub.imm (Imm.con _)) (.cons (Sub.imm (Imm.con _)) (.cons (Sub.imm (Imm.con _)) (.cons (Sub.imm (Imm.con _)) (.cons (Sub.imm (Imm.con _)) .nil)))))) .nil))) rfl)⟩
            replace h := ite_f hb25 h
            refine awp_skip ?_
            exact ⟨l16, h, (ghost_ren 2 (fun i => ([0, 1] : List Nat).getD i 0) _ _ (by decide) (EnvSub.get (.cons (Sub.imm (Imm.con _)) (.cons (Sub.own rfl rfl) (.cons (Sub.imm (Imm.lst _ _)) (.cons (Sub.imm (Imm.con _)) (.cons (Sub.imm (Imm.con _)) (.cons (Sub.imm (Imm.con _)) (.cons (Sub.ptr rfl rfl) (.cons (Sub.imm (Imm.con _)) (.cons (Sub.imm (Imm.con _)) .nil)))))))))) (HpSub.get (.cons rfl (ObSub.rows (rows_imm imms_encTExposure)) (.cons rfl (ObSub.box (.cons (Sub.imm (Imm.con _)) (.cons (Sub.imm (Imm.con _)) (.cons (Sub.imm (Imm.con _)) (.cons (Sub.imm (Imm.con _)) (.cons (Sub.imm (Imm.con _)) .nil)))))) .nil))) rfl)⟩
          clear h
          intro l24 h
          subst hk23
          exact ⟨l24, h, (ghost_ren 1 (fun i => ([0] : List Nat).getD i 0) _ _ (by decide) (EnvSub.get (.cons (Sub.imm (Imm.con _)) (.cons (Sub.own rfl rfl) (.cons (Sub.imm (Imm.lst _ _)) (.cons (Sub.imm (Imm.con _)) (.cons (Sub.imm (Imm.con _)) .nil)))))) (HpSub.get (.cons rfl (ObSub.rows (rows_imm imms_encTExposure)) .nil)) rfl)⟩
        replace h := ite_f hb22 h
        refine aops_skips 4 4 29 true (c := (decide (x20.from_ ≤ a2))) (b := false) rfl rfl hb22 rfl rfl ?_
        refine aops_pick false (cb := (decide (x20.from_ ≤ a2))) (bV false) wants_none rfl hb22 rfl rfl ?_
        refine an ?_
        refine awp_cond_f rfl rfl ?_
        refine awp_skip ?_
        exact ⟨l16, h, (ghost_ren 1 (fun i => ([0] : List Nat).getD i 0) _ _ (by decide) (EnvSub.get (.cons (Sub.imm (Imm.con _)) (.cons (Sub.own rfl rfl) (.cons (Sub.imm (Imm.lst _ _)) (.cons (Sub.imm (Imm.con _)) (.cons (Sub.imm (Imm.con _)) .nil)))))) (HpSub.get (.cons rfl (ObSub.rows (rows_imm imms_encTExposure)) .nil)) rfl)⟩
      clear h
      intro l19 h
      subst hk18
      refine rg ?_
      refine aops_bin (.int .i64 (w64 (n15 + 1))) wants_none rfl rfl rfl rfl ?_
      refine am (iV (w64 (n15 + 1))) rfl rfl ?_
      refine an ?_
      exact awp_back (ih1 ((w64 (n15 + 1)), l19) (hk1 _ h)) (ghost_ren 1 (fun i => ([0] : List Nat).getD i 0) _ _ (by decide) (EnvSub.get (.cons (Sub.imm (Imm.con _)) (.cons (Sub.own rfl rfl) (.cons (Sub.imm (Imm.lst _ _)) (.cons (Sub.imm (Imm.con _)) (.cons (Sub.imm (Imm.con _)) .nil)))))) (HpSub.get (.cons rfl (ObSub.rows (rows_imm imms_encTExposure)) .nil)) rfl)
    replace h := RG.f h hb17
    unfold M33_L1 at h
    refine awp_exit ?_
    exact ⟨l16, h, (ghost_ren 1 (fun i => ([0] : List Nat).getD i 0) _ _ (by decide) (EnvSub.get (.cons (Sub.own rfl rfl) .nil)) (HpSub.get (.cons rfl (ObSub.rows (rows_imm imms_encTExposure)) .nil)) rfl)⟩
  clear h
  intro l12 h
  subst hk11
  refine sr ?_
  refine am (V.own 0 l12.length) rfl rfl ?_
  refine aa (V.own 0 l12.length) rfl rfl ?_
  refine aa (iV 0) rfl rfl ?_
  refine an ?_
  refine awp_ghost (ghost_frzE 0 4 rfl (rows_imm imms_encTExposure) rfl (List.length_map ..).symm) ?_
  refine awp_ret ?_
  obtain rfl := Option.some.inj h
  exact ⟨.inl rfl, .two (.tmp rfl (Imm.lst _ _)) (.tmp rfl (Imm.con _))⟩
theorem W91 (F : Nat) (a1 : TStory) (r : Tprovenderref11_view) (h : M91 F a1 = some r) : Pure Try.prog 91 [(V.agg (encTStory a1))] (V.agg (encTprovenderref11_view r)) := by
  refine pure_enter Try.func91 rfl rfl (l := [.cell 2 131]) rfl rfl [(0, (V.agg (encTStory a1)))] rfl (fun w0 m0 => ?_)
  unfold M91 at h
  refine sr ?_
  refine aops_box (encTStory a1) wants_none rfl rfl rfl rfl ?_
  refine aops_alloc tZ131 rfl rfl wants_none rfl ?_
  refine an ?_
  refine sr ?_
  refine aops_load_agg (cs := (encTStory a1)) tA52 wants_none rfl rfl rfl rfl rfl rfl ?_
  refine aops_makeMap wants_none rfl ?_
  refine aops_build [(0, (V.agg (encTStory a1))), (1, (V.map 2))] [(sV a1.Product), (V.lst 3 (a1.Releases.map encTRelease)), (V.lst 3 (a1.Known.map encTPublished)), (iV a1.Until), (V.map 2)] tZ131 tPl131 rfl wants_none (evp_cons rfl (evp_cons rfl evp_nil)) rfl rfl ?_
  refine aops_alloc tZ131 rfl rfl wants_none rfl ?_
  refine aops_store [(sV a1.Product), (V.lst 3 (a1.Releases.map encTRelease)), (V.lst 3 (a1.Known.map encTPublished)), (iV a1.Until), (V.map 2)] [[(sV a1.Product), (V.lst 3 (a1.Releases.map encTRelease)), (V.lst 3 (a1.Known.map encTPublished)), (iV a1.Until), (V.map 2)]] tS131 wants_none rfl rfl rfl rfl rfl rfl rfl rfl ?_
  refine an ?_
  refine sq ?_
  refine sr ?_
  refine aops_fieldAddr tF52_2 wants_none rfl rfl ?_
  refine aops_load_cell (V.lst 3 (a1.Known.map encTPublished)) tC50 wants_none rfl rfl rfl rfl rfl ?_
  refine aops_len (n := a1.Known.length) tIsSl50 wants_none rfl (congrArg some (List.length_map ..)) rfl ?_
  refine am (iV 0) rfl rfl ?_
  refine an ?_
  replace h := jn_elim h
  obtain ⟨k2, hk2, h⟩ := h
  refine awp_cut (fun (p : (List ((List UInt8) × TPublished))) => (⟨[(2, (V.ptr 0 5 0 0)), (3, (V.ptr 1 5 0 0))], [(0, (Ob.arr 131 5 [[(sV ([] : List UInt8)), nV, nV, (iV 0), (V.con (.map none))]])), (1, (Ob.arr 131 5 [[(sV a1.Product), (V.lst 3 (a1.Releases.map encTRelease)), (V.lst 3 (a1.Known.map encTPublished)), (iV a1.Until), (V.map 2)]])), (2, (Ob.map (p.map encM9_137)))], 3⟩ : St)) (fun (p : (List ((List UInt8) × TPublished))) => k2 p = some r) ?_ ?_
  · clear hk2
    refine awp_block ?_
    refine awp_len (A := a1.Known) 10 rfl (fun hA11 => ?_)
    refine awp_loop_ind (fun (p : Int × (List ((List UInt8) × TPublished))) => (⟨[(2, (V.ptr 0 5 0 0)), (3, (V.ptr 1 5 0 0)), (10, (V.lst 3 (a1.Known.map encTPublished))), (11, (iV ((a1.Known.length : Nat) : Int))), (12, (iV (p.1)))], [(0, (Ob.arr 131 5 [[(sV ([] : List UInt8)), nV, nV, (iV 0), (V.con (.map none))]])), (1, (Ob.arr 131 5 [[(sV a1.Product), (V.lst 3 (a1.Releases.map encTRelease)), (V.lst 3 (a1.Known.map encTPublished)), (iV a1.Until), (V.map 2)]])), (2, (Ob.map ((p.2).map encM9_137)))], 3⟩ : St)) (fun n (p : Int × (List ((List UInt8) × TPublished))) => RG a1.Known (fun tl nn => M91_L1 F k2 tl p.2 = some r) n p.1) (fun p h => RG.zero h) (fun n ih1 p h => ?_) (a1.Known.length + 1) (0, ([] : List ((List UInt8) × TPublished))) (RG.start h) (ghost_ren 3 (fun i => ([1, 3, 2] : List Nat).getD i 0) _ _ (by decide) (EnvSub.get (.cons (Sub.ptr rfl rfl) (.cons (Sub.ptr rfl rfl) (.cons (Sub.imm (Imm.lst _ _)) (.cons (Sub.imm (Imm.con _)) (.cons (Sub.imm (Imm.con _)) .nil)))))) (HpSub.get (.cons rfl (ObSub.box (.cons (Sub.imm (Imm.con _)) (.cons (Sub.imm (Imm.con _)) (.cons (Sub.imm (Imm.con _)) (.cons (Sub.imm (Imm.con _)) (.cons (Sub.imm (Imm.con _)) .nil)))))) (.cons rfl (ObSub.box (.cons (Sub.imm (Imm.con _)) (.cons (Sub.imm (Imm.lst _ _)) (.cons (Sub.imm (Imm.lst _ _)) (.cons (Sub.imm (Imm.con _)) (.cons (Sub.map rfl rfl) .nil)))))) (.cons rfl (ObSub.maps encM9_137_imm) .nil)))) rfl)
    obtain ⟨n6, m7⟩ := p
    refine awp_loop ?_
    refine sr ?_
    refine aops_bin (.bool (decide (n6 < ((a1.Known.length : Nat) : Int)))) wants_none rfl rfl rfl rfl ?_
    refine an ?_
    refine sq ?_
    refine awp_cond (decide (n6 < ((a1.Known.length : Nat) : Int))) rfl (fun hb8 => ?_) (fun hb8 => ?_)
    · obtain ⟨x9, tl, hx10, h, hk1⟩ := RG.t hA11 h hb8
      unfold M91_L1 at h
      refine awp_skip ?_
      refine sq ?_
      refine awp_block ?_
      refine sr ?_
      refine aops_index_lst (encTPublished x9) tSl50 wants_none rfl rfl (idx_some hx10).1 (idx_map encTPublished hx10) rfl ?_
      refine aops_iload_agg (cs := (encTPublished x9)) tA137 wants_none rfl rfl rfl rfl ?_
      refine aops_alloc tZ137 rfl rfl wants_none rfl ?_
      refine aops_store (encTPublished x9) [(encTPublished x9)] tS137 wants_none rfl rfl rfl rfl rfl rfl rfl rfl ?_
      refine an ?_
      refine rg ?_
      refine aops_fieldAddr tF131_1 wants_none rfl rfl ?_
      refine aops_load_cell (V.map 2) tC129 wants_none rfl rfl rfl rfl rfl ?_
      refine aops_fieldAddr tF137_0 wants_none rfl rfl ?_
      refine aops_load_cell (sV x9.Advisory) tC9 wants_none rfl rfl rfl rfl rfl ?_
      refine aops_load_agg (cs := (encTPublished x9)) tA137 wants_none rfl rfl rfl rfl rfl rfl ?_
      refine aops_mapUpdate ((mput m7 x9.Advisory x9).map encM9_137) tMap129 tKey9 wants_none rfl rfl (.con rfl) ⟨_, rfl⟩ encM9_137_good rfl (encM9_137_puts m7 x9.Advisory x9) ?_
      refine an ?_
      refine rg ?_
      refine aops_bin (.int .i64 (w64 (n6 + 1))) wants_none rfl rfl rfl rfl ?_
      refine am (iV (w64 (n6 + 1))) rfl rfl ?_
      refine an ?_
      exact awp_back (ih1 ((w64 (n6 + 1)), (mput m7 x9.Advisory x9)) (hk1 _ h)) (ghost_ren 3 (fun i => ([0, 1, 2] : List Nat).getD i 0) _ _ (by decide) (EnvSub.get (.cons (Sub.ptr rfl rfl) (.cons (Sub.ptr rfl rfl) (.cons (Sub.imm (Imm.lst _ _)) (.cons (Sub.imm (Imm.con _)) (.cons (Sub.imm (Imm.con _)) .nil)))))) (HpSub.get (.cons rfl (ObSub.box (.cons (Sub.imm (Imm.con _)) (.cons (Sub.imm (Imm.con _)) (.cons (Sub.imm (Imm.con _)) (.cons (Sub.imm (Imm.con _)) (.cons (Sub.imm (Imm.con _)) .nil)))))) (.cons rfl (ObSub.box (.cons (Sub.imm (Imm.con _)) (.cons (Sub.imm (Imm.lst _ _)) (.cons (Sub.imm (Imm.lst _ _)) (.cons (Sub.imm (Imm.con _)) (.cons (Sub.map rfl rfl) .nil)))))) (.cons rfl (ObSub.maps encM9_137_imm) .nil)))) rfl)
    replace h := RG.f h hb8
    unfold M91_L1 at h
    refine awp_exit ?_
    exact ⟨m7, h, (ghost_ren 3 (fun i => ([0, 1, 2] : List Nat).getD i 0) _ _ (by decide) (EnvSub.get (.cons (Sub.ptr rfl rfl) (.cons (Sub.ptr rfl rfl) .nil))) (HpSub.get (.cons rfl (ObSub.box (.cons (Sub.imm (Imm.con _)) (.cons (Sub.imm (Imm.con _)) (.cons (Sub.imm (Imm.con _)) (.cons (Sub.imm (Imm.con _)) (.cons (Sub.imm (Imm.con _)) .nil)))))) (.cons rfl (ObSub.box (.cons (Sub.imm (Imm.con _)) (.cons (Sub.imm (Imm.lst _ _)) (.cons (Sub.imm (Imm.lst _ _)) (.cons (Sub.imm (Imm.con _)) (.cons (Sub.map rfl rfl) .nil)))))) (.cons rfl (ObSub.maps encM9_137_imm) .nil)))) rfl)⟩
  clear h
  intro m3 h
  subst hk2
  refine sr ?_
  refine aops_load_agg (cs := [(sV a1.Product), (V.lst 3 (a1.Releases.map encTRelease)), (V.lst 3 (a1.Known.map encTPublished)), (iV a1.Until), (V.map 2)]) tA131 wants_none rfl rfl rfl rfl rfl rfl ?_
  refine aops_store [(sV a1.Product), (V.lst 3 (a1.Releases.map encTRelease)), (V.lst 3 (a1.Known.map encTPublished)), (iV a1.Until), (V.map 2)] [[(sV a1.Product), (V.lst 3 (a1.Releases.map encTRelease)), (V.lst 3 (a1.Known.map encTPublished)), (iV a1.Until), (V.map 2)]] tS131 wants_none rfl rfl rfl rfl rfl rfl rfl rfl ?_
  refine an ?_
  refine awp_ghost (ghost_frzMC 2 0 (Ob.arr 131 5 [[(sV a1.Product), (V.lst 3 (a1.Releases.map encTRelease)), (V.lst 3 (a1.Known.map encTPublished)), (iV a1.Until), (V.imap (m3.map encM9_137))]]) rfl encM9_137_imm (ObSub.box (.cons Sub.keepM (.cons Sub.keepM (.cons Sub.keepM (.cons Sub.keepM (.cons Sub.frzM .nil))))))) ?_
  refine awp_ret ?_
  obtain rfl := Option.some.inj h
  exact ⟨.inl rfl, .one (.agg tA131 rfl rfl rfl rfl rfl (.cons (Imm.con _) (.cons (Imm.lst _ _) (.cons (Imm.lst _ _) (.cons (Imm.con _) (.cons (Imm.imap _) .nil))))))⟩
theorem W130 (F : Nat) (a1 : Tprovenderref11_view) (a2 : TExposure) (a3 : Int) (r : Bool) (h : M130 F a1 a2 a3 = some r) : Pure Try.prog 130 [(V.agg (encTprovenderref11_view a1)), (V.agg (encTExposure a2)), (iV a3)] (bV r) := by
  refine pure_enter Try.func130 rfl rfl (l := [.tmp 6]) rfl rfl [(0, (V.agg (encTprovenderref11_view a1))), (1, (V.agg (encTExposure a2))), (2, (iV a3))] rfl (fun w0 m0 => ?_)
  unfold M130 at h
  refine sr ?_
  refine aops_box (encTprovenderref11_view a1) wants_none rfl rfl rfl rfl ?_
  refine aops_box (encTExposure a2) wants_none rfl rfl rfl rfl ?_
  refine aa (bV false) rfl rfl ?_
  refine an ?_
  refine sr ?_
  refine aops_fieldAddr tF131_1 wants_none rfl rfl ?_
  refine aops_load_cell (V.imap (a1.known.map encM9_137)) tC129 wants_none rfl rfl rfl rfl rfl ?_
  refine aops_fieldAddr tF47_0 wants_none rfl rfl ?_
  refine aops_load_cell (sV a2.Advisory) tC9 wants_none rfl rfl rfl rfl rfl ?_
  refine aops_lookup _ (V.agg [(sV ([] : List UInt8)), (iV 0), (iV 0)]) (V.agg (encTPublished ((mget a1.known a2.Advisory).getD (TPublished.mk ([] : List UInt8) 0 0)))) tMap129 tKey9 tZo137 (irel_conAgg [str ([] : List UInt8), .int .i64 0, .int .i64 0]) wants_none rfl .imm (.con rfl) ⟨_, rfl⟩ encM9_137_good (encM9_137_look a1.known a2.Advisory) (getD_map (encM9_137_val) (mget a1.known a2.Advisory) (TPublished.mk ([] : List UInt8) 0 0)) rfl ?_
  refine aops_alloc tZ137 rfl rfl wants_none rfl ?_
  refine aops_store (encTPublished ((mget a1.known a2.Advisory).getD (TPublished.mk ([] : List UInt8) 0 0))) [(encTPublished ((mget a1.known a2.Advisory).getD (TPublished.mk ([] : List UInt8) 0 0)))] tS137 wants_none rfl rfl rfl rfl rfl rfl rfl rfl ?_
  refine an ?_
  refine sr ?_
  refine aops_fieldAddr tF137_1 wants_none rfl rfl ?_
  refine aops_load_cell (iV ((mget a1.known a2.Advisory).getD (TPublished.mk ([] : List UInt8) 0 0)).Day) tC3 wants_none rfl rfl rfl rfl rfl ?_
  refine am (iV a3) rfl rfl ?_
  refine aops_bin (.bool (decide (((mget a1.known a2.Advisory).getD (TPublished.mk ([] : List UInt8) 0 0)).Day ≤ a3))) wants_none rfl rfl rfl rfl ?_
  refine am (bV (decide (((mget a1.known a2.Advisory).getD (TPublished.mk ([] : List UInt8) 0 0)).Day ≤ a3))) rfl rfl ?_
  rcases Bool.eq_false_or_eq_true (decide (((mget a1.known a2.Advisory).getD (TPublished.mk ([] : List UInt8) 0 0)).Day ≤ a3)) with hb4 | hb4
  · replace h := ite_t hb4 h
    refine aops_fieldAddr tF137_2 (wants_some (c := (decide (((mget a1.known a2.Advisory).getD (TPublished.mk ([] : List UInt8) 0 0)).Day ≤ a3))) (b := true) 17 rfl rfl hb4) rfl rfl ?_
    refine aops_load_cell (iV ((mget a1.known a2.Advisory).getD (TPublished.mk ([] : List UInt8) 0 0)).Ended) tC3 (wants_some (c := (decide (((mget a1.known a2.Advisory).getD (TPublished.mk ([] : List UInt8) 0 0)).Day ≤ a3))) (b := true) 17 rfl rfl hb4) rfl rfl rfl rfl rfl ?_
    refine aops_bin (.bool (((mget a1.known a2.Advisory).getD (TPublished.mk ([] : List UInt8) 0 0)).Ended == (-1))) (wants_some (c := (decide (((mget a1.known a2.Advisory).getD (TPublished.mk ([] : List UInt8) 0 0)).Day ≤ a3))) (b := true) 17 rfl rfl hb4) rfl rfl rfl rfl ?_
    refine aops_move (bV (((mget a1.known a2.Advisory).getD (TPublished.mk ([] : List UInt8) 0 0)).Ended == (-1))) (wants_some (c := (decide (((mget a1.known a2.Advisory).getD (TPublished.mk ([] : List UInt8) 0 0)).Day ≤ a3))) (b := true) 17 rfl rfl hb4) rfl rfl ?_
    rcases Bool.eq_false_or_eq_true (((mget a1.known a2.Advisory).getD (TPublished.mk ([] : List UInt8) 0 0)).Ended == (-1)) with hb5 | hb5
    · replace h := ite_t hb5 h
      refine aops_skips 4 8 21 false (c := (((mget a1.known a2.Advisory).getD (TPublished.mk ([] : List UInt8) 0 0)).Ended == (-1))) (b := true) rfl rfl hb5 rfl rfl ?_
      refine aops_pick true (cb := (((mget a1.known a2.Advisory).getD (TPublished.mk ([] : List UInt8) 0 0)).Ended == (-1))) (bV true) (wants_some (c := (decide (((mget a1.known a2.Advisory).getD (TPublished.mk ([] : List UInt8) 0 0)).Day ≤ a3))) (b := true) 17 rfl rfl hb4) rfl hb5 rfl rfl ?_
      refine aops_pick true (cb := (decide (((mget a1.known a2.Advisory).getD (TPublished.mk ([] : List UInt8) 0 0)).Day ≤ a3))) (bV true) wants_none rfl hb4 rfl rfl ?_
      refine aa (bV true) rfl rfl ?_
      refine an ?_
      refine awp_ret ?_
      obtain rfl := Option.some.inj h
      exact ⟨.inl rfl, .one (.tmp rfl (Imm.con _))⟩
    replace h := ite_f hb5 h
    refine aops_fieldAddr tF137_2 (wants_some (c := (((mget a1.known a2.Advisory).getD (TPublished.mk ([] : List UInt8) 0 0)).Ended == (-1))) (b := false) 21 rfl rfl hb5) rfl rfl ?_
    refine aops_load_cell (iV ((mget a1.known a2.Advisory).getD (TPublished.mk ([] : List UInt8) 0 0)).Ended) tC3 (wants_some (c := (((mget a1.known a2.Advisory).getD (TPublished.mk ([] : List UInt8) 0 0)).Ended == (-1))) (b := false) 21 rfl rfl hb5) rfl rfl rfl rfl rfl ?_
    refine aops_move (iV a3) (wants_some (c := (((mget a1.known a2.Advisory).getD (TPublished.mk ([] : List UInt8) 0 0)).Ended == (-1))) (b := false) 21 rfl rfl hb5) rfl rfl ?_
    refine aops_bin (.bool (decide (((mget a1.known a2.Advisory).getD (TPublished.mk ([] : List UInt8) 0 0)).Ended > a3))) (wants_some (c := (((mget a1.known a2.Advisory).getD (TPublished.mk ([] : List UInt8) 0 0)).Ended == (-1))) (b := false) 21 rfl rfl hb5) rfl rfl rfl rfl ?_
    refine aops_pick false (cb := (((mget a1.known a2.Advisory).getD (TPublished.mk ([] : List UInt8) 0 0)).Ended == (-1))) (bV (decide (((mget a1.known a2.Advisory).getD (TPublished.mk ([] : List UInt8) 0 0)).Ended > a3))) (wants_some (c := (decide (((mget a1.known a2.Advisory).getD (TPublished.mk ([] : List UInt8) 0 0)).Day ≤ a3))) (b := true) 17 rfl rfl hb4) rfl hb5 rfl rfl ?_
    refine aops_pick true (cb := (decide (((mget a1.known a2.Advisory).getD (TPublished.mk ([] : List UInt8) 0 0)).Day ≤ a3))) (bV (decide (((mget a1.known a2.Advisory).getD (TPublished.mk ([] : List UInt8) 0 0)).Ended > a3))) wants_none rfl hb4 rfl rfl ?_
    refine aa (bV (decide (((mget a1.known a2.Advisory).getD (TPublished.mk ([] : List UInt8) 0 0)).Ended > a3))) rfl rfl ?_
    refine an ?_
    refine awp_ret ?_
    obtain rfl := Option.some.inj h
    exact ⟨.inl rfl, .one (.tmp rfl (Imm.con _))⟩
  replace h := ite_f hb4 h
  refine aops_skips 4 4 17 true (c := (decide (((mget a1.known a2.Advisory).getD (TPublished.mk ([] : List UInt8) 0 0)).Day ≤ a3))) (b := false) rfl rfl hb4 rfl rfl ?_
  refine aops_skip (wants_undef 21 rfl rfl) rfl rfl ?_
  refine aops_skip (wants_undef 21 rfl rfl) rfl rfl ?_
  refine aops_skip (wants_undef 21 rfl rfl) rfl rfl ?_
  refine aops_skip (wants_undef 21 rfl rfl) rfl rfl ?_
  refine aops_skip (wants_some (c := (decide (((mget a1.known a2.Advisory).getD (TPublished.mk ([] : List UInt8) 0 0)).Day ≤ a3))) (b := false) 17 rfl rfl hb4) rfl rfl ?_
  refine aops_pick false (cb := (decide (((mget a1.known a2.Advisory).getD (TPublished.mk ([] : List UInt8) 0 0)).Day ≤ a3))) (bV false) wants_none rfl hb4 rfl rfl ?_
  refine aa (bV false) rfl rfl ?_
  refine an ?_
  refine awp_ret ?_
  obtain rfl := Option.some.inj h
  exact ⟨.inl rfl, .one (.tmp rfl (Imm.con _))⟩
theorem W92 (F : Nat) (a1 : Tprovenderref11_view) (a2 : Int) (r : (List TExposure)) (h : M92 F a1 a2 = some r) : Pure Try.prog 92 [(V.agg (encTprovenderref11_view a1)), (iV a2)] (V.lst 3 (r.map encTExposure)) := by
  refine pure_enter Try.func92 rfl rfl (l := [.tmp 4]) rfl rfl [(0, (V.agg (encTprovenderref11_view a1))), (1, (iV a2))] rfl (fun w0 m0 => ?_)
  unfold M92 at h
  refine sr ?_
  refine aops_box (encTprovenderref11_view a1) wants_none rfl rfl rfl rfl ?_
  refine aa nV rfl rfl ?_
  refine an ?_
  refine sr ?_
  refine aops_fieldAddr tF131_0 wants_none rfl rfl ?_
  refine aops_load_agg (cs := (encTStory a1.s)) tA52 wants_none rfl rfl rfl rfl rfl rfl ?_
  refine am (iV a2) rfl rfl ?_
  replace h := bind_some h
  obtain ⟨y3, hx4, h⟩ := h
  refine aops_call (V.tup [(V.agg (encTRelease (y3.1))), (bV (y3.2))]) [(V.agg (encTStory a1.s)), (iV a2)] fOk89 wants_none (evm_cons rfl (evm_cons rfl evm_nil)) (.cons (Imm.agg (imms_encTStory _)) (.cons (Imm.con _) .nil)) (W89 F a1.s a2 y3 hx4) rfl ?_
  refine am (V.tup [(V.agg (encTRelease (y3.1))), (bV (y3.2))]) rfl rfl ?_
  refine aops_extract (V.agg (encTRelease (y3.1))) wants_none rfl rfl rfl ?_
  refine aops_extract (bV (y3.2)) wants_none rfl rfl rfl ?_
  refine aops_alloc tZ42 rfl rfl wants_none rfl ?_
  refine aops_store (encTRelease (y3.1)) [(encTRelease (y3.1))] tS42 wants_none rfl rfl rfl rfl rfl rfl rfl rfl ?_
  refine aa (bV (y3.2)) rfl rfl ?_
  refine an ?_
  refine sr ?_
  refine aa nV rfl rfl ?_
  refine an ?_
  refine sq ?_
  refine sr ?_
  refine aops_fieldAddr tF42_2 wants_none rfl rfl ?_
  refine aops_load_cell (V.lst 3 ((y3.1).Exposures.map encTExposure)) tC40 wants_none rfl rfl rfl rfl rfl ?_
  refine aops_len (n := (y3.1).Exposures.length) tIsSl40 wants_none rfl (congrArg some (List.length_map ..)) rfl ?_
  refine am (iV 0) rfl rfl ?_
  refine an ?_
  replace h := jn_elim h
  obtain ⟨k5, hk5, h⟩ := h
  refine awp_cut (fun (p : (List TExposure)) => (⟨[(7, (V.own 0 p.length))], [(0, (Ob.arr 47 3 (p.map encTExposure)))], 1⟩ : St)) (fun (p : (List TExposure)) => k5 p = some r) ?_ ?_
  · clear hk5
    refine awp_block ?_
    refine awp_len (A := (y3.1).Exposures) 18 rfl (fun hA20 => ?_)
    refine awp_loop_ind (fun (p : Int × (List TExposure)) => (⟨[(1, (iV a2)), (2, (V.ptr 0 5 0 0)), (7, (V.own 1 (p.2).length)), (18, (V.lst 3 ((y3.1).Exposures.map encTExposure))), (19, (iV (((y3.1).Exposures.length : Nat) : Int))), (20, (iV (p.1)))], [(0, (Ob.arr 131 5 [(encTprovenderref11_view a1)])), (1, (Ob.arr 47 3 ((p.2).map encTExposure)))], 2⟩ : St)) (fun n (p : Int × (List TExposure)) => RG ((y3.1).Exposures) (fun tl nn => M92_L1 F a1 a2 k5 tl p.2 = some r) n p.1) (fun p h => RG.zero h) (fun n ih1 p h => ?_) (((y3.1).Exposures).length + 1) (0, ([] : List TExposure)) (RG.start h) (Ghost.trans (ghost_nilE 7 47 3 rfl) (ghost_ren 2 (fun i => ([0, 2] : List Nat).getD i 0) _ _ (by decide) (EnvSub.get (.cons (Sub.imm (Imm.con _)) (.cons (Sub.ptr rfl rfl) (.cons (Sub.ownE rfl rfl (by simp)) (.cons (Sub.imm (Imm.lst _ _)) (.cons (Sub.imm (Imm.con _)) (.cons (Sub.imm (Imm.con _)) .nil))))))) (HpSub.get (.cons rfl (ObSub.box (.cons (Sub.imm (Imm.con _)) (.cons (Sub.imm (Imm.lst _ _)) (.cons (Sub.imm (Imm.lst _ _)) (.cons (Sub.imm (Imm.con _)) (.cons (Sub.imm (Imm.imap _)) .nil)))))) (.cons rfl (ObSub.rows (rows_imm imms_encTExposure)) .nil))) rfl))
    obtain ⟨n9, l10⟩ := p
    refine awp_loop ?_
    refine sr ?_
    refine aops_bin (.bool (decide (n9 < (((y3.1).Exposures.length : Nat) : Int)))) wants_none rfl rfl rfl rfl ?_
    refine an ?_
    refine sq ?_
    refine awp_cond (decide (n9 < (((y3.1).Exposures.length : Nat) : Int))) rfl (fun hb11 => ?_) (fun hb11 => ?_)
    · obtain ⟨x12, tl, hx13, h, hk1⟩ := RG.t hA20 h hb11
      unfold M92_L1 at h
      refine awp_skip ?_
      refine sq ?_
      refine awp_block ?_
      refine sr ?_
      refine aops_index_lst (encTExposure x12) tSl40 wants_none rfl rfl (idx_some hx13).1 (idx_map encTExposure hx13) rfl ?_
      refine aops_iload_agg (cs := (encTExposure x12)) tA47 wants_none rfl rfl rfl rfl ?_
      refine aops_alloc tZ47 rfl rfl wants_none rfl ?_
      refine aops_store (encTExposure x12) [(encTExposure x12)] tS47 wants_none rfl rfl rfl rfl rfl rfl rfl rfl ?_
      refine an ?_
      refine sr ?_
      refine aops_load_agg (cs := (encTprovenderref11_view a1)) tA131 wants_none rfl rfl rfl rfl rfl rfl ?_
      refine aops_load_agg (cs := (encTExposure x12)) tA47 wants_none rfl rfl rfl rfl rfl rfl ?_
      refine am (iV a2) rfl rfl ?_
      replace h := bind_some h
      obtain ⟨y14, hx15, h⟩ := h
      refine aops_call (bV y14) [(V.agg (encTprovenderref11_view a1)), (V.agg (encTExposure x12)), (iV a2)] fOk130 wants_none (evm_cons rfl (evm_cons rfl (evm_cons rfl evm_nil))) (.cons (Imm.agg (imms_encTprovenderref11_view _)) (.cons (Imm.agg (imms_encTExposure _)) (.cons (Imm.con _) .nil))) (W130 F a1 x12 a2 y14 hx15) rfl ?_
      refine an ?_
      replace h := jn_elim h
      obtain ⟨k16, hk16, h⟩ := h
      refine awp_cut (fun (p : (List TExposure)) => (⟨[(1, (iV a2)), (2, (V.ptr 0 5 0 0)), (7, (V.own 1 p.length)), (18, (V.lst 3 ((y3.1).Exposures.map encTExposure))), (19, (iV (((y3.1).Exposures.length : Nat) : Int))), (20, (iV n9))], [(0, (Ob.arr 131 5 [(encTprovenderref11_view a1)])), (1, (Ob.arr 47 3 (p.map encTExposure)))], 2⟩ : St)) (fun (p : (List TExposure)) => k16 p = some r) ?_ ?_
      · clear hk16
        refine awp_cond y14 rfl (fun hb18 => ?_) (fun hb18 => ?_)
        · replace h := ite_t hb18 h
          refine rg ?_
          refine am (V.own 1 l10.length) rfl rfl ?_
          refine aops_load_agg (cs := (encTExposure x12)) tA47 wants_none rfl rfl rfl rfl rfl rfl ?_
          refine aops_buildSlice [(0, (V.agg (encTExposure x12)))] [(encTExposure x12)] tEl40 tZ47 rfl rfl rfl rfl wants_none (evp_cons rfl evp_nil) rfl rfl (by simp) rfl ?_
          replace h := chk_some h
          obtain ⟨hc19, h⟩ := h
          refine aops_append [(encTExposure x12)] ((l10 ++ ([x12] : List TExposure)).map encTExposure) tEl40 tIsSl40 rfl rfl wants_none rfl rfl (by simp) rfl (.own rfl (by simp)) (map_snoc encTExposure l10 ([x12] : List TExposure)) (List.length_map ..) hc19 rfl ?_
          refine aa (V.own 4 (l10 ++ ([x12] : List TExposure)).length) rfl rfl ?_
          refine an ?_
          exact ⟨(l10 ++ ([x12] : List TExposure)), h, (ghost_ren 2 (fun i => ([0, 4] : List Nat).getD i 0) _ _ (by decide) (EnvSub.get (.cons (Sub.imm (Imm.con _)) (.cons (Sub.ptr rfl rfl) (.cons (Sub.own rfl rfl) (.cons (Sub.imm (Imm.lst _ _)) (.cons (Sub.imm (Imm.con _)) (.cons (Sub.imm (Imm.con _)) .nil))))))) (HpSub.get (.cons rfl (ObSub.box (.cons (Sub.imm (Imm.con _)) (.cons (Sub.imm (Imm.lst _ _)) (.cons (Sub.imm (Imm.lst _ _)) (.cons (Sub.imm (Imm.con _)) (.cons (Sub.imm (Imm.imap _)) .nil)))))) (.cons rfl (ObSub.rows (rows_imm imms_encTExposure)) .nil))) rfl)⟩
        replace h := ite_f hb18 h
        refine awp_skip ?_
        exact ⟨l10, h, (ghost_ren 2 (fun i => ([0, 1] : List Nat).getD i 0) _ _ (by decide) (EnvSub.get (.cons (Sub.imm (Imm.con _)) (.cons (Sub.ptr rfl rfl) (.cons (Sub.own rfl rfl) (.cons (Sub.imm (Imm.lst _ _)) (.cons (Sub.imm (Imm.con _)) (.cons (Sub.imm (Imm.con _)) .nil))))))) (HpSub.get (.cons rfl (ObSub.box (.cons (Sub.imm (Imm.con _)) (.cons (Sub.imm (Imm.lst _ _)) (.cons (Sub.imm (Imm.lst _ _)) (.cons (Sub.imm (Imm.con _)) (.cons (Sub.imm (Imm.imap _)) .nil)))))) (.cons rfl (ObSub.rows (rows_imm imms_encTExposure)) .nil))) rfl)⟩
      clear h
      intro l17 h
      subst hk16
      refine rg ?_
      refine aops_bin (.int .i64 (w64 (n9 + 1))) wants_none rfl rfl rfl rfl ?_
      refine am (iV (w64 (n9 + 1))) rfl rfl ?_
      refine an ?_
      exact awp_back (ih1 ((w64 (n9 + 1)), l17) (hk1 _ h)) (ghost_ren 2 (fun i => ([0, 1] : List Nat).getD i 0) _ _ (by decide) (EnvSub.get (.cons (Sub.imm (Imm.con _)) (.cons (Sub.ptr rfl rfl) (.cons (Sub.own rfl rfl) (.cons (Sub.imm (Imm.lst _ _)) (.cons (Sub.imm (Imm.con _)) (.cons (Sub.imm (Imm.con _)) .nil))))))) (HpSub.get (.cons rfl (ObSub.box (.cons (Sub.imm (Imm.con _)) (.cons (Sub.imm (Imm.lst _ _)) (.cons (Sub.imm (Imm.lst _ _)) (.cons (Sub.imm (Imm.con _)) (.cons (Sub.imm (Imm.imap _)) .nil)))))) (.cons rfl (ObSub.rows (rows_imm imms_encTExposure)) .nil))) rfl)
    replace h := RG.f h hb11
    unfold M92_L1 at h
    refine awp_exit ?_
    exact ⟨l10, h, (ghost_ren 1 (fun i => ([1] : List Nat).getD i 0) _ _ (by decide) (EnvSub.get (.cons (Sub.own rfl rfl) .nil)) (HpSub.get (.cons rfl (ObSub.rows (rows_imm imms_encTExposure)) .nil)) rfl)⟩
  clear h
  intro l6 h
  subst hk5
  refine sr ?_
  refine am (V.own 0 l6.length) rfl rfl ?_
  refine aa (V.own 0 l6.length) rfl rfl ?_
  refine an ?_
  refine awp_ghost (ghost_frzE 0 4 rfl (rows_imm imms_encTExposure) rfl (List.length_map ..).symm) ?_
  refine awp_ret ?_
  obtain rfl := Option.some.inj h
  exact ⟨.inl rfl, .one (.tmp rfl (Imm.lst _ _))⟩
theorem W34 (F : Nat) (a1 : TStory) (a2 : Int) (r : ((List TExposure) × Int)) (h : M34 F a1 a2 = some r) : Pure Try.prog 34 [(V.agg (encTStory a1)), (iV a2)] (V.tup [(V.lst 3 ((r.1).map encTExposure)), (iV (r.2))]) := by
  refine pure_enter Try.func34 rfl rfl (l := [.tmp 4, .tmp 5]) rfl rfl [(0, (V.agg (encTStory a1))), (1, (iV a2))] rfl (fun w0 m0 => ?_)
  unfold M34 at h
  refine sr ?_
  refine aops_box (encTStory a1) wants_none rfl rfl rfl rfl ?_
  refine aa nV rfl rfl ?_
  refine aa (iV 0) rfl rfl ?_
  refine an ?_
  refine sq ?_
  refine sr ?_
  refine aops_load_agg (cs := (encTStory a1)) tA52 wants_none rfl rfl rfl rfl rfl rfl ?_
  replace h := bind_some h
  obtain ⟨y3, hx4, h⟩ := h
  refine aops_call (iV y3) [(V.agg (encTStory a1))] fOk36 wants_none (evm_cons rfl evm_nil) (.cons (Imm.agg (imms_encTStory _)) .nil) (W36 F a1 y3 hx4) rfl ?_
  refine aa (iV y3) rfl rfl ?_
  refine an ?_
  refine sr ?_
  refine am (iV y3) rfl rfl ?_
  refine aops_bin (.bool (y3 != 0)) wants_none rfl rfl rfl rfl ?_
  refine an ?_
  refine awp_cond (y3 != 0) rfl (fun hb5 => ?_) (fun hb5 => ?_)
  · replace h := ite_t hb5 h
    refine sr ?_
    refine am (iV y3) rfl rfl ?_
    refine aa nV rfl rfl ?_
    refine aa (iV y3) rfl rfl ?_
    refine an ?_
    refine awp_ghost (ghost_tell 4 (V.lst 3 (([] : List TExposure).map encTExposure)) rfl (Sub.nil _)) ?_
    refine awp_ret ?_
    obtain rfl := Option.some.inj h
    exact ⟨.inl rfl, .two (.tmp rfl (Imm.lst _ _)) (.tmp rfl (Imm.con _))⟩
  replace h := ite_f hb5 h
  refine awp_skip ?_
  refine sq ?_
  refine sr ?_
  refine am (iV a2) rfl rfl ?_
  replace h := bind_some h
  obtain ⟨y6, hx7, h⟩ := h
  refine aops_call (bV y6) [(iV a2)] fOk72 wants_none (evm_cons rfl evm_nil) (.cons (Imm.con _) .nil) (W72 F a2 y6 hx7) rfl ?_
  refine aops_not wants_none rfl rfl ?_
  refine an ?_
  refine awp_cond (!y6) rfl (fun hb8 => ?_) (fun hb8 => ?_)
  · replace h := ite_t hb8 h
    refine sr ?_
    refine aa nV rfl rfl ?_
    refine aa (iV 9) rfl rfl ?_
    refine an ?_
    refine awp_ghost (ghost_tell 4 (V.lst 3 (([] : List TExposure).map encTExposure)) rfl (Sub.nil _)) ?_
    refine awp_ret ?_
    obtain rfl := Option.some.inj h
    exact ⟨.inl rfl, .two (.tmp rfl (Imm.lst _ _)) (.tmp rfl (Imm.con _))⟩
  replace h := ite_f hb8 h
  refine awp_skip ?_
  refine sr ?_
  refine aops_load_agg (cs := (encTStory a1)) tA52 wants_none rfl rfl rfl rfl rfl rfl ?_
  replace h := bind_some h
  obtain ⟨y9, hx10, h⟩ := h
  refine aops_call (V.agg (encTprovenderref11_view y9)) [(V.agg (encTStory a1))] fOk91 wants_none (evm_cons rfl evm_nil) (.cons (Imm.agg (imms_encTStory _)) .nil) (W91 F a1 y9 hx10) rfl ?_
  refine am (iV a2) rfl rfl ?_
  replace h := bind_some h
  obtain ⟨y11, hx12, h⟩ := h
  refine aops_call (V.lst 3 (y11.map encTExposure)) [(V.agg (encTprovenderref11_view y9)), (iV a2)] fOk92 wants_none (evm_cons rfl (evm_cons rfl evm_nil)) (.cons (Imm.agg (imms_encTprovenderref11_view _)) (.cons (Imm.con _) .nil)) (W92 F y9 a2 y11 hx12) rfl ?_
  refine aa (V.lst 3 (y11.map encTExposure)) rfl rfl ?_
  refine aa (iV 0) rfl rfl ?_
  refine an ?_
  refine awp_ret ?_
  obtain rfl := Option.some.inj h
  exact ⟨.inl rfl, .two (.tmp rfl (Imm.lst _ _)) (.tmp rfl (Imm.con _))⟩
end Go.Proofs.Ytkciogeafbbggaa
