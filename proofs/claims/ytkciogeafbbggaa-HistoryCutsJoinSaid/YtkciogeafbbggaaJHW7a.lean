/- Part of the proof: HW7a. -/
import Derived.Test.YtkciogeafbbggaaJHM
import Derived.Test.YtkciogeafbbggaaJHW6a
import Derived.Test.YtkciogeafbbggaaJHW3a
import Derived.KernelRfl
namespace Go.Proofs.Ytkciogeafbbggaa
open Go Go.Pv
set_option linter.unusedVariables false
set_option maxRecDepth 100000
theorem W94 (F : Nat) (a1 : TStory) (r : Int) (h : M94 F a1 = some r) : Pure Try.prog 94 [(V.agg (encTStory a1))] (iV r) := by
  refine pure_enter Try.func94 rfl rfl (l := [.tmp 2]) rfl rfl [(0, (V.agg (encTStory a1)))] rfl (fun w0 m0 => ?_)
  unfold M94 at h
  refine sr ?_
  refine aops_box (encTStory a1) wants_none rfl rfl rfl rfl ?_
  refine aa (iV 0) rfl rfl ?_
  refine an ?_
  refine sr ?_
  refine aops_makeMap wants_none rfl ?_
  refine aa (V.map 1) rfl rfl ?_
  refine an ?_
  refine sq ?_
  refine sr ?_
  refine aops_fieldAddr tF52_1 wants_none rfl rfl ?_
  refine aops_load_cell (V.lst 3 (a1.Releases.map encTRelease)) tC49 wants_none rfl rfl rfl rfl rfl ?_
  refine aops_len (n := a1.Releases.length) tIsSl49 wants_none rfl (congrArg some (List.length_map ..)) rfl ?_
  refine am (iV 0) rfl rfl ?_
  refine an ?_
  replace h := jn_elim h
  obtain ⟨k2, hk2, h⟩ := h
  refine awp_cut (fun _ : Unit => (⟨[], [], 0⟩ : St)) (fun _ : Unit => k2 = some r) ?_ ?_
  · clear hk2
    refine awp_block ?_
    refine awp_len (A := a1.Releases) 9 rfl (fun hA24 => ?_)
    refine awp_loop_ind (fun (p : Int × (List ((List UInt8) × Bool))) => (⟨[(1, (V.ptr 0 4 0 0)), (3, (V.map 1)), (9, (V.lst 3 (a1.Releases.map encTRelease))), (10, (iV ((a1.Releases.length : Nat) : Int))), (11, (iV (p.1)))], [(0, (Ob.arr 52 4 [(encTStory a1)])), (1, (Ob.map ((p.2).map encM9_4)))], 2⟩ : St)) (fun n (p : Int × (List ((List UInt8) × Bool))) => RG a1.Releases (fun tl nn => M94_L1 F a1 k2 tl nn p.2 = some r) n p.1) (fun p h => RG.zero h) (fun n ih1 p h => ?_) (a1.Releases.length + 1) (0, ([] : List ((List UInt8) × Bool))) (RG.start h) (ghost_ren 2 (fun i => ([0, 1] : List Nat).getD i 0) _ _ (by decide) (EnvSub.get (.cons (Sub.ptr rfl rfl) (.cons (Sub.map rfl rfl) (.cons (Sub.imm (Imm.lst _ _)) (.cons (Sub.imm (Imm.con _)) (.cons (Sub.imm (Imm.con _)) .nil)))))) (HpSub.get (.cons rfl (ObSub.box (.cons (Sub.imm (Imm.con _)) (.cons (Sub.imm (Imm.lst _ _)) (.cons (Sub.imm (Imm.lst _ _)) (.cons (Sub.imm (Imm.con _)) .nil))))) (.cons rfl (ObSub.maps encM9_4_imm) .nil))) rfl)
    obtain ⟨n5, m6⟩ := p
    refine awp_loop ?_
    refine sr ?_
    refine aops_bin (.bool (decide (n5 < ((a1.Releases.length : Nat) : Int)))) wants_none rfl rfl rfl rfl ?_
    refine an ?_
    refine sq ?_
    refine awp_cond (decide (n5 < ((a1.Releases.length : Nat) : Int))) rfl (fun hb7 => ?_) (fun hb7 => ?_)
    · obtain ⟨x8, tl, hx9, h, hk1⟩ := RG.t hA24 h hb7
      unfold M94_L1 at h
      refine awp_skip ?_
      refine sq ?_
      refine awp_block ?_
      refine sr ?_
      refine am (iV n5) rfl rfl ?_
      refine aops_index_lst (encTRelease x8) tSl49 wants_none rfl rfl (idx_some hx9).1 (idx_map encTRelease hx9) rfl ?_
      refine aops_iload_agg (cs := (encTRelease x8)) tA42 wants_none rfl rfl rfl rfl ?_
      refine aops_alloc tZ42 rfl rfl wants_none rfl ?_
      refine aa (iV n5) rfl rfl ?_
      refine aops_store (encTRelease x8) [(encTRelease x8)] tS42 wants_none rfl rfl rfl rfl rfl rfl rfl rfl ?_
      refine an ?_
      refine sq ?_
      refine awp_block ?_
      refine sr ?_
      refine aops_fieldAddr tF42_0 wants_none rfl rfl ?_
      refine aops_load_cell (sV x8.Version) tC9 wants_none rfl rfl rfl rfl rfl ?_
      replace h := bind_some h
      obtain ⟨y10, hx11, h⟩ := h
      refine aops_call (bV y10) [(sV x8.Version)] fOk93 wants_none (evm_cons rfl evm_nil) (.cons (Imm.con _) .nil) (W93 F x8.Version y10 hx11) rfl ?_
      refine aops_not wants_none rfl rfl ?_
      refine aa (bV (!y10)) rfl rfl ?_
      refine an ?_
      replace h := jn_elim h
      obtain ⟨k12, hk12, h⟩ := h
      refine awp_cut (fun _ : Unit => (⟨[(1, (V.ptr 0 4 0 0)), (3, (V.map 1)), (5, (V.ptr 2 3 0 0)), (9, (V.lst 3 (a1.Releases.map encTRelease))), (10, (iV ((a1.Releases.length : Nat) : Int))), (11, (iV n5)), (31, (V.ptr 2 3 0 1)), (32, (iV x8.Day)), (33, (V.ptr 0 4 0 3)), (34, (iV a1.Until)), (35, (bV (decide (x8.Day > a1.Until))))], [(0, (Ob.arr 52 4 [(encTStory a1)])), (1, (Ob.map (m6.map encM9_4))), (2, (Ob.arr 42 3 [(encTRelease x8)]))], 3⟩ : St)) (fun _ : Unit => k12 = some r) ?_ ?_
      · clear hk12
        refine awp_cond (!y10) rfl (fun hb13 => ?_) (fun hb13 => ?_)
        · replace h := ite_t hb13 h
          refine sr ?_
          refine aa (iV 8) rfl rfl ?_
          refine an ?_
          refine awp_ret ?_
          replace h := Option.some.inj h
          subst h
          exact ⟨.inl rfl, .one (.tmp rfl (Imm.con _))⟩
        replace h := ite_f hb13 h
        refine sr ?_
        refine am (V.map 1) rfl rfl ?_
        refine aops_fieldAddr tF42_0 wants_none rfl rfl ?_
        refine aops_load_cell (sV x8.Version) tC9 wants_none rfl rfl rfl rfl rfl ?_
        refine aops_lookup _ (bV false) (bV ((mget m6 x8.Version).getD false)) tMap135 tKey9 tZo4 (irel_con _) wants_none rfl (.own rfl) (.con rfl) ⟨_, rfl⟩ encM9_4_good (encM9_4_look m6 x8.Version) (getD_map (encM9_4_val) (mget m6 x8.Version) false) rfl ?_
        refine aa (bV ((mget m6 x8.Version).getD false)) rfl rfl ?_
        refine an ?_
        refine awp_cond ((mget m6 x8.Version).getD false) rfl (fun hb14 => ?_) (fun hb14 => ?_)
        · replace h := ite_t hb14 h
          refine sr ?_
          refine aa (iV 5) rfl rfl ?_
          refine an ?_
          refine awp_ret ?_
          replace h := Option.some.inj h
          subst h
          exact ⟨.inl rfl, .one (.tmp rfl (Imm.con _))⟩
        replace h := ite_f hb14 h
        refine sr ?_
        refine aops_fieldAddr tF42_1 wants_none rfl rfl ?_
        refine aops_load_cell (iV x8.Day) tC3 wants_none rfl rfl rfl rfl rfl ?_
        refine aops_bin (.bool (decide (x8.Day < 0))) wants_none rfl rfl rfl rfl ?_
        refine am (bV (decide (x8.Day < 0))) rfl rfl ?_
        refine bsp (decide (x8.Day < 0)) (fun hb15 => ?_) (fun hb15 => ?_)
        · replace h := ite_t hb15 h
          refine aops_skips 5 3 30 false (c := (decide (x8.Day < 0))) (b := true) rfl rfl hb15 rfl rfl ?_
          refine aops_pick true (cb := (decide (x8.Day < 0))) (bV true) wants_none rfl hb15 rfl rfl ?_
          refine aa (bV true) rfl rfl ?_
          refine an ?_
          refine awp_cond_t rfl rfl ?_
          refine sr ?_
          refine aa (iV 9) rfl rfl ?_
          refine an ?_
          refine awp_ret ?_
          replace h := Option.some.inj h
          subst h
          exact ⟨.inl rfl, .one (.tmp rfl (Imm.con _))⟩
        replace h := ite_f hb15 h
        refine aops_fieldAddr tF42_1 (wants_some (c := (decide (x8.Day < 0))) (b := false) 30 rfl rfl hb15) rfl rfl ?_
        refine aops_load_cell (iV x8.Day) tC3 (wants_some (c := (decide (x8.Day < 0))) (b := false) 30 rfl rfl hb15) rfl rfl rfl rfl rfl ?_
        refine aops_fieldAddr tF52_3 (wants_some (c := (decide (x8.Day < 0))) (b := false) 30 rfl rfl hb15) rfl rfl ?_
        refine aops_load_cell (iV a1.Until) tC3 (wants_some (c := (decide (x8.Day < 0))) (b := false) 30 rfl rfl hb15) rfl rfl rfl rfl rfl ?_
        refine aops_bin (.bool (decide (x8.Day > a1.Until))) (wants_some (c := (decide (x8.Day < 0))) (b := false) 30 rfl rfl hb15) rfl rfl rfl rfl ?_
        refine aops_pick false (cb := (decide (x8.Day < 0))) (bV (decide (x8.Day > a1.Until))) wants_none rfl hb15 rfl rfl ?_
        refine aa (bV (decide (x8.Day > a1.Until))) rfl rfl ?_
        refine an ?_
        refine awp_cond (decide (x8.Day > a1.Until)) rfl (fun hb16 => ?_) (fun hb16 => ?_)
        · replace h := ite_t hb16 h
          refine sr ?_
          refine aa (iV 9) rfl rfl ?_
          refine an ?_
          refine awp_ret ?_
          replace h := Option.some.inj h
          subst h
          exact ⟨.inl rfl, .one (.tmp rfl (Imm.con _))⟩
        replace h := ite_f hb16 h
        refine sq ?_
        refine bsp (decide (n5 > 0)) (fun hb17 => ?_) (fun hb17 => ?_)
        · replace h := ite_t hb17 h
          replace h := bind_some h
          obtain ⟨x18, hx19, h⟩ := h
          refine awp_any [OD.mk [(4, (iV n5))] [] [(38, (iV n5))] [],
                OD.mk [(38, (iV n5))] [] [(39, (bV (decide (n5 > 0))))] [],
                OD.mk [(39, (bV (decide (n5 > 0))))] [] [(40, (bV (decide (n5 > 0))))] [],
                OD.mk [(40, (bV (decide (n5 > 0)))), (5, (V.ptr 2 3 0 0))] [] [(41, (V.ptr 2 3 0 1))] [],
                OD.mk [(40, (bV (decide (n5 > 0)))), (41, (V.ptr 2 3 0 1))] [(2, (Ob.arr 42 3 [(encTRelease x8)]))] [(42, (iV x8.Day))] [],
                OD.mk [(40, (bV (decide (n5 > 0)))), (1, (V.ptr 0 4 0 0))] [] [(43, (V.ptr 0 4 0 1))] [],
                OD.mk [(40, (bV (decide (n5 > 0)))), (43, (V.ptr 0 4 0 1))] [(0, (Ob.arr 52 4 [(encTStory a1)]))] [(44, (V.lst 3 (a1.Releases.map encTRelease)))] [],
                OD.mk [(40, (bV (decide (n5 > 0)))), (4, (iV n5))] [] [(45, (iV n5))] [],
                OD.mk [(40, (bV (decide (n5 > 0)))), (45, (iV n5))] [] [(46, (iV (w64 (n5 - 1))))] [],
                OD.mk [(40, (bV (decide (n5 > 0)))), (44, (V.lst 3 (a1.Releases.map encTRelease))), (46, (iV (w64 (n5 - 1))))] [] [(47, (V.iptr (encTRelease x18) 0))] [],
                OD.mk [(40, (bV (decide (n5 > 0)))), (47, (V.iptr (encTRelease x18) 0))] [] [(48, (V.iptr (encTRelease x18) 1))] [],
                OD.mk [(40, (bV (decide (n5 > 0)))), (48, (V.iptr (encTRelease x18) 1))] [] [(49, (iV x18.Day))] [],
                OD.mk [(40, (bV (decide (n5 > 0)))), (42, (iV x8.Day)), (49, (iV x18.Day))] [] [(50, (bV (decide (x8.Day ≤ x18.Day))))] [],
                OD.mk [(40, (bV (decide (n5 > 0)))), (50, (bV (decide (x8.Day ≤ x18.Day))))] [] [(51, (bV (decide (x8.Day ≤ x18.Day))))] [],
                OD.mk [(51, (bV (decide (x8.Day ≤ x18.Day))))] [] [(37, (bV (decide (x8.Day ≤ x18.Day))))] []] mixed ⟨⟨rfl, trivial⟩, trivial, ⟨⟨rfl, trivial⟩, trivial, ⟨⟨rfl, trivial⟩, trivial, ⟨⟨rfl, rfl, trivial⟩, trivial, ⟨⟨rfl, rfl, trivial⟩, ⟨rfl, trivial⟩, ⟨⟨rfl, rfl, trivial⟩, trivial, ⟨⟨rfl, rfl, trivial⟩, ⟨rfl, trivial⟩, ⟨⟨rfl, rfl, trivial⟩, trivial, ⟨⟨rfl, rfl, trivial⟩, trivial, ⟨⟨rfl, rfl, rfl, trivial⟩, trivial, ⟨⟨rfl, rfl, trivial⟩, trivial, ⟨⟨rfl, rfl, trivial⟩, trivial, ⟨⟨rfl, rfl, rfl, trivial⟩, trivial, ⟨⟨rfl, rfl, trivial⟩, trivial, ⟨⟨rfl, trivial⟩, trivial, trivial⟩⟩⟩⟩⟩⟩⟩⟩⟩⟩⟩⟩⟩⟩⟩ (by kernel_rfl) (.cons (fun S hn h hh => aops_move (iV n5) wants_none h.1 rfl (an ⟨rfl, rfl⟩)) (.cons (fun S hn h hh => aops_bin (.bool (decide (n5 > 0))) wants_none h.1 rfl rfl rfl (an ⟨rfl, rfl⟩)) (.cons (fun S hn h hh => aops_move (bV (decide (n5 > 0))) wants_none h.1 rfl (an ⟨rfl, rfl⟩)) (.cons (fun S hn h hh => aops_fieldAddr tF42_1 (wants_some (c := (decide (n5 > 0))) (b := true) 40 rfl h.1 hb17) h.2.1 rfl (an ⟨rfl, rfl⟩)) (.cons (fun S hn h hh => aops_load_cell (iV x8.Day) tC3 (wants_some (c := (decide (n5 > 0))) (b := true) 40 rfl h.1 hb17) h.2.1 hh.1 rfl rfl rfl (an ⟨rfl, rfl⟩)) (.cons (fun S hn h hh => aops_fieldAddr tF52_1 (wants_some (c := (decide (n5 > 0))) (b := true) 40 rfl h.1 hb17) h.2.1 rfl (an ⟨rfl, rfl⟩)) (.cons (fun S hn h hh => aops_load_cell (V.lst 3 (a1.Releases.map encTRelease)) tC49 (wants_some (c := (decide (n5 > 0))) (b := true) 40 rfl h.1 hb17) h.2.1 hh.1 rfl rfl rfl (an ⟨rfl, rfl⟩)) (.cons (fun S hn h hh => aops_move (iV n5) (wants_some (c := (decide (n5 > 0))) (b := true) 40 rfl h.1 hb17) h.2.1 rfl (an ⟨rfl, rfl⟩)) (.cons (fun S hn h hh => aops_bin (.int .i64 (w64 (n5 - 1))) (wants_some (c := (decide (n5 > 0))) (b := true) 40 rfl h.1 hb17) h.2.1 rfl rfl rfl (an ⟨rfl, rfl⟩)) (.cons (fun S hn h hh => aops_index_lst (encTRelease x18) tSl49 (wants_some (c := (decide (n5 > 0))) (b := true) 40 rfl h.1 hb17) h.2.1 h.2.2.1 (idx_some hx19).1 (idx_map encTRelease hx19) rfl (an ⟨rfl, rfl⟩)) (.cons (fun S hn h hh => aops_ifieldAddr tF42_1 (wants_some (c := (decide (n5 > 0))) (b := true) 40 rfl h.1 hb17) h.2.1 rfl (an ⟨rfl, rfl⟩)) (.cons (fun S hn h hh => aops_iload_cell (iV x18.Day) tC3 (wants_some (c := (decide (n5 > 0))) (b := true) 40 rfl h.1 hb17) h.2.1 rfl rfl (an ⟨rfl, rfl⟩)) (.cons (fun S hn h hh => aops_bin (.bool (decide (x8.Day ≤ x18.Day))) (wants_some (c := (decide (n5 > 0))) (b := true) 40 rfl h.1 hb17) h.2.1 h.2.2.1 rfl rfl (an ⟨rfl, rfl⟩)) (.cons (fun S hn h hh => aops_pick true (cb := (decide (n5 > 0))) (bV (decide (x8.Day ≤ x18.Day))) wants_none h.1 hb17 h.2.1 rfl (an ⟨rfl, rfl⟩)) (.cons (fun S hn h hh => aops_assign (bV (decide (x8.Day ≤ x18.Day))) wants_none h.1 rfl (an ⟨rfl, rfl⟩)) .nil))))))))))))))) ?_
          refine awp_cond (decide (x8.Day ≤ x18.Day)) rfl (fun hb20 => ?_) (fun hb20 => ?_)
          · replace h := ite_t hb20 h
            refine sr ?_
            refine aa (iV 10) rfl rfl ?_
            refine an ?_
            refine awp_ret ?_
            replace h := Option.some.inj h
            subst h
            exact ⟨.inl rfl, .one (.tmp rfl (Imm.con _))⟩
          replace h := ite_f hb20 h
          refine awp_skip ?_
          exact ⟨(), h, (ghost_ren 3 (fun i => ([0, 1, 2] : List Nat).getD i 0) _ _ (by decide) (EnvSub.get (.cons (Sub.ptr rfl rfl) (.cons (Sub.map rfl rfl) (.cons (Sub.ptr rfl rfl) (.cons (Sub.imm (Imm.lst _ _)) (.cons (Sub.imm (Imm.con _)) (.cons (Sub.imm (Imm.con _)) (.cons (Sub.ptr rfl rfl) (.cons (Sub.imm (Imm.con _)) (.cons (Sub.ptr rfl rfl) (.cons (Sub.imm (Imm.con _)) (.cons (Sub.imm (Imm.con _)) .nil)))))))))))) (HpSub.get (.cons rfl (ObSub.box (.cons (Sub.imm (Imm.con _)) (.cons (Sub.imm (Imm.lst _ _)) (.cons (Sub.imm (Imm.lst _ _)) (.cons (Sub.imm (Imm.con _)) .nil))))) (.cons rfl (ObSub.maps encM9_4_imm) (.cons rfl (ObSub.box (.cons (Sub.imm (Imm.con _)) (.cons (Sub.imm (Imm.con _)) (.cons (Sub.imm (Imm.lst _ _)) .nil)))) .nil)))) rfl)⟩
        replace h := ite_f hb17 h
        refine awp_any [OD.mk [(4, (iV n5))] [] [(38, (iV n5))] [],
              OD.mk [(38, (iV n5))] [] [(39, (bV (decide (n5 > 0))))] [],
              OD.mk [(39, (bV (decide (n5 > 0))))] [] [(40, (bV (decide (n5 > 0))))] [],
              OD.mk [(40, (bV (decide (n5 > 0))))] [] [(41, (V.con undef))] [],
              OD.mk [(40, (bV (decide (n5 > 0))))] [] [(42, (V.con undef))] [],
              OD.mk [(40, (bV (decide (n5 > 0))))] [] [(43, (V.con undef))] [],
              OD.mk [(40, (bV (decide (n5 > 0))))] [] [(44, (V.con undef))] [],
              OD.mk [(40, (bV (decide (n5 > 0))))] [] [(45, (V.con undef))] [],
              OD.mk [(40, (bV (decide (n5 > 0))))] [] [(46, (V.con undef))] [],
              OD.mk [(40, (bV (decide (n5 > 0))))] [] [(47, (V.con undef))] [],
              OD.mk [(40, (bV (decide (n5 > 0))))] [] [(48, (V.con undef))] [],
              OD.mk [(40, (bV (decide (n5 > 0))))] [] [(49, (V.con undef))] [],
              OD.mk [(40, (bV (decide (n5 > 0))))] [] [(50, (V.con undef))] [],
              OD.mk [(40, (bV (decide (n5 > 0))))] [] [(51, (bV false))] [],
              OD.mk [(51, (bV false))] [] [(37, (bV false))] []] mixed ⟨⟨rfl, trivial⟩, trivial, ⟨⟨rfl, trivial⟩, trivial, ⟨⟨rfl, trivial⟩, trivial, ⟨⟨rfl, trivial⟩, trivial, ⟨⟨rfl, trivial⟩, trivial, ⟨⟨rfl, trivial⟩, trivial, ⟨⟨rfl, trivial⟩, trivial, ⟨⟨rfl, trivial⟩, trivial, ⟨⟨rfl, trivial⟩, trivial, ⟨⟨rfl, trivial⟩, trivial, ⟨⟨rfl, trivial⟩, trivial, ⟨⟨rfl, trivial⟩, trivial, ⟨⟨rfl, trivial⟩, trivial, ⟨⟨rfl, trivial⟩, trivial, ⟨⟨rfl, trivial⟩, trivial, trivial⟩⟩⟩⟩⟩⟩⟩⟩⟩⟩⟩⟩⟩⟩⟩ (by kernel_rfl) (.cons (fun S hn h hh => aops_move (iV n5) wants_none h.1 rfl (an ⟨rfl, rfl⟩)) (.cons (fun S hn h hh => aops_bin (.bool (decide (n5 > 0))) wants_none h.1 rfl rfl rfl (an ⟨rfl, rfl⟩)) (.cons (fun S hn h hh => aops_move (bV (decide (n5 > 0))) wants_none h.1 rfl (an ⟨rfl, rfl⟩)) (.cons (fun S hn h hh => aops_skip (wants_some (c := (decide (n5 > 0))) (b := false) 40 rfl h.1 hb17) rfl rfl (an ⟨rfl, rfl⟩)) (.cons (fun S hn h hh => aops_skip (wants_some (c := (decide (n5 > 0))) (b := false) 40 rfl h.1 hb17) rfl rfl (an ⟨rfl, rfl⟩)) (.cons (fun S hn h hh => aops_skip (wants_some (c := (decide (n5 > 0))) (b := false) 40 rfl h.1 hb17) rfl rfl (an ⟨rfl, rfl⟩)) (.cons (fun S hn h hh => aops_skip (wants_some (c := (decide (n5 > 0))) (b := false) 40 rfl h.1 hb17) rfl rfl (an ⟨rfl, rfl⟩)) (.cons (fun S hn h hh => aops_skip (wants_some (c := (decide (n5 > 0))) (b := false) 40 rfl h.1 hb17) rfl rfl (an ⟨rfl, rfl⟩)) (.cons (fun S hn h hh => aops_skip (wants_some (c := (decide (n5 > 0))) (b := false) 40 rfl h.1 hb17) rfl rfl (an ⟨rfl, rfl⟩)) (.cons (fun S hn h hh => aops_skip (wants_some (c := (decide (n5 > 0))) (b := false) 40 rfl h.1 hb17) rfl rfl (an ⟨rfl, rfl⟩)) (.cons (fun S hn h hh => aops_skip (wants_some (c := (decide (n5 > 0))) (b := false) 40 rfl h.1 hb17) rfl rfl (an ⟨rfl, rfl⟩)) (.cons (fun S hn h hh => aops_skip (wants_some (c := (decide (n5 > 0))) (b := false) 40 rfl h.1 hb17) rfl rfl (an ⟨rfl, rfl⟩)) (.cons (fun S hn h hh => aops_skip (wants_some (c := (decide (n5 > 0))) (b := false) 40 rfl h.1 hb17) rfl rfl (an ⟨rfl, rfl⟩)) (.cons (fun S hn h hh => aops_pick false (cb := (decide (n5 > 0))) (bV false) wants_none h.1 hb17 rfl rfl (an ⟨rfl, rfl⟩)) (.cons (fun S hn h hh => aops_assign (bV false) wants_none h.1 rfl (an ⟨rfl, rfl⟩)) .nil))))))))))))))) ?_
        refine awp_cond_f rfl rfl ?_
        refine awp_skip ?_
        exact ⟨(), h, (ghost_ren 3 (fun i => ([0, 1, 2] : List Nat).getD i 0) _ _ (by decide) (EnvSub.get (.cons (Sub.ptr rfl rfl) (.cons (Sub.map rfl rfl) (.cons (Sub.ptr rfl rfl) (.cons (Sub.imm (Imm.lst _ _)) (.cons (Sub.imm (Imm.con _)) (.cons (Sub.imm (Imm.con _)) (.cons (Sub.ptr rfl rfl) (.cons (Sub.imm (Imm.con _)) (.cons (Sub.ptr rfl rfl) (.cons (Sub.imm (Imm.con _)) (.cons (Sub.imm (Imm.con _)) .nil)))))))))))) (HpSub.get (.cons rfl (ObSub.box (.cons (Sub.imm (Imm.con _)) (.cons (Sub.imm (Imm.lst _ _)) (.cons (Sub.imm (Imm.lst _ _)) (.cons (Sub.imm (Imm.con _)) .nil))))) (.cons rfl (ObSub.maps encM9_4_imm) (.cons rfl (ObSub.box (.cons (Sub.imm (Imm.con _)) (.cons (Sub.imm (Imm.con _)) (.cons (Sub.imm (Imm.lst _ _)) .nil)))) .nil)))) rfl)⟩
      clear h
      intro _ h
      subst hk12
      refine sr ?_
      refine am (V.map 1) rfl rfl ?_
      refine aops_fieldAddr tF42_0 wants_none rfl rfl ?_
      refine aops_load_cell (sV x8.Version) tC9 wants_none rfl rfl rfl rfl rfl ?_
      refine aops_mapUpdate ((mput m6 x8.Version true).map encM9_4) tMap135 tKey9 wants_none rfl rfl (.con rfl) ⟨_, rfl⟩ encM9_4_good rfl (encM9_4_puts m6 x8.Version true) ?_
      refine an ?_
      refine sr ?_
      refine aops_fieldAddr tF42_2 wants_none rfl rfl ?_
      refine aops_load_cell (V.lst 3 (x8.Exposures.map encTExposure)) tC40 wants_none rfl rfl rfl rfl rfl ?_
      replace h := bind_some h
      obtain ⟨y21, hx22, h⟩ := h
      refine aops_call (iV y21) [(V.lst 3 (x8.Exposures.map encTExposure))] fOk127 wants_none (evm_cons rfl evm_nil) (.cons (Imm.lst _ _) .nil) (W127 F x8.Exposures y21 hx22) rfl ?_
      refine aa (iV y21) rfl rfl ?_
      refine an ?_
      refine sr ?_
      refine am (iV y21) rfl rfl ?_
      refine aops_bin (.bool (y21 != 0)) wants_none rfl rfl rfl rfl ?_
      refine an ?_
      refine awp_cond (y21 != 0) rfl (fun hb23 => ?_) (fun hb23 => ?_)
      · replace h := ite_t hb23 h
        refine sr ?_
        refine am (iV y21) rfl rfl ?_
        refine aa (iV y21) rfl rfl ?_
        refine an ?_
        refine awp_ret ?_
        replace h := Option.some.inj h
        subst h
        exact ⟨.inl rfl, .one (.tmp rfl (Imm.con _))⟩
      replace h := ite_f hb23 h
      refine awp_skip ?_
      refine rg ?_
      refine aops_bin (.int .i64 (w64 (n5 + 1))) wants_none rfl rfl rfl rfl ?_
      refine am (iV (w64 (n5 + 1))) rfl rfl ?_
      refine an ?_
      exact awp_back (ih1 ((w64 (n5 + 1)), (mput m6 x8.Version true)) (hk1 _ h)) (ghost_ren 2 (fun i => ([0, 1] : List Nat).getD i 0) _ _ (by decide) (EnvSub.get (.cons (Sub.ptr rfl rfl) (.cons (Sub.map rfl rfl) (.cons (Sub.imm (Imm.lst _ _)) (.cons (Sub.imm (Imm.con _)) (.cons (Sub.imm (Imm.con _)) .nil)))))) (HpSub.get (.cons rfl (ObSub.box (.cons (Sub.imm (Imm.con _)) (.cons (Sub.imm (Imm.lst _ _)) (.cons (Sub.imm (Imm.lst _ _)) (.cons (Sub.imm (Imm.con _)) .nil))))) (.cons rfl (ObSub.maps encM9_4_imm) .nil))) rfl)
    replace h := RG.f h hb7
    unfold M94_L1 at h
    refine awp_exit ?_
    exact ⟨(), h, (ghost_ren 0 (fun i => ([] : List Nat).getD i 0) _ _ (by decide) (EnvSub.get .nil) (HpSub.get .nil) rfl)⟩
  clear h
  intro _ h
  subst hk2
  refine sr ?_
  refine aa (iV 0) rfl rfl ?_
  refine an ?_
  refine awp_ret ?_
  replace h := Option.some.inj h
  subst h
  exact ⟨.inl rfl, .one (.tmp rfl (Imm.con _))⟩
theorem W35 (F : Nat) (a1 : TStory) (r : Int) (h : M35 F a1 = some r) : Pure Try.prog 35 [(V.agg (encTStory a1))] (iV r) := by
  refine pure_enter Try.func35 rfl rfl (l := [.tmp 2]) rfl rfl [(0, (V.agg (encTStory a1)))] rfl (fun w0 m0 => ?_)
  unfold M35 at h
  refine sr ?_
  refine aops_box (encTStory a1) wants_none rfl rfl rfl rfl ?_
  refine aa (iV 0) rfl rfl ?_
  refine an ?_
  refine sq ?_
  refine awp_block ?_
  refine sr ?_
  refine aops_fieldAddr tF52_0 wants_none rfl rfl ?_
  refine aops_load_cell (sV a1.Product) tC9 wants_none rfl rfl rfl rfl rfl ?_
  replace h := bind_some h
  obtain ⟨y2, hx3, h⟩ := h
  refine aops_call (bV y2) [(sV a1.Product)] fOk93 wants_none (evm_cons rfl evm_nil) (.cons (Imm.con _) .nil) (W93 F a1.Product y2 hx3) rfl ?_
  refine aops_not wants_none rfl rfl ?_
  refine aa (bV (!y2)) rfl rfl ?_
  refine an ?_
  refine awp_cond (!y2) rfl (fun hb4 => ?_) (fun hb4 => ?_)
  · replace h := ite_t hb4 h
    refine sr ?_
    refine aa (iV 8) rfl rfl ?_
    refine an ?_
    refine awp_ret ?_
    replace h := Option.some.inj h
    subst h
    exact ⟨.inl rfl, .one (.tmp rfl (Imm.con _))⟩
  replace h := ite_f hb4 h
  refine sr ?_
  refine aops_fieldAddr tF52_3 wants_none rfl rfl ?_
  refine aops_load_cell (iV a1.Until) tC3 wants_none rfl rfl rfl rfl rfl ?_
  replace h := bind_some h
  obtain ⟨y5, hx6, h⟩ := h
  refine aops_call (bV y5) [(iV a1.Until)] fOk69 wants_none (evm_cons rfl evm_nil) (.cons (Imm.con _) .nil) (W69 F a1.Until y5 hx6) rfl ?_
  refine aops_not wants_none rfl rfl ?_
  refine aa (bV (!y5)) rfl rfl ?_
  refine an ?_
  refine awp_cond (!y5) rfl (fun hb7 => ?_) (fun hb7 => ?_)
  · replace h := ite_t hb7 h
    refine sr ?_
    refine aa (iV 9) rfl rfl ?_
    refine an ?_
    refine awp_ret ?_
    replace h := Option.some.inj h
    subst h
    exact ⟨.inl rfl, .one (.tmp rfl (Imm.con _))⟩
  replace h := ite_f hb7 h
  refine sr ?_
  refine aops_fieldAddr tF52_1 wants_none rfl rfl ?_
  refine aops_load_cell (V.lst 3 (a1.Releases.map encTRelease)) tC49 wants_none rfl rfl rfl rfl rfl ?_
  refine aops_len (n := a1.Releases.length) tIsSl49 wants_none rfl (congrArg some (List.length_map ..)) rfl ?_
  refine aops_bin (.bool (decide (((a1.Releases.length : Nat) : Int) > 500))) wants_none rfl rfl rfl rfl ?_
  refine am (bV (decide (((a1.Releases.length : Nat) : Int) > 500))) rfl rfl ?_
  refine bsp (decide (((a1.Releases.length : Nat) : Int) > 500)) (fun hb8 => ?_) (fun hb8 => ?_)
  · replace h := ite_t hb8 h
    refine aops_skips 4 4 26 false (c := (decide (((a1.Releases.length : Nat) : Int) > 500))) (b := true) rfl rfl hb8 rfl rfl ?_
    refine aops_pick true (cb := (decide (((a1.Releases.length : Nat) : Int) > 500))) (bV true) wants_none rfl hb8 rfl rfl ?_
    refine aa (bV true) rfl rfl ?_
    refine an ?_
    refine awp_cond_t rfl rfl ?_
    refine sr ?_
    refine aa (iV 3) rfl rfl ?_
    refine an ?_
    refine awp_ret ?_
    replace h := Option.some.inj h
    subst h
    exact ⟨.inl rfl, .one (.tmp rfl (Imm.con _))⟩
  replace h := ite_f hb8 h
  refine aops_fieldAddr tF52_2 (wants_some (c := (decide (((a1.Releases.length : Nat) : Int) > 500))) (b := false) 26 rfl rfl hb8) rfl rfl ?_
  refine aops_load_cell (V.lst 3 (a1.Known.map encTPublished)) tC50 (wants_some (c := (decide (((a1.Releases.length : Nat) : Int) > 500))) (b := false) 26 rfl rfl hb8) rfl rfl rfl rfl rfl ?_
  refine aops_len (n := a1.Known.length) tIsSl50 (wants_some (c := (decide (((a1.Releases.length : Nat) : Int) > 500))) (b := false) 26 rfl rfl hb8) rfl (congrArg some (List.length_map ..)) rfl ?_
  refine aops_bin (.bool (decide (((a1.Known.length : Nat) : Int) > 2000))) (wants_some (c := (decide (((a1.Releases.length : Nat) : Int) > 500))) (b := false) 26 rfl rfl hb8) rfl rfl rfl rfl ?_
  refine aops_pick false (cb := (decide (((a1.Releases.length : Nat) : Int) > 500))) (bV (decide (((a1.Known.length : Nat) : Int) > 2000))) wants_none rfl hb8 rfl rfl ?_
  refine aa (bV (decide (((a1.Known.length : Nat) : Int) > 2000))) rfl rfl ?_
  refine an ?_
  refine awp_cond (decide (((a1.Known.length : Nat) : Int) > 2000)) rfl (fun hb9 => ?_) (fun hb9 => ?_)
  · replace h := ite_t hb9 h
    refine sr ?_
    refine aa (iV 3) rfl rfl ?_
    refine an ?_
    refine awp_ret ?_
    replace h := Option.some.inj h
    subst h
    exact ⟨.inl rfl, .one (.tmp rfl (Imm.con _))⟩
  replace h := ite_f hb9 h
  refine awp_skip ?_
  refine sq ?_
  refine sr ?_
  refine aops_load_agg (cs := (encTStory a1)) tA52 wants_none rfl rfl rfl rfl rfl rfl ?_
  replace h := bind_some h
  obtain ⟨y10, hx11, h⟩ := h
  refine aops_call (iV y10) [(V.agg (encTStory a1))] fOk94 wants_none (evm_cons rfl evm_nil) (.cons (Imm.agg (imms_encTStory _)) .nil) (W94 F a1 y10 hx11) rfl ?_
  refine aa (iV y10) rfl rfl ?_
  refine an ?_
  refine sr ?_
  refine am (iV y10) rfl rfl ?_
  refine aops_bin (.bool (y10 != 0)) wants_none rfl rfl rfl rfl ?_
  refine an ?_
  refine awp_cond (y10 != 0) rfl (fun hb12 => ?_) (fun hb12 => ?_)
  · replace h := ite_t hb12 h
    refine sr ?_
    refine am (iV y10) rfl rfl ?_
    refine aa (iV y10) rfl rfl ?_
    refine an ?_
    refine awp_ret ?_
    replace h := Option.some.inj h
    subst h
    exact ⟨.inl rfl, .one (.tmp rfl (Imm.con _))⟩
  replace h := ite_f hb12 h
  refine awp_skip ?_
  refine sr ?_
  refine aops_makeMap wants_none rfl ?_
  refine aa (V.map 1) rfl rfl ?_
  refine an ?_
  refine sq ?_
  refine sr ?_
  refine aops_fieldAddr tF52_2 wants_none rfl rfl ?_
  refine aops_load_cell (V.lst 3 (a1.Known.map encTPublished)) tC50 wants_none rfl rfl rfl rfl rfl ?_
  refine aops_len (n := a1.Known.length) tIsSl50 wants_none rfl (congrArg some (List.length_map ..)) rfl ?_
  refine am (iV 0) rfl rfl ?_
  refine an ?_
  replace h := jn_elim h
  obtain ⟨k13, hk13, h⟩ := h
  refine awp_cut (fun (p : (List ((List UInt8) × Bool))) => (⟨[(1, (V.ptr 0 4 0 0)), (4, (V.map 1))], [(0, (Ob.arr 52 4 [(encTStory a1)])), (1, (Ob.map (p.map encM9_4)))], 2⟩ : St)) (fun (p : (List ((List UInt8) × Bool))) => k13 p = some r) ?_ ?_
  · clear hk13
    refine awp_block ?_
    refine awp_len (A := a1.Known) 28 rfl (fun hA43 => ?_)
    refine awp_loop_ind (fun (p : Int × (List ((List UInt8) × Bool))) => (⟨[(1, (V.ptr 0 4 0 0)), (4, (V.map 1)), (39, (V.lst 3 (a1.Known.map encTPublished))), (40, (iV ((a1.Known.length : Nat) : Int))), (41, (iV (p.1)))], [(0, (Ob.arr 52 4 [(encTStory a1)])), (1, (Ob.map ((p.2).map encM9_4)))], 2⟩ : St)) (fun n (p : Int × (List ((List UInt8) × Bool))) => RG a1.Known (fun tl nn => M35_L1 F a1 k13 tl nn p.2 = some r) n p.1) (fun p h => RG.zero h) (fun n ih1 p h => ?_) (a1.Known.length + 1) (0, ([] : List ((List UInt8) × Bool))) (RG.start h) (ghost_ren 2 (fun i => ([0, 1] : List Nat).getD i 0) _ _ (by decide) (EnvSub.get (.cons (Sub.ptr rfl rfl) (.cons (Sub.map rfl rfl) (.cons (Sub.imm (Imm.lst _ _)) (.cons (Sub.imm (Imm.con _)) (.cons (Sub.imm (Imm.con _)) .nil)))))) (HpSub.get (.cons rfl (ObSub.box (.cons (Sub.imm (Imm.con _)) (.cons (Sub.imm (Imm.lst _ _)) (.cons (Sub.imm (Imm.lst _ _)) (.cons (Sub.imm (Imm.con _)) .nil))))) (.cons rfl (ObSub.maps encM9_4_imm) .nil))) rfl)
    obtain ⟨n17, m18⟩ := p
    refine awp_loop ?_
    refine sr ?_
    refine aops_bin (.bool (decide (n17 < ((a1.Known.length : Nat) : Int)))) wants_none rfl rfl rfl rfl ?_
    refine an ?_
    refine sq ?_
    refine awp_cond (decide (n17 < ((a1.Known.length : Nat) : Int))) rfl (fun hb19 => ?_) (fun hb19 => ?_)
    · obtain ⟨x20, tl, hx21, h, hk1⟩ := RG.t hA43 h hb19
      unfold M35_L1 at h
      refine awp_skip ?_
      refine sq ?_
      refine awp_block ?_
      refine sr ?_
      refine am (iV n17) rfl rfl ?_
      refine aops_index_lst (encTPublished x20) tSl50 wants_none rfl rfl (idx_some hx21).1 (idx_map encTPublished hx21) rfl ?_
      refine aops_iload_agg (cs := (encTPublished x20)) tA137 wants_none rfl rfl rfl rfl ?_
      refine aops_alloc tZ137 rfl rfl wants_none rfl ?_
      refine aa (iV n17) rfl rfl ?_
      refine aops_store (encTPublished x20) [(encTPublished x20)] tS137 wants_none rfl rfl rfl rfl rfl rfl rfl rfl ?_
      refine an ?_
      refine sq ?_
      refine awp_block ?_
      refine sr ?_
      refine aops_fieldAddr tF137_0 wants_none rfl rfl ?_
      refine aops_load_cell (sV x20.Advisory) tC9 wants_none rfl rfl rfl rfl rfl ?_
      replace h := bind_some h
      obtain ⟨y22, hx23, h⟩ := h
      refine aops_call (bV y22) [(sV x20.Advisory)] fOk93 wants_none (evm_cons rfl evm_nil) (.cons (Imm.con _) .nil) (W93 F x20.Advisory y22 hx23) rfl ?_
      refine aops_not wants_none rfl rfl ?_
      refine aa (bV (!y22)) rfl rfl ?_
      refine an ?_
      replace h := jn_elim h
      obtain ⟨k24, hk24, h⟩ := h
      refine awp_cut (fun (p : Bool) => (⟨[(1, (V.ptr 0 4 0 0)), (4, (V.map 1)), (6, (V.ptr 2 3 0 0)), (39, (V.lst 3 (a1.Known.map encTPublished))), (40, (iV ((a1.Known.length : Nat) : Int))), (41, (iV n17)), (72, (V.ptr 2 3 0 2)), (73, (iV x20.Ended)), (74, (bV (x20.Ended != (-1)))), (75, (bV (x20.Ended != (-1)))), (86, (bV p))], [(0, (Ob.arr 52 4 [(encTStory a1)])), (1, (Ob.map (m18.map encM9_4))), (2, (Ob.arr 137 3 [(encTPublished x20)]))], 3⟩ : St)) (fun (p : Bool) => k24 p = some r) ?_ ?_
      · clear hk24
        refine awp_cond (!y22) rfl (fun hb26 => ?_) (fun hb26 => ?_)
        · replace h := ite_t hb26 h
          refine sr ?_
          refine aa (iV 8) rfl rfl ?_
          refine an ?_
          refine awp_ret ?_
          replace h := Option.some.inj h
          subst h
          exact ⟨.inl rfl, .one (.tmp rfl (Imm.con _))⟩
        replace h := ite_f hb26 h
        refine sq ?_
        refine bsp (decide (n17 > 0)) (fun hb27 => ?_) (fun hb27 => ?_)
        · replace h := ite_t hb27 h
          replace h := bind_some h
          obtain ⟨x28, hx29, h⟩ := h
          refine awp_any [OD.mk [(5, (iV n17))] [] [(52, (iV n17))] [],
                OD.mk [(52, (iV n17))] [] [(53, (bV (decide (n17 > 0))))] [],
                OD.mk [(53, (bV (decide (n17 > 0))))] [] [(54, (bV (decide (n17 > 0))))] [],
                OD.mk [(54, (bV (decide (n17 > 0)))), (6, (V.ptr 2 3 0 0))] [] [(55, (V.ptr 2 3 0 0))] [],
                OD.mk [(54, (bV (decide (n17 > 0)))), (55, (V.ptr 2 3 0 0))] [(2, (Ob.arr 137 3 [(encTPublished x20)]))] [(56, (sV x20.Advisory))] [],
                OD.mk [(54, (bV (decide (n17 > 0)))), (1, (V.ptr 0 4 0 0))] [] [(57, (V.ptr 0 4 0 2))] [],
                OD.mk [(54, (bV (decide (n17 > 0)))), (57, (V.ptr 0 4 0 2))] [(0, (Ob.arr 52 4 [(encTStory a1)]))] [(58, (V.lst 3 (a1.Known.map encTPublished)))] [],
                OD.mk [(54, (bV (decide (n17 > 0)))), (5, (iV n17))] [] [(59, (iV n17))] [],
                OD.mk [(54, (bV (decide (n17 > 0)))), (59, (iV n17))] [] [(60, (iV (w64 (n17 - 1))))] [],
                OD.mk [(54, (bV (decide (n17 > 0)))), (58, (V.lst 3 (a1.Known.map encTPublished))), (60, (iV (w64 (n17 - 1))))] [] [(61, (V.iptr (encTPublished x28) 0))] [],
                OD.mk [(54, (bV (decide (n17 > 0)))), (61, (V.iptr (encTPublished x28) 0))] [] [(62, (V.iptr (encTPublished x28) 0))] [],
                OD.mk [(54, (bV (decide (n17 > 0)))), (62, (V.iptr (encTPublished x28) 0))] [] [(63, (sV x28.Advisory))] [],
                OD.mk [(54, (bV (decide (n17 > 0)))), (56, (sV x20.Advisory)), (63, (sV x28.Advisory))] [] [(64, (bV (Op.bytesLess x20.Advisory x28.Advisory || x20.Advisory == x28.Advisory)))] [],
                OD.mk [(54, (bV (decide (n17 > 0)))), (64, (bV (Op.bytesLess x20.Advisory x28.Advisory || x20.Advisory == x28.Advisory)))] [] [(65, (bV (Op.bytesLess x20.Advisory x28.Advisory || x20.Advisory == x28.Advisory)))] [],
                OD.mk [(65, (bV (Op.bytesLess x20.Advisory x28.Advisory || x20.Advisory == x28.Advisory)))] [] [(51, (bV (Op.bytesLess x20.Advisory x28.Advisory || x20.Advisory == x28.Advisory)))] []] mixed ⟨⟨rfl, trivial⟩, trivial, ⟨⟨rfl, trivial⟩, trivial, ⟨⟨rfl, trivial⟩, trivial, ⟨⟨rfl, rfl, trivial⟩, trivial, ⟨⟨rfl, rfl, trivial⟩, ⟨rfl, trivial⟩, ⟨⟨rfl, rfl, trivial⟩, trivial, ⟨⟨rfl, rfl, trivial⟩, ⟨rfl, trivial⟩, ⟨⟨rfl, rfl, trivial⟩, trivial, ⟨⟨rfl, rfl, trivial⟩, trivial, ⟨⟨rfl, rfl, rfl, trivial⟩, trivial, ⟨⟨rfl, rfl, trivial⟩, trivial, ⟨⟨rfl, rfl, trivial⟩, trivial, ⟨⟨rfl, rfl, rfl, trivial⟩, trivial, ⟨⟨rfl, rfl, trivial⟩, trivial, ⟨⟨rfl, trivial⟩, trivial, trivial⟩⟩⟩⟩⟩⟩⟩⟩⟩⟩⟩⟩⟩⟩⟩ (by kernel_rfl) (.cons (fun S hn h hh => aops_move (iV n17) wants_none h.1 rfl (an ⟨rfl, rfl⟩)) (.cons (fun S hn h hh => aops_bin (.bool (decide (n17 > 0))) wants_none h.1 rfl rfl rfl (an ⟨rfl, rfl⟩)) (.cons (fun S hn h hh => aops_move (bV (decide (n17 > 0))) wants_none h.1 rfl (an ⟨rfl, rfl⟩)) (.cons (fun S hn h hh => aops_fieldAddr tF137_0 (wants_some (c := (decide (n17 > 0))) (b := true) 54 rfl h.1 hb27) h.2.1 rfl (an ⟨rfl, rfl⟩)) (.cons (fun S hn h hh => aops_load_cell (sV x20.Advisory) tC9 (wants_some (c := (decide (n17 > 0))) (b := true) 54 rfl h.1 hb27) h.2.1 hh.1 rfl rfl rfl (an ⟨rfl, rfl⟩)) (.cons (fun S hn h hh => aops_fieldAddr tF52_2 (wants_some (c := (decide (n17 > 0))) (b := true) 54 rfl h.1 hb27) h.2.1 rfl (an ⟨rfl, rfl⟩)) (.cons (fun S hn h hh => aops_load_cell (V.lst 3 (a1.Known.map encTPublished)) tC50 (wants_some (c := (decide (n17 > 0))) (b := true) 54 rfl h.1 hb27) h.2.1 hh.1 rfl rfl rfl (an ⟨rfl, rfl⟩)) (.cons (fun S hn h hh => aops_move (iV n17) (wants_some (c := (decide (n17 > 0))) (b := true) 54 rfl h.1 hb27) h.2.1 rfl (an ⟨rfl, rfl⟩)) (.cons (fun S hn h hh => aops_bin (.int .i64 (w64 (n17 - 1))) (wants_some (c := (decide (n17 > 0))) (b := true) 54 rfl h.1 hb27) h.2.1 rfl rfl rfl (an ⟨rfl, rfl⟩)) (.cons (fun S hn h hh => aops_index_lst (encTPublished x28) tSl50 (wants_some (c := (decide (n17 > 0))) (b := true) 54 rfl h.1 hb27) h.2.1 h.2.2.1 (idx_some hx29).1 (idx_map encTPublished hx29) rfl (an ⟨rfl, rfl⟩)) (.cons (fun S hn h hh => aops_ifieldAddr tF137_0 (wants_some (c := (decide (n17 > 0))) (b := true) 54 rfl h.1 hb27) h.2.1 rfl (an ⟨rfl, rfl⟩)) (.cons (fun S hn h hh => aops_iload_cell (sV x28.Advisory) tC9 (wants_some (c := (decide (n17 > 0))) (b := true) 54 rfl h.1 hb27) h.2.1 rfl rfl (an ⟨rfl, rfl⟩)) (.cons (fun S hn h hh => aops_binT (.bool (Op.bytesLess x20.Advisory x28.Advisory || x20.Advisory == x28.Advisory)) (wants_some (c := (decide (n17 > 0))) (b := true) 54 rfl h.1 hb27) h.2.1 h.2.2.1 rfl rfl (an ⟨rfl, rfl⟩)) (.cons (fun S hn h hh => aops_pick true (cb := (decide (n17 > 0))) (bV (Op.bytesLess x20.Advisory x28.Advisory || x20.Advisory == x28.Advisory)) wants_none h.1 hb27 h.2.1 rfl (an ⟨rfl, rfl⟩)) (.cons (fun S hn h hh => aops_assign (bV (Op.bytesLess x20.Advisory x28.Advisory || x20.Advisory == x28.Advisory)) wants_none h.1 rfl (an ⟨rfl, rfl⟩)) .nil))))))))))))))) ?_
          refine awp_cond (Op.bytesLess x20.Advisory x28.Advisory || x20.Advisory == x28.Advisory) rfl (fun hb30 => ?_) (fun hb30 => ?_)
          · replace h := ite_t hb30 h
            refine sr ?_
            refine aa (iV 10) rfl rfl ?_
            refine an ?_
            refine awp_ret ?_
            replace h := Option.some.inj h
            subst h
            exact ⟨.inl rfl, .one (.tmp rfl (Imm.con _))⟩
          replace h := ite_f hb30 h
          refine sr ?_
          refine aops_fieldAddr tF137_1 wants_none rfl rfl ?_
          refine aops_load_cell (iV x20.Day) tC3 wants_none rfl rfl rfl rfl rfl ?_
          replace h := bind_some h
          obtain ⟨y31, hx32, h⟩ := h
          refine aops_call (bV y31) [(iV x20.Day)] fOk69 wants_none (evm_cons rfl evm_nil) (.cons (Imm.con _) .nil) (W69 F x20.Day y31 hx32) rfl ?_
          refine aops_not wants_none rfl rfl ?_
          refine am (bV (!y31)) rfl rfl ?_
          refine bsp (!y31) (fun hb33 => ?_) (fun hb33 => ?_)
          · replace h := ite_t hb33 h
            refine aops_skips 4 4 71 false (c := (!y31)) (b := true) rfl rfl hb33 rfl rfl ?_
            refine aops_skip (wants_undef 75 rfl rfl) rfl rfl ?_
            refine aops_skip (wants_undef 75 rfl rfl) rfl rfl ?_
            refine aops_skip (wants_undef 75 rfl rfl) rfl rfl ?_
            refine aops_skip (wants_undef 75 rfl rfl) rfl rfl ?_
            refine aops_skip (wants_undef 75 rfl rfl) rfl rfl ?_
            refine aops_skip (wants_undef 75 rfl rfl) rfl rfl ?_
            refine aops_skip (wants_undef 81 rfl rfl) rfl rfl ?_
            refine aops_skip (wants_undef 81 rfl rfl) rfl rfl ?_
            refine aops_skip (wants_undef 81 rfl rfl) rfl rfl ?_
            refine aops_skip (wants_undef 75 rfl rfl) rfl rfl ?_
            refine aops_skip (wants_some (c := (!y31)) (b := true) 71 rfl rfl hb33) rfl rfl ?_
            refine aops_pick true (cb := (!y31)) (bV true) wants_none rfl hb33 rfl rfl ?_
            refine aa (bV true) rfl rfl ?_
            refine an ?_
            refine awp_cond_t rfl rfl ?_
            refine sr ?_
            refine aa (iV 9) rfl rfl ?_
            refine an ?_
            refine awp_ret ?_
            replace h := Option.some.inj h
            subst h
            exact ⟨.inl rfl, .one (.tmp rfl (Imm.con _))⟩
          replace h := ite_f hb33 h
          refine aops_fieldAddr tF137_2 (wants_some (c := (!y31)) (b := false) 71 rfl rfl hb33) rfl rfl ?_
          refine aops_load_cell (iV x20.Ended) tC3 (wants_some (c := (!y31)) (b := false) 71 rfl rfl hb33) rfl rfl rfl rfl rfl ?_
          refine aops_bin (.bool (x20.Ended != (-1))) (wants_some (c := (!y31)) (b := false) 71 rfl rfl hb33) rfl rfl rfl rfl ?_
          refine aops_move (bV (x20.Ended != (-1))) (wants_some (c := (!y31)) (b := false) 71 rfl rfl hb33) rfl rfl ?_
          refine bsp (x20.Ended != (-1)) (fun hb34 => ?_) (fun hb34 => ?_)
          · replace h := ite_t hb34 h
            refine aops_fieldAddr tF137_2 (wants_some (c := (x20.Ended != (-1))) (b := true) 75 rfl rfl hb34) rfl rfl ?_
            refine aops_load_cell (iV x20.Ended) tC3 (wants_some (c := (x20.Ended != (-1))) (b := true) 75 rfl rfl hb34) rfl rfl rfl rfl rfl ?_
            refine aops_fieldAddr tF137_1 (wants_some (c := (x20.Ended != (-1))) (b := true) 75 rfl rfl hb34) rfl rfl ?_
            refine aops_load_cell (iV x20.Day) tC3 (wants_some (c := (x20.Ended != (-1))) (b := true) 75 rfl rfl hb34) rfl rfl rfl rfl rfl ?_
            refine aops_bin (.bool (decide (x20.Ended < x20.Day))) (wants_some (c := (x20.Ended != (-1))) (b := true) 75 rfl rfl hb34) rfl rfl rfl rfl ?_
            refine aops_move (bV (decide (x20.Ended < x20.Day))) (wants_some (c := (x20.Ended != (-1))) (b := true) 75 rfl rfl hb34) rfl rfl ?_
            refine bsp (decide (x20.Ended < x20.Day)) (fun hb35 => ?_) (fun hb35 => ?_)
            · replace h := ite_t hb35 h
              refine aops_skips 3 14 81 false (c := (decide (x20.Ended < x20.Day))) (b := true) rfl rfl hb35 rfl rfl ?_
              refine aops_pick true (cb := (decide (x20.Ended < x20.Day))) (bV true) (wants_some (c := (x20.Ended != (-1))) (b := true) 75 rfl rfl hb34) rfl hb35 rfl rfl ?_
              refine aops_pick true (cb := (x20.Ended != (-1))) (bV true) (wants_some (c := (!y31)) (b := false) 71 rfl rfl hb33) rfl hb34 rfl rfl ?_
              refine aops_pick false (cb := (!y31)) (bV true) wants_none rfl hb33 rfl rfl ?_
              refine aa (bV true) rfl rfl ?_
              refine an ?_
              refine awp_cond_t rfl rfl ?_
              refine sr ?_
              refine aa (iV 9) rfl rfl ?_
              refine an ?_
              refine awp_ret ?_
              replace h := Option.some.inj h
              subst h
              exact ⟨.inl rfl, .one (.tmp rfl (Imm.con _))⟩
            replace h := ite_f hb35 h
            refine aops_fieldAddr tF137_2 (wants_some (c := (decide (x20.Ended < x20.Day))) (b := false) 81 rfl rfl hb35) rfl rfl ?_
            refine aops_load_cell (iV x20.Ended) tC3 (wants_some (c := (decide (x20.Ended < x20.Day))) (b := false) 81 rfl rfl hb35) rfl rfl rfl rfl rfl ?_
            refine aops_bin (.bool (decide (x20.Ended > 1000000))) (wants_some (c := (decide (x20.Ended < x20.Day))) (b := false) 81 rfl rfl hb35) rfl rfl rfl rfl ?_
            refine aops_pick false (cb := (decide (x20.Ended < x20.Day))) (bV (decide (x20.Ended > 1000000))) (wants_some (c := (x20.Ended != (-1))) (b := true) 75 rfl rfl hb34) rfl hb35 rfl rfl ?_
            refine aops_pick true (cb := (x20.Ended != (-1))) (bV (decide (x20.Ended > 1000000))) (wants_some (c := (!y31)) (b := false) 71 rfl rfl hb33) rfl hb34 rfl rfl ?_
            refine aops_pick false (cb := (!y31)) (bV (decide (x20.Ended > 1000000))) wants_none rfl hb33 rfl rfl ?_
            refine aa (bV (decide (x20.Ended > 1000000))) rfl rfl ?_
            refine an ?_
            refine awp_cond (decide (x20.Ended > 1000000)) rfl (fun hb36 => ?_) (fun hb36 => ?_)
            · replace h := ite_t hb36 h
              refine sr ?_
              refine aa (iV 9) rfl rfl ?_
              refine an ?_
              refine awp_ret ?_
              replace h := Option.some.inj h
              subst h
              exact ⟨.inl rfl, .one (.tmp rfl (Imm.con _))⟩
            replace h := ite_f hb36 h
            refine awp_skip ?_
            exact ⟨(decide (x20.Ended > 1000000)), h, (ghost_ren 3 (fun i => ([0, 1, 2] : List Nat).getD i 0) _ _ (by decide) (EnvSub.get (.cons (Sub.ptr rfl rfl) (.cons (Sub.map rfl rfl) (.cons (Sub.ptr rfl rfl) (.cons (Sub.imm (Imm.lst _ _)) (.cons (Sub.imm (Imm.con _)) (.cons (Sub.imm (Imm.con _)) (.cons (Sub.ptr rfl rfl) (.cons (Sub.imm (Imm.con _)) (.cons (Sub.imm (Imm.con _)) (.cons (Sub.imm (Imm.con _)) (.cons (Sub.imm (Imm.con _)) .nil)))))))))))) (HpSub.get (.cons rfl (ObSub.box (.cons (Sub.imm (Imm.con _)) (.cons (Sub.imm (Imm.lst _ _)) (.cons (Sub.imm (Imm.lst _ _)) (.cons (Sub.imm (Imm.con _)) .nil))))) (.cons rfl (ObSub.maps encM9_4_imm) (.cons rfl (ObSub.box (.cons (Sub.imm (Imm.con _)) (.cons (Sub.imm (Imm.con _)) (.cons (Sub.imm (Imm.con _)) .nil)))) .nil)))) rfl)⟩
          replace h := ite_f hb34 h
          refine aops_skips 6 8 75 true (c := (x20.Ended != (-1))) (b := false) rfl rfl hb34 rfl rfl ?_
          refine aops_skip (wants_undef 81 rfl rfl) rfl rfl ?_
          refine aops_skip (wants_undef 81 rfl rfl) rfl rfl ?_
          refine aops_skip (wants_undef 81 rfl rfl) rfl rfl ?_
          refine aops_skip (wants_some (c := (x20.Ended != (-1))) (b := false) 75 rfl rfl hb34) rfl rfl ?_
          refine aops_pick false (cb := (x20.Ended != (-1))) (bV false) (wants_some (c := (!y31)) (b := false) 71 rfl rfl hb33) rfl hb34 rfl rfl ?_
          refine aops_pick false (cb := (!y31)) (bV false) wants_none rfl hb33 rfl rfl ?_
          refine aa (bV false) rfl rfl ?_
          refine an ?_
          refine awp_cond_f rfl rfl ?_
          refine awp_skip ?_
          exact ⟨false, h, (ghost_ren 3 (fun i => ([0, 1, 2] : List Nat).getD i 0) _ _ (by decide) (EnvSub.get (.cons (Sub.ptr rfl rfl) (.cons (Sub.map rfl rfl) (.cons (Sub.ptr rfl rfl) (.cons (Sub.imm (Imm.lst _ _)) (.cons (Sub.imm (Imm.con _)) (.cons (Sub.imm (Imm.con _)) (.cons (Sub.ptr rfl rfl) (.cons (Sub.imm (Imm.con _)) (.cons (Sub.imm (Imm.con _)) (.cons (Sub.imm (Imm.con _)) (.cons (Sub.imm (Imm.con _)) .nil)))))))))))) (HpSub.get (.cons rfl (ObSub.box (.cons (Sub.imm (Imm.con _)) (.cons (Sub.imm (Imm.lst _ _)) (.cons (Sub.imm (Imm.lst _ _)) (.cons (Sub.imm (Imm.con _)) .nil))))) (.cons rfl (ObSub.maps encM9_4_imm) (.cons rfl (ObSub.box (.cons (Sub.imm (Imm.con _)) (.cons (Sub.imm (Imm.con _)) (.cons (Sub.imm (Imm.con _)) .nil)))) .nil)))) rfl)⟩
        replace h := ite_f hb27 h
        refine awp_any [OD.mk [(5, (iV n17))] [] [(52, (iV n17))] [],
              OD.mk [(52, (iV n17))] [] [(53, (bV (decide (n17 > 0))))] [],
              OD.mk [(53, (bV (decide (n17 > 0))))] [] [(54, (bV (decide (n17 > 0))))] [],
              OD.mk [(54, (bV (decide (n17 > 0))))] [] [(55, (V.con undef))] [],
              OD.mk [(54, (bV (decide (n17 > 0))))] [] [(56, (V.con undef))] [],
              OD.mk [(54, (bV (decide (n17 > 0))))] [] [(57, (V.con undef))] [],
              OD.mk [(54, (bV (decide (n17 > 0))))] [] [(58, (V.con undef))] [],
              OD.mk [(54, (bV (decide (n17 > 0))))] [] [(59, (V.con undef))] [],
              OD.mk [(54, (bV (decide (n17 > 0))))] [] [(60, (V.con undef))] [],
              OD.mk [(54, (bV (decide (n17 > 0))))] [] [(61, (V.con undef))] [],
              OD.mk [(54, (bV (decide (n17 > 0))))] [] [(62, (V.con undef))] [],
              OD.mk [(54, (bV (decide (n17 > 0))))] [] [(63, (V.con undef))] [],
              OD.mk [(54, (bV (decide (n17 > 0))))] [] [(64, (V.con undef))] [],
              OD.mk [(54, (bV (decide (n17 > 0))))] [] [(65, (bV false))] [],
              OD.mk [(65, (bV false))] [] [(51, (bV false))] []] mixed ⟨⟨rfl, trivial⟩, trivial, ⟨⟨rfl, trivial⟩, trivial, ⟨⟨rfl, trivial⟩, trivial, ⟨⟨rfl, trivial⟩, trivial, ⟨⟨rfl, trivial⟩, trivial, ⟨⟨rfl, trivial⟩, trivial, ⟨⟨rfl, trivial⟩, trivial, ⟨⟨rfl, trivial⟩, trivial, ⟨⟨rfl, trivial⟩, trivial, ⟨⟨rfl, trivial⟩, trivial, ⟨⟨rfl, trivial⟩, trivial, ⟨⟨rfl, trivial⟩, trivial, ⟨⟨rfl, trivial⟩, trivial, ⟨⟨rfl, trivial⟩, trivial, ⟨⟨rfl, trivial⟩, trivial, trivial⟩⟩⟩⟩⟩⟩⟩⟩⟩⟩⟩⟩⟩⟩⟩ (by kernel_rfl) (.cons (fun S hn h hh => aops_move (iV n17) wants_none h.1 rfl (an ⟨rfl, rfl⟩)) (.cons (fun S hn h hh => aops_bin (.bool (decide (n17 > 0))) wants_none h.1 rfl rfl rfl (an ⟨rfl, rfl⟩)) (.cons (fun S hn h hh => aops_move (bV (decide (n17 > 0))) wants_none h.1 rfl (an ⟨rfl, rfl⟩)) (.cons (fun S hn h hh => aops_skip (wants_some (c := (decide (n17 > 0))) (b := false) 54 rfl h.1 hb27) rfl rfl (an ⟨rfl, rfl⟩)) (.cons (fun S hn h hh => aops_skip (wants_some (c := (decide (n17 > 0))) (b := false) 54 rfl h.1 hb27) rfl rfl (an ⟨rfl, rfl⟩)) (.cons (fun S hn h hh => aops_skip (wants_some (c := (decide (n17 > 0))) (b := false) 54 rfl h.1 hb27) rfl rfl (an ⟨rfl, rfl⟩)) (.cons (fun S hn h hh => aops_skip (wants_some (c := (decide (n17 > 0))) (b := false) 54 rfl h.1 hb27) rfl rfl (an ⟨rfl, rfl⟩)) (.cons (fun S hn h hh => aops_skip (wants_some (c := (decide (n17 > 0))) (b := false) 54 rfl h.1 hb27) rfl rfl (an ⟨rfl, rfl⟩)) (.cons (fun S hn h hh => aops_skip (wants_some (c := (decide (n17 > 0))) (b := false) 54 rfl h.1 hb27) rfl rfl (an ⟨rfl, rfl⟩)) (.cons (fun S hn h hh => aops_skip (wants_some (c := (decide (n17 > 0))) (b := false) 54 rfl h.1 hb27) rfl rfl (an ⟨rfl, rfl⟩)) (.cons (fun S hn h hh => aops_skip (wants_some (c := (decide (n17 > 0))) (b := false) 54 rfl h.1 hb27) rfl rfl (an ⟨rfl, rfl⟩)) (.cons (fun S hn h hh => aops_skip (wants_some (c := (decide (n17 > 0))) (b := false) 54 rfl h.1 hb27) rfl rfl (an ⟨rfl, rfl⟩)) (.cons (fun S hn h hh => aops_skip (wants_some (c := (decide (n17 > 0))) (b := false) 54 rfl h.1 hb27) rfl rfl (an ⟨rfl, rfl⟩)) (.cons (fun S hn h hh => aops_pick false (cb := (decide (n17 > 0))) (bV false) wants_none h.1 hb27 rfl rfl (an ⟨rfl, rfl⟩)) (.cons (fun S hn h hh => aops_assign (bV false) wants_none h.1 rfl (an ⟨rfl, rfl⟩)) .nil))))))))))))))) ?_
        refine awp_cond_f rfl rfl ?_
        refine sr ?_
        refine aops_fieldAddr tF137_1 wants_none rfl rfl ?_
        refine aops_load_cell (iV x20.Day) tC3 wants_none rfl rfl rfl rfl rfl ?_
        replace h := bind_some h
        obtain ⟨y37, hx38, h⟩ := h
        refine aops_call (bV y37) [(iV x20.Day)] fOk69 wants_none (evm_cons rfl evm_nil) (.cons (Imm.con _) .nil) (W69 F x20.Day y37 hx38) rfl ?_
        refine aops_not wants_none rfl rfl ?_
        refine am (bV (!y37)) rfl rfl ?_
        refine bsp (!y37) (fun hb39 => ?_) (fun hb39 => ?_)
        · replace h := ite_t hb39 h
          refine aops_skips 4 4 71 false (c := (!y37)) (b := true) rfl rfl hb39 rfl rfl ?_
          refine aops_skip (wants_undef 75 rfl rfl) rfl rfl ?_
          refine aops_skip (wants_undef 75 rfl rfl) rfl rfl ?_
          refine aops_skip (wants_undef 75 rfl rfl) rfl rfl ?_
          refine aops_skip (wants_undef 75 rfl rfl) rfl rfl ?_
          refine aops_skip (wants_undef 75 rfl rfl) rfl rfl ?_
          refine aops_skip (wants_undef 75 rfl rfl) rfl rfl ?_
          refine aops_skip (wants_undef 81 rfl rfl) rfl rfl ?_
          refine aops_skip (wants_undef 81 rfl rfl) rfl rfl ?_
          refine aops_skip (wants_undef 81 rfl rfl) rfl rfl ?_
          refine aops_skip (wants_undef 75 rfl rfl) rfl rfl ?_
          refine aops_skip (wants_some (c := (!y37)) (b := true) 71 rfl rfl hb39) rfl rfl ?_
          refine aops_pick true (cb := (!y37)) (bV true) wants_none rfl hb39 rfl rfl ?_
          refine aa (bV true) rfl rfl ?_
          refine an ?_
          refine awp_cond_t rfl rfl ?_
          refine sr ?_
          refine aa (iV 9) rfl rfl ?_
          refine an ?_
          refine awp_ret ?_
          replace h := Option.some.inj h
          subst h
          exact ⟨.inl rfl, .one (.tmp rfl (Imm.con _))⟩
        replace h := ite_f hb39 h
        refine aops_fieldAddr tF137_2 (wants_some (c := (!y37)) (b := false) 71 rfl rfl hb39) rfl rfl ?_
        refine aops_load_cell (iV x20.Ended) tC3 (wants_some (c := (!y37)) (b := false) 71 rfl rfl hb39) rfl rfl rfl rfl rfl ?_
        refine aops_bin (.bool (x20.Ended != (-1))) (wants_some (c := (!y37)) (b := false) 71 rfl rfl hb39) rfl rfl rfl rfl ?_
        refine aops_move (bV (x20.Ended != (-1))) (wants_some (c := (!y37)) (b := false) 71 rfl rfl hb39) rfl rfl ?_
        refine bsp (x20.Ended != (-1)) (fun hb40 => ?_) (fun hb40 => ?_)
        · replace h := ite_t hb40 h
          refine aops_fieldAddr tF137_2 (wants_some (c := (x20.Ended != (-1))) (b := true) 75 rfl rfl hb40) rfl rfl ?_
          refine aops_load_cell (iV x20.Ended) tC3 (wants_some (c := (x20.Ended != (-1))) (b := true) 75 rfl rfl hb40) rfl rfl rfl rfl rfl ?_
          refine aops_fieldAddr tF137_1 (wants_some (c := (x20.Ended != (-1))) (b := true) 75 rfl rfl hb40) rfl rfl ?_
          refine aops_load_cell (iV x20.Day) tC3 (wants_some (c := (x20.Ended != (-1))) (b := true) 75 rfl rfl hb40) rfl rfl rfl rfl rfl ?_
          refine aops_bin (.bool (decide (x20.Ended < x20.Day))) (wants_some (c := (x20.Ended != (-1))) (b := true) 75 rfl rfl hb40) rfl rfl rfl rfl ?_
          refine aops_move (bV (decide (x20.Ended < x20.Day))) (wants_some (c := (x20.Ended != (-1))) (b := true) 75 rfl rfl hb40) rfl rfl ?_
          refine bsp (decide (x20.Ended < x20.Day)) (fun hb41 => ?_) (fun hb41 => ?_)
          · replace h := ite_t hb41 h
            refine aops_skips 3 14 81 false (c := (decide (x20.Ended < x20.Day))) (b := true) rfl rfl hb41 rfl rfl ?_
            refine aops_pick true (cb := (decide (x20.Ended < x20.Day))) (bV true) (wants_some (c := (x20.Ended != (-1))) (b := true) 75 rfl rfl hb40) rfl hb41 rfl rfl ?_
            refine aops_pick true (cb := (x20.Ended != (-1))) (bV true) (wants_some (c := (!y37)) (b := false) 71 rfl rfl hb39) rfl hb40 rfl rfl ?_
            refine aops_pick false (cb := (!y37)) (bV true) wants_none rfl hb39 rfl rfl ?_
            refine aa (bV true) rfl rfl ?_
            refine an ?_
            refine awp_cond_t rfl rfl ?_
            refine sr ?_
            refine aa (iV 9) rfl rfl ?_
            refine an ?_
            refine awp_ret ?_
            replace h := Option.some.inj h
            subst h
            exact ⟨.inl rfl, .one (.tmp rfl (Imm.con _))⟩
          replace h := ite_f hb41 h
          refine aops_fieldAddr tF137_2 (wants_some (c := (decide (x20.Ended < x20.Day))) (b := false) 81 rfl rfl hb41) rfl rfl ?_
          refine aops_load_cell (iV x20.Ended) tC3 (wants_some (c := (decide (x20.Ended < x20.Day))) (b := false) 81 rfl rfl hb41) rfl rfl rfl rfl rfl ?_
          refine aops_bin (.bool (decide (x20.Ended > 1000000))) (wants_some (c := (decide (x20.Ended < x20.Day))) (b := false) 81 rfl rfl hb41) rfl rfl rfl rfl ?_
          refine aops_pick false (cb := (decide (x20.Ended < x20.Day))) (bV (decide (x20.Ended > 1000000))) (wants_some (c := (x20.Ended != (-1))) (b := true) 75 rfl rfl hb40) rfl hb41 rfl rfl ?_
          refine aops_pick true (cb := (x20.Ended != (-1))) (bV (decide (x20.Ended > 1000000))) (wants_some (c := (!y37)) (b := false) 71 rfl rfl hb39) rfl hb40 rfl rfl ?_
          refine aops_pick false (cb := (!y37)) (bV (decide (x20.Ended > 1000000))) wants_none rfl hb39 rfl rfl ?_
          refine aa (bV (decide (x20.Ended > 1000000))) rfl rfl ?_
          refine an ?_
          refine awp_cond (decide (x20.Ended > 1000000)) rfl (fun hb42 => ?_) (fun hb42 => ?_)
          · replace h := ite_t hb42 h
            refine sr ?_
            refine aa (iV 9) rfl rfl ?_
            refine an ?_
            refine awp_ret ?_
            replace h := Option.some.inj h
            subst h
            exact ⟨.inl rfl, .one (.tmp rfl (Imm.con _))⟩
          replace h := ite_f hb42 h
          refine awp_skip ?_
          exact ⟨(decide (x20.Ended > 1000000)), h, (ghost_ren 3 (fun i => ([0, 1, 2] : List Nat).getD i 0) _ _ (by decide) (EnvSub.get (.cons (Sub.ptr rfl rfl) (.cons (Sub.map rfl rfl) (.cons (Sub.ptr rfl rfl) (.cons (Sub.imm (Imm.lst _ _)) (.cons (Sub.imm (Imm.con _)) (.cons (Sub.imm (Imm.con _)) (.cons (Sub.ptr rfl rfl) (.cons (Sub.imm (Imm.con _)) (.cons (Sub.imm (Imm.con _)) (.cons (Sub.imm (Imm.con _)) (.cons (Sub.imm (Imm.con _)) .nil)))))))))))) (HpSub.get (.cons rfl (ObSub.box (.cons (Sub.imm (Imm.con _)) (.cons (Sub.imm (Imm.lst _ _)) (.cons (Sub.imm (Imm.lst _ _)) (.cons (Sub.imm (Imm.con _)) .nil))))) (.cons rfl (ObSub.maps encM9_4_imm) (.cons rfl (ObSub.box (.cons (Sub.imm (Imm.con _)) (.cons (Sub.imm (Imm.con _)) (.cons (Sub.imm (Imm.con _)) .nil)))) .nil)))) rfl)⟩
        replace h := ite_f hb40 h
        refine aops_skips 6 8 75 true (c := (x20.Ended != (-1))) (b := false) rfl rfl hb40 rfl rfl ?_
        refine aops_skip (wants_undef 81 rfl rfl) rfl rfl ?_
        refine aops_skip (wants_undef 81 rfl rfl) rfl rfl ?_
        refine aops_skip (wants_undef 81 rfl rfl) rfl rfl ?_
        refine aops_skip (wants_some (c := (x20.Ended != (-1))) (b := false) 75 rfl rfl hb40) rfl rfl ?_
        refine aops_pick false (cb := (x20.Ended != (-1))) (bV false) (wants_some (c := (!y37)) (b := false) 71 rfl rfl hb39) rfl hb40 rfl rfl ?_
        refine aops_pick false (cb := (!y37)) (bV false) wants_none rfl hb39 rfl rfl ?_
        refine aa (bV false) rfl rfl ?_
        refine an ?_
        refine awp_cond_f rfl rfl ?_
        refine awp_skip ?_
        exact ⟨false, h, (ghost_ren 3 (fun i => ([0, 1, 2] : List Nat).getD i 0) _ _ (by decide) (EnvSub.get (.cons (Sub.ptr rfl rfl) (.cons (Sub.map rfl rfl) (.cons (Sub.ptr rfl rfl) (.cons (Sub.imm (Imm.lst _ _)) (.cons (Sub.imm (Imm.con _)) (.cons (Sub.imm (Imm.con _)) (.cons (Sub.ptr rfl rfl) (.cons (Sub.imm (Imm.con _)) (.cons (Sub.imm (Imm.con _)) (.cons (Sub.imm (Imm.con _)) (.cons (Sub.imm (Imm.con _)) .nil)))))))))))) (HpSub.get (.cons rfl (ObSub.box (.cons (Sub.imm (Imm.con _)) (.cons (Sub.imm (Imm.lst _ _)) (.cons (Sub.imm (Imm.lst _ _)) (.cons (Sub.imm (Imm.con _)) .nil))))) (.cons rfl (ObSub.maps encM9_4_imm) (.cons rfl (ObSub.box (.cons (Sub.imm (Imm.con _)) (.cons (Sub.imm (Imm.con _)) (.cons (Sub.imm (Imm.con _)) .nil)))) .nil)))) rfl)⟩
      clear h
      intro b25 h
      subst hk24
      refine rg ?_
      refine am (V.map 1) rfl rfl ?_
      refine aops_fieldAddr tF137_0 wants_none rfl rfl ?_
      refine aops_load_cell (sV x20.Advisory) tC9 wants_none rfl rfl rfl rfl rfl ?_
      refine aops_mapUpdate ((mput m18 x20.Advisory true).map encM9_4) tMap135 tKey9 wants_none rfl rfl (.con rfl) ⟨_, rfl⟩ encM9_4_good rfl (encM9_4_puts m18 x20.Advisory true) ?_
      refine an ?_
      refine rg ?_
      refine aops_bin (.int .i64 (w64 (n17 + 1))) wants_none rfl rfl rfl rfl ?_
      refine am (iV (w64 (n17 + 1))) rfl rfl ?_
      refine an ?_
      exact awp_back (ih1 ((w64 (n17 + 1)), (mput m18 x20.Advisory true)) (hk1 _ h)) (ghost_ren 2 (fun i => ([0, 1] : List Nat).getD i 0) _ _ (by decide) (EnvSub.get (.cons (Sub.ptr rfl rfl) (.cons (Sub.map rfl rfl) (.cons (Sub.imm (Imm.lst _ _)) (.cons (Sub.imm (Imm.con _)) (.cons (Sub.imm (Imm.con _)) .nil)))))) (HpSub.get (.cons rfl (ObSub.box (.cons (Sub.imm (Imm.con _)) (.cons (Sub.imm (Imm.lst _ _)) (.cons (Sub.imm (Imm.lst _ _)) (.cons (Sub.imm (Imm.con _)) .nil))))) (.cons rfl (ObSub.maps encM9_4_imm) .nil))) rfl)
    replace h := RG.f h hb19
    unfold M35_L1 at h
    refine awp_exit ?_
    exact ⟨m18, h, (ghost_ren 2 (fun i => ([0, 1] : List Nat).getD i 0) _ _ (by decide) (EnvSub.get (.cons (Sub.ptr rfl rfl) (.cons (Sub.map rfl rfl) .nil))) (HpSub.get (.cons rfl (ObSub.box (.cons (Sub.imm (Imm.con _)) (.cons (Sub.imm (Imm.lst _ _)) (.cons (Sub.imm (Imm.lst _ _)) (.cons (Sub.imm (Imm.con _)) .nil))))) (.cons rfl (ObSub.maps encM9_4_imm) .nil))) rfl)⟩
  clear h
  intro m14 h
  subst hk13
  refine sq ?_
  refine sr ?_
  refine aops_fieldAddr tF52_1 wants_none rfl rfl ?_
  refine aops_load_cell (V.lst 3 (a1.Releases.map encTRelease)) tC49 wants_none rfl rfl rfl rfl rfl ?_
  refine aops_len (n := a1.Releases.length) tIsSl49 wants_none rfl (congrArg some (List.length_map ..)) rfl ?_
  refine am (iV 0) rfl rfl ?_
  refine an ?_
  replace h := jn_elim h
  obtain ⟨k44, hk44, h⟩ := h
  refine awp_cut (fun _ : Unit => (⟨[], [], 0⟩ : St)) (fun _ : Unit => k44 = some r) ?_ ?_
  · clear hk44
    refine awp_block ?_
    refine awp_len (A := a1.Releases) 93 rfl (fun hA59 => ?_)
    refine awp_loop_ind (fun (p : Int) => (⟨[(4, (V.map 0)), (93, (V.lst 3 (a1.Releases.map encTRelease))), (94, (iV ((a1.Releases.length : Nat) : Int))), (95, (iV p))], [(0, (Ob.map (m14.map encM9_4)))], 1⟩ : St)) (fun n (p : Int) => RG a1.Releases (fun tl nn => M35_L2 F m14 k44 tl = some r) n p) (fun p h => RG.zero h) (fun n ih2 p h => ?_) (a1.Releases.length + 1) 0 (RG.start h) (ghost_ren 1 (fun i => ([1] : List Nat).getD i 0) _ _ (by decide) (EnvSub.get (.cons (Sub.map rfl rfl) (.cons (Sub.imm (Imm.lst _ _)) (.cons (Sub.imm (Imm.con _)) (.cons (Sub.imm (Imm.con _)) .nil))))) (HpSub.get (.cons rfl (ObSub.maps encM9_4_imm) .nil)) rfl)
    revert p
    intro n46 h
    refine awp_loop ?_
    refine sr ?_
    refine aops_bin (.bool (decide (n46 < ((a1.Releases.length : Nat) : Int)))) wants_none rfl rfl rfl rfl ?_
    refine an ?_
    refine sq ?_
    refine awp_cond (decide (n46 < ((a1.Releases.length : Nat) : Int))) rfl (fun hb47 => ?_) (fun hb47 => ?_)
    · obtain ⟨x49, tl, hx50, h, hk2⟩ := RG.t hA59 h hb47
      unfold M35_L2 at h
      refine awp_skip ?_
      refine sq ?_
      replace h := jn_elim h
      obtain ⟨k48, hk48, h⟩ := h
      refine awp_cut (fun _ : Unit => (⟨[(4, (V.map 0)), (93, (V.lst 3 (a1.Releases.map encTRelease))), (94, (iV ((a1.Releases.length : Nat) : Int))), (95, (iV n46))], [(0, (Ob.map (m14.map encM9_4)))], 1⟩ : St)) (fun _ : Unit => k48 = some r) ?_ ?_
      · clear hk48
        refine awp_block ?_
        refine sr ?_
        refine aops_index_lst (encTRelease x49) tSl49 wants_none rfl rfl (idx_some hx50).1 (idx_map encTRelease hx50) rfl ?_
        refine aops_iload_agg (cs := (encTRelease x49)) tA42 wants_none rfl rfl rfl rfl ?_
        refine aops_alloc tZ42 rfl rfl wants_none rfl ?_
        refine aops_store (encTRelease x49) [(encTRelease x49)] tS42 wants_none rfl rfl rfl rfl rfl rfl rfl rfl ?_
        refine an ?_
        refine sr ?_
        refine aops_fieldAddr tF42_2 wants_none rfl rfl ?_
        refine aops_load_cell (V.lst 3 (x49.Exposures.map encTExposure)) tC40 wants_none rfl rfl rfl rfl rfl ?_
        refine aops_len (n := x49.Exposures.length) tIsSl40 wants_none rfl (congrArg some (List.length_map ..)) rfl ?_
        refine am (iV 0) rfl rfl ?_
        refine an ?_
        replace h := jn_elim h
        obtain ⟨k51, hk51, h⟩ := h
        refine awp_cut (fun _ : Unit => (⟨[(4, (V.map 0)), (93, (V.lst 3 (a1.Releases.map encTRelease))), (94, (iV ((a1.Releases.length : Nat) : Int))), (95, (iV n46))], [(0, (Ob.map (m14.map encM9_4)))], 1⟩ : St)) (fun _ : Unit => k51 = some r) ?_ ?_
        · clear hk51
          refine awp_block ?_
          refine awp_len (A := x49.Exposures) 100 rfl (fun hA58 => ?_)
          refine awp_loop_ind (fun (p : Int) => (⟨[(4, (V.map 0)), (93, (V.lst 3 (a1.Releases.map encTRelease))), (94, (iV ((a1.Releases.length : Nat) : Int))), (95, (iV n46)), (100, (V.lst 3 (x49.Exposures.map encTExposure))), (101, (iV ((x49.Exposures.length : Nat) : Int))), (102, (iV p))], [(0, (Ob.map (m14.map encM9_4)))], 1⟩ : St)) (fun n (p : Int) => RG x49.Exposures (fun tl nn => M35_L3 F m14 k51 tl = some r) n p) (fun p h => RG.zero h) (fun n ih3 p h => ?_) (x49.Exposures.length + 1) 0 (RG.start h) (ghost_ren 1 (fun i => ([0] : List Nat).getD i 0) _ _ (by decide) (EnvSub.get (.cons (Sub.map rfl rfl) (.cons (Sub.imm (Imm.lst _ _)) (.cons (Sub.imm (Imm.con _)) (.cons (Sub.imm (Imm.con _)) (.cons (Sub.imm (Imm.lst _ _)) (.cons (Sub.imm (Imm.con _)) (.cons (Sub.imm (Imm.con _)) .nil)))))))) (HpSub.get (.cons rfl (ObSub.maps encM9_4_imm) .nil)) rfl)
          revert p
          intro n53 h
          refine awp_loop ?_
          refine sr ?_
          refine aops_bin (.bool (decide (n53 < ((x49.Exposures.length : Nat) : Int)))) wants_none rfl rfl rfl rfl ?_
          refine an ?_
          refine sq ?_
          refine awp_cond (decide (n53 < ((x49.Exposures.length : Nat) : Int))) rfl (fun hb54 => ?_) (fun hb54 => ?_)
          · obtain ⟨x55, tl, hx56, h, hk3⟩ := RG.t hA58 h hb54
            unfold M35_L3 at h
            refine awp_skip ?_
            refine sq ?_
            refine awp_block ?_
            refine sr ?_
            refine aops_index_lst (encTExposure x55) tSl40 wants_none rfl rfl (idx_some hx56).1 (idx_map encTExposure hx56) rfl ?_
            refine aops_iload_agg (cs := (encTExposure x55)) tA47 wants_none rfl rfl rfl rfl ?_
            refine aops_alloc tZ47 rfl rfl wants_none rfl ?_
            refine aops_store (encTExposure x55) [(encTExposure x55)] tS47 wants_none rfl rfl rfl rfl rfl rfl rfl rfl ?_
            refine an ?_
            refine sr ?_
            refine am (V.map 0) rfl rfl ?_
            refine aops_fieldAddr tF47_0 wants_none rfl rfl ?_
            refine aops_load_cell (sV x55.Advisory) tC9 wants_none rfl rfl rfl rfl rfl ?_
            refine aops_lookup _ (bV false) (bV ((mget m14 x55.Advisory).getD false)) tMap135 tKey9 tZo4 (irel_con _) wants_none rfl (.own rfl) (.con rfl) ⟨_, rfl⟩ encM9_4_good (encM9_4_look m14 x55.Advisory) (getD_map (encM9_4_val) (mget m14 x55.Advisory) false) rfl ?_
            refine aops_not wants_none rfl rfl ?_
            refine an ?_
            refine awp_cond (!((mget m14 x55.Advisory).getD false)) rfl (fun hb57 => ?_) (fun hb57 => ?_)
            · replace h := ite_t hb57 h
              refine sr ?_
              refine aa (iV 4) rfl rfl ?_
              refine an ?_
              refine awp_ret ?_
              replace h := Option.some.inj h
              subst h
              exact ⟨.inl rfl, .one (.tmp rfl (Imm.con _))⟩
            replace h := ite_f hb57 h
            refine awp_skip ?_
            refine rg ?_
            refine aops_bin (.int .i64 (w64 (n53 + 1))) wants_none rfl rfl rfl rfl ?_
            refine am (iV (w64 (n53 + 1))) rfl rfl ?_
            refine an ?_
            exact awp_back (ih3 (w64 (n53 + 1)) (hk3 _ h)) (ghost_ren 1 (fun i => ([0] : List Nat).getD i 0) _ _ (by decide) (EnvSub.get (.cons (Sub.map rfl rfl) (.cons (Sub.imm (Imm.lst _ _)) (.cons (Sub.imm (Imm.con _)) (.cons (Sub.imm (Imm.con _)) (.cons (Sub.imm (Imm.lst _ _)) (.cons (Sub.imm (Imm.con _)) (.cons (Sub.imm (Imm.con _)) .nil)))))))) (HpSub.get (.cons rfl (ObSub.maps encM9_4_imm) .nil)) rfl)
          replace h := RG.f h hb54
          unfold M35_L3 at h
          refine awp_exit ?_
          exact ⟨(), h, (ghost_ren 1 (fun i => ([0] : List Nat).getD i 0) _ _ (by decide) (EnvSub.get (.cons (Sub.map rfl rfl) (.cons (Sub.imm (Imm.lst _ _)) (.cons (Sub.imm (Imm.con _)) (.cons (Sub.imm (Imm.con _)) .nil))))) (HpSub.get (.cons rfl (ObSub.maps encM9_4_imm) .nil)) rfl)⟩
        clear h
        intro _ h
        subst hk51
        exact ⟨(), h, (ghost_ren 1 (fun i => ([0] : List Nat).getD i 0) _ _ (by decide) (EnvSub.get (.cons (Sub.map rfl rfl) (.cons (Sub.imm (Imm.lst _ _)) (.cons (Sub.imm (Imm.con _)) (.cons (Sub.imm (Imm.con _)) .nil))))) (HpSub.get (.cons rfl (ObSub.maps encM9_4_imm) .nil)) rfl)⟩
      clear h
      intro _ h
      subst hk48
      refine rg ?_
      refine aops_bin (.int .i64 (w64 (n46 + 1))) wants_none rfl rfl rfl rfl ?_
      refine am (iV (w64 (n46 + 1))) rfl rfl ?_
      refine an ?_
      exact awp_back (ih2 (w64 (n46 + 1)) (hk2 _ h)) (ghost_ren 1 (fun i => ([0] : List Nat).getD i 0) _ _ (by decide) (EnvSub.get (.cons (Sub.map rfl rfl) (.cons (Sub.imm (Imm.lst _ _)) (.cons (Sub.imm (Imm.con _)) (.cons (Sub.imm (Imm.con _)) .nil))))) (HpSub.get (.cons rfl (ObSub.maps encM9_4_imm) .nil)) rfl)
    replace h := RG.f h hb47
    unfold M35_L2 at h
    refine awp_exit ?_
    exact ⟨(), h, (ghost_ren 0 (fun i => ([] : List Nat).getD i 0) _ _ (by decide) (EnvSub.get .nil) (HpSub.get .nil) rfl)⟩
  clear h
  intro _ h
  subst hk44
  refine sr ?_
  refine aa (iV 0) rfl rfl ?_
  refine an ?_
  refine awp_ret ?_
  replace h := Option.some.inj h
  subst h
  exact ⟨.inl rfl, .one (.tmp rfl (Imm.con _))⟩
theorem W129 (F : Nat) (a1 : (List TExposure)) (r : (List TExposure)) (h : M129 F a1 = some r) : Pure Try.prog 129 [(V.lst 3 (a1.map encTExposure))] (V.lst 3 (r.map encTExposure)) := by
  refine pure_enter Try.func129 rfl rfl (l := [.tmp 2]) rfl rfl [(0, (V.lst 3 (a1.map encTExposure)))] rfl (fun w0 m0 => ?_)
  unfold M129 at h
  refine sr ?_
  refine aa nV rfl rfl ?_
  refine an ?_
  refine sq ?_
  refine sr ?_
  refine am (V.lst 3 (a1.map encTExposure)) rfl rfl ?_
  refine aops_isNil (n := a1.length) false tIsSl40 wants_none rfl rfl (congrArg some (List.length_map ..)) rfl (fun b2 hn3 => ?_)
  replace h := nilq_elim h hn3
  refine an ?_
  refine awp_cond b2 rfl (fun hb4 => ?_) (fun hb4 => ?_)
  · replace h := ite_t hb4 h
    refine sr ?_
    refine aa nV rfl rfl ?_
    refine an ?_
    refine awp_ghost (ghost_tell 2 (V.lst 3 (([] : List TExposure).map encTExposure)) rfl (Sub.nil _)) ?_
    refine awp_ret ?_
    replace h := Option.some.inj h
    subst h
    exact ⟨.inl rfl, .one (.tmp rfl (Imm.lst _ _))⟩
  replace h := ite_f hb4 h
  refine awp_skip ?_
  refine sr ?_
  refine aops_emptySlice tEl40 wants_none rfl ?_
  refine am (V.lst 3 (a1.map encTExposure)) rfl rfl ?_
  replace h := chk_some h
  obtain ⟨hc5, h⟩ := h
  refine aops_append (a1.map encTExposure) ((([] : List TExposure) ++ a1).map encTExposure) tEl40 tIsSl40 rfl rfl wants_none rfl rfl (by simp) rfl (.lst (rows_one one_encTExposure)) (map_snoc encTExposure ([] : List TExposure) a1) (List.length_map ..) hc5 rfl ?_
  refine aa (V.own 1 (([] : List TExposure) ++ a1).length) rfl rfl ?_
  refine an ?_
  refine awp_ghost (ghost_frzE 1 2 rfl (rows_imm imms_encTExposure) rfl (List.length_map ..).symm) ?_
  refine awp_ret ?_
  replace h := Option.some.inj h
  subst h
  exact ⟨.inl rfl, .one (.tmp rfl (Imm.lst _ _))⟩
theorem W88 (F : Nat) (a1 : TRelease) (r : TRelease) (h : M88 F a1 = some r) : Pure Try.prog 88 [(V.agg (encTRelease a1))] (V.agg (encTRelease r)) := by
  refine pure_enter Try.func88 rfl rfl (l := [.cell 2 42]) rfl rfl [(0, (V.agg (encTRelease a1)))] rfl (fun w0 m0 => ?_)
  unfold M88 at h
  refine sr ?_
  refine aops_box (encTRelease a1) wants_none rfl rfl rfl rfl ?_
  refine aops_alloc tZ42 rfl rfl wants_none rfl ?_
  refine an ?_
  refine sr ?_
  refine aops_fieldAddr tF42_2 wants_none rfl rfl ?_
  refine aops_load_cell (V.lst 3 (a1.Exposures.map encTExposure)) tC40 wants_none rfl rfl rfl rfl rfl ?_
  replace h := bind_some h
  obtain ⟨y2, hx3, h⟩ := h
  refine aops_call (V.lst 3 (y2.map encTExposure)) [(V.lst 3 (a1.Exposures.map encTExposure))] fOk129 wants_none (evm_cons rfl evm_nil) (.cons (Imm.lst _ _) .nil) (W129 F a1.Exposures y2 hx3) rfl ?_
  refine aops_fieldAddr tF42_2 wants_none rfl rfl ?_
  refine aops_store [(V.lst 3 (y2.map encTExposure))] [[(sV a1.Version), (iV a1.Day), (V.lst 3 (y2.map encTExposure))]] tS40 wants_none rfl rfl rfl rfl rfl rfl rfl rfl ?_
  refine an ?_
  refine sr ?_
  refine aops_load_agg (cs := [(sV a1.Version), (iV a1.Day), (V.lst 3 (y2.map encTExposure))]) tA42 wants_none rfl rfl rfl rfl rfl rfl ?_
  refine aops_store [(sV a1.Version), (iV a1.Day), (V.lst 3 (y2.map encTExposure))] [[(sV a1.Version), (iV a1.Day), (V.lst 3 (y2.map encTExposure))]] tS42 wants_none rfl rfl rfl rfl rfl rfl rfl rfl ?_
  refine an ?_
  refine awp_ret ?_
  replace h := Option.some.inj h
  subst h
  exact ⟨.inl rfl, .one (.agg tA42 rfl rfl rfl rfl rfl (.cons (Imm.con _) (.cons (Imm.con _) (.cons (Imm.lst _ _) .nil))))⟩
theorem W97 (F : Nat) (a1 : (List TPublished)) (r : Int) (h : M97 F a1 = some r) : Pure Try.prog 97 [(V.lst 3 (a1.map encTPublished))] (iV r) := by
  refine pure_enter Try.func97 rfl rfl (l := [.tmp 2]) rfl rfl [(0, (V.lst 3 (a1.map encTPublished)))] rfl (fun w0 m0 => ?_)
  unfold M97 at h
  refine sr ?_
  refine aa (iV 0) rfl rfl ?_
  refine an ?_
  refine sq ?_
  refine sr ?_
  refine am (V.lst 3 (a1.map encTPublished)) rfl rfl ?_
  refine aops_len (n := a1.length) tIsSl50 wants_none rfl (congrArg some (List.length_map ..)) rfl ?_
  refine am (iV 0) rfl rfl ?_
  refine an ?_
  replace h := jn_elim h
  obtain ⟨k2, hk2, h⟩ := h
  refine awp_cut (fun _ : Unit => (⟨[], [], 0⟩ : St)) (fun _ : Unit => k2 = some r) ?_ ?_
  · clear hk2
    refine awp_block ?_
    refine awp_len (A := a1) 0 rfl (fun hA29 => ?_)
    refine awp_loop_ind (fun (p : Int) => (⟨[(0, (V.lst 3 (a1.map encTPublished))), (5, (V.lst 3 (a1.map encTPublished))), (6, (iV ((a1.length : Nat) : Int))), (7, (iV p))], [], 0⟩ : St)) (fun n (p : Int) => RG a1 (fun tl nn => M97_L1 F a1 k2 tl nn = some r) n p) (fun p h => RG.zero h) (fun n ih1 p h => ?_) (a1.length + 1) 0 (RG.start h) (ghost_ren 0 (fun i => ([] : List Nat).getD i 0) _ _ (by decide) (EnvSub.get (.cons (Sub.imm (Imm.lst _ _)) (.cons (Sub.imm (Imm.lst _ _)) (.cons (Sub.imm (Imm.con _)) (.cons (Sub.imm (Imm.con _)) .nil))))) (HpSub.get .nil) rfl)
    revert p
    intro n4 h
    refine awp_loop ?_
    refine sr ?_
    refine aops_bin (.bool (decide (n4 < ((a1.length : Nat) : Int)))) wants_none rfl rfl rfl rfl ?_
    refine an ?_
    refine sq ?_
    refine awp_cond (decide (n4 < ((a1.length : Nat) : Int))) rfl (fun hb5 => ?_) (fun hb5 => ?_)
    · obtain ⟨x6, tl, hx7, h, hk1⟩ := RG.t hA29 h hb5
      unfold M97_L1 at h
      refine awp_skip ?_
      refine sq ?_
      refine awp_block ?_
      refine sr ?_
      refine am (iV n4) rfl rfl ?_
      refine aops_index_lst (encTPublished x6) tSl50 wants_none rfl rfl (idx_some hx7).1 (idx_map encTPublished hx7) rfl ?_
      refine aops_iload_agg (cs := (encTPublished x6)) tA137 wants_none rfl rfl rfl rfl ?_
      refine aops_alloc tZ137 rfl rfl wants_none rfl ?_
      refine aa (iV n4) rfl rfl ?_
      refine aops_store (encTPublished x6) [(encTPublished x6)] tS137 wants_none rfl rfl rfl rfl rfl rfl rfl rfl ?_
      refine an ?_
      refine awp_block ?_
      refine sr ?_
      refine aops_fieldAddr tF137_0 wants_none rfl rfl ?_
      refine aops_load_cell (sV x6.Advisory) tC9 wants_none rfl rfl rfl rfl rfl ?_
      replace h := bind_some h
      obtain ⟨y8, hx9, h⟩ := h
      refine aops_call (bV y8) [(sV x6.Advisory)] fOk95 wants_none (evm_cons rfl evm_nil) (.cons (Imm.con _) .nil) (W95 F x6.Advisory y8 hx9) rfl ?_
      refine aops_not wants_none rfl rfl ?_
      refine aa (bV (!y8)) rfl rfl ?_
      refine an ?_
      replace h := jn_elim h
      obtain ⟨k10, hk10, h⟩ := h
      refine awp_cut (fun (p : Bool) => (⟨[(0, (V.lst 3 (a1.map encTPublished))), (5, (V.lst 3 (a1.map encTPublished))), (6, (iV ((a1.length : Nat) : Int))), (7, (iV n4)), (37, (V.ptr 0 3 0 2)), (38, (iV x6.Ended)), (39, (bV (x6.Ended != (-1)))), (40, (bV (x6.Ended != (-1)))), (51, (bV p))], [(0, (Ob.arr 137 3 [(encTPublished x6)]))], 1⟩ : St)) (fun (p : Bool) => k10 p = some r) ?_ ?_
      · clear hk10
        refine awp_cond (!y8) rfl (fun hb12 => ?_) (fun hb12 => ?_)
        · replace h := ite_t hb12 h
          refine sr ?_
          refine aa (iV 8) rfl rfl ?_
          refine an ?_
          refine awp_ret ?_
          replace h := Option.some.inj h
          subst h
          exact ⟨.inl rfl, .one (.tmp rfl (Imm.con _))⟩
        replace h := ite_f hb12 h
        refine sq ?_
        refine bsp (decide (n4 > 0)) (fun hb13 => ?_) (fun hb13 => ?_)
        · replace h := ite_t hb13 h
          replace h := bind_some h
          obtain ⟨x14, hx15, h⟩ := h
          refine awp_any [OD.mk [(3, (iV n4))] [] [(18, (iV n4))] [],
                OD.mk [(18, (iV n4))] [] [(19, (bV (decide (n4 > 0))))] [],
                OD.mk [(19, (bV (decide (n4 > 0))))] [] [(20, (bV (decide (n4 > 0))))] [],
                OD.mk [(20, (bV (decide (n4 > 0)))), (4, (V.ptr 0 3 0 0))] [] [(21, (V.ptr 0 3 0 0))] [],
                OD.mk [(20, (bV (decide (n4 > 0)))), (21, (V.ptr 0 3 0 0))] [(0, (Ob.arr 137 3 [(encTPublished x6)]))] [(22, (sV x6.Advisory))] [],
                OD.mk [(20, (bV (decide (n4 > 0)))), (0, (V.lst 3 (a1.map encTPublished)))] [] [(23, (V.lst 3 (a1.map encTPublished)))] [],
                OD.mk [(20, (bV (decide (n4 > 0)))), (3, (iV n4))] [] [(24, (iV n4))] [],
                OD.mk [(20, (bV (decide (n4 > 0)))), (24, (iV n4))] [] [(25, (iV (w64 (n4 - 1))))] [],
                OD.mk [(20, (bV (decide (n4 > 0)))), (23, (V.lst 3 (a1.map encTPublished))), (25, (iV (w64 (n4 - 1))))] [] [(26, (V.iptr (encTPublished x14) 0))] [],
                OD.mk [(20, (bV (decide (n4 > 0)))), (26, (V.iptr (encTPublished x14) 0))] [] [(27, (V.iptr (encTPublished x14) 0))] [],
                OD.mk [(20, (bV (decide (n4 > 0)))), (27, (V.iptr (encTPublished x14) 0))] [] [(28, (sV x14.Advisory))] [],
                OD.mk [(20, (bV (decide (n4 > 0)))), (22, (sV x6.Advisory)), (28, (sV x14.Advisory))] [] [(29, (bV (Op.bytesLess x6.Advisory x14.Advisory || x6.Advisory == x14.Advisory)))] [],
                OD.mk [(20, (bV (decide (n4 > 0)))), (29, (bV (Op.bytesLess x6.Advisory x14.Advisory || x6.Advisory == x14.Advisory)))] [] [(30, (bV (Op.bytesLess x6.Advisory x14.Advisory || x6.Advisory == x14.Advisory)))] [],
                OD.mk [(30, (bV (Op.bytesLess x6.Advisory x14.Advisory || x6.Advisory == x14.Advisory)))] [] [(17, (bV (Op.bytesLess x6.Advisory x14.Advisory || x6.Advisory == x14.Advisory)))] []] mixed ⟨⟨rfl, trivial⟩, trivial, ⟨⟨rfl, trivial⟩, trivial, ⟨⟨rfl, trivial⟩, trivial, ⟨⟨rfl, rfl, trivial⟩, trivial, ⟨⟨rfl, rfl, trivial⟩, ⟨rfl, trivial⟩, ⟨⟨rfl, rfl, trivial⟩, trivial, ⟨⟨rfl, rfl, trivial⟩, trivial, ⟨⟨rfl, rfl, trivial⟩, trivial, ⟨⟨rfl, rfl, rfl, trivial⟩, trivial, ⟨⟨rfl, rfl, trivial⟩, trivial, ⟨⟨rfl, rfl, trivial⟩, trivial, ⟨⟨rfl, rfl, rfl, trivial⟩, trivial, ⟨⟨rfl, rfl, trivial⟩, trivial, ⟨⟨rfl, trivial⟩, trivial, trivial⟩⟩⟩⟩⟩⟩⟩⟩⟩⟩⟩⟩⟩⟩ (by kernel_rfl) (.cons (fun S hn h hh => aops_move (iV n4) wants_none h.1 rfl (an ⟨rfl, rfl⟩)) (.cons (fun S hn h hh => aops_bin (.bool (decide (n4 > 0))) wants_none h.1 rfl rfl rfl (an ⟨rfl, rfl⟩)) (.cons (fun S hn h hh => aops_move (bV (decide (n4 > 0))) wants_none h.1 rfl (an ⟨rfl, rfl⟩)) (.cons (fun S hn h hh => aops_fieldAddr tF137_0 (wants_some (c := (decide (n4 > 0))) (b := true) 20 rfl h.1 hb13) h.2.1 rfl (an ⟨rfl, rfl⟩)) (.cons (fun S hn h hh => aops_load_cell (sV x6.Advisory) tC9 (wants_some (c := (decide (n4 > 0))) (b := true) 20 rfl h.1 hb13) h.2.1 hh.1 rfl rfl rfl (an ⟨rfl, rfl⟩)) (.cons (fun S hn h hh => aops_move (V.lst 3 (a1.map encTPublished)) (wants_some (c := (decide (n4 > 0))) (b := true) 20 rfl h.1 hb13) h.2.1 rfl (an ⟨rfl, rfl⟩)) (.cons (fun S hn h hh => aops_move (iV n4) (wants_some (c := (decide (n4 > 0))) (b := true) 20 rfl h.1 hb13) h.2.1 rfl (an ⟨rfl, rfl⟩)) (.cons (fun S hn h hh => aops_bin (.int .i64 (w64 (n4 - 1))) (wants_some (c := (decide (n4 > 0))) (b := true) 20 rfl h.1 hb13) h.2.1 rfl rfl rfl (an ⟨rfl, rfl⟩)) (.cons (fun S hn h hh => aops_index_lst (encTPublished x14) tSl50 (wants_some (c := (decide (n4 > 0))) (b := true) 20 rfl h.1 hb13) h.2.1 h.2.2.1 (idx_some hx15).1 (idx_map encTPublished hx15) rfl (an ⟨rfl, rfl⟩)) (.cons (fun S hn h hh => aops_ifieldAddr tF137_0 (wants_some (c := (decide (n4 > 0))) (b := true) 20 rfl h.1 hb13) h.2.1 rfl (an ⟨rfl, rfl⟩)) (.cons (fun S hn h hh => aops_iload_cell (sV x14.Advisory) tC9 (wants_some (c := (decide (n4 > 0))) (b := true) 20 rfl h.1 hb13) h.2.1 rfl rfl (an ⟨rfl, rfl⟩)) (.cons (fun S hn h hh => aops_binT (.bool (Op.bytesLess x6.Advisory x14.Advisory || x6.Advisory == x14.Advisory)) (wants_some (c := (decide (n4 > 0))) (b := true) 20 rfl h.1 hb13) h.2.1 h.2.2.1 rfl rfl (an ⟨rfl, rfl⟩)) (.cons (fun S hn h hh => aops_pick true (cb := (decide (n4 > 0))) (bV (Op.bytesLess x6.Advisory x14.Advisory || x6.Advisory == x14.Advisory)) wants_none h.1 hb13 h.2.1 rfl (an ⟨rfl, rfl⟩)) (.cons (fun S hn h hh => aops_assign (bV (Op.bytesLess x6.Advisory x14.Advisory || x6.Advisory == x14.Advisory)) wants_none h.1 rfl (an ⟨rfl, rfl⟩)) .nil)))))))))))))) ?_
          refine awp_cond (Op.bytesLess x6.Advisory x14.Advisory || x6.Advisory == x14.Advisory) rfl (fun hb16 => ?_) (fun hb16 => ?_)
          · replace h := ite_t hb16 h
            refine sr ?_
            refine aa (iV 10) rfl rfl ?_
            refine an ?_
            refine awp_ret ?_
            replace h := Option.some.inj h
            subst h
            exact ⟨.inl rfl, .one (.tmp rfl (Imm.con _))⟩
          replace h := ite_f hb16 h
          refine sr ?_
          refine aops_fieldAddr tF137_1 wants_none rfl rfl ?_
          refine aops_load_cell (iV x6.Day) tC3 wants_none rfl rfl rfl rfl rfl ?_
          replace h := bind_some h
          obtain ⟨y17, hx18, h⟩ := h
          refine aops_call (bV y17) [(iV x6.Day)] fOk72 wants_none (evm_cons rfl evm_nil) (.cons (Imm.con _) .nil) (W72 F x6.Day y17 hx18) rfl ?_
          refine aops_not wants_none rfl rfl ?_
          refine am (bV (!y17)) rfl rfl ?_
          refine bsp (!y17) (fun hb19 => ?_) (fun hb19 => ?_)
          · replace h := ite_t hb19 h
            refine aops_skips 4 4 36 false (c := (!y17)) (b := true) rfl rfl hb19 rfl rfl ?_
            refine aops_skip (wants_undef 40 rfl rfl) rfl rfl ?_
            refine aops_skip (wants_undef 40 rfl rfl) rfl rfl ?_
            refine aops_skip (wants_undef 40 rfl rfl) rfl rfl ?_
            refine aops_skip (wants_undef 40 rfl rfl) rfl rfl ?_
            refine aops_skip (wants_undef 40 rfl rfl) rfl rfl ?_
            refine aops_skip (wants_undef 40 rfl rfl) rfl rfl ?_
            refine aops_skip (wants_undef 46 rfl rfl) rfl rfl ?_
            refine aops_skip (wants_undef 46 rfl rfl) rfl rfl ?_
            refine aops_skip (wants_undef 46 rfl rfl) rfl rfl ?_
            refine aops_skip (wants_undef 40 rfl rfl) rfl rfl ?_
            refine aops_skip (wants_some (c := (!y17)) (b := true) 36 rfl rfl hb19) rfl rfl ?_
            refine aops_pick true (cb := (!y17)) (bV true) wants_none rfl hb19 rfl rfl ?_
            refine aa (bV true) rfl rfl ?_
            refine an ?_
            refine awp_cond_t rfl rfl ?_
            refine sr ?_
            refine aa (iV 9) rfl rfl ?_
            refine an ?_
            refine awp_ret ?_
            replace h := Option.some.inj h
            subst h
            exact ⟨.inl rfl, .one (.tmp rfl (Imm.con _))⟩
          replace h := ite_f hb19 h
          refine aops_fieldAddr tF137_2 (wants_some (c := (!y17)) (b := false) 36 rfl rfl hb19) rfl rfl ?_
          refine aops_load_cell (iV x6.Ended) tC3 (wants_some (c := (!y17)) (b := false) 36 rfl rfl hb19) rfl rfl rfl rfl rfl ?_
          refine aops_bin (.bool (x6.Ended != (-1))) (wants_some (c := (!y17)) (b := false) 36 rfl rfl hb19) rfl rfl rfl rfl ?_
          refine aops_move (bV (x6.Ended != (-1))) (wants_some (c := (!y17)) (b := false) 36 rfl rfl hb19) rfl rfl ?_
          refine bsp (x6.Ended != (-1)) (fun hb20 => ?_) (fun hb20 => ?_)
          · replace h := ite_t hb20 h
            refine aops_fieldAddr tF137_2 (wants_some (c := (x6.Ended != (-1))) (b := true) 40 rfl rfl hb20) rfl rfl ?_
            refine aops_load_cell (iV x6.Ended) tC3 (wants_some (c := (x6.Ended != (-1))) (b := true) 40 rfl rfl hb20) rfl rfl rfl rfl rfl ?_
            refine aops_fieldAddr tF137_1 (wants_some (c := (x6.Ended != (-1))) (b := true) 40 rfl rfl hb20) rfl rfl ?_
            refine aops_load_cell (iV x6.Day) tC3 (wants_some (c := (x6.Ended != (-1))) (b := true) 40 rfl rfl hb20) rfl rfl rfl rfl rfl ?_
            refine aops_bin (.bool (decide (x6.Ended < x6.Day))) (wants_some (c := (x6.Ended != (-1))) (b := true) 40 rfl rfl hb20) rfl rfl rfl rfl ?_
            refine aops_move (bV (decide (x6.Ended < x6.Day))) (wants_some (c := (x6.Ended != (-1))) (b := true) 40 rfl rfl hb20) rfl rfl ?_
            refine bsp (decide (x6.Ended < x6.Day)) (fun hb21 => ?_) (fun hb21 => ?_)
            · replace h := ite_t hb21 h
              refine aops_skips 3 14 46 false (c := (decide (x6.Ended < x6.Day))) (b := true) rfl rfl hb21 rfl rfl ?_
              refine aops_pick true (cb := (decide (x6.Ended < x6.Day))) (bV true) (wants_some (c := (x6.Ended != (-1))) (b := true) 40 rfl rfl hb20) rfl hb21 rfl rfl ?_
              refine aops_pick true (cb := (x6.Ended != (-1))) (bV true) (wants_some (c := (!y17)) (b := false) 36 rfl rfl hb19) rfl hb20 rfl rfl ?_
              refine aops_pick false (cb := (!y17)) (bV true) wants_none rfl hb19 rfl rfl ?_
              refine aa (bV true) rfl rfl ?_
              refine an ?_
              refine awp_cond_t rfl rfl ?_
              refine sr ?_
              refine aa (iV 9) rfl rfl ?_
              refine an ?_
              refine awp_ret ?_
              replace h := Option.some.inj h
              subst h
              exact ⟨.inl rfl, .one (.tmp rfl (Imm.con _))⟩
            replace h := ite_f hb21 h
            refine aops_fieldAddr tF137_2 (wants_some (c := (decide (x6.Ended < x6.Day))) (b := false) 46 rfl rfl hb21) rfl rfl ?_
            refine aops_load_cell (iV x6.Ended) tC3 (wants_some (c := (decide (x6.Ended < x6.Day))) (b := false) 46 rfl rfl hb21) rfl rfl rfl rfl rfl ?_
            refine aops_bin (.bool (decide (x6.Ended > 1000000))) (wants_some (c := (decide (x6.Ended < x6.Day))) (b := false) 46 rfl rfl hb21) rfl rfl rfl rfl ?_
            refine aops_pick false (cb := (decide (x6.Ended < x6.Day))) (bV (decide (x6.Ended > 1000000))) (wants_some (c := (x6.Ended != (-1))) (b := true) 40 rfl rfl hb20) rfl hb21 rfl rfl ?_
            refine aops_pick true (cb := (x6.Ended != (-1))) (bV (decide (x6.Ended > 1000000))) (wants_some (c := (!y17)) (b := false) 36 rfl rfl hb19) rfl hb20 rfl rfl ?_
            refine aops_pick false (cb := (!y17)) (bV (decide (x6.Ended > 1000000))) wants_none rfl hb19 rfl rfl ?_
            refine aa (bV (decide (x6.Ended > 1000000))) rfl rfl ?_
            refine an ?_
            refine awp_cond (decide (x6.Ended > 1000000)) rfl (fun hb22 => ?_) (fun hb22 => ?_)
            · replace h := ite_t hb22 h
              refine sr ?_
              refine aa (iV 9) rfl rfl ?_
              refine an ?_
              refine awp_ret ?_
              replace h := Option.some.inj h
              subst h
              exact ⟨.inl rfl, .one (.tmp rfl (Imm.con _))⟩
            replace h := ite_f hb22 h
            refine awp_skip ?_
            exact ⟨(decide (x6.Ended > 1000000)), h, (ghost_ren 1 (fun i => ([0] : List Nat).getD i 0) _ _ (by decide) (EnvSub.get (.cons (Sub.imm (Imm.lst _ _)) (.cons (Sub.imm (Imm.lst _ _)) (.cons (Sub.imm (Imm.con _)) (.cons (Sub.imm (Imm.con _)) (.cons (Sub.ptr rfl rfl) (.cons (Sub.imm (Imm.con _)) (.cons (Sub.imm (Imm.con _)) (.cons (Sub.imm (Imm.con _)) (.cons (Sub.imm (Imm.con _)) .nil)))))))))) (HpSub.get (.cons rfl (ObSub.box (.cons (Sub.imm (Imm.con _)) (.cons (Sub.imm (Imm.con _)) (.cons (Sub.imm (Imm.con _)) .nil)))) .nil)) rfl)⟩
          replace h := ite_f hb20 h
          refine aops_skips 6 8 40 true (c := (x6.Ended != (-1))) (b := false) rfl rfl hb20 rfl rfl ?_
          refine aops_skip (wants_undef 46 rfl rfl) rfl rfl ?_
          refine aops_skip (wants_undef 46 rfl rfl) rfl rfl ?_
          refine aops_skip (wants_undef 46 rfl rfl) rfl rfl ?_
          refine aops_skip (wants_some (c := (x6.Ended != (-1))) (b := false) 40 rfl rfl hb20) rfl rfl ?_
          refine aops_pick false (cb := (x6.Ended != (-1))) (bV false) (wants_some (c := (!y17)) (b := false) 36 rfl rfl hb19) rfl hb20 rfl rfl ?_
          refine aops_pick false (cb := (!y17)) (bV false) wants_none rfl hb19 rfl rfl ?_
          refine aa (bV false) rfl rfl ?_
          refine an ?_
          refine awp_cond_f rfl rfl ?_
          refine awp_skip ?_
          exact ⟨false, h, (ghost_ren 1 (fun i => ([0] : List Nat).getD i 0) _ _ (by decide) (EnvSub.get (.cons (Sub.imm (Imm.lst _ _)) (.cons (Sub.imm (Imm.lst _ _)) (.cons (Sub.imm (Imm.con _)) (.cons (Sub.imm (Imm.con _)) (.cons (Sub.ptr rfl rfl) (.cons (Sub.imm (Imm.con _)) (.cons (Sub.imm (Imm.con _)) (.cons (Sub.imm (Imm.con _)) (.cons (Sub.imm (Imm.con _)) .nil)))))))))) (HpSub.get (.cons rfl (ObSub.box (.cons (Sub.imm (Imm.con _)) (.cons (Sub.imm (Imm.con _)) (.cons (Sub.imm (Imm.con _)) .nil)))) .nil)) rfl)⟩
        replace h := ite_f hb13 h
        refine awp_any [OD.mk [(3, (iV n4))] [] [(18, (iV n4))] [],
              OD.mk [(18, (iV n4))] [] [(19, (bV (decide (n4 > 0))))] [],
              OD.mk [(19, (bV (decide (n4 > 0))))] [] [(20, (bV (decide (n4 > 0))))] [],
              OD.mk [(20, (bV (decide (n4 > 0))))] [] [(21, (V.con undef))] [],
              OD.mk [(20, (bV (decide (n4 > 0))))] [] [(22, (V.con undef))] [],
              OD.mk [(20, (bV (decide (n4 > 0))))] [] [(23, (V.con undef))] [],
              OD.mk [(20, (bV (decide (n4 > 0))))] [] [(24, (V.con undef))] [],
              OD.mk [(20, (bV (decide (n4 > 0))))] [] [(25, (V.con undef))] [],
              OD.mk [(20, (bV (decide (n4 > 0))))] [] [(26, (V.con undef))] [],
              OD.mk [(20, (bV (decide (n4 > 0))))] [] [(27, (V.con undef))] [],
              OD.mk [(20, (bV (decide (n4 > 0))))] [] [(28, (V.con undef))] [],
              OD.mk [(20, (bV (decide (n4 > 0))))] [] [(29, (V.con undef))] [],
              OD.mk [(20, (bV (decide (n4 > 0))))] [] [(30, (bV false))] [],
              OD.mk [(30, (bV false))] [] [(17, (bV false))] []] mixed ⟨⟨rfl, trivial⟩, trivial, ⟨⟨rfl, trivial⟩, trivial, ⟨⟨rfl, trivial⟩, trivial, ⟨⟨rfl, trivial⟩, trivial, ⟨⟨rfl, trivial⟩, trivial, ⟨⟨rfl, trivial⟩, trivial, ⟨⟨rfl, trivial⟩, trivial, ⟨⟨rfl, trivial⟩, trivial, ⟨⟨rfl, trivial⟩, trivial, ⟨⟨rfl, trivial⟩, trivial, ⟨⟨rfl, trivial⟩, trivial, ⟨⟨rfl, trivial⟩, trivial, ⟨⟨rfl, trivial⟩, trivial, ⟨⟨rfl, trivial⟩, trivial, trivial⟩⟩⟩⟩⟩⟩⟩⟩⟩⟩⟩⟩⟩⟩ (by kernel_rfl) (.cons (fun S hn h hh => aops_move (iV n4) wants_none h.1 rfl (an ⟨rfl, rfl⟩)) (.cons (fun S hn h hh => aops_bin (.bool (decide (n4 > 0))) wants_none h.1 rfl rfl rfl (an ⟨rfl, rfl⟩)) (.cons (fun S hn h hh => aops_move (bV (decide (n4 > 0))) wants_none h.1 rfl (an ⟨rfl, rfl⟩)) (.cons (fun S hn h hh => aops_skip (wants_some (c := (decide (n4 > 0))) (b := false) 20 rfl h.1 hb13) rfl rfl (an ⟨rfl, rfl⟩)) (.cons (fun S hn h hh => aops_skip (wants_some (c := (decide (n4 > 0))) (b := false) 20 rfl h.1 hb13) rfl rfl (an ⟨rfl, rfl⟩)) (.cons (fun S hn h hh => aops_skip (wants_some (c := (decide (n4 > 0))) (b := false) 20 rfl h.1 hb13) rfl rfl (an ⟨rfl, rfl⟩)) (.cons (fun S hn h hh => aops_skip (wants_some (c := (decide (n4 > 0))) (b := false) 20 rfl h.1 hb13) rfl rfl (an ⟨rfl, rfl⟩)) (.cons (fun S hn h hh => aops_skip (wants_some (c := (decide (n4 > 0))) (b := false) 20 rfl h.1 hb13) rfl rfl (an ⟨rfl, rfl⟩)) (.cons (fun S hn h hh => aops_skip (wants_some (c := (decide (n4 > 0))) (b := false) 20 rfl h.1 hb13) rfl rfl (an ⟨rfl, rfl⟩)) (.cons (fun S hn h hh => aops_skip (wants_some (c := (decide (n4 > 0))) (b := false) 20 rfl h.1 hb13) rfl rfl (an ⟨rfl, rfl⟩)) (.cons (fun S hn h hh => aops_skip (wants_some (c := (decide (n4 > 0))) (b := false) 20 rfl h.1 hb13) rfl rfl (an ⟨rfl, rfl⟩)) (.cons (fun S hn h hh => aops_skip (wants_some (c := (decide (n4 > 0))) (b := false) 20 rfl h.1 hb13) rfl rfl (an ⟨rfl, rfl⟩)) (.cons (fun S hn h hh => aops_pick false (cb := (decide (n4 > 0))) (bV false) wants_none h.1 hb13 rfl rfl (an ⟨rfl, rfl⟩)) (.cons (fun S hn h hh => aops_assign (bV false) wants_none h.1 rfl (an ⟨rfl, rfl⟩)) .nil)))))))))))))) ?_
        refine awp_cond_f rfl rfl ?_
        refine sr ?_
        refine aops_fieldAddr tF137_1 wants_none rfl rfl ?_
        refine aops_load_cell (iV x6.Day) tC3 wants_none rfl rfl rfl rfl rfl ?_
        replace h := bind_some h
        obtain ⟨y23, hx24, h⟩ := h
        refine aops_call (bV y23) [(iV x6.Day)] fOk72 wants_none (evm_cons rfl evm_nil) (.cons (Imm.con _) .nil) (W72 F x6.Day y23 hx24) rfl ?_
        refine aops_not wants_none rfl rfl ?_
        refine am (bV (!y23)) rfl rfl ?_
        refine bsp (!y23) (fun hb25 => ?_) (fun hb25 => ?_)
        · replace h := ite_t hb25 h
          refine aops_skips 4 4 36 false (c := (!y23)) (b := true) rfl rfl hb25 rfl rfl ?_
          refine aops_skip (wants_undef 40 rfl rfl) rfl rfl ?_
          refine aops_skip (wants_undef 40 rfl rfl) rfl rfl ?_
          refine aops_skip (wants_undef 40 rfl rfl) rfl rfl ?_
          refine aops_skip (wants_undef 40 rfl rfl) rfl rfl ?_
          refine aops_skip (wants_undef 40 rfl rfl) rfl rfl ?_
          refine aops_skip (wants_undef 40 rfl rfl) rfl rfl ?_
          refine aops_skip (wants_undef 46 rfl rfl) rfl rfl ?_
          refine aops_skip (wants_undef 46 rfl rfl) rfl rfl ?_
          refine aops_skip (wants_undef 46 rfl rfl) rfl rfl ?_
          refine aops_skip (wants_undef 40 rfl rfl) rfl rfl ?_
          refine aops_skip (wants_some (c := (!y23)) (b := true) 36 rfl rfl hb25) rfl rfl ?_
          refine aops_pick true (cb := (!y23)) (bV true) wants_none rfl hb25 rfl rfl ?_
          refine aa (bV true) rfl rfl ?_
          refine an ?_
          refine awp_cond_t rfl rfl ?_
          refine sr ?_
          refine aa (iV 9) rfl rfl ?_
          refine an ?_
          refine awp_ret ?_
          replace h := Option.some.inj h
          subst h
          exact ⟨.inl rfl, .one (.tmp rfl (Imm.con _))⟩
        replace h := ite_f hb25 h
        refine aops_fieldAddr tF137_2 (wants_some (c := (!y23)) (b := false) 36 rfl rfl hb25) rfl rfl ?_
        refine aops_load_cell (iV x6.Ended) tC3 (wants_some (c := (!y23)) (b := false) 36 rfl rfl hb25) rfl rfl rfl rfl rfl ?_
        refine aops_bin (.bool (x6.Ended != (-1))) (wants_some (c := (!y23)) (b := false) 36 rfl rfl hb25) rfl rfl rfl rfl ?_
        refine aops_move (bV (x6.Ended != (-1))) (wants_some (c := (!y23)) (b := false) 36 rfl rfl hb25) rfl rfl ?_
        refine bsp (x6.Ended != (-1)) (fun hb26 => ?_) (fun hb26 => ?_)
        · replace h := ite_t hb26 h
          refine aops_fieldAddr tF137_2 (wants_some (c := (x6.Ended != (-1))) (b := true) 40 rfl rfl hb26) rfl rfl ?_
          refine aops_load_cell (iV x6.Ended) tC3 (wants_some (c := (x6.Ended != (-1))) (b := true) 40 rfl rfl hb26) rfl rfl rfl rfl rfl ?_
          refine aops_fieldAddr tF137_1 (wants_some (c := (x6.Ended != (-1))) (b := true) 40 rfl rfl hb26) rfl rfl ?_
          refine aops_load_cell (iV x6.Day) tC3 (wants_some (c := (x6.Ended != (-1))) (b := true) 40 rfl rfl hb26) rfl rfl rfl rfl rfl ?_
          refine aops_bin (.bool (decide (x6.Ended < x6.Day))) (wants_some (c := (x6.Ended != (-1))) (b := true) 40 rfl rfl hb26) rfl rfl rfl rfl ?_
          refine aops_move (bV (decide (x6.Ended < x6.Day))) (wants_some (c := (x6.Ended != (-1))) (b := true) 40 rfl rfl hb26) rfl rfl ?_
          refine bsp (decide (x6.Ended < x6.Day)) (fun hb27 => ?_) (fun hb27 => ?_)
          · replace h := ite_t hb27 h
            refine aops_skips 3 14 46 false (c := (decide (x6.Ended < x6.Day))) (b := true) rfl rfl hb27 rfl rfl ?_
            refine aops_pick true (cb := (decide (x6.Ended < x6.Day))) (bV true) (wants_some (c := (x6.Ended != (-1))) (b := true) 40 rfl rfl hb26) rfl hb27 rfl rfl ?_
            refine aops_pick true (cb := (x6.Ended != (-1))) (bV true) (wants_some (c := (!y23)) (b := false) 36 rfl rfl hb25) rfl hb26 rfl rfl ?_
            refine aops_pick false (cb := (!y23)) (bV true) wants_none rfl hb25 rfl rfl ?_
            refine aa (bV true) rfl rfl ?_
            refine an ?_
            refine awp_cond_t rfl rfl ?_
            refine sr ?_
            refine aa (iV 9) rfl rfl ?_
            refine an ?_
            refine awp_ret ?_
            replace h := Option.some.inj h
            subst h
            exact ⟨.inl rfl, .one (.tmp rfl (Imm.con _))⟩
          replace h := ite_f hb27 h
          refine aops_fieldAddr tF137_2 (wants_some (c := (decide (x6.Ended < x6.Day))) (b := false) 46 rfl rfl hb27) rfl rfl ?_
          refine aops_load_cell (iV x6.Ended) tC3 (wants_some (c := (decide (x6.Ended < x6.Day))) (b := false) 46 rfl rfl hb27) rfl rfl rfl rfl rfl ?_
          refine aops_bin (.bool (decide (x6.Ended > 1000000))) (wants_some (c := (decide (x6.Ended < x6.Day))) (b := false) 46 rfl rfl hb27) rfl rfl rfl rfl ?_
          refine aops_pick false (cb := (decide (x6.Ended < x6.Day))) (bV (decide (x6.Ended > 1000000))) (wants_some (c := (x6.Ended != (-1))) (b := true) 40 rfl rfl hb26) rfl hb27 rfl rfl ?_
          refine aops_pick true (cb := (x6.Ended != (-1))) (bV (decide (x6.Ended > 1000000))) (wants_some (c := (!y23)) (b := false) 36 rfl rfl hb25) rfl hb26 rfl rfl ?_
          refine aops_pick false (cb := (!y23)) (bV (decide (x6.Ended > 1000000))) wants_none rfl hb25 rfl rfl ?_
          refine aa (bV (decide (x6.Ended > 1000000))) rfl rfl ?_
          refine an ?_
          refine awp_cond (decide (x6.Ended > 1000000)) rfl (fun hb28 => ?_) (fun hb28 => ?_)
          · replace h := ite_t hb28 h
            refine sr ?_
            refine aa (iV 9) rfl rfl ?_
            refine an ?_
            refine awp_ret ?_
            replace h := Option.some.inj h
            subst h
            exact ⟨.inl rfl, .one (.tmp rfl (Imm.con _))⟩
          replace h := ite_f hb28 h
          refine awp_skip ?_
          exact ⟨(decide (x6.Ended > 1000000)), h, (ghost_ren 1 (fun i => ([0] : List Nat).getD i 0) _ _ (by decide) (EnvSub.get (.cons (Sub.imm (Imm.lst _ _)) (.cons (Sub.imm (Imm.lst _ _)) (.cons (Sub.imm (Imm.con _)) (.cons (Sub.imm (Imm.con _)) (.cons (Sub.ptr rfl rfl) (.cons (Sub.imm (Imm.con _)) (.cons (Sub.imm (Imm.con _)) (.cons (Sub.imm (Imm.con _)) (.cons (Sub.imm (Imm.con _)) .nil)))))))))) (HpSub.get (.cons rfl (ObSub.box (.cons (Sub.imm (Imm.con _)) (.cons (Sub.imm (Imm.con _)) (.cons (Sub.imm (Imm.con _)) .nil)))) .nil)) rfl)⟩
        replace h := ite_f hb26 h
        refine aops_skips 6 8 40 true (c := (x6.Ended != (-1))) (b := false) rfl rfl hb26 rfl rfl ?_
        refine aops_skip (wants_undef 46 rfl rfl) rfl rfl ?_
        refine aops_skip (wants_undef 46 rfl rfl) rfl rfl ?_
        refine aops_skip (wants_undef 46 rfl rfl) rfl rfl ?_
        refine aops_skip (wants_some (c := (x6.Ended != (-1))) (b := false) 40 rfl rfl hb26) rfl rfl ?_
        refine aops_pick false (cb := (x6.Ended != (-1))) (bV false) (wants_some (c := (!y23)) (b := false) 36 rfl rfl hb25) rfl hb26 rfl rfl ?_
        refine aops_pick false (cb := (!y23)) (bV false) wants_none rfl hb25 rfl rfl ?_
        refine aa (bV false) rfl rfl ?_
        refine an ?_
        refine awp_cond_f rfl rfl ?_
        refine awp_skip ?_
        exact ⟨false, h, (ghost_ren 1 (fun i => ([0] : List Nat).getD i 0) _ _ (by decide) (EnvSub.get (.cons (Sub.imm (Imm.lst _ _)) (.cons (Sub.imm (Imm.lst _ _)) (.cons (Sub.imm (Imm.con _)) (.cons (Sub.imm (Imm.con _)) (.cons (Sub.ptr rfl rfl) (.cons (Sub.imm (Imm.con _)) (.cons (Sub.imm (Imm.con _)) (.cons (Sub.imm (Imm.con _)) (.cons (Sub.imm (Imm.con _)) .nil)))))))))) (HpSub.get (.cons rfl (ObSub.box (.cons (Sub.imm (Imm.con _)) (.cons (Sub.imm (Imm.con _)) (.cons (Sub.imm (Imm.con _)) .nil)))) .nil)) rfl)⟩
      clear h
      intro b11 h
      subst hk10
      refine rg ?_
      refine aops_bin (.int .i64 (w64 (n4 + 1))) wants_none rfl rfl rfl rfl ?_
      refine am (iV (w64 (n4 + 1))) rfl rfl ?_
      refine an ?_
      exact awp_back (ih1 (w64 (n4 + 1)) (hk1 _ h)) (ghost_ren 0 (fun i => ([] : List Nat).getD i 0) _ _ (by decide) (EnvSub.get (.cons (Sub.imm (Imm.lst _ _)) (.cons (Sub.imm (Imm.lst _ _)) (.cons (Sub.imm (Imm.con _)) (.cons (Sub.imm (Imm.con _)) .nil))))) (HpSub.get .nil) rfl)
    replace h := RG.f h hb5
    unfold M97_L1 at h
    refine awp_exit ?_
    exact ⟨(), h, (ghost_ren 0 (fun i => ([] : List Nat).getD i 0) _ _ (by decide) (EnvSub.get .nil) (HpSub.get .nil) rfl)⟩
  clear h
  intro _ h
  subst hk2
  refine sr ?_
  refine aa (iV 0) rfl rfl ?_
  refine an ?_
  refine awp_ret ?_
  replace h := Option.some.inj h
  subst h
  exact ⟨.inl rfl, .one (.tmp rfl (Imm.con _))⟩
theorem W36 (F : Nat) (a1 : TStory) (r : Int) (h : M36 F a1 = some r) : Pure Try.prog 36 [(V.agg (encTStory a1))] (iV r) := by
  refine pure_enter Try.func36 rfl rfl (l := [.tmp 2]) rfl rfl [(0, (V.agg (encTStory a1)))] rfl (fun w0 m0 => ?_)
  unfold M36 at h
  refine sr ?_
  refine aops_box (encTStory a1) wants_none rfl rfl rfl rfl ?_
  refine aa (iV 0) rfl rfl ?_
  refine an ?_
  refine sq ?_
  refine awp_block ?_
  refine sr ?_
  refine aops_fieldAddr tF52_0 wants_none rfl rfl ?_
  refine aops_load_cell (sV a1.Product) tC9 wants_none rfl rfl rfl rfl rfl ?_
  replace h := bind_some h
  obtain ⟨y2, hx3, h⟩ := h
  refine aops_call (bV y2) [(sV a1.Product)] fOk95 wants_none (evm_cons rfl evm_nil) (.cons (Imm.con _) .nil) (W95 F a1.Product y2 hx3) rfl ?_
  refine aops_not wants_none rfl rfl ?_
  refine aa (bV (!y2)) rfl rfl ?_
  refine an ?_
  refine awp_cond (!y2) rfl (fun hb4 => ?_) (fun hb4 => ?_)
  · replace h := ite_t hb4 h
    refine sr ?_
    refine aa (iV 8) rfl rfl ?_
    refine an ?_
    refine awp_ret ?_
    replace h := Option.some.inj h
    subst h
    exact ⟨.inl rfl, .one (.tmp rfl (Imm.con _))⟩
  replace h := ite_f hb4 h
  refine sr ?_
  refine aops_fieldAddr tF52_3 wants_none rfl rfl ?_
  refine aops_load_cell (iV a1.Until) tC3 wants_none rfl rfl rfl rfl rfl ?_
  replace h := bind_some h
  obtain ⟨y5, hx6, h⟩ := h
  refine aops_call (bV y5) [(iV a1.Until)] fOk72 wants_none (evm_cons rfl evm_nil) (.cons (Imm.con _) .nil) (W72 F a1.Until y5 hx6) rfl ?_
  refine aops_not wants_none rfl rfl ?_
  refine aa (bV (!y5)) rfl rfl ?_
  refine an ?_
  refine awp_cond (!y5) rfl (fun hb7 => ?_) (fun hb7 => ?_)
  · replace h := ite_t hb7 h
    refine sr ?_
    refine aa (iV 9) rfl rfl ?_
    refine an ?_
    refine awp_ret ?_
    replace h := Option.some.inj h
    subst h
    exact ⟨.inl rfl, .one (.tmp rfl (Imm.con _))⟩
  replace h := ite_f hb7 h
  refine sr ?_
  refine aops_fieldAddr tF52_1 wants_none rfl rfl ?_
  refine aops_load_cell (V.lst 3 (a1.Releases.map encTRelease)) tC49 wants_none rfl rfl rfl rfl rfl ?_
  refine aops_len (n := a1.Releases.length) tIsSl49 wants_none rfl (congrArg some (List.length_map ..)) rfl ?_
  refine aops_bin (.bool (decide (((a1.Releases.length : Nat) : Int) > 500))) wants_none rfl rfl rfl rfl ?_
  refine am (bV (decide (((a1.Releases.length : Nat) : Int) > 500))) rfl rfl ?_
  refine bsp (decide (((a1.Releases.length : Nat) : Int) > 500)) (fun hb8 => ?_) (fun hb8 => ?_)
  · replace h := ite_t hb8 h
    refine aops_skips 4 4 30 false (c := (decide (((a1.Releases.length : Nat) : Int) > 500))) (b := true) rfl rfl hb8 rfl rfl ?_
    refine aops_pick true (cb := (decide (((a1.Releases.length : Nat) : Int) > 500))) (bV true) wants_none rfl hb8 rfl rfl ?_
    refine aa (bV true) rfl rfl ?_
    refine an ?_
    refine awp_cond_t rfl rfl ?_
    refine sr ?_
    refine aa (iV 3) rfl rfl ?_
    refine an ?_
    refine awp_ret ?_
    replace h := Option.some.inj h
    subst h
    exact ⟨.inl rfl, .one (.tmp rfl (Imm.con _))⟩
  replace h := ite_f hb8 h
  refine aops_fieldAddr tF52_2 (wants_some (c := (decide (((a1.Releases.length : Nat) : Int) > 500))) (b := false) 30 rfl rfl hb8) rfl rfl ?_
  refine aops_load_cell (V.lst 3 (a1.Known.map encTPublished)) tC50 (wants_some (c := (decide (((a1.Releases.length : Nat) : Int) > 500))) (b := false) 30 rfl rfl hb8) rfl rfl rfl rfl rfl ?_
  refine aops_len (n := a1.Known.length) tIsSl50 (wants_some (c := (decide (((a1.Releases.length : Nat) : Int) > 500))) (b := false) 30 rfl rfl hb8) rfl (congrArg some (List.length_map ..)) rfl ?_
  refine aops_bin (.bool (decide (((a1.Known.length : Nat) : Int) > 2000))) (wants_some (c := (decide (((a1.Releases.length : Nat) : Int) > 500))) (b := false) 30 rfl rfl hb8) rfl rfl rfl rfl ?_
  refine aops_pick false (cb := (decide (((a1.Releases.length : Nat) : Int) > 500))) (bV (decide (((a1.Known.length : Nat) : Int) > 2000))) wants_none rfl hb8 rfl rfl ?_
  refine aa (bV (decide (((a1.Known.length : Nat) : Int) > 2000))) rfl rfl ?_
  refine an ?_
  refine awp_cond (decide (((a1.Known.length : Nat) : Int) > 2000)) rfl (fun hb9 => ?_) (fun hb9 => ?_)
  · replace h := ite_t hb9 h
    refine sr ?_
    refine aa (iV 3) rfl rfl ?_
    refine an ?_
    refine awp_ret ?_
    replace h := Option.some.inj h
    subst h
    exact ⟨.inl rfl, .one (.tmp rfl (Imm.con _))⟩
  replace h := ite_f hb9 h
  refine awp_skip ?_
  refine sr ?_
  refine aops_makeMap wants_none rfl ?_
  refine aa (V.map 1) rfl rfl ?_
  refine an ?_
  refine sq ?_
  refine sr ?_
  refine aops_fieldAddr tF52_1 wants_none rfl rfl ?_
  refine aops_load_cell (V.lst 3 (a1.Releases.map encTRelease)) tC49 wants_none rfl rfl rfl rfl rfl ?_
  refine aops_len (n := a1.Releases.length) tIsSl49 wants_none rfl (congrArg some (List.length_map ..)) rfl ?_
  refine am (iV 0) rfl rfl ?_
  refine an ?_
  replace h := jn_elim h
  obtain ⟨k10, hk10, h⟩ := h
  refine awp_cut (fun _ : Unit => (⟨[(1, (V.ptr 0 4 0 0))], [(0, (Ob.arr 52 4 [(encTStory a1)]))], 1⟩ : St)) (fun _ : Unit => k10 = some r) ?_ ?_
  · clear hk10
    refine awp_block ?_
    refine awp_len (A := a1.Releases) 27 rfl (fun hA32 => ?_)
    refine awp_loop_ind (fun (p : Int × (List ((List UInt8) × Bool))) => (⟨[(1, (V.ptr 0 4 0 0)), (3, (V.map 1)), (38, (V.lst 3 (a1.Releases.map encTRelease))), (39, (iV ((a1.Releases.length : Nat) : Int))), (40, (iV (p.1)))], [(0, (Ob.arr 52 4 [(encTStory a1)])), (1, (Ob.map ((p.2).map encM9_4)))], 2⟩ : St)) (fun n (p : Int × (List ((List UInt8) × Bool))) => RG a1.Releases (fun tl nn => M36_L1 F a1 k10 tl nn p.2 = some r) n p.1) (fun p h => RG.zero h) (fun n ih1 p h => ?_) (a1.Releases.length + 1) (0, ([] : List ((List UInt8) × Bool))) (RG.start h) (ghost_ren 2 (fun i => ([0, 1] : List Nat).getD i 0) _ _ (by decide) (EnvSub.get (.cons (Sub.ptr rfl rfl) (.cons (Sub.map rfl rfl) (.cons (Sub.imm (Imm.lst _ _)) (.cons (Sub.imm (Imm.con _)) (.cons (Sub.imm (Imm.con _)) .nil)))))) (HpSub.get (.cons rfl (ObSub.box (.cons (Sub.imm (Imm.con _)) (.cons (Sub.imm (Imm.lst _ _)) (.cons (Sub.imm (Imm.lst _ _)) (.cons (Sub.imm (Imm.con _)) .nil))))) (.cons rfl (ObSub.maps encM9_4_imm) .nil))) rfl)
    obtain ⟨n13, m14⟩ := p
    refine awp_loop ?_
    refine sr ?_
    refine aops_bin (.bool (decide (n13 < ((a1.Releases.length : Nat) : Int)))) wants_none rfl rfl rfl rfl ?_
    refine an ?_
    refine sq ?_
    refine awp_cond (decide (n13 < ((a1.Releases.length : Nat) : Int))) rfl (fun hb15 => ?_) (fun hb15 => ?_)
    · obtain ⟨x16, tl, hx17, h, hk1⟩ := RG.t hA32 h hb15
      unfold M36_L1 at h
      refine awp_skip ?_
      refine sq ?_
      refine awp_block ?_
      refine sr ?_
      refine am (iV n13) rfl rfl ?_
      refine aops_index_lst (encTRelease x16) tSl49 wants_none rfl rfl (idx_some hx17).1 (idx_map encTRelease hx17) rfl ?_
      refine aops_iload_agg (cs := (encTRelease x16)) tA42 wants_none rfl rfl rfl rfl ?_
      refine aops_alloc tZ42 rfl rfl wants_none rfl ?_
      refine aa (iV n13) rfl rfl ?_
      refine aops_store (encTRelease x16) [(encTRelease x16)] tS42 wants_none rfl rfl rfl rfl rfl rfl rfl rfl ?_
      refine an ?_
      refine sq ?_
      refine awp_block ?_
      refine sr ?_
      refine aops_fieldAddr tF42_0 wants_none rfl rfl ?_
      refine aops_load_cell (sV x16.Version) tC9 wants_none rfl rfl rfl rfl rfl ?_
      replace h := bind_some h
      obtain ⟨y18, hx19, h⟩ := h
      refine aops_call (bV y18) [(sV x16.Version)] fOk95 wants_none (evm_cons rfl evm_nil) (.cons (Imm.con _) .nil) (W95 F x16.Version y18 hx19) rfl ?_
      refine aops_not wants_none rfl rfl ?_
      refine aa (bV (!y18)) rfl rfl ?_
      refine an ?_
      replace h := jn_elim h
      obtain ⟨k20, hk20, h⟩ := h
      refine awp_cut (fun _ : Unit => (⟨[(1, (V.ptr 0 4 0 0)), (3, (V.map 1)), (5, (V.ptr 2 3 0 0)), (38, (V.lst 3 (a1.Releases.map encTRelease))), (39, (iV ((a1.Releases.length : Nat) : Int))), (40, (iV n13)), (60, (V.ptr 2 3 0 1)), (61, (iV x16.Day)), (62, (V.ptr 0 4 0 3)), (63, (iV a1.Until)), (64, (bV (decide (x16.Day > a1.Until))))], [(0, (Ob.arr 52 4 [(encTStory a1)])), (1, (Ob.map (m14.map encM9_4))), (2, (Ob.arr 42 3 [(encTRelease x16)]))], 3⟩ : St)) (fun _ : Unit => k20 = some r) ?_ ?_
      · clear hk20
        refine awp_cond (!y18) rfl (fun hb21 => ?_) (fun hb21 => ?_)
        · replace h := ite_t hb21 h
          refine sr ?_
          refine aa (iV 8) rfl rfl ?_
          refine an ?_
          refine awp_ret ?_
          replace h := Option.some.inj h
          subst h
          exact ⟨.inl rfl, .one (.tmp rfl (Imm.con _))⟩
        replace h := ite_f hb21 h
        refine sr ?_
        refine am (V.map 1) rfl rfl ?_
        refine aops_fieldAddr tF42_0 wants_none rfl rfl ?_
        refine aops_load_cell (sV x16.Version) tC9 wants_none rfl rfl rfl rfl rfl ?_
        refine aops_lookup _ (bV false) (bV ((mget m14 x16.Version).getD false)) tMap135 tKey9 tZo4 (irel_con _) wants_none rfl (.own rfl) (.con rfl) ⟨_, rfl⟩ encM9_4_good (encM9_4_look m14 x16.Version) (getD_map (encM9_4_val) (mget m14 x16.Version) false) rfl ?_
        refine aa (bV ((mget m14 x16.Version).getD false)) rfl rfl ?_
        refine an ?_
        refine awp_cond ((mget m14 x16.Version).getD false) rfl (fun hb22 => ?_) (fun hb22 => ?_)
        · replace h := ite_t hb22 h
          refine sr ?_
          refine aa (iV 5) rfl rfl ?_
          refine an ?_
          refine awp_ret ?_
          replace h := Option.some.inj h
          subst h
          exact ⟨.inl rfl, .one (.tmp rfl (Imm.con _))⟩
        replace h := ite_f hb22 h
        refine sr ?_
        refine aops_fieldAddr tF42_1 wants_none rfl rfl ?_
        refine aops_load_cell (iV x16.Day) tC3 wants_none rfl rfl rfl rfl rfl ?_
        refine aops_bin (.bool (decide (x16.Day < 0))) wants_none rfl rfl rfl rfl ?_
        refine am (bV (decide (x16.Day < 0))) rfl rfl ?_
        refine bsp (decide (x16.Day < 0)) (fun hb23 => ?_) (fun hb23 => ?_)
        · replace h := ite_t hb23 h
          refine aops_skips 5 3 59 false (c := (decide (x16.Day < 0))) (b := true) rfl rfl hb23 rfl rfl ?_
          refine aops_pick true (cb := (decide (x16.Day < 0))) (bV true) wants_none rfl hb23 rfl rfl ?_
          refine aa (bV true) rfl rfl ?_
          refine an ?_
          refine awp_cond_t rfl rfl ?_
          refine sr ?_
          refine aa (iV 9) rfl rfl ?_
          refine an ?_
          refine awp_ret ?_
          replace h := Option.some.inj h
          subst h
          exact ⟨.inl rfl, .one (.tmp rfl (Imm.con _))⟩
        replace h := ite_f hb23 h
        refine aops_fieldAddr tF42_1 (wants_some (c := (decide (x16.Day < 0))) (b := false) 59 rfl rfl hb23) rfl rfl ?_
        refine aops_load_cell (iV x16.Day) tC3 (wants_some (c := (decide (x16.Day < 0))) (b := false) 59 rfl rfl hb23) rfl rfl rfl rfl rfl ?_
        refine aops_fieldAddr tF52_3 (wants_some (c := (decide (x16.Day < 0))) (b := false) 59 rfl rfl hb23) rfl rfl ?_
        refine aops_load_cell (iV a1.Until) tC3 (wants_some (c := (decide (x16.Day < 0))) (b := false) 59 rfl rfl hb23) rfl rfl rfl rfl rfl ?_
        refine aops_bin (.bool (decide (x16.Day > a1.Until))) (wants_some (c := (decide (x16.Day < 0))) (b := false) 59 rfl rfl hb23) rfl rfl rfl rfl ?_
        refine aops_pick false (cb := (decide (x16.Day < 0))) (bV (decide (x16.Day > a1.Until))) wants_none rfl hb23 rfl rfl ?_
        refine aa (bV (decide (x16.Day > a1.Until))) rfl rfl ?_
        refine an ?_
        refine awp_cond (decide (x16.Day > a1.Until)) rfl (fun hb24 => ?_) (fun hb24 => ?_)
        · replace h := ite_t hb24 h
          refine sr ?_
          refine aa (iV 9) rfl rfl ?_
          refine an ?_
          refine awp_ret ?_
          replace h := Option.some.inj h
          subst h
          exact ⟨.inl rfl, .one (.tmp rfl (Imm.con _))⟩
        replace h := ite_f hb24 h
        refine sq ?_
        refine bsp (decide (n13 > 0)) (fun hb25 => ?_) (fun hb25 => ?_)
        · replace h := ite_t hb25 h
          replace h := bind_some h
          obtain ⟨x26, hx27, h⟩ := h
          refine awp_any [OD.mk [(4, (iV n13))] [] [(67, (iV n13))] [],
                OD.mk [(67, (iV n13))] [] [(68, (bV (decide (n13 > 0))))] [],
                OD.mk [(68, (bV (decide (n13 > 0))))] [] [(69, (bV (decide (n13 > 0))))] [],
                OD.mk [(69, (bV (decide (n13 > 0)))), (5, (V.ptr 2 3 0 0))] [] [(70, (V.ptr 2 3 0 1))] [],
                OD.mk [(69, (bV (decide (n13 > 0)))), (70, (V.ptr 2 3 0 1))] [(2, (Ob.arr 42 3 [(encTRelease x16)]))] [(71, (iV x16.Day))] [],
                OD.mk [(69, (bV (decide (n13 > 0)))), (1, (V.ptr 0 4 0 0))] [] [(72, (V.ptr 0 4 0 1))] [],
                OD.mk [(69, (bV (decide (n13 > 0)))), (72, (V.ptr 0 4 0 1))] [(0, (Ob.arr 52 4 [(encTStory a1)]))] [(73, (V.lst 3 (a1.Releases.map encTRelease)))] [],
                OD.mk [(69, (bV (decide (n13 > 0)))), (4, (iV n13))] [] [(74, (iV n13))] [],
                OD.mk [(69, (bV (decide (n13 > 0)))), (74, (iV n13))] [] [(75, (iV (w64 (n13 - 1))))] [],
                OD.mk [(69, (bV (decide (n13 > 0)))), (73, (V.lst 3 (a1.Releases.map encTRelease))), (75, (iV (w64 (n13 - 1))))] [] [(76, (V.iptr (encTRelease x26) 0))] [],
                OD.mk [(69, (bV (decide (n13 > 0)))), (76, (V.iptr (encTRelease x26) 0))] [] [(77, (V.iptr (encTRelease x26) 1))] [],
                OD.mk [(69, (bV (decide (n13 > 0)))), (77, (V.iptr (encTRelease x26) 1))] [] [(78, (iV x26.Day))] [],
                OD.mk [(69, (bV (decide (n13 > 0)))), (71, (iV x16.Day)), (78, (iV x26.Day))] [] [(79, (bV (decide (x16.Day ≤ x26.Day))))] [],
                OD.mk [(69, (bV (decide (n13 > 0)))), (79, (bV (decide (x16.Day ≤ x26.Day))))] [] [(80, (bV (decide (x16.Day ≤ x26.Day))))] [],
                OD.mk [(80, (bV (decide (x16.Day ≤ x26.Day))))] [] [(66, (bV (decide (x16.Day ≤ x26.Day))))] []] mixed ⟨⟨rfl, trivial⟩, trivial, ⟨⟨rfl, trivial⟩, trivial, ⟨⟨rfl, trivial⟩, trivial, ⟨⟨rfl, rfl, trivial⟩, trivial, ⟨⟨rfl, rfl, trivial⟩, ⟨rfl, trivial⟩, ⟨⟨rfl, rfl, trivial⟩, trivial, ⟨⟨rfl, rfl, trivial⟩, ⟨rfl, trivial⟩, ⟨⟨rfl, rfl, trivial⟩, trivial, ⟨⟨rfl, rfl, trivial⟩, trivial, ⟨⟨rfl, rfl, rfl, trivial⟩, trivial, ⟨⟨rfl, rfl, trivial⟩, trivial, ⟨⟨rfl, rfl, trivial⟩, trivial, ⟨⟨rfl, rfl, rfl, trivial⟩, trivial, ⟨⟨rfl, rfl, trivial⟩, trivial, ⟨⟨rfl, trivial⟩, trivial, trivial⟩⟩⟩⟩⟩⟩⟩⟩⟩⟩⟩⟩⟩⟩⟩ (by kernel_rfl) (.cons (fun S hn h hh => aops_move (iV n13) wants_none h.1 rfl (an ⟨rfl, rfl⟩)) (.cons (fun S hn h hh => aops_bin (.bool (decide (n13 > 0))) wants_none h.1 rfl rfl rfl (an ⟨rfl, rfl⟩)) (.cons (fun S hn h hh => aops_move (bV (decide (n13 > 0))) wants_none h.1 rfl (an ⟨rfl, rfl⟩)) (.cons (fun S hn h hh => aops_fieldAddr tF42_1 (wants_some (c := (decide (n13 > 0))) (b := true) 69 rfl h.1 hb25) h.2.1 rfl (an ⟨rfl, rfl⟩)) (.cons (fun S hn h hh => aops_load_cell (iV x16.Day) tC3 (wants_some (c := (decide (n13 > 0))) (b := true) 69 rfl h.1 hb25) h.2.1 hh.1 rfl rfl rfl (an ⟨rfl, rfl⟩)) (.cons (fun S hn h hh => aops_fieldAddr tF52_1 (wants_some (c := (decide (n13 > 0))) (b := true) 69 rfl h.1 hb25) h.2.1 rfl (an ⟨rfl, rfl⟩)) (.cons (fun S hn h hh => aops_load_cell (V.lst 3 (a1.Releases.map encTRelease)) tC49 (wants_some (c := (decide (n13 > 0))) (b := true) 69 rfl h.1 hb25) h.2.1 hh.1 rfl rfl rfl (an ⟨rfl, rfl⟩)) (.cons (fun S hn h hh => aops_move (iV n13) (wants_some (c := (decide (n13 > 0))) (b := true) 69 rfl h.1 hb25) h.2.1 rfl (an ⟨rfl, rfl⟩)) (.cons (fun S hn h hh => aops_bin (.int .i64 (w64 (n13 - 1))) (wants_some (c := (decide (n13 > 0))) (b := true) 69 rfl h.1 hb25) h.2.1 rfl rfl rfl (an ⟨rfl, rfl⟩)) (.cons (fun S hn h hh => aops_index_lst (encTRelease x26) tSl49 (wants_some (c := (decide (n13 > 0))) (b := true) 69 rfl h.1 hb25) h.2.1 h.2.2.1 (idx_some hx27).1 (idx_map encTRelease hx27) rfl (an ⟨rfl, rfl⟩)) (.cons (fun S hn h hh => aops_ifieldAddr tF42_1 (wants_some (c := (decide (n13 > 0))) (b := true) 69 rfl h.1 hb25) h.2.1 rfl (an ⟨rfl, rfl⟩)) (.cons (fun S hn h hh => aops_iload_cell (iV x26.Day) tC3 (wants_some (c := (decide (n13 > 0))) (b := true) 69 rfl h.1 hb25) h.2.1 rfl rfl (an ⟨rfl, rfl⟩)) (.cons (fun S hn h hh => aops_bin (.bool (decide (x16.Day ≤ x26.Day))) (wants_some (c := (decide (n13 > 0))) (b := true) 69 rfl h.1 hb25) h.2.1 h.2.2.1 rfl rfl (an ⟨rfl, rfl⟩)) (.cons (fun S hn h hh => aops_pick true (cb := (decide (n13 > 0))) (bV (decide (x16.Day ≤ x26.Day))) wants_none h.1 hb25 h.2.1 rfl (an ⟨rfl, rfl⟩)) (.cons (fun S hn h hh => aops_assign (bV (decide (x16.Day ≤ x26.Day))) wants_none h.1 rfl (an ⟨rfl, rfl⟩)) .nil))))))))))))))) ?_
          refine awp_cond (decide (x16.Day ≤ x26.Day)) rfl (fun hb28 => ?_) (fun hb28 => ?_)
          · replace h := ite_t hb28 h
            refine sr ?_
            refine aa (iV 10) rfl rfl ?_
            refine an ?_
            refine awp_ret ?_
            replace h := Option.some.inj h
            subst h
            exact ⟨.inl rfl, .one (.tmp rfl (Imm.con _))⟩
          replace h := ite_f hb28 h
          refine awp_skip ?_
          exact ⟨(), h, (ghost_ren 3 (fun i => ([0, 1, 2] : List Nat).getD i 0) _ _ (by decide) (EnvSub.get (.cons (Sub.ptr rfl rfl) (.cons (Sub.map rfl rfl) (.cons (Sub.ptr rfl rfl) (.cons (Sub.imm (Imm.lst _ _)) (.cons (Sub.imm (Imm.con _)) (.cons (Sub.imm (Imm.con _)) (.cons (Sub.ptr rfl rfl) (.cons (Sub.imm (Imm.con _)) (.cons (Sub.ptr rfl rfl) (.cons (Sub.imm (Imm.con _)) (.cons (Sub.imm (Imm.con _)) .nil)))))))))))) (HpSub.get (.cons rfl (ObSub.box (.cons (Sub.imm (Imm.con _)) (.cons (Sub.imm (Imm.lst _ _)) (.cons (Sub.imm (Imm.lst _ _)) (.cons (Sub.imm (Imm.con _)) .nil))))) (.cons rfl (ObSub.maps encM9_4_imm) (.cons rfl (ObSub.box (.cons (Sub.imm (Imm.con _)) (.cons (Sub.imm (Imm.con _)) (.cons (Sub.imm (Imm.lst _ _)) .nil)))) .nil)))) rfl)⟩
        replace h := ite_f hb25 h
        refine awp_any [OD.mk [(4, (iV n13))] [] [(67, (iV n13))] [],
              OD.mk [(67, (iV n13))] [] [(68, (bV (decide (n13 > 0))))] [],
              OD.mk [(68, (bV (decide (n13 > 0))))] [] [(69, (bV (decide (n13 > 0))))] [],
              OD.mk [(69, (bV (decide (n13 > 0))))] [] [(70, (V.con undef))] [],
              OD.mk [(69, (bV (decide (n13 > 0))))] [] [(71, (V.con undef))] [],
              OD.mk [(69, (bV (decide (n13 > 0))))] [] [(72, (V.con undef))] [],
              OD.mk [(69, (bV (decide (n13 > 0))))] [] [(73, (V.con undef))] [],
              OD.mk [(69, (bV (decide (n13 > 0))))] [] [(74, (V.con undef))] [],
              OD.mk [(69, (bV (decide (n13 > 0))))] [] [(75, (V.con undef))] [],
              OD.mk [(69, (bV (decide (n13 > 0))))] [] [(76, (V.con undef))] [],
              OD.mk [(69, (bV (decide (n13 > 0))))] [] [(77, (V.con undef))] [],
              OD.mk [(69, (bV (decide (n13 > 0))))] [] [(78, (V.con undef))] [],
              OD.mk [(69, (bV (decide (n13 > 0))))] [] [(79, (V.con undef))] [],
              OD.mk [(69, (bV (decide (n13 > 0))))] [] [(80, (bV false))] [],
              OD.mk [(80, (bV false))] [] [(66, (bV false))] []] mixed ⟨⟨rfl, trivial⟩, trivial, ⟨⟨rfl, trivial⟩, trivial, ⟨⟨rfl, trivial⟩, trivial, ⟨⟨rfl, trivial⟩, trivial, ⟨⟨rfl, trivial⟩, trivial, ⟨⟨rfl, trivial⟩, trivial, ⟨⟨rfl, trivial⟩, trivial, ⟨⟨rfl, trivial⟩, trivial, ⟨⟨rfl, trivial⟩, trivial, ⟨⟨rfl, trivial⟩, trivial, ⟨⟨rfl, trivial⟩, trivial, ⟨⟨rfl, trivial⟩, trivial, ⟨⟨rfl, trivial⟩, trivial, ⟨⟨rfl, trivial⟩, trivial, ⟨⟨rfl, trivial⟩, trivial, trivial⟩⟩⟩⟩⟩⟩⟩⟩⟩⟩⟩⟩⟩⟩⟩ (by kernel_rfl) (.cons (fun S hn h hh => aops_move (iV n13) wants_none h.1 rfl (an ⟨rfl, rfl⟩)) (.cons (fun S hn h hh => aops_bin (.bool (decide (n13 > 0))) wants_none h.1 rfl rfl rfl (an ⟨rfl, rfl⟩)) (.cons (fun S hn h hh => aops_move (bV (decide (n13 > 0))) wants_none h.1 rfl (an ⟨rfl, rfl⟩)) (.cons (fun S hn h hh => aops_skip (wants_some (c := (decide (n13 > 0))) (b := false) 69 rfl h.1 hb25) rfl rfl (an ⟨rfl, rfl⟩)) (.cons (fun S hn h hh => aops_skip (wants_some (c := (decide (n13 > 0))) (b := false) 69 rfl h.1 hb25) rfl rfl (an ⟨rfl, rfl⟩)) (.cons (fun S hn h hh => aops_skip (wants_some (c := (decide (n13 > 0))) (b := false) 69 rfl h.1 hb25) rfl rfl (an ⟨rfl, rfl⟩)) (.cons (fun S hn h hh => aops_skip (wants_some (c := (decide (n13 > 0))) (b := false) 69 rfl h.1 hb25) rfl rfl (an ⟨rfl, rfl⟩)) (.cons (fun S hn h hh => aops_skip (wants_some (c := (decide (n13 > 0))) (b := false) 69 rfl h.1 hb25) rfl rfl (an ⟨rfl, rfl⟩)) (.cons (fun S hn h hh => aops_skip (wants_some (c := (decide (n13 > 0))) (b := false) 69 rfl h.1 hb25) rfl rfl (an ⟨rfl, rfl⟩)) (.cons (fun S hn h hh => aops_skip (wants_some (c := (decide (n13 > 0))) (b := false) 69 rfl h.1 hb25) rfl rfl (an ⟨rfl, rfl⟩)) (.cons (fun S hn h hh => aops_skip (wants_some (c := (decide (n13 > 0))) (b := false) 69 rfl h.1 hb25) rfl rfl (an ⟨rfl, rfl⟩)) (.cons (fun S hn h hh => aops_skip (wants_some (c := (decide (n13 > 0))) (b := false) 69 rfl h.1 hb25) rfl rfl (an ⟨rfl, rfl⟩)) (.cons (fun S hn h hh => aops_skip (wants_some (c := (decide (n13 > 0))) (b := false) 69 rfl h.1 hb25) rfl rfl (an ⟨rfl, rfl⟩)) (.cons (fun S hn h hh => aops_pick false (cb := (decide (n13 > 0))) (bV false) wants_none h.1 hb25 rfl rfl (an ⟨rfl, rfl⟩)) (.cons (fun S hn h hh => aops_assign (bV false) wants_none h.1 rfl (an ⟨rfl, rfl⟩)) .nil))))))))))))))) ?_
        refine awp_cond_f rfl rfl ?_
        refine awp_skip ?_
        exact ⟨(), h, (ghost_ren 3 (fun i => ([0, 1, 2] : List Nat).getD i 0) _ _ (by decide) (EnvSub.get (.cons (Sub.ptr rfl rfl) (.cons (Sub.map rfl rfl) (.cons (Sub.ptr rfl rfl) (.cons (Sub.imm (Imm.lst _ _)) (.cons (Sub.imm (Imm.con _)) (.cons (Sub.imm (Imm.con _)) (.cons (Sub.ptr rfl rfl) (.cons (Sub.imm (Imm.con _)) (.cons (Sub.ptr rfl rfl) (.cons (Sub.imm (Imm.con _)) (.cons (Sub.imm (Imm.con _)) .nil)))))))))))) (HpSub.get (.cons rfl (ObSub.box (.cons (Sub.imm (Imm.con _)) (.cons (Sub.imm (Imm.lst _ _)) (.cons (Sub.imm (Imm.lst _ _)) (.cons (Sub.imm (Imm.con _)) .nil))))) (.cons rfl (ObSub.maps encM9_4_imm) (.cons rfl (ObSub.box (.cons (Sub.imm (Imm.con _)) (.cons (Sub.imm (Imm.con _)) (.cons (Sub.imm (Imm.lst _ _)) .nil)))) .nil)))) rfl)⟩
      clear h
      intro _ h
      subst hk20
      refine sr ?_
      refine am (V.map 1) rfl rfl ?_
      refine aops_fieldAddr tF42_0 wants_none rfl rfl ?_
      refine aops_load_cell (sV x16.Version) tC9 wants_none rfl rfl rfl rfl rfl ?_
      refine aops_mapUpdate ((mput m14 x16.Version true).map encM9_4) tMap135 tKey9 wants_none rfl rfl (.con rfl) ⟨_, rfl⟩ encM9_4_good rfl (encM9_4_puts m14 x16.Version true) ?_
      refine an ?_
      refine sr ?_
      refine aops_fieldAddr tF42_2 wants_none rfl rfl ?_
      refine aops_load_cell (V.lst 3 (x16.Exposures.map encTExposure)) tC40 wants_none rfl rfl rfl rfl rfl ?_
      replace h := bind_some h
      obtain ⟨y29, hx30, h⟩ := h
      refine aops_call (iV y29) [(V.lst 3 (x16.Exposures.map encTExposure))] fOk96 wants_none (evm_cons rfl evm_nil) (.cons (Imm.lst _ _) .nil) (W96 F x16.Exposures y29 hx30) rfl ?_
      refine aa (iV y29) rfl rfl ?_
      refine an ?_
      refine sr ?_
      refine am (iV y29) rfl rfl ?_
      refine aops_bin (.bool (y29 != 0)) wants_none rfl rfl rfl rfl ?_
      refine an ?_
      refine awp_cond (y29 != 0) rfl (fun hb31 => ?_) (fun hb31 => ?_)
      · replace h := ite_t hb31 h
        refine sr ?_
        refine am (iV y29) rfl rfl ?_
        refine aa (iV y29) rfl rfl ?_
        refine an ?_
        refine awp_ret ?_
        replace h := Option.some.inj h
        subst h
        exact ⟨.inl rfl, .one (.tmp rfl (Imm.con _))⟩
      replace h := ite_f hb31 h
      refine awp_skip ?_
      refine rg ?_
      refine aops_bin (.int .i64 (w64 (n13 + 1))) wants_none rfl rfl rfl rfl ?_
      refine am (iV (w64 (n13 + 1))) rfl rfl ?_
      refine an ?_
      exact awp_back (ih1 ((w64 (n13 + 1)), (mput m14 x16.Version true)) (hk1 _ h)) (ghost_ren 2 (fun i => ([0, 1] : List Nat).getD i 0) _ _ (by decide) (EnvSub.get (.cons (Sub.ptr rfl rfl) (.cons (Sub.map rfl rfl) (.cons (Sub.imm (Imm.lst _ _)) (.cons (Sub.imm (Imm.con _)) (.cons (Sub.imm (Imm.con _)) .nil)))))) (HpSub.get (.cons rfl (ObSub.box (.cons (Sub.imm (Imm.con _)) (.cons (Sub.imm (Imm.lst _ _)) (.cons (Sub.imm (Imm.lst _ _)) (.cons (Sub.imm (Imm.con _)) .nil))))) (.cons rfl (ObSub.maps encM9_4_imm) .nil))) rfl)
    replace h := RG.f h hb15
    unfold M36_L1 at h
    refine awp_exit ?_
    exact ⟨(), h, (ghost_ren 1 (fun i => ([0] : List Nat).getD i 0) _ _ (by decide) (EnvSub.get (.cons (Sub.ptr rfl rfl) .nil)) (HpSub.get (.cons rfl (ObSub.box (.cons (Sub.imm (Imm.con _)) (.cons (Sub.imm (Imm.lst _ _)) (.cons (Sub.imm (Imm.lst _ _)) (.cons (Sub.imm (Imm.con _)) .nil))))) .nil)) rfl)⟩
  clear h
  intro _ h
  subst hk10
  refine sq ?_
  refine sr ?_
  refine aops_fieldAddr tF52_2 wants_none rfl rfl ?_
  refine aops_load_cell (V.lst 3 (a1.Known.map encTPublished)) tC50 wants_none rfl rfl rfl rfl rfl ?_
  replace h := bind_some h
  obtain ⟨y33, hx34, h⟩ := h
  refine aops_call (iV y33) [(V.lst 3 (a1.Known.map encTPublished))] fOk97 wants_none (evm_cons rfl evm_nil) (.cons (Imm.lst _ _) .nil) (W97 F a1.Known y33 hx34) rfl ?_
  refine aa (iV y33) rfl rfl ?_
  refine an ?_
  refine sr ?_
  refine am (iV y33) rfl rfl ?_
  refine aops_bin (.bool (y33 != 0)) wants_none rfl rfl rfl rfl ?_
  refine an ?_
  refine awp_cond (y33 != 0) rfl (fun hb35 => ?_) (fun hb35 => ?_)
  · replace h := ite_t hb35 h
    refine sr ?_
    refine am (iV y33) rfl rfl ?_
    refine aa (iV y33) rfl rfl ?_
    refine an ?_
    refine awp_ret ?_
    replace h := Option.some.inj h
    subst h
    exact ⟨.inl rfl, .one (.tmp rfl (Imm.con _))⟩
  replace h := ite_f hb35 h
  refine awp_skip ?_
  refine sr ?_
  refine aops_makeMap wants_none rfl ?_
  refine aa (V.map 1) rfl rfl ?_
  refine an ?_
  refine sq ?_
  refine sr ?_
  refine aops_fieldAddr tF52_2 wants_none rfl rfl ?_
  refine aops_load_cell (V.lst 3 (a1.Known.map encTPublished)) tC50 wants_none rfl rfl rfl rfl rfl ?_
  refine aops_len (n := a1.Known.length) tIsSl50 wants_none rfl (congrArg some (List.length_map ..)) rfl ?_
  refine am (iV 0) rfl rfl ?_
  refine an ?_
  replace h := jn_elim h
  obtain ⟨k36, hk36, h⟩ := h
  refine awp_cut (fun (p : (List ((List UInt8) × Bool))) => (⟨[(1, (V.ptr 0 4 0 0)), (8, (V.map 1))], [(0, (Ob.arr 52 4 [(encTStory a1)])), (1, (Ob.map (p.map encM9_4)))], 2⟩ : St)) (fun (p : (List ((List UInt8) × Bool))) => k36 p = some r) ?_ ?_
  · clear hk36
    refine awp_block ?_
    refine awp_len (A := a1.Known) 92 rfl (fun hA45 => ?_)
    refine awp_loop_ind (fun (p : Int × (List ((List UInt8) × Bool))) => (⟨[(1, (V.ptr 0 4 0 0)), (8, (V.map 1)), (99, (V.lst 3 (a1.Known.map encTPublished))), (100, (iV ((a1.Known.length : Nat) : Int))), (101, (iV (p.1)))], [(0, (Ob.arr 52 4 [(encTStory a1)])), (1, (Ob.map ((p.2).map encM9_4)))], 2⟩ : St)) (fun n (p : Int × (List ((List UInt8) × Bool))) => RG a1.Known (fun tl nn => M36_L2 F k36 tl p.2 = some r) n p.1) (fun p h => RG.zero h) (fun n ih2 p h => ?_) (a1.Known.length + 1) (0, ([] : List ((List UInt8) × Bool))) (RG.start h) (ghost_ren 2 (fun i => ([0, 1] : List Nat).getD i 0) _ _ (by decide) (EnvSub.get (.cons (Sub.ptr rfl rfl) (.cons (Sub.map rfl rfl) (.cons (Sub.imm (Imm.lst _ _)) (.cons (Sub.imm (Imm.con _)) (.cons (Sub.imm (Imm.con _)) .nil)))))) (HpSub.get (.cons rfl (ObSub.box (.cons (Sub.imm (Imm.con _)) (.cons (Sub.imm (Imm.lst _ _)) (.cons (Sub.imm (Imm.lst _ _)) (.cons (Sub.imm (Imm.con _)) .nil))))) (.cons rfl (ObSub.maps encM9_4_imm) .nil))) rfl)
    obtain ⟨n40, m41⟩ := p
    refine awp_loop ?_
    refine sr ?_
    refine aops_bin (.bool (decide (n40 < ((a1.Known.length : Nat) : Int)))) wants_none rfl rfl rfl rfl ?_
    refine an ?_
    refine sq ?_
    refine awp_cond (decide (n40 < ((a1.Known.length : Nat) : Int))) rfl (fun hb42 => ?_) (fun hb42 => ?_)
    · obtain ⟨x43, tl, hx44, h, hk2⟩ := RG.t hA45 h hb42
      unfold M36_L2 at h
      refine awp_skip ?_
      refine sq ?_
      refine awp_block ?_
      refine sr ?_
      refine aops_index_lst (encTPublished x43) tSl50 wants_none rfl rfl (idx_some hx44).1 (idx_map encTPublished hx44) rfl ?_
      refine aops_iload_agg (cs := (encTPublished x43)) tA137 wants_none rfl rfl rfl rfl ?_
      refine aops_alloc tZ137 rfl rfl wants_none rfl ?_
      refine aops_store (encTPublished x43) [(encTPublished x43)] tS137 wants_none rfl rfl rfl rfl rfl rfl rfl rfl ?_
      refine an ?_
      refine rg ?_
      refine am (V.map 1) rfl rfl ?_
      refine aops_fieldAddr tF137_0 wants_none rfl rfl ?_
      refine aops_load_cell (sV x43.Advisory) tC9 wants_none rfl rfl rfl rfl rfl ?_
      refine aops_mapUpdate ((mput m41 x43.Advisory true).map encM9_4) tMap135 tKey9 wants_none rfl rfl (.con rfl) ⟨_, rfl⟩ encM9_4_good rfl (encM9_4_puts m41 x43.Advisory true) ?_
      refine an ?_
      refine rg ?_
      refine aops_bin (.int .i64 (w64 (n40 + 1))) wants_none rfl rfl rfl rfl ?_
      refine am (iV (w64 (n40 + 1))) rfl rfl ?_
      refine an ?_
      exact awp_back (ih2 ((w64 (n40 + 1)), (mput m41 x43.Advisory true)) (hk2 _ h)) (ghost_ren 2 (fun i => ([0, 1] : List Nat).getD i 0) _ _ (by decide) (EnvSub.get (.cons (Sub.ptr rfl rfl) (.cons (Sub.map rfl rfl) (.cons (Sub.imm (Imm.lst _ _)) (.cons (Sub.imm (Imm.con _)) (.cons (Sub.imm (Imm.con _)) .nil)))))) (HpSub.get (.cons rfl (ObSub.box (.cons (Sub.imm (Imm.con _)) (.cons (Sub.imm (Imm.lst _ _)) (.cons (Sub.imm (Imm.lst _ _)) (.cons (Sub.imm (Imm.con _)) .nil))))) (.cons rfl (ObSub.maps encM9_4_imm) .nil))) rfl)
    replace h := RG.f h hb42
    unfold M36_L2 at h
    refine awp_exit ?_
    exact ⟨m41, h, (ghost_ren 2 (fun i => ([0, 1] : List Nat).getD i 0) _ _ (by decide) (EnvSub.get (.cons (Sub.ptr rfl rfl) (.cons (Sub.map rfl rfl) .nil))) (HpSub.get (.cons rfl (ObSub.box (.cons (Sub.imm (Imm.con _)) (.cons (Sub.imm (Imm.lst _ _)) (.cons (Sub.imm (Imm.lst _ _)) (.cons (Sub.imm (Imm.con _)) .nil))))) (.cons rfl (ObSub.maps encM9_4_imm) .nil))) rfl)⟩
  clear h
  intro m37 h
  subst hk36
  refine sq ?_
  refine sr ?_
  refine aops_fieldAddr tF52_1 wants_none rfl rfl ?_
  refine aops_load_cell (V.lst 3 (a1.Releases.map encTRelease)) tC49 wants_none rfl rfl rfl rfl rfl ?_
  refine aops_len (n := a1.Releases.length) tIsSl49 wants_none rfl (congrArg some (List.length_map ..)) rfl ?_
  refine am (iV 0) rfl rfl ?_
  refine an ?_
  replace h := jn_elim h
  obtain ⟨k46, hk46, h⟩ := h
  refine awp_cut (fun _ : Unit => (⟨[], [], 0⟩ : St)) (fun _ : Unit => k46 = some r) ?_ ?_
  · clear hk46
    refine awp_block ?_
    refine awp_len (A := a1.Releases) 110 rfl (fun hA61 => ?_)
    refine awp_loop_ind (fun (p : Int) => (⟨[(8, (V.map 0)), (110, (V.lst 3 (a1.Releases.map encTRelease))), (111, (iV ((a1.Releases.length : Nat) : Int))), (112, (iV p))], [(0, (Ob.map (m37.map encM9_4)))], 1⟩ : St)) (fun n (p : Int) => RG a1.Releases (fun tl nn => M36_L3 F m37 k46 tl = some r) n p) (fun p h => RG.zero h) (fun n ih3 p h => ?_) (a1.Releases.length + 1) 0 (RG.start h) (ghost_ren 1 (fun i => ([1] : List Nat).getD i 0) _ _ (by decide) (EnvSub.get (.cons (Sub.map rfl rfl) (.cons (Sub.imm (Imm.lst _ _)) (.cons (Sub.imm (Imm.con _)) (.cons (Sub.imm (Imm.con _)) .nil))))) (HpSub.get (.cons rfl (ObSub.maps encM9_4_imm) .nil)) rfl)
    revert p
    intro n48 h
    refine awp_loop ?_
    refine sr ?_
    refine aops_bin (.bool (decide (n48 < ((a1.Releases.length : Nat) : Int)))) wants_none rfl rfl rfl rfl ?_
    refine an ?_
    refine sq ?_
    refine awp_cond (decide (n48 < ((a1.Releases.length : Nat) : Int))) rfl (fun hb49 => ?_) (fun hb49 => ?_)
    · obtain ⟨x51, tl, hx52, h, hk3⟩ := RG.t hA61 h hb49
      unfold M36_L3 at h
      refine awp_skip ?_
      refine sq ?_
      replace h := jn_elim h
      obtain ⟨k50, hk50, h⟩ := h
      refine awp_cut (fun _ : Unit => (⟨[(8, (V.map 0)), (110, (V.lst 3 (a1.Releases.map encTRelease))), (111, (iV ((a1.Releases.length : Nat) : Int))), (112, (iV n48))], [(0, (Ob.map (m37.map encM9_4)))], 1⟩ : St)) (fun _ : Unit => k50 = some r) ?_ ?_
      · clear hk50
        refine awp_block ?_
        refine sr ?_
        refine aops_index_lst (encTRelease x51) tSl49 wants_none rfl rfl (idx_some hx52).1 (idx_map encTRelease hx52) rfl ?_
        refine aops_iload_agg (cs := (encTRelease x51)) tA42 wants_none rfl rfl rfl rfl ?_
        refine aops_alloc tZ42 rfl rfl wants_none rfl ?_
        refine aops_store (encTRelease x51) [(encTRelease x51)] tS42 wants_none rfl rfl rfl rfl rfl rfl rfl rfl ?_
        refine an ?_
        refine sr ?_
        refine aops_fieldAddr tF42_2 wants_none rfl rfl ?_
        refine aops_load_cell (V.lst 3 (x51.Exposures.map encTExposure)) tC40 wants_none rfl rfl rfl rfl rfl ?_
        refine aops_len (n := x51.Exposures.length) tIsSl40 wants_none rfl (congrArg some (List.length_map ..)) rfl ?_
        refine am (iV 0) rfl rfl ?_
        refine an ?_
        replace h := jn_elim h
        obtain ⟨k53, hk53, h⟩ := h
        refine awp_cut (fun _ : Unit => (⟨[(8, (V.map 0)), (110, (V.lst 3 (a1.Releases.map encTRelease))), (111, (iV ((a1.Releases.length : Nat) : Int))), (112, (iV n48))], [(0, (Ob.map (m37.map encM9_4)))], 1⟩ : St)) (fun _ : Unit => k53 = some r) ?_ ?_
        · clear hk53
          refine awp_block ?_
          refine awp_len (A := x51.Exposures) 117 rfl (fun hA60 => ?_)
          refine awp_loop_ind (fun (p : Int) => (⟨[(8, (V.map 0)), (110, (V.lst 3 (a1.Releases.map encTRelease))), (111, (iV ((a1.Releases.length : Nat) : Int))), (112, (iV n48)), (117, (V.lst 3 (x51.Exposures.map encTExposure))), (118, (iV ((x51.Exposures.length : Nat) : Int))), (119, (iV p))], [(0, (Ob.map (m37.map encM9_4)))], 1⟩ : St)) (fun n (p : Int) => RG x51.Exposures (fun tl nn => M36_L4 F m37 k53 tl = some r) n p) (fun p h => RG.zero h) (fun n ih4 p h => ?_) (x51.Exposures.length + 1) 0 (RG.start h) (ghost_ren 1 (fun i => ([0] : List Nat).getD i 0) _ _ (by decide) (EnvSub.get (.cons (Sub.map rfl rfl) (.cons (Sub.imm (Imm.lst _ _)) (.cons (Sub.imm (Imm.con _)) (.cons (Sub.imm (Imm.con _)) (.cons (Sub.imm (Imm.lst _ _)) (.cons (Sub.imm (Imm.con _)) (.cons (Sub.imm (Imm.con _)) .nil)))))))) (HpSub.get (.cons rfl (ObSub.maps encM9_4_imm) .nil)) rfl)
          revert p
          intro n55 h
          refine awp_loop ?_
          refine sr ?_
          refine aops_bin (.bool (decide (n55 < ((x51.Exposures.length : Nat) : Int)))) wants_none rfl rfl rfl rfl ?_
          refine an ?_
          refine sq ?_
          refine awp_cond (decide (n55 < ((x51.Exposures.length : Nat) : Int))) rfl (fun hb56 => ?_) (fun hb56 => ?_)
          · obtain ⟨x57, tl, hx58, h, hk4⟩ := RG.t hA60 h hb56
            unfold M36_L4 at h
            refine awp_skip ?_
            refine sq ?_
            refine awp_block ?_
            refine sr ?_
            refine aops_index_lst (encTExposure x57) tSl40 wants_none rfl rfl (idx_some hx58).1 (idx_map encTExposure hx58) rfl ?_
            refine aops_iload_agg (cs := (encTExposure x57)) tA47 wants_none rfl rfl rfl rfl ?_
            refine aops_alloc tZ47 rfl rfl wants_none rfl ?_
            refine aops_store (encTExposure x57) [(encTExposure x57)] tS47 wants_none rfl rfl rfl rfl rfl rfl rfl rfl ?_
            refine an ?_
            refine sr ?_
            refine am (V.map 0) rfl rfl ?_
            refine aops_fieldAddr tF47_0 wants_none rfl rfl ?_
            refine aops_load_cell (sV x57.Advisory) tC9 wants_none rfl rfl rfl rfl rfl ?_
            refine aops_lookup _ (bV false) (bV ((mget m37 x57.Advisory).getD false)) tMap135 tKey9 tZo4 (irel_con _) wants_none rfl (.own rfl) (.con rfl) ⟨_, rfl⟩ encM9_4_good (encM9_4_look m37 x57.Advisory) (getD_map (encM9_4_val) (mget m37 x57.Advisory) false) rfl ?_
            refine aops_not wants_none rfl rfl ?_
            refine an ?_
            refine awp_cond (!((mget m37 x57.Advisory).getD false)) rfl (fun hb59 => ?_) (fun hb59 => ?_)
            · replace h := ite_t hb59 h
              refine sr ?_
              refine aa (iV 4) rfl rfl ?_
              refine an ?_
              refine awp_ret ?_
              replace h := Option.some.inj h
              subst h
              exact ⟨.inl rfl, .one (.tmp rfl (Imm.con _))⟩
            replace h := ite_f hb59 h
            refine awp_skip ?_
            refine rg ?_
            refine aops_bin (.int .i64 (w64 (n55 + 1))) wants_none rfl rfl rfl rfl ?_
            refine am (iV (w64 (n55 + 1))) rfl rfl ?_
            refine an ?_
            exact awp_back (ih4 (w64 (n55 + 1)) (hk4 _ h)) (ghost_ren 1 (fun i => ([0] : List Nat).getD i 0) _ _ (by decide) (EnvSub.get (.cons (Sub.map rfl rfl) (.cons (Sub.imm (Imm.lst _ _)) (.cons (Sub.imm (Imm.con _)) (.cons (Sub.imm (Imm.con _)) (.cons (Sub.imm (Imm.lst _ _)) (.cons (Sub.imm (Imm.con _)) (.cons (Sub.imm (Imm.con _)) .nil)))))))) (HpSub.get (.cons rfl (ObSub.maps encM9_4_imm) .nil)) rfl)
          replace h := RG.f h hb56
          unfold M36_L4 at h
          refine awp_exit ?_
          exact ⟨(), h, (ghost_ren 1 (fun i => ([0] : List Nat).getD i 0) _ _ (by decide) (EnvSub.get (.cons (Sub.map rfl rfl) (.cons (Sub.imm (Imm.lst _ _)) (.cons (Sub.imm (Imm.con _)) (.cons (Sub.imm (Imm.con _)) .nil))))) (HpSub.get (.cons rfl (ObSub.maps encM9_4_imm) .nil)) rfl)⟩
        clear h
        intro _ h
        subst hk53
        exact ⟨(), h, (ghost_ren 1 (fun i => ([0] : List Nat).getD i 0) _ _ (by decide) (EnvSub.get (.cons (Sub.map rfl rfl) (.cons (Sub.imm (Imm.lst _ _)) (.cons (Sub.imm (Imm.con _)) (.cons (Sub.imm (Imm.con _)) .nil))))) (HpSub.get (.cons rfl (ObSub.maps encM9_4_imm) .nil)) rfl)⟩
      clear h
      intro _ h
      subst hk50
      refine rg ?_
      refine aops_bin (.int .i64 (w64 (n48 + 1))) wants_none rfl rfl rfl rfl ?_
      refine am (iV (w64 (n48 + 1))) rfl rfl ?_
      refine an ?_
      exact awp_back (ih3 (w64 (n48 + 1)) (hk3 _ h)) (ghost_ren 1 (fun i => ([0] : List Nat).getD i 0) _ _ (by decide) (EnvSub.get (.cons (Sub.map rfl rfl) (.cons (Sub.imm (Imm.lst _ _)) (.cons (Sub.imm (Imm.con _)) (.cons (Sub.imm (Imm.con _)) .nil))))) (HpSub.get (.cons rfl (ObSub.maps encM9_4_imm) .nil)) rfl)
    replace h := RG.f h hb49
    unfold M36_L3 at h
    refine awp_exit ?_
    exact ⟨(), h, (ghost_ren 0 (fun i => ([] : List Nat).getD i 0) _ _ (by decide) (EnvSub.get .nil) (HpSub.get .nil) rfl)⟩
  clear h
  intro _ h
  subst hk46
  refine sr ?_
  refine aa (iV 0) rfl rfl ?_
  refine an ?_
  refine awp_ret ?_
  replace h := Option.some.inj h
  subst h
  exact ⟨.inl rfl, .one (.tmp rfl (Imm.con _))⟩
end Go.Proofs.Ytkciogeafbbggaa
