/- Part of the proof: HW11c. -/
import Derived.Test.YtkciogeafbbggaaJHM
import Derived.Test.YtkciogeafbbggaaJHW7a
import Derived.Test.YtkciogeafbbggaaJHW11b
import Derived.Test.YtkciogeafbbggaaJHW7b
import Derived.Test.YtkciogeafbbggaaJHW11a
import Derived.Test.YtkciogeafbbggaaJHW3a
import Derived.KernelRfl
namespace Go.Proofs.Ytkciogeafbbggaa
open Go Go.Pv
set_option linter.unusedVariables false
set_option maxRecDepth 100000
theorem W106 (F : Nat) (a1 : (List TRelease)) (a2 : (List TRelease)) (r : Bool) (h : M106 F a1 a2 = some r) : Pure Try.prog 106 [(V.lst 3 (a1.map encTRelease)), (V.lst 3 (a2.map encTRelease)), (V.fn (.func 37) [] [])] (bV r) := by
  refine pure_enter Try.func106 rfl rfl (l := [.tmp 6]) rfl rfl [(0, (V.lst 3 (a1.map encTRelease))), (1, (V.lst 3 (a2.map encTRelease))), (2, (V.fn (.func 37) [] []))] rfl (fun w0 m0 => ?_)
  unfold M106 at h
  refine sr ?_
  refine aa (bV false) rfl rfl ?_
  refine an ?_
  refine sq ?_
  refine sr ?_
  refine am (V.lst 3 (a1.map encTRelease)) rfl rfl ?_
  refine aops_len (n := a1.length) tIsSl49 wants_none rfl (congrArg some (List.length_map ..)) rfl ?_
  refine am (V.lst 3 (a2.map encTRelease)) rfl rfl ?_
  refine aops_len (n := a2.length) tIsSl49 wants_none rfl (congrArg some (List.length_map ..)) rfl ?_
  refine aops_bin (.bool (((a1.length : Nat) : Int) != ((a2.length : Nat) : Int))) wants_none rfl rfl rfl rfl ?_
  refine an ?_
  refine awp_cond (((a1.length : Nat) : Int) != ((a2.length : Nat) : Int)) rfl (fun hb3 => ?_) (fun hb3 => ?_)
  · replace h := ite_t hb3 h
    refine sr ?_
    refine aa (bV false) rfl rfl ?_
    refine an ?_
    refine awp_ret ?_
    replace h := Option.some.inj h
    subst h
    exact ⟨.inl rfl, .one (.tmp rfl (Imm.con _))⟩
  replace h := ite_f hb3 h
  refine awp_skip ?_
  refine sq ?_
  refine sr ?_
  refine am (V.lst 3 (a1.map encTRelease)) rfl rfl ?_
  refine aops_len (n := a1.length) tIsSl49 wants_none rfl (congrArg some (List.length_map ..)) rfl ?_
  refine am (iV 0) rfl rfl ?_
  refine an ?_
  replace h := jn_elim h
  obtain ⟨k4, hk4, h⟩ := h
  refine awp_cut (fun _ : Unit => (⟨[], [], 0⟩ : St)) (fun _ : Unit => k4 = some r) ?_ ?_
  · clear hk4
    refine awp_block ?_
    refine awp_len (A := a1) 0 rfl (fun hA15 => ?_)
    refine awp_loop_ind (fun (p : Int) => (⟨[(1, (V.lst 3 (a2.map encTRelease))), (2, (V.fn (.func 37) [] [])), (15, (V.lst 3 (a1.map encTRelease))), (16, (iV ((a1.length : Nat) : Int))), (17, (iV p))], [], 0⟩ : St)) (fun n (p : Int) => RG a1 (fun tl nn => M106_L1 F a2 k4 tl nn = some r) n p) (fun p h => RG.zero h) (fun n ih1 p h => ?_) (a1.length + 1) 0 (RG.start h) (ghost_ren 0 (fun i => ([] : List Nat).getD i 0) _ _ (by decide) (EnvSub.get (.cons (Sub.imm (Imm.lst _ _)) (.cons (Sub.imm (Imm.fn .nil .nil)) (.cons (Sub.imm (Imm.lst _ _)) (.cons (Sub.imm (Imm.con _)) (.cons (Sub.imm (Imm.con _)) .nil)))))) (HpSub.get .nil) rfl)
    revert p
    intro n6 h
    refine awp_loop ?_
    refine sr ?_
    refine aops_bin (.bool (decide (n6 < ((a1.length : Nat) : Int)))) wants_none rfl rfl rfl rfl ?_
    refine an ?_
    refine sq ?_
    refine awp_cond (decide (n6 < ((a1.length : Nat) : Int))) rfl (fun hb7 => ?_) (fun hb7 => ?_)
    · obtain ⟨x8, tl, hx9, h, hk1⟩ := RG.t hA15 h hb7
      unfold M106_L1 at h
      refine awp_skip ?_
      refine sq ?_
      refine awp_block ?_
      refine sr ?_
      refine am (iV n6) rfl rfl ?_
      refine aops_index_lst (encTRelease x8) tSl49 wants_none rfl rfl (idx_some hx9).1 (idx_map encTRelease hx9) rfl ?_
      refine aops_iload_agg (cs := (encTRelease x8)) tA42 wants_none rfl rfl rfl rfl ?_
      refine aops_alloc tZ42 rfl rfl wants_none rfl ?_
      refine aa (iV n6) rfl rfl ?_
      refine aops_store (encTRelease x8) [(encTRelease x8)] tS42 wants_none rfl rfl rfl rfl rfl rfl rfl rfl ?_
      refine an ?_
      refine sr ?_
      refine am (V.lst 3 (a2.map encTRelease)) rfl rfl ?_
      refine am (iV n6) rfl rfl ?_
      replace h := bind_some h
      obtain ⟨x10, hx11, h⟩ := h
      refine aops_index_lst (encTRelease x10) tSl49 wants_none rfl rfl (idx_some hx11).1 (idx_map encTRelease hx11) rfl ?_
      refine aops_iload_agg (cs := (encTRelease x10)) tA42 wants_none rfl rfl rfl rfl ?_
      refine aops_alloc tZ42 rfl rfl wants_none rfl ?_
      refine aops_store (encTRelease x10) [(encTRelease x10)] tS42 wants_none rfl rfl rfl rfl rfl rfl rfl rfl ?_
      refine an ?_
      refine sr ?_
      refine am (V.fn (.func 37) [] []) rfl rfl ?_
      refine aops_load_agg (cs := (encTRelease x8)) tA42 wants_none rfl rfl rfl rfl rfl rfl ?_
      refine aops_load_agg (cs := (encTRelease x10)) tA42 wants_none rfl rfl rfl rfl rfl rfl ?_
      replace h := bind_some h
      obtain ⟨y12, hx13, h⟩ := h
      refine aops_callv (bV y12) [(V.agg (encTRelease x8)), (V.agg (encTRelease x10))] fOk37 wants_none rfl rfl (.cons (Imm.agg (imms_encTRelease _)) (.cons (Imm.agg (imms_encTRelease _)) .nil)) (W37 F x8 x10 y12 hx13) rfl ?_
      refine aops_not wants_none rfl rfl ?_
      refine an ?_
      refine awp_cond (!y12) rfl (fun hb14 => ?_) (fun hb14 => ?_)
      · replace h := ite_t hb14 h
        refine sr ?_
        refine aa (bV false) rfl rfl ?_
        refine an ?_
        refine awp_ret ?_
        replace h := Option.some.inj h
        subst h
        exact ⟨.inl rfl, .one (.tmp rfl (Imm.con _))⟩
      replace h := ite_f hb14 h
      refine awp_skip ?_
      refine rg ?_
      refine aops_bin (.int .i64 (w64 (n6 + 1))) wants_none rfl rfl rfl rfl ?_
      refine am (iV (w64 (n6 + 1))) rfl rfl ?_
      refine an ?_
      exact awp_back (ih1 (w64 (n6 + 1)) (hk1 _ h)) (ghost_ren 0 (fun i => ([] : List Nat).getD i 0) _ _ (by decide) (EnvSub.get (.cons (Sub.imm (Imm.lst _ _)) (.cons (Sub.imm (Imm.fn .nil .nil)) (.cons (Sub.imm (Imm.lst _ _)) (.cons (Sub.imm (Imm.con _)) (.cons (Sub.imm (Imm.con _)) .nil)))))) (HpSub.get .nil) rfl)
    replace h := RG.f h hb7
    unfold M106_L1 at h
    refine awp_exit ?_
    exact ⟨(), h, (ghost_ren 0 (fun i => ([] : List Nat).getD i 0) _ _ (by decide) (EnvSub.get .nil) (HpSub.get .nil) rfl)⟩
  clear h
  intro _ h
  subst hk4
  refine sr ?_
  refine aa (bV true) rfl rfl ?_
  refine an ?_
  refine awp_ret ?_
  replace h := Option.some.inj h
  subst h
  exact ⟨.inl rfl, .one (.tmp rfl (Imm.con _))⟩
theorem W107 (F : Nat) (a1 : (List TPublished)) (a2 : (List TPublished)) (r : Bool) (h : M107 F a1 a2 = some r) : Pure Try.prog 107 [(V.lst 3 (a1.map encTPublished)), (V.lst 3 (a2.map encTPublished))] (bV r) := by
  refine pure_enter Try.func107 rfl rfl (l := [.tmp 4]) rfl rfl [(0, (V.lst 3 (a1.map encTPublished))), (1, (V.lst 3 (a2.map encTPublished)))] rfl (fun w0 m0 => ?_)
  unfold M107 at h
  refine sr ?_
  refine aa (bV false) rfl rfl ?_
  refine an ?_
  refine sq ?_
  refine sr ?_
  refine am (V.lst 3 (a1.map encTPublished)) rfl rfl ?_
  refine aops_len (n := a1.length) tIsSl50 wants_none rfl (congrArg some (List.length_map ..)) rfl ?_
  refine am (V.lst 3 (a2.map encTPublished)) rfl rfl ?_
  refine aops_len (n := a2.length) tIsSl50 wants_none rfl (congrArg some (List.length_map ..)) rfl ?_
  refine aops_bin (.bool (((a1.length : Nat) : Int) != ((a2.length : Nat) : Int))) wants_none rfl rfl rfl rfl ?_
  refine an ?_
  refine awp_cond (((a1.length : Nat) : Int) != ((a2.length : Nat) : Int)) rfl (fun hb3 => ?_) (fun hb3 => ?_)
  · replace h := ite_t hb3 h
    refine sr ?_
    refine aa (bV false) rfl rfl ?_
    refine an ?_
    refine awp_ret ?_
    replace h := Option.some.inj h
    subst h
    exact ⟨.inl rfl, .one (.tmp rfl (Imm.con _))⟩
  replace h := ite_f hb3 h
  refine awp_skip ?_
  refine sq ?_
  refine sr ?_
  refine am (V.lst 3 (a1.map encTPublished)) rfl rfl ?_
  refine aops_len (n := a1.length) tIsSl50 wants_none rfl (congrArg some (List.length_map ..)) rfl ?_
  refine am (iV 0) rfl rfl ?_
  refine an ?_
  replace h := jn_elim h
  obtain ⟨k4, hk4, h⟩ := h
  refine awp_cut (fun _ : Unit => (⟨[], [], 0⟩ : St)) (fun _ : Unit => k4 = some r) ?_ ?_
  · clear hk4
    refine awp_block ?_
    refine awp_len (A := a1) 0 rfl (fun hA13 => ?_)
    refine awp_loop_ind (fun (p : Int) => (⟨[(0, (V.lst 3 (a1.map encTPublished))), (1, (V.lst 3 (a2.map encTPublished))), (12, (iV ((a1.length : Nat) : Int))), (13, (iV p))], [], 0⟩ : St)) (fun n (p : Int) => RG a1 (fun tl nn => M107_L1 F a2 k4 tl nn = some r) n p) (fun p h => RG.zero h) (fun n ih1 p h => ?_) (a1.length + 1) 0 (RG.start h) (ghost_ren 0 (fun i => ([] : List Nat).getD i 0) _ _ (by decide) (EnvSub.get (.cons (Sub.imm (Imm.lst _ _)) (.cons (Sub.imm (Imm.lst _ _)) (.cons (Sub.imm (Imm.con _)) (.cons (Sub.imm (Imm.con _)) .nil))))) (HpSub.get .nil) rfl)
    revert p
    intro n6 h
    refine awp_loop ?_
    refine sr ?_
    refine aops_bin (.bool (decide (n6 < ((a1.length : Nat) : Int)))) wants_none rfl rfl rfl rfl ?_
    refine an ?_
    refine sq ?_
    refine awp_cond (decide (n6 < ((a1.length : Nat) : Int))) rfl (fun hb7 => ?_) (fun hb7 => ?_)
    · obtain ⟨x8, tl, hx9, h, hk1⟩ := RG.t hA13 h hb7
      unfold M107_L1 at h
      refine awp_skip ?_
      refine sq ?_
      refine awp_block ?_
      refine sr ?_
      refine am (iV n6) rfl rfl ?_
      refine aa (iV n6) rfl rfl ?_
      refine an ?_
      refine sq ?_
      replace h := bind_some h
      obtain ⟨x10, hx11, h⟩ := h
      refine awp_any [OD.mk [(0, (V.lst 3 (a1.map encTPublished)))] [] [(16, (V.lst 3 (a1.map encTPublished)))] [],
            OD.mk [(5, (iV n6))] [] [(17, (iV n6))] [],
            OD.mk [(16, (V.lst 3 (a1.map encTPublished))), (17, (iV n6))] [] [(18, (V.iptr (encTPublished x8) 0))] [],
            OD.mk [(18, (V.iptr (encTPublished x8) 0))] [] [(19, (V.agg (encTPublished x8)))] [],
            OD.mk [(1, (V.lst 3 (a2.map encTPublished)))] [] [(20, (V.lst 3 (a2.map encTPublished)))] [],
            OD.mk [(5, (iV n6))] [] [(21, (iV n6))] [],
            OD.mk [(20, (V.lst 3 (a2.map encTPublished))), (21, (iV n6))] [] [(22, (V.iptr (encTPublished x10) 0))] [],
            OD.mk [(22, (V.iptr (encTPublished x10) 0))] [] [(23, (V.agg (encTPublished x10)))] [],
            OD.mk [(19, (V.agg (encTPublished x8))), (23, (V.agg (encTPublished x10)))] [] [(24, (bV (!(decide (x8 = x10)))))] []] mixed ⟨⟨rfl, trivial⟩, trivial, ⟨⟨rfl, trivial⟩, trivial, ⟨⟨rfl, rfl, trivial⟩, trivial, ⟨⟨rfl, trivial⟩, trivial, ⟨⟨rfl, trivial⟩, trivial, ⟨⟨rfl, trivial⟩, trivial, ⟨⟨rfl, rfl, trivial⟩, trivial, ⟨⟨rfl, trivial⟩, trivial, ⟨⟨rfl, rfl, trivial⟩, trivial, trivial⟩⟩⟩⟩⟩⟩⟩⟩⟩ (by kernel_rfl) (.cons (fun S hn h hh => aops_move (V.lst 3 (a1.map encTPublished)) wants_none h.1 rfl (an ⟨rfl, rfl⟩)) (.cons (fun S hn h hh => aops_move (iV n6) wants_none h.1 rfl (an ⟨rfl, rfl⟩)) (.cons (fun S hn h hh => aops_index_lst (encTPublished x8) tSl50 wants_none h.1 h.2.1 (idx_some hx9).1 (idx_map encTPublished hx9) rfl (an ⟨rfl, rfl⟩)) (.cons (fun S hn h hh => aops_iload_agg (cs := (encTPublished x8)) tA137 wants_none h.1 rfl rfl rfl (an ⟨rfl, rfl⟩)) (.cons (fun S hn h hh => aops_move (V.lst 3 (a2.map encTPublished)) wants_none h.1 rfl (an ⟨rfl, rfl⟩)) (.cons (fun S hn h hh => aops_move (iV n6) wants_none h.1 rfl (an ⟨rfl, rfl⟩)) (.cons (fun S hn h hh => aops_index_lst (encTPublished x10) tSl50 wants_none h.1 h.2.1 (idx_some hx11).1 (idx_map encTPublished hx11) rfl (an ⟨rfl, rfl⟩)) (.cons (fun S hn h hh => aops_iload_agg (cs := (encTPublished x10)) tA137 wants_none h.1 rfl rfl rfl (an ⟨rfl, rfl⟩)) (.cons (fun S hn h hh => aops_eqS true (xs := cv137 x8) (ys := cv137 x10) (b := (decide (x8 = x10))) eqk137 ⟨_, rfl⟩ ⟨_, rfl⟩ (eq_b cv137 _ _ (inj_cv137 _ _)) tEqG137 wants_none h.1 h.2.1 rfl (an ⟨rfl, rfl⟩)) .nil))))))))) ?_
      refine awp_cond (!(decide (x8 = x10))) rfl (fun hb12 => ?_) (fun hb12 => ?_)
      · replace h := ite_t hb12 h
        refine sr ?_
        refine aa (bV false) rfl rfl ?_
        refine an ?_
        refine awp_ret ?_
        replace h := Option.some.inj h
        subst h
        exact ⟨.inl rfl, .one (.tmp rfl (Imm.con _))⟩
      replace h := ite_f hb12 h
      refine awp_skip ?_
      refine rg ?_
      refine aops_bin (.int .i64 (w64 (n6 + 1))) wants_none rfl rfl rfl rfl ?_
      refine am (iV (w64 (n6 + 1))) rfl rfl ?_
      refine an ?_
      exact awp_back (ih1 (w64 (n6 + 1)) (hk1 _ h)) (ghost_ren 0 (fun i => ([] : List Nat).getD i 0) _ _ (by decide) (EnvSub.get (.cons (Sub.imm (Imm.lst _ _)) (.cons (Sub.imm (Imm.lst _ _)) (.cons (Sub.imm (Imm.con _)) (.cons (Sub.imm (Imm.con _)) .nil))))) (HpSub.get .nil) rfl)
    replace h := RG.f h hb7
    unfold M107_L1 at h
    refine awp_exit ?_
    exact ⟨(), h, (ghost_ren 0 (fun i => ([] : List Nat).getD i 0) _ _ (by decide) (EnvSub.get .nil) (HpSub.get .nil) rfl)⟩
  clear h
  intro _ h
  subst hk4
  refine sr ?_
  refine aa (bV true) rfl rfl ?_
  refine an ?_
  refine awp_ret ?_
  replace h := Option.some.inj h
  subst h
  exact ⟨.inl rfl, .one (.tmp rfl (Imm.con _))⟩
theorem W49 (F : Nat) (a1 : TStory) (a2 : TStory) (r : Bool) (h : M49 F a1 a2 = some r) : Pure Try.prog 49 [(V.agg (encTStory a1)), (V.agg (encTStory a2))] (bV r) := by
  refine pure_enter Try.func49 rfl rfl (l := [.tmp 4]) rfl rfl [(0, (V.agg (encTStory a1))), (1, (V.agg (encTStory a2)))] rfl (fun w0 m0 => ?_)
  unfold M49 at h
  refine sr ?_
  refine aops_box (encTStory a1) wants_none rfl rfl rfl rfl ?_
  refine aops_box (encTStory a2) wants_none rfl rfl rfl rfl ?_
  refine aa (bV false) rfl rfl ?_
  refine an ?_
  refine sr ?_
  refine aops_fieldAddr tF52_0 wants_none rfl rfl ?_
  refine aops_load_cell (sV a1.Product) tC9 wants_none rfl rfl rfl rfl rfl ?_
  refine aops_fieldAddr tF52_0 wants_none rfl rfl ?_
  refine aops_load_cell (sV a2.Product) tC9 wants_none rfl rfl rfl rfl rfl ?_
  refine aops_binT (.bool (a1.Product == a2.Product)) wants_none rfl rfl rfl rfl ?_
  refine am (bV (a1.Product == a2.Product)) rfl rfl ?_
  refine bsp (a1.Product == a2.Product) (fun hb3 => ?_) (fun hb3 => ?_)
  · replace h := ite_t hb3 h
    refine aops_fieldAddr tF52_3 (wants_some (c := (a1.Product == a2.Product)) (b := true) 10 rfl rfl hb3) rfl rfl ?_
    refine aops_load_cell (iV a1.Until) tC3 (wants_some (c := (a1.Product == a2.Product)) (b := true) 10 rfl rfl hb3) rfl rfl rfl rfl rfl ?_
    refine aops_fieldAddr tF52_3 (wants_some (c := (a1.Product == a2.Product)) (b := true) 10 rfl rfl hb3) rfl rfl ?_
    refine aops_load_cell (iV a2.Until) tC3 (wants_some (c := (a1.Product == a2.Product)) (b := true) 10 rfl rfl hb3) rfl rfl rfl rfl rfl ?_
    refine aops_bin (.bool (a1.Until == a2.Until)) (wants_some (c := (a1.Product == a2.Product)) (b := true) 10 rfl rfl hb3) rfl rfl rfl rfl ?_
    refine aops_pick true (cb := (a1.Product == a2.Product)) (bV (a1.Until == a2.Until)) wants_none rfl hb3 rfl rfl ?_
    refine am (bV (a1.Until == a2.Until)) rfl rfl ?_
    refine bsp (a1.Until == a2.Until) (fun hb4 => ?_) (fun hb4 => ?_)
    · replace h := ite_t hb4 h
      refine aops_fieldAddr tF52_1 (wants_some (c := (a1.Until == a2.Until)) (b := true) 17 rfl rfl hb4) rfl rfl ?_
      refine aops_load_cell (V.lst 3 (a1.Releases.map encTRelease)) tC49 (wants_some (c := (a1.Until == a2.Until)) (b := true) 17 rfl rfl hb4) rfl rfl rfl rfl rfl ?_
      refine aops_fieldAddr tF52_1 (wants_some (c := (a1.Until == a2.Until)) (b := true) 17 rfl rfl hb4) rfl rfl ?_
      refine aops_load_cell (V.lst 3 (a2.Releases.map encTRelease)) tC49 (wants_some (c := (a1.Until == a2.Until)) (b := true) 17 rfl rfl hb4) rfl rfl rfl rfl rfl ?_
      replace h := bind_some h
      obtain ⟨y5, hx6, h⟩ := h
      refine aops_call (bV y5) [(V.lst 3 (a1.Releases.map encTRelease)), (V.lst 3 (a2.Releases.map encTRelease)), (V.fn (.func 37) [] [])] fOk106 (wants_some (c := (a1.Until == a2.Until)) (b := true) 17 rfl rfl hb4) (evm_cons rfl (evm_cons rfl (evm_cons rfl evm_nil))) (.cons (Imm.lst _ _) (.cons (Imm.lst _ _) (.cons (Imm.fn .nil .nil) .nil))) (W106 F a1.Releases a2.Releases y5 hx6) rfl ?_
      refine aops_pick true (cb := (a1.Until == a2.Until)) (bV y5) wants_none rfl hb4 rfl rfl ?_
      refine am (bV y5) rfl rfl ?_
      refine bsp y5 (fun hb7 => ?_) (fun hb7 => ?_)
      · replace h := ite_t hb7 h
        refine aops_fieldAddr tF52_2 (wants_some (c := y5) (b := true) 24 rfl rfl hb7) rfl rfl ?_
        refine aops_load_cell (V.lst 3 (a1.Known.map encTPublished)) tC50 (wants_some (c := y5) (b := true) 24 rfl rfl hb7) rfl rfl rfl rfl rfl ?_
        refine aops_fieldAddr tF52_2 (wants_some (c := y5) (b := true) 24 rfl rfl hb7) rfl rfl ?_
        refine aops_load_cell (V.lst 3 (a2.Known.map encTPublished)) tC50 (wants_some (c := y5) (b := true) 24 rfl rfl hb7) rfl rfl rfl rfl rfl ?_
        replace h := bind_some h
        obtain ⟨y8, hx9, h⟩ := h
        refine aops_call (bV y8) [(V.lst 3 (a1.Known.map encTPublished)), (V.lst 3 (a2.Known.map encTPublished))] fOk107 (wants_some (c := y5) (b := true) 24 rfl rfl hb7) (evm_cons rfl (evm_cons rfl evm_nil)) (.cons (Imm.lst _ _) (.cons (Imm.lst _ _) .nil)) (W107 F a1.Known a2.Known y8 hx9) rfl ?_
        refine aops_pick true (cb := y5) (bV y8) wants_none rfl hb7 rfl rfl ?_
        refine aa (bV y8) rfl rfl ?_
        refine an ?_
        refine awp_ret ?_
        replace h := Option.some.inj h
        subst h
        exact ⟨.inl rfl, .one (.tmp rfl (Imm.con _))⟩
      replace h := ite_f hb7 h
      refine aops_skips 5 19 24 true (c := y5) (b := false) rfl rfl hb7 rfl rfl ?_
      refine aops_pick false (cb := y5) (bV false) wants_none rfl hb7 rfl rfl ?_
      refine aa (bV false) rfl rfl ?_
      refine an ?_
      refine awp_ret ?_
      replace h := Option.some.inj h
      subst h
      exact ⟨.inl rfl, .one (.tmp rfl (Imm.con _))⟩
    replace h := ite_f hb4 h
    refine aops_skips 5 12 17 true (c := (a1.Until == a2.Until)) (b := false) rfl rfl hb4 rfl rfl ?_
    refine aops_pick false (cb := (a1.Until == a2.Until)) (bV false) wants_none rfl hb4 rfl rfl ?_
    refine am (bV false) rfl rfl ?_
    refine aops_skips 5 19 24 true (c := false) (b := false) rfl rfl rfl rfl rfl ?_
    refine aops_pick false (cb := false) (bV false) wants_none rfl rfl rfl rfl ?_
    refine aa (bV false) rfl rfl ?_
    refine an ?_
    refine awp_ret ?_
    replace h := Option.some.inj h
    subst h
    exact ⟨.inl rfl, .one (.tmp rfl (Imm.con _))⟩
  replace h := ite_f hb3 h
  refine aops_skips 5 5 10 true (c := (a1.Product == a2.Product)) (b := false) rfl rfl hb3 rfl rfl ?_
  refine aops_pick false (cb := (a1.Product == a2.Product)) (bV false) wants_none rfl hb3 rfl rfl ?_
  refine am (bV false) rfl rfl ?_
  refine aops_skips 5 12 17 true (c := false) (b := false) rfl rfl rfl rfl rfl ?_
  refine aops_pick false (cb := false) (bV false) wants_none rfl rfl rfl rfl ?_
  refine am (bV false) rfl rfl ?_
  refine aops_skips 5 19 24 true (c := false) (b := false) rfl rfl rfl rfl rfl ?_
  refine aops_pick false (cb := false) (bV false) wants_none rfl rfl rfl rfl ?_
  refine aa (bV false) rfl rfl ?_
  refine an ?_
  refine awp_ret ?_
  replace h := Option.some.inj h
  subst h
  exact ⟨.inl rfl, .one (.tmp rfl (Imm.con _))⟩
end Go.Proofs.Ytkciogeafbbggaa
