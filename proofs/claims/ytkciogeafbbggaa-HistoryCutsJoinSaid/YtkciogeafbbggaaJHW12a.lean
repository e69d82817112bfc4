/- Part of the proof: HW12a. -/
import Derived.Test.YtkciogeafbbggaaJHM
import Derived.Test.YtkciogeafbbggaaJHW11a
import Derived.Test.YtkciogeafbbggaaJHW3a
import Derived.Test.YtkciogeafbbggaaJHW11b
import Derived.Test.YtkciogeafbbggaaJHW11c
import Derived.KernelRfl
namespace Go.Proofs.Ytkciogeafbbggaa
open Go Go.Pv
set_option linter.unusedVariables false
set_option maxRecDepth 100000
theorem W12 (F : Nat) (a1 : TStory) (a2 : Int) (r : Bool) (h : M12 F a1 a2 = some r) : Pure Try.prog 12 [(V.agg (encTStory a1)), (iV a2)] (bV r) := by
  refine pure_enter Try.func12 rfl rfl (l := [.tmp 4]) rfl rfl [(0, (V.agg (encTStory a1))), (1, (iV a2))] rfl (fun w0 m0 => ?_)
  unfold M12 at h
  refine sr ?_
  refine aops_box (encTStory a1) wants_none rfl rfl rfl rfl ?_
  refine aa (bV false) rfl rfl ?_
  refine an ?_
  refine sr ?_
  refine aops_load_agg (cs := (encTStory a1)) tA52 wants_none rfl rfl rfl rfl rfl rfl ?_
  refine am (iV a2) rfl rfl ?_
  replace h := bind_some h
  obtain ⟨y3, hx4, h⟩ := h
  refine aops_call (V.tup [(V.agg (encTStory (y3.1))), (iV (y3.2))]) [(V.agg (encTStory a1)), (iV a2)] fOk45 wants_none (evm_cons rfl (evm_cons rfl evm_nil)) (.cons (Imm.agg (imms_encTStory _)) (.cons (Imm.con _) .nil)) (W45 F a1 a2 y3 hx4) rfl ?_
  refine am (V.tup [(V.agg (encTStory (y3.1))), (iV (y3.2))]) rfl rfl ?_
  refine aops_extract (V.agg (encTStory (y3.1))) wants_none rfl rfl rfl ?_
  refine aops_extract (iV (y3.2)) wants_none rfl rfl rfl ?_
  refine aops_alloc tZ52 rfl rfl wants_none rfl ?_
  refine aops_store (encTStory (y3.1)) [(encTStory (y3.1))] tS52 wants_none rfl rfl rfl rfl rfl rfl rfl rfl ?_
  refine aa (iV (y3.2)) rfl rfl ?_
  refine an ?_
  refine sq ?_
  refine sr ?_
  refine am (iV (y3.2)) rfl rfl ?_
  refine aops_bin (.bool ((y3.2) != 0)) wants_none rfl rfl rfl rfl ?_
  refine an ?_
  refine awp_cond ((y3.2) != 0) rfl (fun hb5 => ?_) (fun hb5 => ?_)
  · replace h := ite_t hb5 h
    refine sr ?_
    refine aops_load_agg (cs := (encTStory a1)) tA52 wants_none rfl rfl rfl rfl rfl rfl ?_
    refine am (iV a2) rfl rfl ?_
    replace h := bind_some h
    obtain ⟨y6, hx7, h⟩ := h
    refine aops_call (V.tup [(V.agg (encTStory (y6.1))), (iV (y6.2))]) [(V.agg (encTStory a1)), (iV a2)] fOk46 wants_none (evm_cons rfl (evm_cons rfl evm_nil)) (.cons (Imm.agg (imms_encTStory _)) (.cons (Imm.con _) .nil)) (W46 F a1 a2 y6 hx7) rfl ?_
    refine am (V.tup [(V.agg (encTStory (y6.1))), (iV (y6.2))]) rfl rfl ?_
    refine aops_extract (V.agg (encTStory (y6.1))) wants_none rfl rfl rfl ?_
    refine aops_extract (iV (y6.2)) wants_none rfl rfl rfl ?_
    refine aops_alloc tZ52 rfl rfl wants_none rfl ?_
    refine aops_store (encTStory (y6.1)) [(encTStory (y6.1))] tS52 wants_none rfl rfl rfl rfl rfl rfl rfl rfl ?_
    refine aa (iV (y6.2)) rfl rfl ?_
    refine an ?_
    refine sr ?_
    refine am (iV (y3.2)) rfl rfl ?_
    refine am (iV (y6.2)) rfl rfl ?_
    refine aops_bin (.bool ((y3.2) == (y6.2))) wants_none rfl rfl rfl rfl ?_
    refine am (bV ((y3.2) == (y6.2))) rfl rfl ?_
    refine bsp ((y3.2) == (y6.2)) (fun hb8 => ?_) (fun hb8 => ?_)
    · replace h := ite_t hb8 h
      replace h := bind_some h
      obtain ⟨y9, hx10, h⟩ := h
      refine aops_call (bV y9) [] fOk23 (wants_some (c := ((y3.2) == (y6.2))) (b := true) 31 rfl rfl hb8) evm_nil .nil (W23 F  y9 hx10) rfl ?_
      refine aops_pick true (cb := ((y3.2) == (y6.2))) (bV y9) wants_none rfl hb8 rfl rfl ?_
      refine aa (bV y9) rfl rfl ?_
      refine an ?_
      refine awp_ret ?_
      replace h := Option.some.inj h
      subst h
      exact ⟨.inl rfl, .one (.tmp rfl (Imm.con _))⟩
    replace h := ite_f hb8 h
    refine aops_skip (wants_some (c := ((y3.2) == (y6.2))) (b := false) 31 rfl rfl hb8) rfl rfl ?_
    refine aops_pick false (cb := ((y3.2) == (y6.2))) (bV false) wants_none rfl hb8 rfl rfl ?_
    refine aa (bV false) rfl rfl ?_
    refine an ?_
    refine awp_ret ?_
    replace h := Option.some.inj h
    subst h
    exact ⟨.inl rfl, .one (.tmp rfl (Imm.con _))⟩
  replace h := ite_f hb5 h
  refine awp_skip ?_
  refine sr ?_
  refine aops_load_agg (cs := (encTStory a1)) tA52 wants_none rfl rfl rfl rfl rfl rfl ?_
  refine aops_alloc tZ52 rfl rfl wants_none rfl ?_
  refine aops_store (encTStory a1) [(encTStory a1)] tS52 wants_none rfl rfl rfl rfl rfl rfl rfl rfl ?_
  refine an ?_
  refine sr ?_
  refine aops_fieldAddr tF52_1 wants_none rfl rfl ?_
  refine aops_store [nV] [[(sV a1.Product), nV, (V.lst 3 (a1.Known.map encTPublished)), (iV a1.Until)]] tS49 wants_none rfl rfl rfl rfl rfl rfl rfl rfl ?_
  refine an ?_
  refine sq ?_
  refine sr ?_
  refine aops_fieldAddr tF52_1 wants_none rfl rfl ?_
  refine aops_load_cell (V.lst 3 (a1.Releases.map encTRelease)) tC49 wants_none rfl rfl rfl rfl rfl ?_
  refine aops_len (n := a1.Releases.length) tIsSl49 wants_none rfl (congrArg some (List.length_map ..)) rfl ?_
  refine am (iV 0) rfl rfl ?_
  refine an ?_
  replace h := jn_elim h
  obtain ⟨k11, hk11, h⟩ := h
  refine awp_cut (fun (p : (List TRelease)) => (⟨[(2, (V.ptr 0 4 0 0)), (5, (V.ptr 1 4 0 0)), (9, (V.ptr 2 4 0 0))], [(0, (Ob.arr 52 4 [(encTStory a1)])), (1, (Ob.arr 52 4 [(encTStory (y3.1))])), (2, (Ob.arr 52 4 [[(sV a1.Product), (V.own 3 p.length), (V.lst 3 (a1.Known.map encTPublished)), (iV a1.Until)]])), (3, (Ob.arr 42 3 (p.map encTRelease)))], 4⟩ : St)) (fun (p : (List TRelease)) => k11 p = some r) ?_ ?_
  · clear hk11
    refine awp_block ?_
    refine awp_len (A := a1.Releases) 37 rfl (fun hA24 => ?_)
    refine awp_loop_ind (fun (p : Int × (List TRelease)) => (⟨[(1, (iV a2)), (2, (V.ptr 0 4 0 0)), (5, (V.ptr 1 4 0 0)), (9, (V.ptr 2 4 0 0)), (37, (V.lst 3 (a1.Releases.map encTRelease))), (38, (iV ((a1.Releases.length : Nat) : Int))), (39, (iV (p.1)))], [(0, (Ob.arr 52 4 [(encTStory a1)])), (1, (Ob.arr 52 4 [(encTStory (y3.1))])), (2, (Ob.arr 52 4 [[(sV a1.Product), (V.own 3 (p.2).length), (V.lst 3 (a1.Known.map encTPublished)), (iV a1.Until)]])), (3, (Ob.arr 42 3 ((p.2).map encTRelease)))], 4⟩ : St)) (fun n (p : Int × (List TRelease)) => RG a1.Releases (fun tl nn => M12_L1 F a2 k11 tl p.2 = some r) n p.1) (fun p h => RG.zero h) (fun n ih1 p h => ?_) (a1.Releases.length + 1) (0, ([] : List TRelease)) (RG.start h) (Ghost.trans (ghost_nilC 2 42 3 (Ob.arr 52 4 [[(sV a1.Product), (V.own 3 0), (V.lst 3 (a1.Known.map encTPublished)), (iV a1.Until)]]) (ObSub.box (.cons Sub.keepNil (.cons Sub.mkNil (.cons Sub.keepNil (.cons Sub.keepNil .nil)))))) (ghost_ren 4 (fun i => ([0, 1, 2, 3] : List Nat).getD i 0) _ _ (by decide) (EnvSub.get (.cons (Sub.imm (Imm.con _)) (.cons (Sub.ptr rfl rfl) (.cons (Sub.ptr rfl rfl) (.cons (Sub.ptr rfl rfl) (.cons (Sub.imm (Imm.lst _ _)) (.cons (Sub.imm (Imm.con _)) (.cons (Sub.imm (Imm.con _)) .nil)))))))) (HpSub.get (.cons rfl (ObSub.box (.cons (Sub.imm (Imm.con _)) (.cons (Sub.imm (Imm.lst _ _)) (.cons (Sub.imm (Imm.lst _ _)) (.cons (Sub.imm (Imm.con _)) .nil))))) (.cons rfl (ObSub.box (.cons (Sub.imm (Imm.con _)) (.cons (Sub.imm (Imm.lst _ _)) (.cons (Sub.imm (Imm.lst _ _)) (.cons (Sub.imm (Imm.con _)) .nil))))) (.cons rfl (ObSub.box (.cons (Sub.imm (Imm.con _)) (.cons (Sub.ownE rfl rfl (by simp)) (.cons (Sub.imm (Imm.lst _ _)) (.cons (Sub.imm (Imm.con _)) .nil))))) (.cons rfl (ObSub.rows (rows_imm imms_encTRelease)) .nil))))) rfl))
    obtain ⟨n15, l16⟩ := p
    refine awp_loop ?_
    refine sr ?_
    refine aops_bin (.bool (decide (n15 < ((a1.Releases.length : Nat) : Int)))) wants_none rfl rfl rfl rfl ?_
    refine an ?_
    refine sq ?_
    refine awp_cond (decide (n15 < ((a1.Releases.length : Nat) : Int))) rfl (fun hb17 => ?_) (fun hb17 => ?_)
    · obtain ⟨x18, tl, hx19, h, hk1⟩ := RG.t hA24 h hb17
      unfold M12_L1 at h
      refine awp_skip ?_
      refine sq ?_
      refine awp_block ?_
      refine sr ?_
      refine aops_index_lst (encTRelease x18) tSl49 wants_none rfl rfl (idx_some hx19).1 (idx_map encTRelease hx19) rfl ?_
      refine aops_iload_agg (cs := (encTRelease x18)) tA42 wants_none rfl rfl rfl rfl ?_
      refine aops_alloc tZ42 rfl rfl wants_none rfl ?_
      refine aops_store (encTRelease x18) [(encTRelease x18)] tS42 wants_none rfl rfl rfl rfl rfl rfl rfl rfl ?_
      refine an ?_
      refine sr ?_
      refine aops_fieldAddr tF42_1 wants_none rfl rfl ?_
      refine aops_load_cell (iV x18.Day) tC3 wants_none rfl rfl rfl rfl rfl ?_
      refine am (iV a2) rfl rfl ?_
      refine aops_bin (.bool (decide (x18.Day ≥ a2))) wants_none rfl rfl rfl rfl ?_
      refine an ?_
      replace h := jn_elim h
      obtain ⟨k20, hk20, h⟩ := h
      refine awp_cut (fun (p : (List TRelease)) => (⟨[(1, (iV a2)), (2, (V.ptr 0 4 0 0)), (5, (V.ptr 1 4 0 0)), (9, (V.ptr 2 4 0 0)), (37, (V.lst 3 (a1.Releases.map encTRelease))), (38, (iV ((a1.Releases.length : Nat) : Int))), (39, (iV n15))], [(0, (Ob.arr 52 4 [(encTStory a1)])), (1, (Ob.arr 52 4 [(encTStory (y3.1))])), (2, (Ob.arr 52 4 [[(sV a1.Product), (V.own 3 p.length), (V.lst 3 (a1.Known.map encTPublished)), (iV a1.Until)]])), (3, (Ob.arr 42 3 (p.map encTRelease)))], 4⟩ : St)) (fun (p : (List TRelease)) => k20 p = some r) ?_ ?_
      · clear hk20
        refine awp_cond (decide (x18.Day ≥ a2)) rfl (fun hb22 => ?_) (fun hb22 => ?_)
        · replace h := ite_t hb22 h
          refine rg ?_
          refine aops_fieldAddr tF52_1 wants_none rfl rfl ?_
          refine aops_load_cell (V.own 3 l16.length) tC49 wants_none rfl rfl rfl rfl rfl ?_
          refine aops_load_agg (cs := (encTRelease x18)) tA42 wants_none rfl rfl rfl rfl rfl rfl ?_
          refine aops_buildSlice [(0, (V.agg (encTRelease x18)))] [(encTRelease x18)] tEl49 tZ42 rfl rfl rfl rfl wants_none (evp_cons rfl evp_nil) rfl rfl (by simp) rfl ?_
          replace h := chk_some h
          obtain ⟨hc23, h⟩ := h
          refine aops_append [(encTRelease x18)] ((l16 ++ ([x18] : List TRelease)).map encTRelease) tEl49 tIsSl49 rfl rfl wants_none rfl rfl (by simp) rfl (.own rfl (by simp)) (map_snoc encTRelease l16 ([x18] : List TRelease)) (List.length_map ..) hc23 rfl ?_
          refine aops_fieldAddr tF52_1 wants_none rfl rfl ?_
          refine aops_store [(V.own 6 (l16 ++ ([x18] : List TRelease)).length)] [[(sV a1.Product), (V.own 6 (l16 ++ ([x18] : List TRelease)).length), (V.lst 3 (a1.Known.map encTPublished)), (iV a1.Until)]] tS49 wants_none rfl rfl rfl rfl rfl rfl rfl rfl ?_
          refine an ?_
          exact ⟨(l16 ++ ([x18] : List TRelease)), h, (ghost_ren 4 (fun i => ([0, 1, 2, 6] : List Nat).getD i 0) _ _ (by decide) (EnvSub.get (.cons (Sub.imm (Imm.con _)) (.cons (Sub.ptr rfl rfl) (.cons (Sub.ptr rfl rfl) (.cons (Sub.ptr rfl rfl) (.cons (Sub.imm (Imm.lst _ _)) (.cons (Sub.imm (Imm.con _)) (.cons (Sub.imm (Imm.con _)) .nil)))))))) (HpSub.get (.cons rfl (ObSub.box (.cons (Sub.imm (Imm.con _)) (.cons (Sub.imm (Imm.lst _ _)) (.cons (Sub.imm (Imm.lst _ _)) (.cons (Sub.imm (Imm.con _)) .nil))))) (.cons rfl (ObSub.box (.cons (Sub.imm (Imm.con _)) (.cons (Sub.imm (Imm.lst _ _)) (.cons (Sub.imm (Imm.lst _ _)) (.cons (Sub.imm (Imm.con _)) .nil))))) (.cons rfl (ObSub.box (.cons (Sub.imm (Imm.con _)) (.cons (Sub.own rfl rfl) (.cons (Sub.imm (Imm.lst _ _)) (.cons (Sub.imm (Imm.con _)) .nil))))) (.cons rfl (ObSub.rows (rows_imm imms_encTRelease)) .nil))))) rfl)⟩
        replace h := ite_f hb22 h
        refine awp_skip ?_
        exact ⟨l16, h, (ghost_ren 4 (fun i => ([0, 1, 2, 3] : List Nat).getD i 0) _ _ (by decide) (EnvSub.get (.cons (Sub.imm (Imm.con _)) (.cons (Sub.ptr rfl rfl) (.cons (Sub.ptr rfl rfl) (.cons (Sub.ptr rfl rfl) (.cons (Sub.imm (Imm.lst _ _)) (.cons (Sub.imm (Imm.con _)) (.cons (Sub.imm (Imm.con _)) .nil)))))))) (HpSub.get (.cons rfl (ObSub.box (.cons (Sub.imm (Imm.con _)) (.cons (Sub.imm (Imm.lst _ _)) (.cons (Sub.imm (Imm.lst _ _)) (.cons (Sub.imm (Imm.con _)) .nil))))) (.cons rfl (ObSub.box (.cons (Sub.imm (Imm.con _)) (.cons (Sub.imm (Imm.lst _ _)) (.cons (Sub.imm (Imm.lst _ _)) (.cons (Sub.imm (Imm.con _)) .nil))))) (.cons rfl (ObSub.box (.cons (Sub.imm (Imm.con _)) (.cons (Sub.own rfl rfl) (.cons (Sub.imm (Imm.lst _ _)) (.cons (Sub.imm (Imm.con _)) .nil))))) (.cons rfl (ObSub.rows (rows_imm imms_encTRelease)) .nil))))) rfl)⟩
      clear h
      intro l21 h
      subst hk20
      refine rg ?_
      refine aops_bin (.int .i64 (w64 (n15 + 1))) wants_none rfl rfl rfl rfl ?_
      refine am (iV (w64 (n15 + 1))) rfl rfl ?_
      refine an ?_
      exact awp_back (ih1 ((w64 (n15 + 1)), l21) (hk1 _ h)) (ghost_ren 4 (fun i => ([0, 1, 2, 3] : List Nat).getD i 0) _ _ (by decide) (EnvSub.get (.cons (Sub.imm (Imm.con _)) (.cons (Sub.ptr rfl rfl) (.cons (Sub.ptr rfl rfl) (.cons (Sub.ptr rfl rfl) (.cons (Sub.imm (Imm.lst _ _)) (.cons (Sub.imm (Imm.con _)) (.cons (Sub.imm (Imm.con _)) .nil)))))))) (HpSub.get (.cons rfl (ObSub.box (.cons (Sub.imm (Imm.con _)) (.cons (Sub.imm (Imm.lst _ _)) (.cons (Sub.imm (Imm.lst _ _)) (.cons (Sub.imm (Imm.con _)) .nil))))) (.cons rfl (ObSub.box (.cons (Sub.imm (Imm.con _)) (.cons (Sub.imm (Imm.lst _ _)) (.cons (Sub.imm (Imm.lst _ _)) (.cons (Sub.imm (Imm.con _)) .nil))))) (.cons rfl (ObSub.box (.cons (Sub.imm (Imm.con _)) (.cons (Sub.own rfl rfl) (.cons (Sub.imm (Imm.lst _ _)) (.cons (Sub.imm (Imm.con _)) .nil))))) (.cons rfl (ObSub.rows (rows_imm imms_encTRelease)) .nil))))) rfl)
    replace h := RG.f h hb17
    unfold M12_L1 at h
    refine awp_exit ?_
    exact ⟨l16, h, (ghost_ren 4 (fun i => ([0, 1, 2, 3] : List Nat).getD i 0) _ _ (by decide) (EnvSub.get (.cons (Sub.ptr rfl rfl) (.cons (Sub.ptr rfl rfl) (.cons (Sub.ptr rfl rfl) .nil)))) (HpSub.get (.cons rfl (ObSub.box (.cons (Sub.imm (Imm.con _)) (.cons (Sub.imm (Imm.lst _ _)) (.cons (Sub.imm (Imm.lst _ _)) (.cons (Sub.imm (Imm.con _)) .nil))))) (.cons rfl (ObSub.box (.cons (Sub.imm (Imm.con _)) (.cons (Sub.imm (Imm.lst _ _)) (.cons (Sub.imm (Imm.lst _ _)) (.cons (Sub.imm (Imm.con _)) .nil))))) (.cons rfl (ObSub.box (.cons (Sub.imm (Imm.con _)) (.cons (Sub.own rfl rfl) (.cons (Sub.imm (Imm.lst _ _)) (.cons (Sub.imm (Imm.con _)) .nil))))) (.cons rfl (ObSub.rows (rows_imm imms_encTRelease)) .nil))))) rfl)⟩
  clear h
  intro l12 h
  subst hk11
  refine sr ?_
  refine aops_load_agg (cs := (encTStory (y3.1))) tA52 wants_none rfl rfl rfl rfl rfl rfl ?_
  refine aops_load_agg (cs := [(sV a1.Product), (V.own 3 l12.length), (V.lst 3 (a1.Known.map encTPublished)), (iV a1.Until)]) tA52 wants_none rfl rfl rfl rfl rfl rfl ?_
  replace h := bind_some h
  obtain ⟨y25, hx26, h⟩ := h
  refine aops_ghost (ghost_frzV 3 56 (V.agg [(sV a1.Product), (V.lst 3 (l12.map encTRelease)), (V.lst 3 (a1.Known.map encTPublished)), (iV a1.Until)]) rfl (rows_imm imms_encTRelease) rfl (Sub.agg (.cons Sub.keep (.cons (Sub.frzAll (rows := l12.map encTRelease) (List.length_map ..).symm) (.cons Sub.keep (.cons Sub.keep .nil)))))) ?_
  refine aops_call (V.tup [(V.agg (encTStory (y25.1))), (iV (y25.2))]) [(V.agg (encTStory (y3.1))), (V.agg [(sV a1.Product), (V.lst 3 (l12.map encTRelease)), (V.lst 3 (a1.Known.map encTPublished)), (iV a1.Until)])] fOk47 wants_none (evm_cons rfl (evm_cons rfl evm_nil)) (.cons (Imm.agg (imms_encTStory _)) (.cons (Imm.agg (.cons (Imm.con _) (.cons (Imm.lst _ _) (.cons (Imm.lst _ _) (.cons (Imm.con _) .nil))))) .nil)) (W47 F (y3.1) (TStory.mk a1.Product l12 a1.Known a1.Until) y25 hx26) rfl ?_
  refine am (V.tup [(V.agg (encTStory (y25.1))), (iV (y25.2))]) rfl rfl ?_
  refine aops_extract (V.agg (encTStory (y25.1))) wants_none rfl rfl rfl ?_
  refine aops_extract (iV (y25.2)) wants_none rfl rfl rfl ?_
  refine aops_alloc tZ52 rfl rfl wants_none rfl ?_
  refine aops_store (encTStory (y25.1)) [(encTStory (y25.1))] tS52 wants_none rfl rfl rfl rfl rfl rfl rfl rfl ?_
  refine aa (iV (y25.2)) rfl rfl ?_
  refine an ?_
  refine sr ?_
  refine am (iV (y25.2)) rfl rfl ?_
  refine aops_bin (.bool ((y25.2) == 0)) wants_none rfl rfl rfl rfl ?_
  refine am (bV ((y25.2) == 0)) rfl rfl ?_
  refine bsp ((y25.2) == 0) (fun hb27 => ?_) (fun hb27 => ?_)
  · replace h := ite_t hb27 h
    refine aops_load_agg (cs := (encTStory (y25.1))) tA52 (wants_some (c := ((y25.2) == 0)) (b := true) 62 rfl rfl hb27) rfl rfl rfl rfl rfl rfl ?_
    refine aops_load_agg (cs := (encTStory a1)) tA52 (wants_some (c := ((y25.2) == 0)) (b := true) 62 rfl rfl hb27) rfl rfl rfl rfl rfl rfl ?_
    replace h := bind_some h
    obtain ⟨y28, hx29, h⟩ := h
    refine aops_call (bV y28) [(V.agg (encTStory (y25.1))), (V.agg (encTStory a1))] fOk49 (wants_some (c := ((y25.2) == 0)) (b := true) 62 rfl rfl hb27) (evm_cons rfl (evm_cons rfl evm_nil)) (.cons (Imm.agg (imms_encTStory _)) (.cons (Imm.agg (imms_encTStory _)) .nil)) (W49 F (y25.1) a1 y28 hx29) rfl ?_
    refine aops_pick true (cb := ((y25.2) == 0)) (bV y28) wants_none rfl hb27 rfl rfl ?_
    refine am (bV y28) rfl rfl ?_
    refine bsp y28 (fun hb30 => ?_) (fun hb30 => ?_)
    · replace h := ite_t hb30 h
      replace h := bind_some h
      obtain ⟨y31, hx32, h⟩ := h
      refine aops_call (bV y31) [] fOk23 (wants_some (c := y28) (b := true) 67 rfl rfl hb30) evm_nil .nil (W23 F  y31 hx32) rfl ?_
      refine aops_pick true (cb := y28) (bV y31) wants_none rfl hb30 rfl rfl ?_
      refine aa (bV y31) rfl rfl ?_
      refine an ?_
      refine awp_ret ?_
      replace h := Option.some.inj h
      subst h
      exact ⟨.inl rfl, .one (.tmp rfl (Imm.con _))⟩
    replace h := ite_f hb30 h
    refine aops_skip (wants_some (c := y28) (b := false) 67 rfl rfl hb30) rfl rfl ?_
    refine aops_pick false (cb := y28) (bV false) wants_none rfl hb30 rfl rfl ?_
    refine aa (bV false) rfl rfl ?_
    refine an ?_
    refine awp_ret ?_
    replace h := Option.some.inj h
    subst h
    exact ⟨.inl rfl, .one (.tmp rfl (Imm.con _))⟩
  replace h := ite_f hb27 h
  refine aops_skips 3 2 62 true (c := ((y25.2) == 0)) (b := false) rfl rfl hb27 rfl rfl ?_
  refine aops_pick false (cb := ((y25.2) == 0)) (bV false) wants_none rfl hb27 rfl rfl ?_
  refine am (bV false) rfl rfl ?_
  refine aops_skip (wants_some (c := false) (b := false) 67 rfl rfl rfl) rfl rfl ?_
  refine aops_pick false (cb := false) (bV false) wants_none rfl rfl rfl rfl ?_
  refine aa (bV false) rfl rfl ?_
  refine an ?_
  refine awp_ret ?_
  replace h := Option.some.inj h
  subst h
  exact ⟨.inl rfl, .one (.tmp rfl (Imm.con _))⟩
end Go.Proofs.Ytkciogeafbbggaa
