/- Part of the proof: HW9a. -/
import Derived.Test.YtkciogeafbbggaaYHM
import Derived.Test.YtkciogeafbbggaaYHW7a
import Derived.Test.YtkciogeafbbggaaYHW3a
import Derived.Test.YtkciogeafbbggaaYHW8a
import Derived.Test.YtkciogeafbbggaaYHW8b
import Derived.KernelRfl
namespace Go.Proofs.Ytkciogeafbbggaa
open Go Go.Pv
set_option linter.unusedVariables false
set_option maxRecDepth 100000
theorem W41 (F : Nat) (a1 : TStory) (a2 : Int) (r : ((List TWindow) × (List TWindow) × Int)) (h : M41 F a1 a2 = some r) : Pure Try.prog 41 [(V.agg (encTStory a1)), (iV a2)] (V.tup [(V.lst 6 ((r.1).map encTWindow)), (V.lst 6 ((r.2.1).map encTWindow)), (iV (r.2.2))]) := by
  refine pure_enter Try.func41 rfl rfl (l := [.tmp 4, .tmp 5, .tmp 6]) rfl rfl [(0, (V.agg (encTStory a1))), (1, (iV a2))] rfl (fun w0 m0 => ?_)
  unfold M41 at h
  refine sr ?_
  refine aops_box (encTStory a1) wants_none rfl rfl rfl rfl ?_
  refine aa nV rfl rfl ?_
  refine aa nV rfl rfl ?_
  refine aa (iV 0) rfl rfl ?_
  refine an ?_
  refine sq ?_
  refine sr ?_
  refine aops_load_agg (cs := (encTStory a1)) tA52 wants_none rfl rfl rfl rfl rfl rfl ?_
  replace h := bind_some h
  obtain ⟨y3, hx4, h⟩ := h
  refine aops_call (iV y3) [(V.agg (encTStory a1))] fOk35 wants_none (evm_cons rfl evm_nil) (.cons (Imm.agg (imms_encTStory _)) .nil) (W35 F a1 y3 hx4) rfl ?_
  refine aa (iV y3) rfl rfl ?_
  refine an ?_
  refine sr ?_
  refine am (iV y3) rfl rfl ?_
  refine aops_bin (.bool (y3 != 0)) wants_none rfl rfl rfl rfl ?_
  refine an ?_
  refine awp_cond (y3 != 0) rfl (fun hb5 => ?_) (fun hb5 => ?_)
  · replace h := ite_t hb5 h
    refine sr ?_
    refine am (iV y3) rfl rfl ?_
    refine aa nV rfl rfl ?_
    refine aa nV rfl rfl ?_
    refine aa (iV y3) rfl rfl ?_
    refine an ?_
    refine awp_ghost (ghost_tell 4 (V.lst 6 (([] : List TWindow).map encTWindow)) rfl (Sub.nil _)) ?_
    refine awp_ghost (ghost_tell 5 (V.lst 6 (([] : List TWindow).map encTWindow)) rfl (Sub.nil _)) ?_
    refine awp_ret ?_
    obtain rfl := Option.some.inj h
    exact ⟨.inl rfl, .three (.tmp rfl (Imm.lst _ _)) (.tmp rfl (Imm.lst _ _)) (.tmp rfl (Imm.con _))⟩
  replace h := ite_f hb5 h
  refine awp_skip ?_
  refine sq ?_
  refine sr ?_
  refine am (iV a2) rfl rfl ?_
  replace h := bind_some h
  obtain ⟨y6, hx7, h⟩ := h
  refine aops_call (bV y6) [(iV a2)] fOk69 wants_none (evm_cons rfl evm_nil) (.cons (Imm.con _) .nil) (W69 F a2 y6 hx7) rfl ?_
  refine aops_not wants_none rfl rfl ?_
  refine an ?_
  refine awp_cond (!y6) rfl (fun hb8 => ?_) (fun hb8 => ?_)
  · replace h := ite_t hb8 h
    refine sr ?_
    refine aa nV rfl rfl ?_
    refine aa nV rfl rfl ?_
    refine aa (iV 9) rfl rfl ?_
    refine an ?_
    refine awp_ghost (ghost_tell 4 (V.lst 6 (([] : List TWindow).map encTWindow)) rfl (Sub.nil _)) ?_
    refine awp_ghost (ghost_tell 5 (V.lst 6 (([] : List TWindow).map encTWindow)) rfl (Sub.nil _)) ?_
    refine awp_ret ?_
    obtain rfl := Option.some.inj h
    exact ⟨.inl rfl, .three (.tmp rfl (Imm.lst _ _)) (.tmp rfl (Imm.lst _ _)) (.tmp rfl (Imm.con _))⟩
  replace h := ite_f hb8 h
  refine awp_skip ?_
  refine sq ?_
  refine sr ?_
  refine aops_load_agg (cs := (encTStory a1)) tA52 wants_none rfl rfl rfl rfl rfl rfl ?_
  replace h := bind_some h
  obtain ⟨y9, hx10, h⟩ := h
  refine aops_call (V.lst 6 (y9.map encTWindow)) [(V.agg (encTStory a1))] fOk98 wants_none (evm_cons rfl evm_nil) (.cons (Imm.agg (imms_encTStory _)) .nil) (W98 F a1 y9 hx10) rfl ?_
  refine aops_len (n := y9.length) tIsSl59 wants_none rfl (congrArg some (List.length_map ..)) rfl ?_
  refine am (iV 0) rfl rfl ?_
  refine an ?_
  replace h := jn_elim h
  obtain ⟨k11, hk11, h⟩ := h
  refine awp_cut (fun (p : (List TWindow) × (List TWindow)) => (⟨[(4, (V.own 0 (p.1).length)), (5, (V.own 1 (p.2).length))], [(0, (Ob.arr 35 6 ((p.1).map encTWindow))), (1, (Ob.arr 35 6 ((p.2).map encTWindow)))], 2⟩ : St)) (fun (p : (List TWindow) × (List TWindow)) => k11 p.1 p.2 = some r) ?_ ?_
  · clear hk11
    refine awp_block ?_
    refine awp_len (A := y9) 19 rfl (fun hA35 => ?_)
    refine awp_loop_ind (fun (p : Int × (List TWindow) × (List TWindow)) => (⟨[(1, (iV a2)), (4, (V.own 0 (p.2.1).length)), (5, (V.own 1 (p.2.2).length)), (19, (V.lst 6 (y9.map encTWindow))), (20, (iV ((y9.length : Nat) : Int))), (21, (iV (p.1)))], [(0, (Ob.arr 35 6 ((p.2.1).map encTWindow))), (1, (Ob.arr 35 6 ((p.2.2).map encTWindow)))], 2⟩ : St)) (fun n (p : Int × (List TWindow) × (List TWindow)) => RG y9 (fun tl nn => M41_L1 F a2 k11 tl p.2.1 p.2.2 = some r) n p.1) (fun p h => RG.zero h) (fun n ih1 p h => ?_) (y9.length + 1) (0, ([] : List TWindow), ([] : List TWindow)) (RG.start h) (Ghost.trans (ghost_nilE 4 35 6 rfl) (Ghost.trans (ghost_nilE 5 35 6 rfl) (ghost_ren 2 (fun i => ([1, 2] : List Nat).getD i 0) _ _ (by decide) (EnvSub.get (.cons (Sub.imm (Imm.con _)) (.cons (Sub.ownE rfl rfl (by simp)) (.cons (Sub.ownE rfl rfl (by simp)) (.cons (Sub.imm (Imm.lst _ _)) (.cons (Sub.imm (Imm.con _)) (.cons (Sub.imm (Imm.con _)) .nil))))))) (HpSub.get (.cons rfl (ObSub.rows (rows_imm imms_encTWindow)) (.cons rfl (ObSub.rows (rows_imm imms_encTWindow)) .nil))) rfl)))
    obtain ⟨n17, l18, l19⟩ := p
    refine awp_loop ?_
    refine sr ?_
    refine aops_bin (.bool (decide (n17 < ((y9.length : Nat) : Int)))) wants_none rfl rfl rfl rfl ?_
    refine an ?_
    refine sq ?_
    refine awp_cond (decide (n17 < ((y9.length : Nat) : Int))) rfl (fun hb20 => ?_) (fun hb20 => ?_)
    · obtain ⟨x24, tl, hx25, h, hk1⟩ := RG.t hA35 h hb20
      unfold M41_L1 at h
      refine awp_skip ?_
      refine sq ?_
      replace h := jn_elim h
      obtain ⟨k21, hk21, h⟩ := h
      refine awp_cut (fun (p : (List TWindow) × (List TWindow)) => (⟨[(1, (iV a2)), (4, (V.own 0 (p.1).length)), (5, (V.own 1 (p.2).length)), (19, (V.lst 6 (y9.map encTWindow))), (20, (iV ((y9.length : Nat) : Int))), (21, (iV n17))], [(0, (Ob.arr 35 6 ((p.1).map encTWindow))), (1, (Ob.arr 35 6 ((p.2).map encTWindow)))], 2⟩ : St)) (fun (p : (List TWindow) × (List TWindow)) => k21 p.1 p.2 = some r) ?_ ?_
      · clear hk21
        refine awp_block ?_
        refine sr ?_
        refine aops_index_lst (encTWindow x24) tSl59 wants_none rfl rfl (idx_some hx25).1 (idx_map encTWindow hx25) rfl ?_
        refine aops_iload_agg (cs := (encTWindow x24)) tA35 wants_none rfl rfl rfl rfl ?_
        refine aops_alloc tZ35 rfl rfl wants_none rfl ?_
        refine aops_store (encTWindow x24) [(encTWindow x24)] tS35 wants_none rfl rfl rfl rfl rfl rfl rfl rfl ?_
        refine an ?_
        refine sq ?_
        refine sr ?_
        refine aops_fieldAddr tF35_3 wants_none rfl rfl ?_
        refine aops_load_cell (iV x24.From) tC3 wants_none rfl rfl rfl rfl rfl ?_
        refine am (iV a2) rfl rfl ?_
        refine aops_bin (.bool (x24.From == a2)) wants_none rfl rfl rfl rfl ?_
        refine an ?_
        replace h := jn_elim h
        obtain ⟨k26, hk26, h⟩ := h
        refine awp_cut (fun (p : (List TWindow)) => (⟨[(1, (iV a2)), (4, (V.own 0 p.length)), (5, (V.own 1 l19.length)), (9, (V.ptr 2 6 0 0)), (19, (V.lst 6 (y9.map encTWindow))), (20, (iV ((y9.length : Nat) : Int))), (21, (iV n17))], [(0, (Ob.arr 35 6 (p.map encTWindow))), (1, (Ob.arr 35 6 (l19.map encTWindow))), (2, (Ob.arr 35 6 [(encTWindow x24)]))], 3⟩ : St)) (fun (p : (List TWindow)) => k26 p = some r) ?_ ?_
        · clear hk26
          refine awp_cond (x24.From == a2) rfl (fun hb28 => ?_) (fun hb28 => ?_)
          · replace h := ite_t hb28 h
            refine rg ?_
            refine am (V.own 0 l18.length) rfl rfl ?_
            refine aops_load_agg (cs := (encTWindow x24)) tA35 wants_none rfl rfl rfl rfl rfl rfl ?_
            refine aops_buildSlice [(0, (V.agg (encTWindow x24)))] [(encTWindow x24)] tEl59 tZ35 rfl rfl rfl rfl wants_none (evp_cons rfl evp_nil) rfl rfl (by simp) rfl ?_
            replace h := chk_some h
            obtain ⟨hc29, h⟩ := h
            refine aops_append [(encTWindow x24)] ((l18 ++ ([x24] : List TWindow)).map encTWindow) tEl59 tIsSl59 rfl rfl wants_none rfl rfl (by simp) rfl (.own rfl (by simp)) (map_snoc encTWindow l18 ([x24] : List TWindow)) (List.length_map ..) hc29 rfl ?_
            refine aa (V.own 4 (l18 ++ ([x24] : List TWindow)).length) rfl rfl ?_
            refine an ?_
            exact ⟨(l18 ++ ([x24] : List TWindow)), h, (ghost_ren 3 (fun i => ([4, 1, 2] : List Nat).getD i 0) _ _ (by decide) (EnvSub.get (.cons (Sub.imm (Imm.con _)) (.cons (Sub.own rfl rfl) (.cons (Sub.own rfl rfl) (.cons (Sub.ptr rfl rfl) (.cons (Sub.imm (Imm.lst _ _)) (.cons (Sub.imm (Imm.con _)) (.cons (Sub.imm (Imm.con _)) .nil)))))))) (HpSub.get (.cons rfl (ObSub.rows (rows_imm imms_encTWindow)) (.cons rfl (ObSub.rows (rows_imm imms_encTWindow)) (.cons rfl (ObSub.box (.cons (Sub.imm (Imm.con _)) (.cons (Sub.imm (Imm.con _)) (.cons (Sub.imm (Imm.con _)) (.cons (Sub.imm (Imm.con _)) (.cons (Sub.imm (Imm.con _)) (.cons (Sub.imm (Imm.con _)) .nil))))))) .nil)))) rfl)⟩
          replace h := ite_f hb28 h
          refine awp_skip ?_
          exact ⟨l18, h, (ghost_ren 3 (fun i => ([0, 1, 2] : List Nat).getD i 0) _ _ (by decide) (EnvSub.get (.cons (Sub.imm (Imm.con _)) (.cons (Sub.own rfl rfl) (.cons (Sub.own rfl rfl) (.cons (Sub.ptr rfl rfl) (.cons (Sub.imm (Imm.lst _ _)) (.cons (Sub.imm (Imm.con _)) (.cons (Sub.imm (Imm.con _)) .nil)))))))) (HpSub.get (.cons rfl (ObSub.rows (rows_imm imms_encTWindow)) (.cons rfl (ObSub.rows (rows_imm imms_encTWindow)) (.cons rfl (ObSub.box (.cons (Sub.imm (Imm.con _)) (.cons (Sub.imm (Imm.con _)) (.cons (Sub.imm (Imm.con _)) (.cons (Sub.imm (Imm.con _)) (.cons (Sub.imm (Imm.con _)) (.cons (Sub.imm (Imm.con _)) .nil))))))) .nil)))) rfl)⟩
        clear h
        intro l27 h
        subst hk26
        refine sr ?_
        refine aops_fieldAddr tF35_4 wants_none rfl rfl ?_
        refine aops_load_cell (iV x24.To) tC3 wants_none rfl rfl rfl rfl rfl ?_
        refine am (iV a2) rfl rfl ?_
        refine aops_bin (.bool (x24.To == a2)) wants_none rfl rfl rfl rfl ?_
        refine am (bV (x24.To == a2)) rfl rfl ?_
        rcases Bool.eq_false_or_eq_true (x24.To == a2) with hb30 | hb30
        · replace h := ite_t hb30 h
          refine aops_fieldAddr tF35_5 (wants_some (c := (x24.To == a2)) (b := true) 37 rfl rfl hb30) rfl rfl ?_
          refine aops_load_cell (bV x24.Open) tC4 (wants_some (c := (x24.To == a2)) (b := true) 37 rfl rfl hb30) rfl rfl rfl rfl rfl ?_
          refine aops_not (wants_some (c := (x24.To == a2)) (b := true) 37 rfl rfl hb30) rfl rfl ?_
          refine aops_pick true (cb := (x24.To == a2)) (bV (!x24.Open)) wants_none rfl hb30 rfl rfl ?_
          refine an ?_
          replace h := jn_elim h
          obtain ⟨k31, hk31, h⟩ := h
          refine awp_cut (fun (p : (List TWindow)) => (⟨[(1, (iV a2)), (4, (V.own 0 l27.length)), (5, (V.own 1 p.length)), (19, (V.lst 6 (y9.map encTWindow))), (20, (iV ((y9.length : Nat) : Int))), (21, (iV n17)), (38, (V.ptr 2 6 0 5)), (39, (bV x24.Open)), (40, (bV (!x24.Open)))], [(0, (Ob.arr 35 6 (l27.map encTWindow))), (1, (Ob.arr 35 6 (p.map encTWindow))), (2, (Ob.arr 35 6 [(encTWindow x24)]))], 3⟩ : St)) (fun (p : (List TWindow)) => k31 p = some r) ?_ ?_
          · clear hk31
            refine awp_cond (!x24.Open) rfl (fun hb33 => ?_) (fun hb33 => ?_)
            · replace h := ite_t hb33 h
              refine rg ?_
              refine am (V.own 1 l19.length) rfl rfl ?_
              refine aops_load_agg (cs := (encTWindow x24)) tA35 wants_none rfl rfl rfl rfl rfl rfl ?_
              refine aops_buildSlice [(0, (V.agg (encTWindow x24)))] [(encTWindow x24)] tEl59 tZ35 rfl rfl rfl rfl wants_none (evp_cons rfl evp_nil) rfl rfl (by simp) rfl ?_
              replace h := chk_some h
              obtain ⟨hc34, h⟩ := h
              refine aops_append [(encTWindow x24)] ((l19 ++ ([x24] : List TWindow)).map encTWindow) tEl59 tIsSl59 rfl rfl wants_none rfl rfl (by simp) rfl (.own rfl (by simp)) (map_snoc encTWindow l19 ([x24] : List TWindow)) (List.length_map ..) hc34 rfl ?_
              refine aa (V.own 4 (l19 ++ ([x24] : List TWindow)).length) rfl rfl ?_
              refine an ?_
              exact ⟨(l19 ++ ([x24] : List TWindow)), h, (ghost_ren 3 (fun i => ([0, 4, 2] : List Nat).getD i 0) _ _ (by decide) (EnvSub.get (.cons (Sub.imm (Imm.con _)) (.cons (Sub.own rfl rfl) (.cons (Sub.own rfl rfl) (.cons (Sub.imm (Imm.lst _ _)) (.cons (Sub.imm (Imm.con _)) (.cons (Sub.imm (Imm.con _)) (.cons (Sub.ptr rfl rfl) (.cons (Sub.imm (Imm.con _)) (.cons (Sub.imm (Imm.con _)) .nil)))))))))) (HpSub.get (.cons rfl (ObSub.rows (rows_imm imms_encTWindow)) (.cons rfl (ObSub.rows (rows_imm imms_encTWindow)) (.cons rfl (ObSub.box (.cons (Sub.imm (Imm.con _)) (.cons (Sub.imm (Imm.con _)) (.cons (Sub.imm (Imm.con _)) (.cons (Sub.imm (Imm.con _)) (.cons (Sub.imm (Imm.con _)) (.cons (Sub.imm (Imm.con _)) .nil))))))) .nil)))) rfl)⟩
            replace h := ite_f hb33 h
            refine awp_skip ?_
            exact ⟨l19, h, (ghost_ren 3 (fun i => ([0, 1, 2] : List Nat).getD i 0) _ _ (by decide) (EnvSub.get (.cons (Sub.imm (Imm.con _)) (.cons (Sub.own rfl rfl) (.cons (Sub.own rfl rfl) (.cons (Sub.imm (Imm.lst _ _)) (.cons (Sub.imm (Imm.con _)) (.cons (Sub.imm (Imm.con _)) (.cons (Sub.ptr rfl rfl) (.cons (Sub.imm (Imm.con _)) (.cons (Sub.imm (Imm.con _)) .nil)))))))))) (HpSub.get (.cons rfl (ObSub.rows (rows_imm imms_encTWindow)) (.cons rfl (ObSub.rows (rows_imm imms_encTWindow)) (.cons rfl (ObSub.box (.cons (Sub.imm (Imm.con _)) (.cons (Sub.imm (Imm.con _)) (.cons (Sub.imm (Imm.con _)) (.cons (Sub.imm (Imm.con _)) (.cons (Sub.imm (Imm.con _)) (.cons (Sub.imm (Imm.con _)) .nil))))))) .nil)))) rfl)⟩
          clear h
          intro l32 h
          subst hk31
          exact ⟨(l27, l32), h, (ghost_ren 2 (fun i => ([0, 1] : List Nat).getD i 0) _ _ (by decide) (EnvSub.get (.cons (Sub.imm (Imm.con _)) (.cons (Sub.own rfl rfl) (.cons (Sub.own rfl rfl) (.cons (Sub.imm (Imm.lst _ _)) (.cons (Sub.imm (Imm.con _)) (.cons (Sub.imm (Imm.con _)) .nil))))))) (HpSub.get (.cons rfl (ObSub.rows (rows_imm imms_encTWindow)) (.cons rfl (ObSub.rows (rows_imm imms_encTWindow)) .nil))) rfl)⟩
        replace h := ite_f hb30 h
        refine aops_skips 3 4 37 true (c := (x24.To == a2)) (b := false) rfl rfl hb30 rfl rfl ?_
        refine aops_pick false (cb := (x24.To == a2)) (bV false) wants_none rfl hb30 rfl rfl ?_
        refine an ?_
        refine awp_cond_f rfl rfl ?_
        refine awp_skip ?_
        exact ⟨(l27, l19), h, (ghost_ren 2 (fun i => ([0, 1] : List Nat).getD i 0) _ _ (by decide) (EnvSub.get (.cons (Sub.imm (Imm.con _)) (.cons (Sub.own rfl rfl) (.cons (Sub.own rfl rfl) (.cons (Sub.imm (Imm.lst _ _)) (.cons (Sub.imm (Imm.con _)) (.cons (Sub.imm (Imm.con _)) .nil))))))) (HpSub.get (.cons rfl (ObSub.rows (rows_imm imms_encTWindow)) (.cons rfl (ObSub.rows (rows_imm imms_encTWindow)) .nil))) rfl)⟩
      clear h
      rintro ⟨l22, l23⟩ h
      subst hk21
      refine rg ?_
      refine aops_bin (.int .i64 (w64 (n17 + 1))) wants_none rfl rfl rfl rfl ?_
      refine am (iV (w64 (n17 + 1))) rfl rfl ?_
      refine an ?_
      exact awp_back (ih1 ((w64 (n17 + 1)), l22, l23) (hk1 _ h)) (ghost_ren 2 (fun i => ([0, 1] : List Nat).getD i 0) _ _ (by decide) (EnvSub.get (.cons (Sub.imm (Imm.con _)) (.cons (Sub.own rfl rfl) (.cons (Sub.own rfl rfl) (.cons (Sub.imm (Imm.lst _ _)) (.cons (Sub.imm (Imm.con _)) (.cons (Sub.imm (Imm.con _)) .nil))))))) (HpSub.get (.cons rfl (ObSub.rows (rows_imm imms_encTWindow)) (.cons rfl (ObSub.rows (rows_imm imms_encTWindow)) .nil))) rfl)
    replace h := RG.f h hb20
    unfold M41_L1 at h
    refine awp_exit ?_
    exact ⟨(l18, l19), h, (ghost_ren 2 (fun i => ([0, 1] : List Nat).getD i 0) _ _ (by decide) (EnvSub.get (.cons (Sub.own rfl rfl) (.cons (Sub.own rfl rfl) .nil))) (HpSub.get (.cons rfl (ObSub.rows (rows_imm imms_encTWindow)) (.cons rfl (ObSub.rows (rows_imm imms_encTWindow)) .nil))) rfl)⟩
  clear h
  rintro ⟨l12, l13⟩ h
  subst hk11
  refine sr ?_
  refine am (V.own 0 l12.length) rfl rfl ?_
  refine am (V.own 1 l13.length) rfl rfl ?_
  refine aa (V.own 0 l12.length) rfl rfl ?_
  refine aa (V.own 1 l13.length) rfl rfl ?_
  refine aa (iV 0) rfl rfl ?_
  refine an ?_
  refine awp_ghost (ghost_frzE 0 4 rfl (rows_imm imms_encTWindow) rfl (List.length_map ..).symm) ?_
  refine awp_ghost (ghost_frzE 1 5 rfl (rows_imm imms_encTWindow) rfl (List.length_map ..).symm) ?_
  refine awp_ret ?_
  obtain rfl := Option.some.inj h
  exact ⟨.inl rfl, .three (.tmp rfl (Imm.lst _ _)) (.tmp rfl (Imm.lst _ _)) (.tmp rfl (Imm.con _))⟩
theorem W42 (F : Nat) (a1 : TStory) (a2 : Int) (r : ((List TWindow) × (List TWindow) × Int)) (h : M42 F a1 a2 = some r) : Pure Try.prog 42 [(V.agg (encTStory a1)), (iV a2)] (V.tup [(V.lst 6 ((r.1).map encTWindow)), (V.lst 6 ((r.2.1).map encTWindow)), (iV (r.2.2))]) := by
  refine pure_enter Try.func42 rfl rfl (l := [.tmp 4, .tmp 5, .tmp 6]) rfl rfl [(0, (V.agg (encTStory a1))), (1, (iV a2))] rfl (fun w0 m0 => ?_)
  unfold M42 at h
  refine sr ?_
  refine aops_box (encTStory a1) wants_none rfl rfl rfl rfl ?_
  refine aa nV rfl rfl ?_
  refine aa nV rfl rfl ?_
  refine aa (iV 0) rfl rfl ?_
  refine an ?_
  refine sq ?_
  refine sr ?_
  refine aops_load_agg (cs := (encTStory a1)) tA52 wants_none rfl rfl rfl rfl rfl rfl ?_
  replace h := bind_some h
  obtain ⟨y3, hx4, h⟩ := h
  refine aops_call (iV y3) [(V.agg (encTStory a1))] fOk36 wants_none (evm_cons rfl evm_nil) (.cons (Imm.agg (imms_encTStory _)) .nil) (W36 F a1 y3 hx4) rfl ?_
  refine aa (iV y3) rfl rfl ?_
  refine an ?_
  refine sr ?_
  refine am (iV y3) rfl rfl ?_
  refine aops_bin (.bool (y3 != 0)) wants_none rfl rfl rfl rfl ?_
  refine an ?_
  refine awp_cond (y3 != 0) rfl (fun hb5 => ?_) (fun hb5 => ?_)
  · replace h := ite_t hb5 h
    refine sr ?_
    refine am (iV y3) rfl rfl ?_
    refine aa nV rfl rfl ?_
    refine aa nV rfl rfl ?_
    refine aa (iV y3) rfl rfl ?_
    refine an ?_
    refine awp_ghost (ghost_tell 4 (V.lst 6 (([] : List TWindow).map encTWindow)) rfl (Sub.nil _)) ?_
    refine awp_ghost (ghost_tell 5 (V.lst 6 (([] : List TWindow).map encTWindow)) rfl (Sub.nil _)) ?_
    refine awp_ret ?_
    obtain rfl := Option.some.inj h
    exact ⟨.inl rfl, .three (.tmp rfl (Imm.lst _ _)) (.tmp rfl (Imm.lst _ _)) (.tmp rfl (Imm.con _))⟩
  replace h := ite_f hb5 h
  refine awp_skip ?_
  refine sq ?_
  refine sr ?_
  refine am (iV a2) rfl rfl ?_
  replace h := bind_some h
  obtain ⟨y6, hx7, h⟩ := h
  refine aops_call (bV y6) [(iV a2)] fOk72 wants_none (evm_cons rfl evm_nil) (.cons (Imm.con _) .nil) (W72 F a2 y6 hx7) rfl ?_
  refine aops_not wants_none rfl rfl ?_
  refine an ?_
  refine awp_cond (!y6) rfl (fun hb8 => ?_) (fun hb8 => ?_)
  · replace h := ite_t hb8 h
    refine sr ?_
    refine aa nV rfl rfl ?_
    refine aa nV rfl rfl ?_
    refine aa (iV 9) rfl rfl ?_
    refine an ?_
    refine awp_ghost (ghost_tell 4 (V.lst 6 (([] : List TWindow).map encTWindow)) rfl (Sub.nil _)) ?_
    refine awp_ghost (ghost_tell 5 (V.lst 6 (([] : List TWindow).map encTWindow)) rfl (Sub.nil _)) ?_
    refine awp_ret ?_
    obtain rfl := Option.some.inj h
    exact ⟨.inl rfl, .three (.tmp rfl (Imm.lst _ _)) (.tmp rfl (Imm.lst _ _)) (.tmp rfl (Imm.con _))⟩
  replace h := ite_f hb8 h
  refine awp_skip ?_
  refine sq ?_
  refine sr ?_
  refine aops_load_agg (cs := (encTStory a1)) tA52 wants_none rfl rfl rfl rfl rfl rfl ?_
  replace h := bind_some h
  obtain ⟨y9, hx10, h⟩ := h
  refine aops_call (V.lst 6 (y9.map encTWindow)) [(V.agg (encTStory a1))] fOk99 wants_none (evm_cons rfl evm_nil) (.cons (Imm.agg (imms_encTStory _)) .nil) (W99 F a1 y9 hx10) rfl ?_
  refine aops_len (n := y9.length) tIsSl59 wants_none rfl (congrArg some (List.length_map ..)) rfl ?_
  refine am (iV 0) rfl rfl ?_
  refine an ?_
  replace h := jn_elim h
  obtain ⟨k11, hk11, h⟩ := h
  refine awp_cut (fun (p : (List TWindow) × (List TWindow)) => (⟨[(4, (V.own 0 (p.1).length)), (5, (V.own 1 (p.2).length))], [(0, (Ob.arr 35 6 ((p.1).map encTWindow))), (1, (Ob.arr 35 6 ((p.2).map encTWindow)))], 2⟩ : St)) (fun (p : (List TWindow) × (List TWindow)) => k11 p.1 p.2 = some r) ?_ ?_
  · clear hk11
    refine awp_block ?_
    refine awp_len (A := y9) 19 rfl (fun hA35 => ?_)
    refine awp_loop_ind (fun (p : Int × (List TWindow) × (List TWindow)) => (⟨[(1, (iV a2)), (4, (V.own 0 (p.2.1).length)), (5, (V.own 1 (p.2.2).length)), (19, (V.lst 6 (y9.map encTWindow))), (20, (iV ((y9.length : Nat) : Int))), (21, (iV (p.1)))], [(0, (Ob.arr 35 6 ((p.2.1).map encTWindow))), (1, (Ob.arr 35 6 ((p.2.2).map encTWindow)))], 2⟩ : St)) (fun n (p : Int × (List TWindow) × (List TWindow)) => RG y9 (fun tl nn => M42_L1 F a2 k11 tl p.2.1 p.2.2 = some r) n p.1) (fun p h => RG.zero h) (fun n ih1 p h => ?_) (y9.length + 1) (0, ([] : List TWindow), ([] : List TWindow)) (RG.start h) (Ghost.trans (ghost_nilE 4 35 6 rfl) (Ghost.trans (ghost_nilE 5 35 6 rfl) (ghost_ren 2 (fun i => ([1, 2] : List Nat).getD i 0) _ _ (by decide) (EnvSub.get (.cons (Sub.imm (Imm.con _)) (.cons (Sub.ownE rfl rfl (by simp)) (.cons (Sub.ownE rfl rfl (by simp)) (.cons (Sub.imm (Imm.lst _ _)) (.cons (Sub.imm (Imm.con _)) (.cons (Sub.imm (Imm.con _)) .nil))))))) (HpSub.get (.cons rfl (ObSub.rows (rows_imm imms_encTWindow)) (.cons rfl (ObSub.rows (rows_imm imms_encTWindow)) .nil))) rfl)))
    obtain ⟨n17, l18, l19⟩ := p
    refine awp_loop ?_
    refine sr ?_
    refine aops_bin (.bool (decide (n17 < ((y9.length : Nat) : Int)))) wants_none rfl rfl rfl rfl ?_
    refine an ?_
    refine sq ?_
    refine awp_cond (decide (n17 < ((y9.length : Nat) : Int))) rfl (fun hb20 => ?_) (fun hb20 => ?_)
    · obtain ⟨x24, tl, hx25, h, hk1⟩ := RG.t hA35 h hb20
      unfold M42_L1 at h
      refine awp_skip ?_
      refine sq ?_
      replace h := jn_elim h
      obtain ⟨k21, hk21, h⟩ := h
      refine awp_cut (fun (p : (List TWindow) × (List TWindow)) => (⟨[(1, (iV a2)), (4, (V.own 0 (p.1).length)), (5, (V.own 1 (p.2).length)), (19, (V.lst 6 (y9.map encTWindow))), (20, (iV ((y9.length : Nat) : Int))), (21, (iV n17))], [(0, (Ob.arr 35 6 ((p.1).map encTWindow))), (1, (Ob.arr 35 6 ((p.2).map encTWindow)))], 2⟩ : St)) (fun (p : (List TWindow) × (List TWindow)) => k21 p.1 p.2 = some r) ?_ ?_
      · clear hk21
        refine awp_block ?_
        refine sr ?_
        refine aops_index_lst (encTWindow x24) tSl59 wants_none rfl rfl (idx_some hx25).1 (idx_map encTWindow hx25) rfl ?_
        refine aops_iload_agg (cs := (encTWindow x24)) tA35 wants_none rfl rfl rfl rfl ?_
        refine aops_alloc tZ35 rfl rfl wants_none rfl ?_
        refine aops_store (encTWindow x24) [(encTWindow x24)] tS35 wants_none rfl rfl rfl rfl rfl rfl rfl rfl ?_
        refine an ?_
        refine sq ?_
        refine sr ?_
        refine aops_fieldAddr tF35_3 wants_none rfl rfl ?_
        refine aops_load_cell (iV x24.From) tC3 wants_none rfl rfl rfl rfl rfl ?_
        refine am (iV a2) rfl rfl ?_
        refine aops_bin (.bool (x24.From == a2)) wants_none rfl rfl rfl rfl ?_
        refine an ?_
        replace h := jn_elim h
        obtain ⟨k26, hk26, h⟩ := h
        refine awp_cut (fun (p : (List TWindow)) => (⟨[(1, (iV a2)), (4, (V.own 0 p.length)), (5, (V.own 1 l19.length)), (9, (V.ptr 2 6 0 0)), (19, (V.lst 6 (y9.map encTWindow))), (20, (iV ((y9.length : Nat) : Int))), (21, (iV n17))], [(0, (Ob.arr 35 6 (p.map encTWindow))), (1, (Ob.arr 35 6 (l19.map encTWindow))), (2, (Ob.arr 35 6 [(encTWindow x24)]))], 3⟩ : St)) (fun (p : (List TWindow)) => k26 p = some r) ?_ ?_
        · clear hk26
          refine awp_cond (x24.From == a2) rfl (fun hb28 => ?_) (fun hb28 => ?_)
          · replace h := ite_t hb28 h
            refine rg ?_
            refine am (V.own 0 l18.length) rfl rfl ?_
            refine aops_load_agg (cs := (encTWindow x24)) tA35 wants_none rfl rfl rfl rfl rfl rfl ?_
            refine aops_buildSlice [(0, (V.agg (encTWindow x24)))] [(encTWindow x24)] tEl59 tZ35 rfl rfl rfl rfl wants_none (evp_cons rfl evp_nil) rfl rfl (by simp) rfl ?_
            replace h := chk_some h
            obtain ⟨hc29, h⟩ := h
            refine aops_append [(encTWindow x24)] ((l18 ++ ([x24] : List TWindow)).map encTWindow) tEl59 tIsSl59 rfl rfl wants_none rfl rfl (by simp) rfl (.own rfl (by simp)) (map_snoc encTWindow l18 ([x24] : List TWindow)) (List.length_map ..) hc29 rfl ?_
            refine aa (V.own 4 (l18 ++ ([x24] : List TWindow)).length) rfl rfl ?_
            refine an ?_
            exact ⟨(l18 ++ ([x24] : List TWindow)), h, (ghost_ren 3 (fun i => ([4, 1, 2] : List Nat).getD i 0) _ _ (by decide) (EnvSub.get (.cons (Sub.imm (Imm.con _)) (.cons (Sub.own rfl rfl) (.cons (Sub.own rfl rfl) (.cons (Sub.ptr rfl rfl) (.cons (Sub.imm (Imm.lst _ _)) (.cons (Sub.imm (Imm.con _)) (.cons (Sub.imm (Imm.con _)) .nil)))))))) (HpSub.get (.cons rfl (ObSub.rows (rows_imm imms_encTWindow)) (.cons rfl (ObSub.rows (rows_imm imms_encTWindow)) (.cons rfl (ObSub.box (.cons (Sub.imm (Imm.con _)) (.cons (Sub.imm (Imm.con _)) (.cons (Sub.imm (Imm.con _)) (.cons (Sub.imm (Imm.con _)) (.cons (Sub.imm (Imm.con _)) (.cons (Sub.imm (Imm.con _)) .nil))))))) .nil)))) rfl)⟩
          replace h := ite_f hb28 h
          refine awp_skip ?_
          exact ⟨l18, h, (ghost_ren 3 (fun i => ([0, 1, 2] : List Nat).getD i 0) _ _ (by decide) (EnvSub.get (.cons (Sub.imm (Imm.con _)) (.cons (Sub.own rfl rfl) (.cons (Sub.own rfl rfl) (.cons (Sub.ptr rfl rfl) (.cons (Sub.imm (Imm.lst _ _)) (.cons (Sub.imm (Imm.con _)) (.cons (Sub.imm (Imm.con _)) .nil)))))))) (HpSub.get (.cons rfl (ObSub.rows (rows_imm imms_encTWindow)) (.cons rfl (ObSub.rows (rows_imm imms_encTWindow)) (.cons rfl (ObSub.box (.cons (Sub.imm (Imm.con _)) (.cons (Sub.imm (Imm.con _)) (.cons (Sub.imm (Imm.con _)) (.cons (Sub.imm (Imm.con _)) (.cons (Sub.imm (Imm.con _)) (.cons (Sub.imm (Imm.con _)) .nil))))))) .nil)))) rfl)⟩
        clear h
        intro l27 h
        subst hk26
        refine sr ?_
        refine aops_fieldAddr tF35_4 wants_none rfl rfl ?_
        refine aops_load_cell (iV x24.To) tC3 wants_none rfl rfl rfl rfl rfl ?_
        refine am (iV a2) rfl rfl ?_
        refine aops_bin (.bool (x24.To == a2)) wants_none rfl rfl rfl rfl ?_
        refine am (bV (x24.To == a2)) rfl rfl ?_
        rcases Bool.eq_false_or_eq_true (x24.To == a2) with hb30 | hb30
        · replace h := ite_t hb30 h
          refine aops_fieldAddr tF35_5 (wants_some (c := (x24.To == a2)) (b := true) 37 rfl rfl hb30) rfl rfl ?_
          refine aops_load_cell (bV x24.Open) tC4 (wants_some (c := (x24.To == a2)) (b := true) 37 rfl rfl hb30) rfl rfl rfl rfl rfl ?_
          refine aops_not (wants_some (c := (x24.To == a2)) (b := true) 37 rfl rfl hb30) rfl rfl ?_
          refine aops_pick true (cb := (x24.To == a2)) (bV (!x24.Open)) wants_none rfl hb30 rfl rfl ?_
          refine an ?_
          replace h := jn_elim h
          obtain ⟨k31, hk31, h⟩ := h
          refine awp_cut (fun (p : (List TWindow)) => (⟨[(1, (iV a2)), (4, (V.own 0 l27.length)), (5, (V.own 1 p.length)), (19, (V.lst 6 (y9.map encTWindow))), (20, (iV ((y9.length : Nat) : Int))), (21, (iV n17)), (38, (V.ptr 2 6 0 5)), (39, (bV x24.Open)), (40, (bV (!x24.Open)))], [(0, (Ob.arr 35 6 (l27.map encTWindow))), (1, (Ob.arr 35 6 (p.map encTWindow))), (2, (Ob.arr 35 6 [(encTWindow x24)]))], 3⟩ : St)) (fun (p : (List TWindow)) => k31 p = some r) ?_ ?_
          · clear hk31
            refine awp_cond (!x24.Open) rfl (fun hb33 => ?_) (fun hb33 => ?_)
            · replace h := ite_t hb33 h
              refine rg ?_
              refine am (V.own 1 l19.length) rfl rfl ?_
              refine aops_load_agg (cs := (encTWindow x24)) tA35 wants_none rfl rfl rfl rfl rfl rfl ?_
              refine aops_buildSlice [(0, (V.agg (encTWindow x24)))] [(encTWindow x24)] tEl59 tZ35 rfl rfl rfl rfl wants_none (evp_cons rfl evp_nil) rfl rfl (by simp) rfl ?_
              replace h := chk_some h
              obtain ⟨hc34, h⟩ := h
              refine aops_append [(encTWindow x24)] ((l19 ++ ([x24] : List TWindow)).map encTWindow) tEl59 tIsSl59 rfl rfl wants_none rfl rfl (by simp) rfl (.own rfl (by simp)) (map_snoc encTWindow l19 ([x24] : List TWindow)) (List.length_map ..) hc34 rfl ?_
              refine aa (V.own 4 (l19 ++ ([x24] : List TWindow)).length) rfl rfl ?_
              refine an ?_
              exact ⟨(l19 ++ ([x24] : List TWindow)), h, (ghost_ren 3 (fun i => ([0, 4, 2] : List Nat).getD i 0) _ _ (by decide) (EnvSub.get (.cons (Sub.imm (Imm.con _)) (.cons (Sub.own rfl rfl) (.cons (Sub.own rfl rfl) (.cons (Sub.imm (Imm.lst _ _)) (.cons (Sub.imm (Imm.con _)) (.cons (Sub.imm (Imm.con _)) (.cons (Sub.ptr rfl rfl) (.cons (Sub.imm (Imm.con _)) (.cons (Sub.imm (Imm.con _)) .nil)))))))))) (HpSub.get (.cons rfl (ObSub.rows (rows_imm imms_encTWindow)) (.cons rfl (ObSub.rows (rows_imm imms_encTWindow)) (.cons rfl (ObSub.box (.cons (Sub.imm (Imm.con _)) (.cons (Sub.imm (Imm.con _)) (.cons (Sub.imm (Imm.con _)) (.cons (Sub.imm (Imm.con _)) (.cons (Sub.imm (Imm.con _)) (.cons (Sub.imm (Imm.con _)) .nil))))))) .nil)))) rfl)⟩
            replace h := ite_f hb33 h
            refine awp_skip ?_
            exact ⟨l19, h, (ghost_ren 3 (fun i => ([0, 1, 2] : List Nat).getD i 0) _ _ (by decide) (EnvSub.get (.cons (Sub.imm (Imm.con _)) (.cons (Sub.own rfl rfl) (.cons (Sub.own rfl rfl) (.cons (Sub.imm (Imm.lst _ _)) (.cons (Sub.imm (Imm.con _)) (.cons (Sub.imm (Imm.con _)) (.cons (Sub.ptr rfl rfl) (.cons (Sub.imm (Imm.con _)) (.cons (Sub.imm (Imm.con _)) .nil)))))))))) (HpSub.get (.cons rfl (ObSub.rows (rows_imm imms_encTWindow)) (.cons rfl (ObSub.rows (rows_imm imms_encTWindow)) (.cons rfl (ObSub.box (.cons (Sub.imm (Imm.con _)) (.cons (Sub.imm (Imm.con _)) (.cons (Sub.imm (Imm.con _)) (.cons (Sub.imm (Imm.con _)) (.cons (Sub.imm (Imm.con _)) (.cons (Sub.imm (Imm.con _)) .nil))))))) .nil)))) rfl)⟩
          clear h
          intro l32 h
          subst hk31
          exact ⟨(l27, l32), h, (ghost_ren 2 (fun i => ([0, 1] : List Nat).getD i 0) _ _ (by decide) (EnvSub.get (.cons (Sub.imm (Imm.con _)) (.cons (Sub.own rfl rfl) (.cons (Sub.own rfl rfl) (.cons (Sub.imm (Imm.lst _ _)) (.cons (Sub.imm (Imm.con _)) (.cons (Sub.imm (Imm.con _)) .nil))))))) (HpSub.get (.cons rfl (ObSub.rows (rows_imm imms_encTWindow)) (.cons rfl (ObSub.rows (rows_imm imms_encTWindow)) .nil))) rfl)⟩
        replace h := ite_f hb30 h
        refine aops_skips 3 4 37 true (c := (x24.To == a2)) (b := false) rfl rfl hb30 rfl rfl ?_
        refine aops_pick false (cb := (x24.To == a2)) (bV false) wants_none rfl hb30 rfl rfl ?_
        refine an ?_
        refine awp_cond_f rfl rfl ?_
        refine awp_skip ?_
        exact ⟨(l27, l19), h, (ghost_ren 2 (fun i => ([0, 1] : List Nat).getD i 0) _ _ (by decide) (EnvSub.get (.cons (Sub.imm (Imm.con _)) (.cons (Sub.own rfl rfl) (.cons (Sub.own rfl rfl) (.cons (Sub.imm (Imm.lst _ _)) (.cons (Sub.imm (Imm.con _)) (.cons (Sub.imm (Imm.con _)) .nil))))))) (HpSub.get (.cons rfl (ObSub.rows (rows_imm imms_encTWindow)) (.cons rfl (ObSub.rows (rows_imm imms_encTWindow)) .nil))) rfl)⟩
      clear h
      rintro ⟨l22, l23⟩ h
      subst hk21
      refine rg ?_
      refine aops_bin (.int .i64 (w64 (n17 + 1))) wants_none rfl rfl rfl rfl ?_
      refine am (iV (w64 (n17 + 1))) rfl rfl ?_
      refine an ?_
      exact awp_back (ih1 ((w64 (n17 + 1)), l22, l23) (hk1 _ h)) (ghost_ren 2 (fun i => ([0, 1] : List Nat).getD i 0) _ _ (by decide) (EnvSub.get (.cons (Sub.imm (Imm.con _)) (.cons (Sub.own rfl rfl) (.cons (Sub.own rfl rfl) (.cons (Sub.imm (Imm.lst _ _)) (.cons (Sub.imm (Imm.con _)) (.cons (Sub.imm (Imm.con _)) .nil))))))) (HpSub.get (.cons rfl (ObSub.rows (rows_imm imms_encTWindow)) (.cons rfl (ObSub.rows (rows_imm imms_encTWindow)) .nil))) rfl)
    replace h := RG.f h hb20
    unfold M42_L1 at h
    refine awp_exit ?_
    exact ⟨(l18, l19), h, (ghost_ren 2 (fun i => ([0, 1] : List Nat).getD i 0) _ _ (by decide) (EnvSub.get (.cons (Sub.own rfl rfl) (.cons (Sub.own rfl rfl) .nil))) (HpSub.get (.cons rfl (ObSub.rows (rows_imm imms_encTWindow)) (.cons rfl (ObSub.rows (rows_imm imms_encTWindow)) .nil))) rfl)⟩
  clear h
  rintro ⟨l12, l13⟩ h
  subst hk11
  refine sr ?_
  refine am (V.own 0 l12.length) rfl rfl ?_
  refine am (V.own 1 l13.length) rfl rfl ?_
  refine aa (V.own 0 l12.length) rfl rfl ?_
  refine aa (V.own 1 l13.length) rfl rfl ?_
  refine aa (iV 0) rfl rfl ?_
  refine an ?_
  refine awp_ghost (ghost_frzE 0 4 rfl (rows_imm imms_encTWindow) rfl (List.length_map ..).symm) ?_
  refine awp_ghost (ghost_frzE 1 5 rfl (rows_imm imms_encTWindow) rfl (List.length_map ..).symm) ?_
  refine awp_ret ?_
  obtain rfl := Option.some.inj h
  exact ⟨.inl rfl, .three (.tmp rfl (Imm.lst _ _)) (.tmp rfl (Imm.lst _ _)) (.tmp rfl (Imm.con _))⟩
theorem W9 (F : Nat) (a1 : TStory) (a2 : Int) (r : Bool) (h : M9 F a1 a2 = some r) : Pure Try.prog 9 [(V.agg (encTStory a1)), (iV a2)] (bV r) := by
  refine pure_enter Try.func9 rfl rfl (l := [.tmp 4]) rfl rfl [(0, (V.agg (encTStory a1))), (1, (iV a2))] rfl (fun w0 m0 => ?_)
  unfold M9 at h
  refine sr ?_
  refine aops_box (encTStory a1) wants_none rfl rfl rfl rfl ?_
  refine aa (bV false) rfl rfl ?_
  refine an ?_
  refine sr ?_
  refine aops_load_agg (cs := (encTStory a1)) tA52 wants_none rfl rfl rfl rfl rfl rfl ?_
  refine am (iV a2) rfl rfl ?_
  replace h := bind_some h
  obtain ⟨y3, hx4, h⟩ := h
  refine aops_call (V.tup [(V.lst 6 ((y3.1).map encTWindow)), (V.lst 6 ((y3.2.1).map encTWindow)), (iV (y3.2.2))]) [(V.agg (encTStory a1)), (iV a2)] fOk41 wants_none (evm_cons rfl (evm_cons rfl evm_nil)) (.cons (Imm.agg (imms_encTStory _)) (.cons (Imm.con _) .nil)) (W41 F a1 a2 y3 hx4) rfl ?_
  refine am (V.tup [(V.lst 6 ((y3.1).map encTWindow)), (V.lst 6 ((y3.2.1).map encTWindow)), (iV (y3.2.2))]) rfl rfl ?_
  refine aops_extract (V.lst 6 ((y3.1).map encTWindow)) wants_none rfl rfl rfl ?_
  refine aops_extract (V.lst 6 ((y3.2.1).map encTWindow)) wants_none rfl rfl rfl ?_
  refine aops_extract (iV (y3.2.2)) wants_none rfl rfl rfl ?_
  refine aa (V.lst 6 ((y3.1).map encTWindow)) rfl rfl ?_
  refine aa (V.lst 6 ((y3.2.1).map encTWindow)) rfl rfl ?_
  refine aa (iV (y3.2.2)) rfl rfl ?_
  refine an ?_
  refine sr ?_
  refine aops_load_agg (cs := (encTStory a1)) tA52 wants_none rfl rfl rfl rfl rfl rfl ?_
  refine am (iV a2) rfl rfl ?_
  replace h := bind_some h
  obtain ⟨y5, hx6, h⟩ := h
  refine aops_call (V.tup [(V.lst 6 ((y5.1).map encTWindow)), (V.lst 6 ((y5.2.1).map encTWindow)), (iV (y5.2.2))]) [(V.agg (encTStory a1)), (iV a2)] fOk42 wants_none (evm_cons rfl (evm_cons rfl evm_nil)) (.cons (Imm.agg (imms_encTStory _)) (.cons (Imm.con _) .nil)) (W42 F a1 a2 y5 hx6) rfl ?_
  refine am (V.tup [(V.lst 6 ((y5.1).map encTWindow)), (V.lst 6 ((y5.2.1).map encTWindow)), (iV (y5.2.2))]) rfl rfl ?_
  refine aops_extract (V.lst 6 ((y5.1).map encTWindow)) wants_none rfl rfl rfl ?_
  refine aops_extract (V.lst 6 ((y5.2.1).map encTWindow)) wants_none rfl rfl rfl ?_
  refine aops_extract (iV (y5.2.2)) wants_none rfl rfl rfl ?_
  refine aa (V.lst 6 ((y5.1).map encTWindow)) rfl rfl ?_
  refine aa (V.lst 6 ((y5.2.1).map encTWindow)) rfl rfl ?_
  refine aa (iV (y5.2.2)) rfl rfl ?_
  refine an ?_
  refine sr ?_
  refine am (V.lst 6 ((y3.1).map encTWindow)) rfl rfl ?_
  refine am (V.lst 6 ((y5.1).map encTWindow)) rfl rfl ?_
  replace h := bind_some h
  obtain ⟨y7, hx8, h⟩ := h
  refine aops_call (bV y7) [(V.lst 6 ((y3.1).map encTWindow)), (V.lst 6 ((y5.1).map encTWindow))] fOk40 wants_none (evm_cons rfl (evm_cons rfl evm_nil)) (.cons (Imm.lst _ _) (.cons (Imm.lst _ _) .nil)) (W40 F (y3.1) (y5.1) y7 hx8) rfl ?_
  refine am (bV y7) rfl rfl ?_
  rcases Bool.eq_false_or_eq_true y7 with hb9 | hb9
  · replace h := ite_t hb9 h
    refine aops_move (V.lst 6 ((y3.2.1).map encTWindow)) (wants_some (c := y7) (b := true) 28 rfl rfl hb9) rfl rfl ?_
    refine aops_move (V.lst 6 ((y5.2.1).map encTWindow)) (wants_some (c := y7) (b := true) 28 rfl rfl hb9) rfl rfl ?_
    replace h := bind_some h
    obtain ⟨y10, hx11, h⟩ := h
    refine aops_call (bV y10) [(V.lst 6 ((y3.2.1).map encTWindow)), (V.lst 6 ((y5.2.1).map encTWindow))] fOk40 (wants_some (c := y7) (b := true) 28 rfl rfl hb9) (evm_cons rfl (evm_cons rfl evm_nil)) (.cons (Imm.lst _ _) (.cons (Imm.lst _ _) .nil)) (W40 F (y3.2.1) (y5.2.1) y10 hx11) rfl ?_
    refine aops_pick true (cb := y7) (bV y10) wants_none rfl hb9 rfl rfl ?_
    refine am (bV y10) rfl rfl ?_
    rcases Bool.eq_false_or_eq_true y10 with hb12 | hb12
    · replace h := ite_t hb12 h
      refine aops_move (iV (y3.2.2)) (wants_some (c := y10) (b := true) 33 rfl rfl hb12) rfl rfl ?_
      refine aops_move (iV (y5.2.2)) (wants_some (c := y10) (b := true) 33 rfl rfl hb12) rfl rfl ?_
      refine aops_bin (.bool ((y3.2.2) == (y5.2.2))) (wants_some (c := y10) (b := true) 33 rfl rfl hb12) rfl rfl rfl rfl ?_
      refine aops_pick true (cb := y10) (bV ((y3.2.2) == (y5.2.2))) wants_none rfl hb12 rfl rfl ?_
      refine am (bV ((y3.2.2) == (y5.2.2))) rfl rfl ?_
      rcases Bool.eq_false_or_eq_true ((y3.2.2) == (y5.2.2)) with hb13 | hb13
      · replace h := ite_t hb13 h
        replace h := bind_some h
        obtain ⟨y14, hx15, h⟩ := h
        refine aops_call (bV y14) [] fOk23 (wants_some (c := ((y3.2.2) == (y5.2.2))) (b := true) 38 rfl rfl hb13) evm_nil .nil (W23 F  y14 hx15) rfl ?_
        refine aops_pick true (cb := ((y3.2.2) == (y5.2.2))) (bV y14) wants_none rfl hb13 rfl rfl ?_
        refine aa (bV y14) rfl rfl ?_
        refine an ?_
        refine awp_ret ?_
        obtain rfl := Option.some.inj h
        exact ⟨.inl rfl, .one (.tmp rfl (Imm.con _))⟩
      replace h := ite_f hb13 h
      refine aops_skip (wants_some (c := ((y3.2.2) == (y5.2.2))) (b := false) 38 rfl rfl hb13) rfl rfl ?_
      refine aops_pick false (cb := ((y3.2.2) == (y5.2.2))) (bV false) wants_none rfl hb13 rfl rfl ?_
      refine aa (bV false) rfl rfl ?_
      refine an ?_
      refine awp_ret ?_
      obtain rfl := Option.some.inj h
      exact ⟨.inl rfl, .one (.tmp rfl (Imm.con _))⟩
    replace h := ite_f hb12 h
    refine aops_skips 3 8 33 true (c := y10) (b := false) rfl rfl hb12 rfl rfl ?_
    refine aops_pick false (cb := y10) (bV false) wants_none rfl hb12 rfl rfl ?_
    refine am (bV false) rfl rfl ?_
    refine aops_skip (wants_some (c := false) (b := false) 38 rfl rfl rfl) rfl rfl ?_
    refine aops_pick false (cb := false) (bV false) wants_none rfl rfl rfl rfl ?_
    refine aa (bV false) rfl rfl ?_
    refine an ?_
    refine awp_ret ?_
    obtain rfl := Option.some.inj h
    exact ⟨.inl rfl, .one (.tmp rfl (Imm.con _))⟩
  replace h := ite_f hb9 h
  refine aops_skips 3 3 28 true (c := y7) (b := false) rfl rfl hb9 rfl rfl ?_
  refine aops_pick false (cb := y7) (bV false) wants_none rfl hb9 rfl rfl ?_
  refine am (bV false) rfl rfl ?_
  refine aops_skips 3 8 33 true (c := false) (b := false) rfl rfl rfl rfl rfl ?_
  refine aops_pick false (cb := false) (bV false) wants_none rfl rfl rfl rfl ?_
  refine am (bV false) rfl rfl ?_
  refine aops_skip (wants_some (c := false) (b := false) 38 rfl rfl rfl) rfl rfl ?_
  refine aops_pick false (cb := false) (bV false) wants_none rfl rfl rfl rfl ?_
  refine aa (bV false) rfl rfl ?_
  refine an ?_
  refine awp_ret ?_
  obtain rfl := Option.some.inj h
  exact ⟨.inl rfl, .one (.tmp rfl (Imm.con _))⟩
end Go.Proofs.Ytkciogeafbbggaa
