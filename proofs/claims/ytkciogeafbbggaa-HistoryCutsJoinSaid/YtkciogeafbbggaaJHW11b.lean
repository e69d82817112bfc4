/- Part of the proof: HW11b. -/
import Derived.Test.YtkciogeafbbggaaJHM
import Derived.Test.YtkciogeafbbggaaJHW7a
import Derived.Test.YtkciogeafbbggaaJHW11a
import Derived.KernelRfl
namespace Go.Proofs.Ytkciogeafbbggaa
open Go Go.Pv
set_option linter.unusedVariables false
set_option maxRecDepth 100000
theorem W47 (F : Nat) (a1 : TStory) (a2 : TStory) (r : (TStory × Int)) (h : M47 F a1 a2 = some r) : Pure Try.prog 47 [(V.agg (encTStory a1)), (V.agg (encTStory a2))] (V.tup [(V.agg (encTStory (r.1))), (iV (r.2))]) := by
  refine pure_enter Try.func47 rfl rfl (l := [.cell 4 52, .tmp 5]) rfl rfl [(0, (V.agg (encTStory a1))), (1, (V.agg (encTStory a2)))] rfl (fun w0 m0 => ?_)
  unfold M47 at h
  refine sr ?_
  refine aops_box (encTStory a1) wants_none rfl rfl rfl rfl ?_
  refine aops_box (encTStory a2) wants_none rfl rfl rfl rfl ?_
  refine aops_alloc tZ52 rfl rfl wants_none rfl ?_
  refine aa (iV 0) rfl rfl ?_
  refine an ?_
  refine sq ?_
  refine sr ?_
  refine aops_load_agg (cs := (encTStory a1)) tA52 wants_none rfl rfl rfl rfl rfl rfl ?_
  replace h := bind_some h
  obtain ⟨y3, hx4, h⟩ := h
  refine aops_call (iV y3) [(V.agg (encTStory a1))] fOk35 wants_none (evm_cons rfl evm_nil) (.cons (Imm.agg (imms_encTStory _)) .nil) (W35 F a1 y3 hx4) rfl ?_
  refine aa (iV y3) rfl rfl ?_
  refine an ?_
  refine sr ?_
  refine am (iV y3) rfl rfl ?_
  refine aops_bin (.bool (y3 != 0)) wants_none rfl rfl rfl rfl ?_
  refine an ?_
  refine awp_cond (y3 != 0) rfl (fun hb5 => ?_) (fun hb5 => ?_)
  · replace h := ite_t hb5 h
    refine sr ?_
    refine aops_build [] [(sV ([] : List UInt8)), nV, nV, (iV 0)] tZ52 tPl52 rfl wants_none evp_nil rfl rfl ?_
    refine am (iV y3) rfl rfl ?_
    refine aops_store [(sV ([] : List UInt8)), nV, nV, (iV 0)] [[(sV ([] : List UInt8)), nV, nV, (iV 0)]] tS52 wants_none rfl rfl rfl rfl rfl rfl rfl rfl ?_
    refine aa (iV y3) rfl rfl ?_
    refine an ?_
    refine awp_ghost (ghost_tellC 2 (Ob.arr 52 4 [[(sV ([] : List UInt8)), (V.lst 3 (([] : List TRelease).map encTRelease)), (V.lst 3 (([] : List TPublished).map encTPublished)), (iV 0)]]) rfl (ObSub.box (.cons Sub.keepI (.cons (Sub.nil _) (.cons (Sub.nil _) (.cons Sub.keepI .nil)))))) ?_
    refine awp_ret ?_
    replace h := Option.some.inj h
    subst h
    exact ⟨.inl rfl, .two (.agg tA52 rfl rfl rfl rfl rfl (.cons (Imm.con _) (.cons (Imm.lst _ _) (.cons (Imm.lst _ _) (.cons (Imm.con _) .nil))))) (.tmp rfl (Imm.con _))⟩
  replace h := ite_f hb5 h
  refine awp_skip ?_
  refine sq ?_
  refine sr ?_
  refine aops_load_agg (cs := (encTStory a2)) tA52 wants_none rfl rfl rfl rfl rfl rfl ?_
  replace h := bind_some h
  obtain ⟨y6, hx7, h⟩ := h
  refine aops_call (iV y6) [(V.agg (encTStory a2))] fOk35 wants_none (evm_cons rfl evm_nil) (.cons (Imm.agg (imms_encTStory _)) .nil) (W35 F a2 y6 hx7) rfl ?_
  refine aa (iV y6) rfl rfl ?_
  refine an ?_
  refine sr ?_
  refine am (iV y6) rfl rfl ?_
  refine aops_bin (.bool (y6 != 0)) wants_none rfl rfl rfl rfl ?_
  refine an ?_
  refine awp_cond (y6 != 0) rfl (fun hb8 => ?_) (fun hb8 => ?_)
  · replace h := ite_t hb8 h
    refine sr ?_
    refine aops_build [] [(sV ([] : List UInt8)), nV, nV, (iV 0)] tZ52 tPl52 rfl wants_none evp_nil rfl rfl ?_
    refine am (iV y6) rfl rfl ?_
    refine aops_store [(sV ([] : List UInt8)), nV, nV, (iV 0)] [[(sV ([] : List UInt8)), nV, nV, (iV 0)]] tS52 wants_none rfl rfl rfl rfl rfl rfl rfl rfl ?_
    refine aa (iV y6) rfl rfl ?_
    refine an ?_
    refine awp_ghost (ghost_tellC 2 (Ob.arr 52 4 [[(sV ([] : List UInt8)), (V.lst 3 (([] : List TRelease).map encTRelease)), (V.lst 3 (([] : List TPublished).map encTPublished)), (iV 0)]]) rfl (ObSub.box (.cons Sub.keepI (.cons (Sub.nil _) (.cons (Sub.nil _) (.cons Sub.keepI .nil)))))) ?_
    refine awp_ret ?_
    replace h := Option.some.inj h
    subst h
    exact ⟨.inl rfl, .two (.agg tA52 rfl rfl rfl rfl rfl (.cons (Imm.con _) (.cons (Imm.lst _ _) (.cons (Imm.lst _ _) (.cons (Imm.con _) .nil))))) (.tmp rfl (Imm.con _))⟩
  replace h := ite_f hb8 h
  refine awp_skip ?_
  refine sq ?_
  refine awp_block ?_
  refine sr ?_
  refine aops_fieldAddr tF52_0 wants_none rfl rfl ?_
  refine aops_load_cell (sV a1.Product) tC9 wants_none rfl rfl rfl rfl rfl ?_
  refine aops_fieldAddr tF52_0 wants_none rfl rfl ?_
  refine aops_load_cell (sV a2.Product) tC9 wants_none rfl rfl rfl rfl rfl ?_
  refine aops_binT (.bool (!(a1.Product == a2.Product))) wants_none rfl rfl rfl rfl ?_
  refine aa (bV (!(a1.Product == a2.Product))) rfl rfl ?_
  refine an ?_
  replace h := jn_elim h
  obtain ⟨k9, hk9, h⟩ := h
  refine awp_cut (fun _ : Unit => (⟨[(2, (V.ptr 0 4 0 0)), (3, (V.ptr 1 4 0 0)), (4, (V.ptr 2 4 0 0))], [(0, (Ob.arr 52 4 [(encTStory a1)])), (1, (Ob.arr 52 4 [(encTStory a2)])), (2, (Ob.arr 52 4 [[(sV ([] : List UInt8)), nV, nV, (iV 0)]]))], 3⟩ : St)) (fun _ : Unit => k9 = some r) ?_ ?_
  · clear hk9
    refine awp_cond (!(a1.Product == a2.Product)) rfl (fun hb10 => ?_) (fun hb10 => ?_)
    · replace h := ite_t hb10 h
      refine sr ?_
      refine aops_build [] [(sV ([] : List UInt8)), nV, nV, (iV 0)] tZ52 tPl52 rfl wants_none evp_nil rfl rfl ?_
      refine aops_store [(sV ([] : List UInt8)), nV, nV, (iV 0)] [[(sV ([] : List UInt8)), nV, nV, (iV 0)]] tS52 wants_none rfl rfl rfl rfl rfl rfl rfl rfl ?_
      refine aa (iV 8) rfl rfl ?_
      refine an ?_
      refine awp_ghost (ghost_tellC 2 (Ob.arr 52 4 [[(sV ([] : List UInt8)), (V.lst 3 (([] : List TRelease).map encTRelease)), (V.lst 3 (([] : List TPublished).map encTPublished)), (iV 0)]]) rfl (ObSub.box (.cons Sub.keepI (.cons (Sub.nil _) (.cons (Sub.nil _) (.cons Sub.keepI .nil)))))) ?_
      refine awp_ret ?_
      replace h := Option.some.inj h
      subst h
      exact ⟨.inl rfl, .two (.agg tA52 rfl rfl rfl rfl rfl (.cons (Imm.con _) (.cons (Imm.lst _ _) (.cons (Imm.lst _ _) (.cons (Imm.con _) .nil))))) (.tmp rfl (Imm.con _))⟩
    replace h := ite_f hb10 h
    refine sr ?_
    refine aops_fieldAddr tF52_1 wants_none rfl rfl ?_
    refine aops_load_cell (V.lst 3 (a2.Releases.map encTRelease)) tC49 wants_none rfl rfl rfl rfl rfl ?_
    refine aops_len (n := a2.Releases.length) tIsSl49 wants_none rfl (congrArg some (List.length_map ..)) rfl ?_
    refine aops_bin (.bool (decide (((a2.Releases.length : Nat) : Int) > 0))) wants_none rfl rfl rfl rfl ?_
    refine am (bV (decide (((a2.Releases.length : Nat) : Int) > 0))) rfl rfl ?_
    refine bsp (decide (((a2.Releases.length : Nat) : Int) > 0)) (fun hb11 => ?_) (fun hb11 => ?_)
    · replace h := ite_t hb11 h
      refine aops_fieldAddr tF52_3 (wants_some (c := (decide (((a2.Releases.length : Nat) : Int) > 0))) (b := true) 40 rfl rfl hb11) rfl rfl ?_
      refine aops_load_cell (iV a2.Until) tC3 (wants_some (c := (decide (((a2.Releases.length : Nat) : Int) > 0))) (b := true) 40 rfl rfl hb11) rfl rfl rfl rfl rfl ?_
      refine aops_fieldAddr tF52_3 (wants_some (c := (decide (((a2.Releases.length : Nat) : Int) > 0))) (b := true) 40 rfl rfl hb11) rfl rfl ?_
      refine aops_load_cell (iV a1.Until) tC3 (wants_some (c := (decide (((a2.Releases.length : Nat) : Int) > 0))) (b := true) 40 rfl rfl hb11) rfl rfl rfl rfl rfl ?_
      refine aops_bin (.bool (decide (a2.Until < a1.Until))) (wants_some (c := (decide (((a2.Releases.length : Nat) : Int) > 0))) (b := true) 40 rfl rfl hb11) rfl rfl rfl rfl ?_
      refine aops_pick true (cb := (decide (((a2.Releases.length : Nat) : Int) > 0))) (bV (decide (a2.Until < a1.Until))) wants_none rfl hb11 rfl rfl ?_
      refine aa (bV (decide (a2.Until < a1.Until))) rfl rfl ?_
      refine an ?_
      refine awp_cond (decide (a2.Until < a1.Until)) rfl (fun hb12 => ?_) (fun hb12 => ?_)
      · replace h := ite_t hb12 h
        refine sr ?_
        refine aops_build [] [(sV ([] : List UInt8)), nV, nV, (iV 0)] tZ52 tPl52 rfl wants_none evp_nil rfl rfl ?_
        refine aops_store [(sV ([] : List UInt8)), nV, nV, (iV 0)] [[(sV ([] : List UInt8)), nV, nV, (iV 0)]] tS52 wants_none rfl rfl rfl rfl rfl rfl rfl rfl ?_
        refine aa (iV 10) rfl rfl ?_
        refine an ?_
        refine awp_ghost (ghost_tellC 2 (Ob.arr 52 4 [[(sV ([] : List UInt8)), (V.lst 3 (([] : List TRelease).map encTRelease)), (V.lst 3 (([] : List TPublished).map encTPublished)), (iV 0)]]) rfl (ObSub.box (.cons Sub.keepI (.cons (Sub.nil _) (.cons (Sub.nil _) (.cons Sub.keepI .nil)))))) ?_
        refine awp_ret ?_
        replace h := Option.some.inj h
        subst h
        exact ⟨.inl rfl, .two (.agg tA52 rfl rfl rfl rfl rfl (.cons (Imm.con _) (.cons (Imm.lst _ _) (.cons (Imm.lst _ _) (.cons (Imm.con _) .nil))))) (.tmp rfl (Imm.con _))⟩
      replace h := ite_f hb12 h
      refine awp_skip ?_
      exact ⟨(), h, (ghost_ren 3 (fun i => ([0, 1, 2] : List Nat).getD i 0) _ _ (by decide) (EnvSub.get (.cons (Sub.ptr rfl rfl) (.cons (Sub.ptr rfl rfl) (.cons (Sub.ptr rfl rfl) .nil)))) (HpSub.get (.cons rfl (ObSub.box (.cons (Sub.imm (Imm.con _)) (.cons (Sub.imm (Imm.lst _ _)) (.cons (Sub.imm (Imm.lst _ _)) (.cons (Sub.imm (Imm.con _)) .nil))))) (.cons rfl (ObSub.box (.cons (Sub.imm (Imm.con _)) (.cons (Sub.imm (Imm.lst _ _)) (.cons (Sub.imm (Imm.lst _ _)) (.cons (Sub.imm (Imm.con _)) .nil))))) (.cons rfl (ObSub.box (.cons (Sub.imm (Imm.con _)) (.cons (Sub.imm (Imm.con _)) (.cons (Sub.imm (Imm.con _)) (.cons (Sub.imm (Imm.con _)) .nil))))) .nil)))) rfl)⟩
    replace h := ite_f hb11 h
    refine aops_skips 5 4 40 true (c := (decide (((a2.Releases.length : Nat) : Int) > 0))) (b := false) rfl rfl hb11 rfl rfl ?_
    refine aops_pick false (cb := (decide (((a2.Releases.length : Nat) : Int) > 0))) (bV false) wants_none rfl hb11 rfl rfl ?_
    refine aa (bV false) rfl rfl ?_
    refine an ?_
    refine awp_cond_f rfl rfl ?_
    refine awp_skip ?_
    exact ⟨(), h, (ghost_ren 3 (fun i => ([0, 1, 2] : List Nat).getD i 0) _ _ (by decide) (EnvSub.get (.cons (Sub.ptr rfl rfl) (.cons (Sub.ptr rfl rfl) (.cons (Sub.ptr rfl rfl) .nil)))) (HpSub.get (.cons rfl (ObSub.box (.cons (Sub.imm (Imm.con _)) (.cons (Sub.imm (Imm.lst _ _)) (.cons (Sub.imm (Imm.lst _ _)) (.cons (Sub.imm (Imm.con _)) .nil))))) (.cons rfl (ObSub.box (.cons (Sub.imm (Imm.con _)) (.cons (Sub.imm (Imm.lst _ _)) (.cons (Sub.imm (Imm.lst _ _)) (.cons (Sub.imm (Imm.con _)) .nil))))) (.cons rfl (ObSub.box (.cons (Sub.imm (Imm.con _)) (.cons (Sub.imm (Imm.con _)) (.cons (Sub.imm (Imm.con _)) (.cons (Sub.imm (Imm.con _)) .nil))))) .nil)))) rfl)⟩
  clear h
  intro _ h
  subst hk9
  refine sr ?_
  refine aops_fieldAddr tF52_2 wants_none rfl rfl ?_
  refine aops_load_cell (V.lst 3 (a1.Known.map encTPublished)) tC50 wants_none rfl rfl rfl rfl rfl ?_
  refine aops_fieldAddr tF52_2 wants_none rfl rfl ?_
  refine aops_load_cell (V.lst 3 (a2.Known.map encTPublished)) tC50 wants_none rfl rfl rfl rfl rfl ?_
  replace h := bind_some h
  obtain ⟨y13, hx14, h⟩ := h
  refine aops_call (V.tup [(V.lst 3 ((y13.1).map encTPublished)), (bV (y13.2))]) [(V.lst 3 (a1.Known.map encTPublished)), (V.lst 3 (a2.Known.map encTPublished))] fOk102 wants_none (evm_cons rfl (evm_cons rfl evm_nil)) (.cons (Imm.lst _ _) (.cons (Imm.lst _ _) .nil)) (W102 F a1.Known a2.Known y13 hx14) rfl ?_
  refine am (V.tup [(V.lst 3 ((y13.1).map encTPublished)), (bV (y13.2))]) rfl rfl ?_
  refine aops_extract (V.lst 3 ((y13.1).map encTPublished)) wants_none rfl rfl rfl ?_
  refine aops_extract (bV (y13.2)) wants_none rfl rfl rfl ?_
  refine aa (V.lst 3 ((y13.1).map encTPublished)) rfl rfl ?_
  refine aa (bV (y13.2)) rfl rfl ?_
  refine an ?_
  refine sq ?_
  refine sr ?_
  refine am (bV (y13.2)) rfl rfl ?_
  refine aops_not wants_none rfl rfl ?_
  refine an ?_
  refine awp_cond (!(y13.2)) rfl (fun hb15 => ?_) (fun hb15 => ?_)
  · replace h := ite_t hb15 h
    refine sr ?_
    refine aops_build [] [(sV ([] : List UInt8)), nV, nV, (iV 0)] tZ52 tPl52 rfl wants_none evp_nil rfl rfl ?_
    refine aops_store [(sV ([] : List UInt8)), nV, nV, (iV 0)] [[(sV ([] : List UInt8)), nV, nV, (iV 0)]] tS52 wants_none rfl rfl rfl rfl rfl rfl rfl rfl ?_
    refine aa (iV 5) rfl rfl ?_
    refine an ?_
    refine awp_ghost (ghost_tellC 2 (Ob.arr 52 4 [[(sV ([] : List UInt8)), (V.lst 3 (([] : List TRelease).map encTRelease)), (V.lst 3 (([] : List TPublished).map encTPublished)), (iV 0)]]) rfl (ObSub.box (.cons Sub.keepI (.cons (Sub.nil _) (.cons (Sub.nil _) (.cons Sub.keepI .nil)))))) ?_
    refine awp_ret ?_
    replace h := Option.some.inj h
    subst h
    exact ⟨.inl rfl, .two (.agg tA52 rfl rfl rfl rfl rfl (.cons (Imm.con _) (.cons (Imm.lst _ _) (.cons (Imm.lst _ _) (.cons (Imm.con _) .nil))))) (.tmp rfl (Imm.con _))⟩
  replace h := ite_f hb15 h
  refine awp_skip ?_
  refine sr ?_
  refine aops_fieldAddr tF52_0 wants_none rfl rfl ?_
  refine aops_load_cell (sV a1.Product) tC9 wants_none rfl rfl rfl rfl rfl ?_
  refine am (V.lst 3 ((y13.1).map encTPublished)) rfl rfl ?_
  refine aops_fieldAddr tF52_3 wants_none rfl rfl ?_
  refine aops_load_cell (iV a2.Until) tC3 wants_none rfl rfl rfl rfl rfl ?_
  refine aops_build [(0, (sV a1.Product)), (2, (V.lst 3 ((y13.1).map encTPublished))), (3, (iV a2.Until))] [(sV a1.Product), nV, (V.lst 3 ((y13.1).map encTPublished)), (iV a2.Until)] tZ52 tPl52 rfl wants_none (evp_cons rfl (evp_cons rfl (evp_cons rfl evp_nil))) rfl rfl ?_
  refine aops_alloc tZ52 rfl rfl wants_none rfl ?_
  refine aops_store [(sV a1.Product), nV, (V.lst 3 ((y13.1).map encTPublished)), (iV a2.Until)] [[(sV a1.Product), nV, (V.lst 3 ((y13.1).map encTPublished)), (iV a2.Until)]] tS52 wants_none rfl rfl rfl rfl rfl rfl rfl rfl ?_
  refine an ?_
  refine sq ?_
  refine sr ?_
  refine aops_fieldAddr tF52_1 wants_none rfl rfl ?_
  refine aops_load_cell (V.lst 3 (a1.Releases.map encTRelease)) tC49 wants_none rfl rfl rfl rfl rfl ?_
  refine aops_len (n := a1.Releases.length) tIsSl49 wants_none rfl (congrArg some (List.length_map ..)) rfl ?_
  refine am (iV 0) rfl rfl ?_
  refine an ?_
  replace h := jn_elim h
  obtain ⟨k16, hk16, h⟩ := h
  refine awp_cut (fun (p : (List TRelease)) => (⟨[(3, (V.ptr 0 4 0 0)), (4, (V.ptr 1 4 0 0)), (10, (V.ptr 2 4 0 0))], [(0, (Ob.arr 52 4 [(encTStory a2)])), (1, (Ob.arr 52 4 [[(sV ([] : List UInt8)), nV, nV, (iV 0)]])), (2, (Ob.arr 52 4 [[(sV a1.Product), (V.own 3 p.length), (V.lst 3 ((y13.1).map encTPublished)), (iV a2.Until)]])), (3, (Ob.arr 42 3 (p.map encTRelease)))], 4⟩ : St)) (fun (p : (List TRelease)) => k16 p = some r) ?_ ?_
  · clear hk16
    refine awp_block ?_
    refine awp_len (A := a1.Releases) 66 rfl (fun hA39 => ?_)
    refine awp_loop_ind (fun (p : Int × (List TRelease)) => (⟨[(3, (V.ptr 0 4 0 0)), (4, (V.ptr 1 4 0 0)), (10, (V.ptr 2 4 0 0)), (66, (V.lst 3 (a1.Releases.map encTRelease))), (67, (iV ((a1.Releases.length : Nat) : Int))), (68, (iV (p.1)))], [(0, (Ob.arr 52 4 [(encTStory a2)])), (1, (Ob.arr 52 4 [[(sV ([] : List UInt8)), nV, nV, (iV 0)]])), (2, (Ob.arr 52 4 [[(sV a1.Product), (V.own 3 (p.2).length), (V.lst 3 ((y13.1).map encTPublished)), (iV a2.Until)]])), (3, (Ob.arr 42 3 ((p.2).map encTRelease)))], 4⟩ : St)) (fun n (p : Int × (List TRelease)) => RG a1.Releases (fun tl nn => M47_L1 F a2 k16 tl p.2 = some r) n p.1) (fun p h => RG.zero h) (fun n ih1 p h => ?_) (a1.Releases.length + 1) (0, ([] : List TRelease)) (RG.start h) (Ghost.trans (ghost_nilC 3 42 3 (Ob.arr 52 4 [[(sV a1.Product), (V.own 4 0), (V.lst 3 ((y13.1).map encTPublished)), (iV a2.Until)]]) (ObSub.box (.cons Sub.keepNil (.cons Sub.mkNil (.cons Sub.keepNil (.cons Sub.keepNil .nil)))))) (ghost_ren 4 (fun i => ([1, 2, 3, 4] : List Nat).getD i 0) _ _ (by decide) (EnvSub.get (.cons (Sub.ptr rfl rfl) (.cons (Sub.ptr rfl rfl) (.cons (Sub.ptr rfl rfl) (.cons (Sub.imm (Imm.lst _ _)) (.cons (Sub.imm (Imm.con _)) (.cons (Sub.imm (Imm.con _)) .nil))))))) (HpSub.get (.cons rfl (ObSub.box (.cons (Sub.imm (Imm.con _)) (.cons (Sub.imm (Imm.lst _ _)) (.cons (Sub.imm (Imm.lst _ _)) (.cons (Sub.imm (Imm.con _)) .nil))))) (.cons rfl (ObSub.box (.cons (Sub.imm (Imm.con _)) (.cons (Sub.imm (Imm.con _)) (.cons (Sub.imm (Imm.con _)) (.cons (Sub.imm (Imm.con _)) .nil))))) (.cons rfl (ObSub.box (.cons (Sub.imm (Imm.con _)) (.cons (Sub.ownE rfl rfl (by simp)) (.cons (Sub.imm (Imm.lst _ _)) (.cons (Sub.imm (Imm.con _)) .nil))))) (.cons rfl (ObSub.rows (rows_imm imms_encTRelease)) .nil))))) rfl))
    obtain ⟨n20, l21⟩ := p
    refine awp_loop ?_
    refine sr ?_
    refine aops_bin (.bool (decide (n20 < ((a1.Releases.length : Nat) : Int)))) wants_none rfl rfl rfl rfl ?_
    refine an ?_
    refine sq ?_
    refine awp_cond (decide (n20 < ((a1.Releases.length : Nat) : Int))) rfl (fun hb22 => ?_) (fun hb22 => ?_)
    · obtain ⟨x25, tl, hx26, h, hk1⟩ := RG.t hA39 h hb22
      unfold M47_L1 at h
      refine awp_skip ?_
      refine sq ?_
      replace h := jn_elim h
      obtain ⟨k23, hk23, h⟩ := h
      refine awp_cut (fun (p : (List TRelease)) => (⟨[(3, (V.ptr 0 4 0 0)), (4, (V.ptr 1 4 0 0)), (10, (V.ptr 2 4 0 0)), (66, (V.lst 3 (a1.Releases.map encTRelease))), (67, (iV ((a1.Releases.length : Nat) : Int))), (68, (iV n20))], [(0, (Ob.arr 52 4 [(encTStory a2)])), (1, (Ob.arr 52 4 [[(sV ([] : List UInt8)), nV, nV, (iV 0)]])), (2, (Ob.arr 52 4 [[(sV a1.Product), (V.own 3 p.length), (V.lst 3 ((y13.1).map encTPublished)), (iV a2.Until)]])), (3, (Ob.arr 42 3 (p.map encTRelease)))], 4⟩ : St)) (fun (p : (List TRelease)) => k23 p = some r) ?_ ?_
      · clear hk23
        refine awp_block ?_
        refine sr ?_
        refine aops_index_lst (encTRelease x25) tSl49 wants_none rfl rfl (idx_some hx26).1 (idx_map encTRelease hx26) rfl ?_
        refine aops_iload_agg (cs := (encTRelease x25)) tA42 wants_none rfl rfl rfl rfl ?_
        refine aops_alloc tZ42 rfl rfl wants_none rfl ?_
        refine aops_store (encTRelease x25) [(encTRelease x25)] tS42 wants_none rfl rfl rfl rfl rfl rfl rfl rfl ?_
        refine an ?_
        refine sq ?_
        refine bsp (((a2.Releases.length : Nat) : Int) == 0) (fun hb27 => ?_) (fun hb27 => ?_)
        · replace h := ite_t hb27 h
          refine awp_any [OD.mk [(3, (V.ptr 0 4 0 0))] [] [(72, (V.ptr 0 4 0 1))] [],
                OD.mk [(72, (V.ptr 0 4 0 1))] [(0, (Ob.arr 52 4 [(encTStory a2)]))] [(73, (V.lst 3 (a2.Releases.map encTRelease)))] [],
                OD.mk [(73, (V.lst 3 (a2.Releases.map encTRelease)))] [] [(74, (iV ((a2.Releases.length : Nat) : Int)))] [],
                OD.mk [(74, (iV ((a2.Releases.length : Nat) : Int)))] [] [(75, (bV (((a2.Releases.length : Nat) : Int) == 0)))] [],
                OD.mk [(75, (bV (((a2.Releases.length : Nat) : Int) == 0)))] [] [(76, (bV (((a2.Releases.length : Nat) : Int) == 0)))] [],
                OD.mk [(76, (bV (((a2.Releases.length : Nat) : Int) == 0)))] [] [(77, (V.con undef))] [],
                OD.mk [(76, (bV (((a2.Releases.length : Nat) : Int) == 0)))] [] [(78, (V.con undef))] [],
                OD.mk [(76, (bV (((a2.Releases.length : Nat) : Int) == 0)))] [] [(79, (V.con undef))] [],
                OD.mk [(76, (bV (((a2.Releases.length : Nat) : Int) == 0)))] [] [(80, (V.con undef))] [],
                OD.mk [(76, (bV (((a2.Releases.length : Nat) : Int) == 0)))] [] [(81, (V.con undef))] [],
                OD.mk [(76, (bV (((a2.Releases.length : Nat) : Int) == 0)))] [] [(82, (V.con undef))] [],
                OD.mk [(76, (bV (((a2.Releases.length : Nat) : Int) == 0)))] [] [(83, (V.con undef))] [],
                OD.mk [(76, (bV (((a2.Releases.length : Nat) : Int) == 0)))] [] [(84, (V.con undef))] [],
                OD.mk [(76, (bV (((a2.Releases.length : Nat) : Int) == 0)))] [] [(85, (bV true))] []] mixed ⟨⟨rfl, trivial⟩, trivial, ⟨⟨rfl, trivial⟩, ⟨rfl, trivial⟩, ⟨⟨rfl, trivial⟩, trivial, ⟨⟨rfl, trivial⟩, trivial, ⟨⟨rfl, trivial⟩, trivial, ⟨⟨rfl, trivial⟩, trivial, ⟨⟨rfl, trivial⟩, trivial, ⟨⟨rfl, trivial⟩, trivial, ⟨⟨rfl, trivial⟩, trivial, ⟨⟨rfl, trivial⟩, trivial, ⟨⟨rfl, trivial⟩, trivial, ⟨⟨rfl, trivial⟩, trivial, ⟨⟨rfl, trivial⟩, trivial, ⟨⟨rfl, trivial⟩, trivial, trivial⟩⟩⟩⟩⟩⟩⟩⟩⟩⟩⟩⟩⟩⟩ (by kernel_rfl) (.cons (fun S hn h hh => aops_fieldAddr tF52_1 wants_none h.1 rfl (an ⟨rfl, rfl⟩)) (.cons (fun S hn h hh => aops_load_cell (V.lst 3 (a2.Releases.map encTRelease)) tC49 wants_none h.1 hh.1 rfl rfl rfl (an ⟨rfl, rfl⟩)) (.cons (fun S hn h hh => aops_len (n := a2.Releases.length) tIsSl49 wants_none h.1 (congrArg some (List.length_map ..)) rfl (an ⟨rfl, rfl⟩)) (.cons (fun S hn h hh => aops_bin (.bool (((a2.Releases.length : Nat) : Int) == 0)) wants_none h.1 rfl rfl rfl (an ⟨rfl, rfl⟩)) (.cons (fun S hn h hh => aops_move (bV (((a2.Releases.length : Nat) : Int) == 0)) wants_none h.1 rfl (an ⟨rfl, rfl⟩)) (.cons (fun S hn h hh => aops_skip (wants_some (c := (((a2.Releases.length : Nat) : Int) == 0)) (b := true) 76 rfl h.1 hb27) rfl rfl (an ⟨rfl, rfl⟩)) (.cons (fun S hn h hh => aops_skip (wants_some (c := (((a2.Releases.length : Nat) : Int) == 0)) (b := true) 76 rfl h.1 hb27) rfl rfl (an ⟨rfl, rfl⟩)) (.cons (fun S hn h hh => aops_skip (wants_some (c := (((a2.Releases.length : Nat) : Int) == 0)) (b := true) 76 rfl h.1 hb27) rfl rfl (an ⟨rfl, rfl⟩)) (.cons (fun S hn h hh => aops_skip (wants_some (c := (((a2.Releases.length : Nat) : Int) == 0)) (b := true) 76 rfl h.1 hb27) rfl rfl (an ⟨rfl, rfl⟩)) (.cons (fun S hn h hh => aops_skip (wants_some (c := (((a2.Releases.length : Nat) : Int) == 0)) (b := true) 76 rfl h.1 hb27) rfl rfl (an ⟨rfl, rfl⟩)) (.cons (fun S hn h hh => aops_skip (wants_some (c := (((a2.Releases.length : Nat) : Int) == 0)) (b := true) 76 rfl h.1 hb27) rfl rfl (an ⟨rfl, rfl⟩)) (.cons (fun S hn h hh => aops_skip (wants_some (c := (((a2.Releases.length : Nat) : Int) == 0)) (b := true) 76 rfl h.1 hb27) rfl rfl (an ⟨rfl, rfl⟩)) (.cons (fun S hn h hh => aops_skip (wants_some (c := (((a2.Releases.length : Nat) : Int) == 0)) (b := true) 76 rfl h.1 hb27) rfl rfl (an ⟨rfl, rfl⟩)) (.cons (fun S hn h hh => aops_pick true (cb := (((a2.Releases.length : Nat) : Int) == 0)) (bV true) wants_none h.1 hb27 rfl rfl (an ⟨rfl, rfl⟩)) .nil)))))))))))))) ?_
          refine awp_cond_t rfl rfl ?_
          replace h := bind_some h
          obtain ⟨y28, hx29, h⟩ := h
          replace h := chk_some h
          obtain ⟨hc30, h⟩ := h
          refine awp_ghost ghost_res ?_
          refine awp_any [OD.mk [(10, (V.ptr 2 4 0 0))] [] [(86, (V.ptr 2 4 0 1))] [],
                OD.mk [(86, (V.ptr 2 4 0 1))] [(2, (Ob.arr 52 4 [[(sV a1.Product), (V.own 3 l21.length), (V.lst 3 ((y13.1).map encTPublished)), (iV a2.Until)]]))] [(87, (V.own 3 l21.length))] [],
                OD.mk [(12, (V.ptr 4 3 0 0))] [(4, (Ob.arr 42 3 [(encTRelease x25)]))] [(88, (V.agg (encTRelease x25)))] [],
                OD.mk [(88, (V.agg (encTRelease x25)))] [] [(89, (V.agg (encTRelease y28)))] [],
                OD.mk [(89, (V.agg (encTRelease y28)))] [] [(90, (V.lst 3 (([y28] : List TRelease).map encTRelease)))] [],
                OD.mk [(87, (V.own 3 l21.length)), (90, (V.lst 3 (([y28] : List TRelease).map encTRelease)))] [(3, (Ob.arr 42 3 (l21.map encTRelease))), (5, Ob.res)] [(91, (V.own 5 (l21 ++ ([y28] : List TRelease)).length))] [(5, (Ob.arr 42 3 ((l21 ++ ([y28] : List TRelease)).map encTRelease))), (3, Ob.dead)],
                OD.mk [(10, (V.ptr 2 4 0 0))] [] [(92, (V.ptr 2 4 0 1))] [],
                OD.mk [(92, (V.ptr 2 4 0 1)), (91, (V.own 5 (l21 ++ ([y28] : List TRelease)).length))] [(2, (Ob.arr 52 4 [[(sV a1.Product), (V.own 3 l21.length), (V.lst 3 ((y13.1).map encTPublished)), (iV a2.Until)]]))] [] [(2, (Ob.arr 52 4 [[(sV a1.Product), (V.own 5 (l21 ++ ([y28] : List TRelease)).length), (V.lst 3 ((y13.1).map encTPublished)), (iV a2.Until)]]))]] mixed ⟨⟨rfl, trivial⟩, trivial, ⟨⟨rfl, trivial⟩, ⟨rfl, trivial⟩, ⟨⟨rfl, trivial⟩, ⟨rfl, trivial⟩, ⟨⟨rfl, trivial⟩, trivial, ⟨⟨rfl, trivial⟩, trivial, ⟨⟨rfl, rfl, trivial⟩, ⟨rfl, rfl, trivial⟩, ⟨⟨rfl, trivial⟩, trivial, ⟨⟨rfl, rfl, trivial⟩, ⟨rfl, trivial⟩, trivial⟩⟩⟩⟩⟩⟩⟩⟩ (by kernel_rfl) (.cons (fun S hn h hh => aops_fieldAddr tF52_1 wants_none h.1 rfl (an ⟨rfl, rfl⟩)) (.cons (fun S hn h hh => aops_load_cell (V.own 3 l21.length) tC49 wants_none h.1 hh.1 rfl rfl rfl (an ⟨rfl, rfl⟩)) (.cons (fun S hn h hh => aops_load_agg (cs := (encTRelease x25)) tA42 wants_none h.1 hh.1 rfl rfl rfl rfl (an ⟨rfl, rfl⟩)) (.cons (fun S hn h hh => aops_call (V.agg (encTRelease y28)) [(V.agg (encTRelease x25))] fOk88 wants_none (evm_cons h.1 evm_nil) (.cons (Imm.agg (imms_encTRelease _)) .nil) (W88 F x25 y28 hx29) rfl (an ⟨rfl, rfl⟩)) (.cons (fun S hn h hh => aops_buildSlice_imm [(0, (V.agg (encTRelease y28)))] [(encTRelease y28)] tEl49 tZ42 wants_none rfl rfl rfl rfl (evp_cons h.1 evp_nil) rfl rfl (by simp) (imms_rows (.cons (imms_encTRelease _) .nil)) rfl (an ⟨rfl, rfl⟩)) (.cons (fun S hn h hh => aops_append_at 5 rfl hn hh.2.1 (([y28] : List TRelease).map encTRelease) ((l21 ++ ([y28] : List TRelease)).map encTRelease) tEl49 tIsSl49 rfl rfl wants_none h.1 hh.1 (by simp) h.2.1 (.lst (rows_one one_encTRelease)) (map_snoc encTRelease l21 ([y28] : List TRelease)) (List.length_map ..) hc30 rfl (an ⟨rfl, rfl⟩)) (.cons (fun S hn h hh => aops_fieldAddr tF52_1 wants_none h.1 rfl (an ⟨rfl, rfl⟩)) (.cons (fun S hn h hh => aops_store [(V.own 5 (l21 ++ ([y28] : List TRelease)).length)] [[(sV a1.Product), (V.own 5 (l21 ++ ([y28] : List TRelease)).length), (V.lst 3 ((y13.1).map encTPublished)), (iV a2.Until)]] tS49 wants_none h.1 h.2.1 rfl rfl hh.1 rfl rfl rfl (an ⟨rfl, rfl⟩)) .nil)))))))) ?_
          exact ⟨(l21 ++ ([y28] : List TRelease)), h, (ghost_ren 4 (fun i => ([0, 1, 2, 5] : List Nat).getD i 0) _ _ (by decide) (EnvSub.get (.cons (Sub.ptr rfl rfl) (.cons (Sub.ptr rfl rfl) (.cons (Sub.ptr rfl rfl) (.cons (Sub.imm (Imm.lst _ _)) (.cons (Sub.imm (Imm.con _)) (.cons (Sub.imm (Imm.con _)) .nil))))))) (HpSub.get (.cons rfl (ObSub.box (.cons (Sub.imm (Imm.con _)) (.cons (Sub.imm (Imm.lst _ _)) (.cons (Sub.imm (Imm.lst _ _)) (.cons (Sub.imm (Imm.con _)) .nil))))) (.cons rfl (ObSub.box (.cons (Sub.imm (Imm.con _)) (.cons (Sub.imm (Imm.con _)) (.cons (Sub.imm (Imm.con _)) (.cons (Sub.imm (Imm.con _)) .nil))))) (.cons rfl (ObSub.box (.cons (Sub.imm (Imm.con _)) (.cons (Sub.own rfl rfl) (.cons (Sub.imm (Imm.lst _ _)) (.cons (Sub.imm (Imm.con _)) .nil))))) (.cons rfl (ObSub.rows (rows_imm imms_encTRelease)) .nil))))) rfl)⟩
        replace h := ite_f hb27 h
        replace h := bind_some h
        obtain ⟨x31, hx32, h⟩ := h
        refine awp_any [OD.mk [(3, (V.ptr 0 4 0 0))] [] [(72, (V.ptr 0 4 0 1))] [],
              OD.mk [(72, (V.ptr 0 4 0 1))] [(0, (Ob.arr 52 4 [(encTStory a2)]))] [(73, (V.lst 3 (a2.Releases.map encTRelease)))] [],
              OD.mk [(73, (V.lst 3 (a2.Releases.map encTRelease)))] [] [(74, (iV ((a2.Releases.length : Nat) : Int)))] [],
              OD.mk [(74, (iV ((a2.Releases.length : Nat) : Int)))] [] [(75, (bV (((a2.Releases.length : Nat) : Int) == 0)))] [],
              OD.mk [(75, (bV (((a2.Releases.length : Nat) : Int) == 0)))] [] [(76, (bV (((a2.Releases.length : Nat) : Int) == 0)))] [],
              OD.mk [(76, (bV (((a2.Releases.length : Nat) : Int) == 0))), (12, (V.ptr 4 3 0 0))] [] [(77, (V.ptr 4 3 0 1))] [],
              OD.mk [(76, (bV (((a2.Releases.length : Nat) : Int) == 0))), (77, (V.ptr 4 3 0 1))] [(4, (Ob.arr 42 3 [(encTRelease x25)]))] [(78, (iV x25.Day))] [],
              OD.mk [(76, (bV (((a2.Releases.length : Nat) : Int) == 0))), (3, (V.ptr 0 4 0 0))] [] [(79, (V.ptr 0 4 0 1))] [],
              OD.mk [(76, (bV (((a2.Releases.length : Nat) : Int) == 0))), (79, (V.ptr 0 4 0 1))] [(0, (Ob.arr 52 4 [(encTStory a2)]))] [(80, (V.lst 3 (a2.Releases.map encTRelease)))] [],
              OD.mk [(76, (bV (((a2.Releases.length : Nat) : Int) == 0))), (80, (V.lst 3 (a2.Releases.map encTRelease)))] [] [(81, (V.iptr (encTRelease x31) 0))] [],
              OD.mk [(76, (bV (((a2.Releases.length : Nat) : Int) == 0))), (81, (V.iptr (encTRelease x31) 0))] [] [(82, (V.iptr (encTRelease x31) 1))] [],
              OD.mk [(76, (bV (((a2.Releases.length : Nat) : Int) == 0))), (82, (V.iptr (encTRelease x31) 1))] [] [(83, (iV x31.Day))] [],
              OD.mk [(76, (bV (((a2.Releases.length : Nat) : Int) == 0))), (78, (iV x25.Day)), (83, (iV x31.Day))] [] [(84, (bV (decide (x25.Day < x31.Day))))] [],
              OD.mk [(76, (bV (((a2.Releases.length : Nat) : Int) == 0))), (84, (bV (decide (x25.Day < x31.Day))))] [] [(85, (bV (decide (x25.Day < x31.Day))))] []] mixed ⟨⟨rfl, trivial⟩, trivial, ⟨⟨rfl, trivial⟩, ⟨rfl, trivial⟩, ⟨⟨rfl, trivial⟩, trivial, ⟨⟨rfl, trivial⟩, trivial, ⟨⟨rfl, trivial⟩, trivial, ⟨⟨rfl, rfl, trivial⟩, trivial, ⟨⟨rfl, rfl, trivial⟩, ⟨rfl, trivial⟩, ⟨⟨rfl, rfl, trivial⟩, trivial, ⟨⟨rfl, rfl, trivial⟩, ⟨rfl, trivial⟩, ⟨⟨rfl, rfl, trivial⟩, trivial, ⟨⟨rfl, rfl, trivial⟩, trivial, ⟨⟨rfl, rfl, trivial⟩, trivial, ⟨⟨rfl, rfl, rfl, trivial⟩, trivial, ⟨⟨rfl, rfl, trivial⟩, trivial, trivial⟩⟩⟩⟩⟩⟩⟩⟩⟩⟩⟩⟩⟩⟩ (by kernel_rfl) (.cons (fun S hn h hh => aops_fieldAddr tF52_1 wants_none h.1 rfl (an ⟨rfl, rfl⟩)) (.cons (fun S hn h hh => aops_load_cell (V.lst 3 (a2.Releases.map encTRelease)) tC49 wants_none h.1 hh.1 rfl rfl rfl (an ⟨rfl, rfl⟩)) (.cons (fun S hn h hh => aops_len (n := a2.Releases.length) tIsSl49 wants_none h.1 (congrArg some (List.length_map ..)) rfl (an ⟨rfl, rfl⟩)) (.cons (fun S hn h hh => aops_bin (.bool (((a2.Releases.length : Nat) : Int) == 0)) wants_none h.1 rfl rfl rfl (an ⟨rfl, rfl⟩)) (.cons (fun S hn h hh => aops_move (bV (((a2.Releases.length : Nat) : Int) == 0)) wants_none h.1 rfl (an ⟨rfl, rfl⟩)) (.cons (fun S hn h hh => aops_fieldAddr tF42_1 (wants_some (c := (((a2.Releases.length : Nat) : Int) == 0)) (b := false) 76 rfl h.1 hb27) h.2.1 rfl (an ⟨rfl, rfl⟩)) (.cons (fun S hn h hh => aops_load_cell (iV x25.Day) tC3 (wants_some (c := (((a2.Releases.length : Nat) : Int) == 0)) (b := false) 76 rfl h.1 hb27) h.2.1 hh.1 rfl rfl rfl (an ⟨rfl, rfl⟩)) (.cons (fun S hn h hh => aops_fieldAddr tF52_1 (wants_some (c := (((a2.Releases.length : Nat) : Int) == 0)) (b := false) 76 rfl h.1 hb27) h.2.1 rfl (an ⟨rfl, rfl⟩)) (.cons (fun S hn h hh => aops_load_cell (V.lst 3 (a2.Releases.map encTRelease)) tC49 (wants_some (c := (((a2.Releases.length : Nat) : Int) == 0)) (b := false) 76 rfl h.1 hb27) h.2.1 hh.1 rfl rfl rfl (an ⟨rfl, rfl⟩)) (.cons (fun S hn h hh => aops_index_lst (encTRelease x31) tSl49 (wants_some (c := (((a2.Releases.length : Nat) : Int) == 0)) (b := false) 76 rfl h.1 hb27) h.2.1 rfl (idx_some hx32).1 (idx_map encTRelease hx32) rfl (an ⟨rfl, rfl⟩)) (.cons (fun S hn h hh => aops_ifieldAddr tF42_1 (wants_some (c := (((a2.Releases.length : Nat) : Int) == 0)) (b := false) 76 rfl h.1 hb27) h.2.1 rfl (an ⟨rfl, rfl⟩)) (.cons (fun S hn h hh => aops_iload_cell (iV x31.Day) tC3 (wants_some (c := (((a2.Releases.length : Nat) : Int) == 0)) (b := false) 76 rfl h.1 hb27) h.2.1 rfl rfl (an ⟨rfl, rfl⟩)) (.cons (fun S hn h hh => aops_bin (.bool (decide (x25.Day < x31.Day))) (wants_some (c := (((a2.Releases.length : Nat) : Int) == 0)) (b := false) 76 rfl h.1 hb27) h.2.1 h.2.2.1 rfl rfl (an ⟨rfl, rfl⟩)) (.cons (fun S hn h hh => aops_pick false (cb := (((a2.Releases.length : Nat) : Int) == 0)) (bV (decide (x25.Day < x31.Day))) wants_none h.1 hb27 h.2.1 rfl (an ⟨rfl, rfl⟩)) .nil)))))))))))))) ?_
        replace h := jn_elim h
        obtain ⟨k33, hk33, h⟩ := h
        refine awp_cut (fun (p : (List TRelease)) => (⟨[(3, (V.ptr 0 4 0 0)), (4, (V.ptr 1 4 0 0)), (10, (V.ptr 2 4 0 0)), (66, (V.lst 3 (a1.Releases.map encTRelease))), (67, (iV ((a1.Releases.length : Nat) : Int))), (68, (iV n20)), (77, (V.ptr 3 3 0 1)), (78, (iV x25.Day)), (79, (V.ptr 0 4 0 1)), (80, (V.lst 3 (a2.Releases.map encTRelease))), (81, (V.iptr (encTRelease x31) 0)), (82, (V.iptr (encTRelease x31) 1)), (83, (iV x31.Day)), (84, (bV (decide (x25.Day < x31.Day))))], [(0, (Ob.arr 52 4 [(encTStory a2)])), (1, (Ob.arr 52 4 [[(sV ([] : List UInt8)), nV, nV, (iV 0)]])), (2, (Ob.arr 52 4 [[(sV a1.Product), (V.own 4 p.length), (V.lst 3 ((y13.1).map encTPublished)), (iV a2.Until)]])), (3, (Ob.arr 42 3 [(encTRelease x25)])), (4, (Ob.arr 42 3 (p.map encTRelease)))], 5⟩ : St)) (fun (p : (List TRelease)) => k33 p = some r) ?_ ?_
        · clear hk33
          refine awp_cond (decide (x25.Day < x31.Day)) rfl (fun hb35 => ?_) (fun hb35 => ?_)
          · replace h := ite_t hb35 h
            replace h := bind_some h
            obtain ⟨y36, hx37, h⟩ := h
            replace h := chk_some h
            obtain ⟨hc38, h⟩ := h
            refine awp_ghost ghost_res ?_
            refine awp_any [OD.mk [(10, (V.ptr 2 4 0 0))] [] [(86, (V.ptr 2 4 0 1))] [],
                  OD.mk [(86, (V.ptr 2 4 0 1))] [(2, (Ob.arr 52 4 [[(sV a1.Product), (V.own 3 l21.length), (V.lst 3 ((y13.1).map encTPublished)), (iV a2.Until)]]))] [(87, (V.own 3 l21.length))] [],
                  OD.mk [(12, (V.ptr 4 3 0 0))] [(4, (Ob.arr 42 3 [(encTRelease x25)]))] [(88, (V.agg (encTRelease x25)))] [],
                  OD.mk [(88, (V.agg (encTRelease x25)))] [] [(89, (V.agg (encTRelease y36)))] [],
                  OD.mk [(89, (V.agg (encTRelease y36)))] [] [(90, (V.lst 3 (([y36] : List TRelease).map encTRelease)))] [],
                  OD.mk [(87, (V.own 3 l21.length)), (90, (V.lst 3 (([y36] : List TRelease).map encTRelease)))] [(3, (Ob.arr 42 3 (l21.map encTRelease))), (5, Ob.res)] [(91, (V.own 5 (l21 ++ ([y36] : List TRelease)).length))] [(5, (Ob.arr 42 3 ((l21 ++ ([y36] : List TRelease)).map encTRelease))), (3, Ob.dead)],
                  OD.mk [(10, (V.ptr 2 4 0 0))] [] [(92, (V.ptr 2 4 0 1))] [],
                  OD.mk [(92, (V.ptr 2 4 0 1)), (91, (V.own 5 (l21 ++ ([y36] : List TRelease)).length))] [(2, (Ob.arr 52 4 [[(sV a1.Product), (V.own 3 l21.length), (V.lst 3 ((y13.1).map encTPublished)), (iV a2.Until)]]))] [] [(2, (Ob.arr 52 4 [[(sV a1.Product), (V.own 5 (l21 ++ ([y36] : List TRelease)).length), (V.lst 3 ((y13.1).map encTPublished)), (iV a2.Until)]]))]] mixed ⟨⟨rfl, trivial⟩, trivial, ⟨⟨rfl, trivial⟩, ⟨rfl, trivial⟩, ⟨⟨rfl, trivial⟩, ⟨rfl, trivial⟩, ⟨⟨rfl, trivial⟩, trivial, ⟨⟨rfl, trivial⟩, trivial, ⟨⟨rfl, rfl, trivial⟩, ⟨rfl, rfl, trivial⟩, ⟨⟨rfl, trivial⟩, trivial, ⟨⟨rfl, rfl, trivial⟩, ⟨rfl, trivial⟩, trivial⟩⟩⟩⟩⟩⟩⟩⟩ (by kernel_rfl) (.cons (fun S hn h hh => aops_fieldAddr tF52_1 wants_none h.1 rfl (an ⟨rfl, rfl⟩)) (.cons (fun S hn h hh => aops_load_cell (V.own 3 l21.length) tC49 wants_none h.1 hh.1 rfl rfl rfl (an ⟨rfl, rfl⟩)) (.cons (fun S hn h hh => aops_load_agg (cs := (encTRelease x25)) tA42 wants_none h.1 hh.1 rfl rfl rfl rfl (an ⟨rfl, rfl⟩)) (.cons (fun S hn h hh => aops_call (V.agg (encTRelease y36)) [(V.agg (encTRelease x25))] fOk88 wants_none (evm_cons h.1 evm_nil) (.cons (Imm.agg (imms_encTRelease _)) .nil) (W88 F x25 y36 hx37) rfl (an ⟨rfl, rfl⟩)) (.cons (fun S hn h hh => aops_buildSlice_imm [(0, (V.agg (encTRelease y36)))] [(encTRelease y36)] tEl49 tZ42 wants_none rfl rfl rfl rfl (evp_cons h.1 evp_nil) rfl rfl (by simp) (imms_rows (.cons (imms_encTRelease _) .nil)) rfl (an ⟨rfl, rfl⟩)) (.cons (fun S hn h hh => aops_append_at 5 rfl hn hh.2.1 (([y36] : List TRelease).map encTRelease) ((l21 ++ ([y36] : List TRelease)).map encTRelease) tEl49 tIsSl49 rfl rfl wants_none h.1 hh.1 (by simp) h.2.1 (.lst (rows_one one_encTRelease)) (map_snoc encTRelease l21 ([y36] : List TRelease)) (List.length_map ..) hc38 rfl (an ⟨rfl, rfl⟩)) (.cons (fun S hn h hh => aops_fieldAddr tF52_1 wants_none h.1 rfl (an ⟨rfl, rfl⟩)) (.cons (fun S hn h hh => aops_store [(V.own 5 (l21 ++ ([y36] : List TRelease)).length)] [[(sV a1.Product), (V.own 5 (l21 ++ ([y36] : List TRelease)).length), (V.lst 3 ((y13.1).map encTPublished)), (iV a2.Until)]] tS49 wants_none h.1 h.2.1 rfl rfl hh.1 rfl rfl rfl (an ⟨rfl, rfl⟩)) .nil)))))))) ?_
            exact ⟨(l21 ++ ([y36] : List TRelease)), h, (ghost_ren 5 (fun i => ([0, 1, 2, 4, 5] : List Nat).getD i 0) _ _ (by decide) (EnvSub.get (.cons (Sub.ptr rfl rfl) (.cons (Sub.ptr rfl rfl) (.cons (Sub.ptr rfl rfl) (.cons (Sub.imm (Imm.lst _ _)) (.cons (Sub.imm (Imm.con _)) (.cons (Sub.imm (Imm.con _)) (.cons (Sub.ptr rfl rfl) (.cons (Sub.imm (Imm.con _)) (.cons (Sub.ptr rfl rfl) (.cons (Sub.imm (Imm.lst _ _)) (.cons (Sub.imm (Imm.iptr _ _)) (.cons (Sub.imm (Imm.iptr _ _)) (.cons (Sub.imm (Imm.con _)) (.cons (Sub.imm (Imm.con _)) .nil))))))))))))))) (HpSub.get (.cons rfl (ObSub.box (.cons (Sub.imm (Imm.con _)) (.cons (Sub.imm (Imm.lst _ _)) (.cons (Sub.imm (Imm.lst _ _)) (.cons (Sub.imm (Imm.con _)) .nil))))) (.cons rfl (ObSub.box (.cons (Sub.imm (Imm.con _)) (.cons (Sub.imm (Imm.con _)) (.cons (Sub.imm (Imm.con _)) (.cons (Sub.imm (Imm.con _)) .nil))))) (.cons rfl (ObSub.box (.cons (Sub.imm (Imm.con _)) (.cons (Sub.own rfl rfl) (.cons (Sub.imm (Imm.lst _ _)) (.cons (Sub.imm (Imm.con _)) .nil))))) (.cons rfl (ObSub.box (.cons (Sub.imm (Imm.con _)) (.cons (Sub.imm (Imm.con _)) (.cons (Sub.imm (Imm.lst _ _)) .nil)))) (.cons rfl (ObSub.rows (rows_imm imms_encTRelease)) .nil)))))) rfl)⟩
          replace h := ite_f hb35 h
          refine awp_skip ?_
          exact ⟨l21, h, (ghost_ren 5 (fun i => ([0, 1, 2, 4, 3] : List Nat).getD i 0) _ _ (by decide) (EnvSub.get (.cons (Sub.ptr rfl rfl) (.cons (Sub.ptr rfl rfl) (.cons (Sub.ptr rfl rfl) (.cons (Sub.imm (Imm.lst _ _)) (.cons (Sub.imm (Imm.con _)) (.cons (Sub.imm (Imm.con _)) (.cons (Sub.ptr rfl rfl) (.cons (Sub.imm (Imm.con _)) (.cons (Sub.ptr rfl rfl) (.cons (Sub.imm (Imm.lst _ _)) (.cons (Sub.imm (Imm.iptr _ _)) (.cons (Sub.imm (Imm.iptr _ _)) (.cons (Sub.imm (Imm.con _)) (.cons (Sub.imm (Imm.con _)) .nil))))))))))))))) (HpSub.get (.cons rfl (ObSub.box (.cons (Sub.imm (Imm.con _)) (.cons (Sub.imm (Imm.lst _ _)) (.cons (Sub.imm (Imm.lst _ _)) (.cons (Sub.imm (Imm.con _)) .nil))))) (.cons rfl (ObSub.box (.cons (Sub.imm (Imm.con _)) (.cons (Sub.imm (Imm.con _)) (.cons (Sub.imm (Imm.con _)) (.cons (Sub.imm (Imm.con _)) .nil))))) (.cons rfl (ObSub.box (.cons (Sub.imm (Imm.con _)) (.cons (Sub.own rfl rfl) (.cons (Sub.imm (Imm.lst _ _)) (.cons (Sub.imm (Imm.con _)) .nil))))) (.cons rfl (ObSub.box (.cons (Sub.imm (Imm.con _)) (.cons (Sub.imm (Imm.con _)) (.cons (Sub.imm (Imm.lst _ _)) .nil)))) (.cons rfl (ObSub.rows (rows_imm imms_encTRelease)) .nil)))))) rfl)⟩
        clear h
        intro l34 h
        subst hk33
        exact ⟨l34, h, (ghost_ren 4 (fun i => ([0, 1, 2, 4] : List Nat).getD i 0) _ _ (by decide) (EnvSub.get (.cons (Sub.ptr rfl rfl) (.cons (Sub.ptr rfl rfl) (.cons (Sub.ptr rfl rfl) (.cons (Sub.imm (Imm.lst _ _)) (.cons (Sub.imm (Imm.con _)) (.cons (Sub.imm (Imm.con _)) .nil))))))) (HpSub.get (.cons rfl (ObSub.box (.cons (Sub.imm (Imm.con _)) (.cons (Sub.imm (Imm.lst _ _)) (.cons (Sub.imm (Imm.lst _ _)) (.cons (Sub.imm (Imm.con _)) .nil))))) (.cons rfl (ObSub.box (.cons (Sub.imm (Imm.con _)) (.cons (Sub.imm (Imm.con _)) (.cons (Sub.imm (Imm.con _)) (.cons (Sub.imm (Imm.con _)) .nil))))) (.cons rfl (ObSub.box (.cons (Sub.imm (Imm.con _)) (.cons (Sub.own rfl rfl) (.cons (Sub.imm (Imm.lst _ _)) (.cons (Sub.imm (Imm.con _)) .nil))))) (.cons rfl (ObSub.rows (rows_imm imms_encTRelease)) .nil))))) rfl)⟩
      clear h
      intro l24 h
      subst hk23
      refine rg ?_
      refine aops_bin (.int .i64 (w64 (n20 + 1))) wants_none rfl rfl rfl rfl ?_
      refine am (iV (w64 (n20 + 1))) rfl rfl ?_
      refine an ?_
      exact awp_back (ih1 ((w64 (n20 + 1)), l24) (hk1 _ h)) (ghost_ren 4 (fun i => ([0, 1, 2, 3] : List Nat).getD i 0) _ _ (by decide) (EnvSub.get (.cons (Sub.ptr rfl rfl) (.cons (Sub.ptr rfl rfl) (.cons (Sub.ptr rfl rfl) (.cons (Sub.imm (Imm.lst _ _)) (.cons (Sub.imm (Imm.con _)) (.cons (Sub.imm (Imm.con _)) .nil))))))) (HpSub.get (.cons rfl (ObSub.box (.cons (Sub.imm (Imm.con _)) (.cons (Sub.imm (Imm.lst _ _)) (.cons (Sub.imm (Imm.lst _ _)) (.cons (Sub.imm (Imm.con _)) .nil))))) (.cons rfl (ObSub.box (.cons (Sub.imm (Imm.con _)) (.cons (Sub.imm (Imm.con _)) (.cons (Sub.imm (Imm.con _)) (.cons (Sub.imm (Imm.con _)) .nil))))) (.cons rfl (ObSub.box (.cons (Sub.imm (Imm.con _)) (.cons (Sub.own rfl rfl) (.cons (Sub.imm (Imm.lst _ _)) (.cons (Sub.imm (Imm.con _)) .nil))))) (.cons rfl (ObSub.rows (rows_imm imms_encTRelease)) .nil))))) rfl)
    replace h := RG.f h hb22
    unfold M47_L1 at h
    refine awp_exit ?_
    exact ⟨l21, h, (ghost_ren 4 (fun i => ([0, 1, 2, 3] : List Nat).getD i 0) _ _ (by decide) (EnvSub.get (.cons (Sub.ptr rfl rfl) (.cons (Sub.ptr rfl rfl) (.cons (Sub.ptr rfl rfl) .nil)))) (HpSub.get (.cons rfl (ObSub.box (.cons (Sub.imm (Imm.con _)) (.cons (Sub.imm (Imm.lst _ _)) (.cons (Sub.imm (Imm.lst _ _)) (.cons (Sub.imm (Imm.con _)) .nil))))) (.cons rfl (ObSub.box (.cons (Sub.imm (Imm.con _)) (.cons (Sub.imm (Imm.con _)) (.cons (Sub.imm (Imm.con _)) (.cons (Sub.imm (Imm.con _)) .nil))))) (.cons rfl (ObSub.box (.cons (Sub.imm (Imm.con _)) (.cons (Sub.own rfl rfl) (.cons (Sub.imm (Imm.lst _ _)) (.cons (Sub.imm (Imm.con _)) .nil))))) (.cons rfl (ObSub.rows (rows_imm imms_encTRelease)) .nil))))) rfl)⟩
  clear h
  intro l17 h
  subst hk16
  refine sq ?_
  refine sr ?_
  refine aops_fieldAddr tF52_1 wants_none rfl rfl ?_
  refine aops_load_cell (V.lst 3 (a2.Releases.map encTRelease)) tC49 wants_none rfl rfl rfl rfl rfl ?_
  refine aops_len (n := a2.Releases.length) tIsSl49 wants_none rfl (congrArg some (List.length_map ..)) rfl ?_
  refine am (iV 0) rfl rfl ?_
  refine an ?_
  replace h := jn_elim h
  obtain ⟨k40, hk40, h⟩ := h
  refine awp_cut (fun (p : (List TRelease)) => (⟨[(4, (V.ptr 0 4 0 0)), (10, (V.ptr 1 4 0 0))], [(0, (Ob.arr 52 4 [[(sV ([] : List UInt8)), nV, nV, (iV 0)]])), (1, (Ob.arr 52 4 [[(sV a1.Product), (V.own 2 p.length), (V.lst 3 ((y13.1).map encTPublished)), (iV a2.Until)]])), (2, (Ob.arr 42 3 (p.map encTRelease)))], 3⟩ : St)) (fun (p : (List TRelease)) => k40 p = some r) ?_ ?_
  · clear hk40
    refine awp_block ?_
    refine awp_len (A := a2.Releases) 95 rfl (fun hA55 => ?_)
    refine awp_loop_ind (fun (p : Int × (List TRelease)) => (⟨[(4, (V.ptr 0 4 0 0)), (10, (V.ptr 1 4 0 0)), (95, (V.lst 3 (a2.Releases.map encTRelease))), (96, (iV ((a2.Releases.length : Nat) : Int))), (97, (iV (p.1)))], [(0, (Ob.arr 52 4 [[(sV ([] : List UInt8)), nV, nV, (iV 0)]])), (1, (Ob.arr 52 4 [[(sV a1.Product), (V.own 2 (p.2).length), (V.lst 3 ((y13.1).map encTPublished)), (iV a2.Until)]])), (2, (Ob.arr 42 3 ((p.2).map encTRelease)))], 3⟩ : St)) (fun n (p : Int × (List TRelease)) => RG a2.Releases (fun tl nn => M47_L2 F k40 tl p.2 = some r) n p.1) (fun p h => RG.zero h) (fun n ih2 p h => ?_) (a2.Releases.length + 1) (0, l17) (RG.start h) (ghost_ren 3 (fun i => ([1, 2, 3] : List Nat).getD i 0) _ _ (by decide) (EnvSub.get (.cons (Sub.ptr rfl rfl) (.cons (Sub.ptr rfl rfl) (.cons (Sub.imm (Imm.lst _ _)) (.cons (Sub.imm (Imm.con _)) (.cons (Sub.imm (Imm.con _)) .nil)))))) (HpSub.get (.cons rfl (ObSub.box (.cons (Sub.imm (Imm.con _)) (.cons (Sub.imm (Imm.con _)) (.cons (Sub.imm (Imm.con _)) (.cons (Sub.imm (Imm.con _)) .nil))))) (.cons rfl (ObSub.box (.cons (Sub.imm (Imm.con _)) (.cons (Sub.own rfl rfl) (.cons (Sub.imm (Imm.lst _ _)) (.cons (Sub.imm (Imm.con _)) .nil))))) (.cons rfl (ObSub.rows (rows_imm imms_encTRelease)) .nil)))) rfl)
    obtain ⟨n44, l45⟩ := p
    refine awp_loop ?_
    refine sr ?_
    refine aops_bin (.bool (decide (n44 < ((a2.Releases.length : Nat) : Int)))) wants_none rfl rfl rfl rfl ?_
    refine an ?_
    refine sq ?_
    refine awp_cond (decide (n44 < ((a2.Releases.length : Nat) : Int))) rfl (fun hb46 => ?_) (fun hb46 => ?_)
    · obtain ⟨x47, tl, hx48, h, hk2⟩ := RG.t hA55 h hb46
      unfold M47_L2 at h
      refine awp_skip ?_
      refine sq ?_
      refine awp_block ?_
      refine sr ?_
      refine aops_index_lst (encTRelease x47) tSl49 wants_none rfl rfl (idx_some hx48).1 (idx_map encTRelease hx48) rfl ?_
      refine aops_iload_agg (cs := (encTRelease x47)) tA42 wants_none rfl rfl rfl rfl ?_
      refine aops_alloc tZ42 rfl rfl wants_none rfl ?_
      refine aops_store (encTRelease x47) [(encTRelease x47)] tS42 wants_none rfl rfl rfl rfl rfl rfl rfl rfl ?_
      refine an ?_
      refine sq ?_
      refine sr ?_
      refine aops_fieldAddr tF52_1 wants_none rfl rfl ?_
      refine aops_load_cell (V.own 2 l45.length) tC49 wants_none rfl rfl rfl rfl rfl ?_
      refine aops_makeFunc [(V.ptr 3 3 0 0)] wants_none (evm_cons rfl evm_nil) rfl ?_
      replace h := bind_some h
      obtain ⟨y49, hx50, h⟩ := h
      refine aops_lend_call (bV y49) [(V.lst 3 (l45.map encTRelease)), (V.fn (.func 104) [] [(V.iptr (encTRelease x47) 0)])] fOk103 (Ghost.trans (ghost_frzE 2 102 rfl (rows_imm imms_encTRelease) rfl (List.length_map ..).symm) (ghost_frzV 3 103 (V.fn (.func 104) [] [(V.iptr (encTRelease x47) 0)]) rfl (imms_rows (.cons (imms_encTRelease _) .nil)) rfl (Sub.fnc (.cons (Sub.frzptr rfl) .nil)))) (Flat.con _) wants_none (evm_cons rfl (evm_cons rfl evm_nil)) (.cons (Imm.lst _ _) (.cons (Imm.fn .nil (.cons (Imm.iptr _ _) .nil)) .nil)) (W103 F l45 x47.Version x47.Day x47.Exposures y49 hx50) rfl ?_
      refine an ?_
      refine awp_cond y49 rfl (fun hb51 => ?_) (fun hb51 => ?_)
      · replace h := ite_t hb51 h
        refine sr ?_
        refine aops_build [] [(sV ([] : List UInt8)), nV, nV, (iV 0)] tZ52 tPl52 rfl wants_none evp_nil rfl rfl ?_
        refine aops_store [(sV ([] : List UInt8)), nV, nV, (iV 0)] [[(sV ([] : List UInt8)), nV, nV, (iV 0)]] tS52 wants_none rfl rfl rfl rfl rfl rfl rfl rfl ?_
        refine aa (iV 5) rfl rfl ?_
        refine an ?_
        refine awp_ghost (ghost_tellC 0 (Ob.arr 52 4 [[(sV ([] : List UInt8)), (V.lst 3 (([] : List TRelease).map encTRelease)), (V.lst 3 (([] : List TPublished).map encTPublished)), (iV 0)]]) rfl (ObSub.box (.cons Sub.keepI (.cons (Sub.nil _) (.cons (Sub.nil _) (.cons Sub.keepI .nil)))))) ?_
        refine awp_ret ?_
        replace h := Option.some.inj h
        subst h
        exact ⟨.inl rfl, .two (.agg tA52 rfl rfl rfl rfl rfl (.cons (Imm.con _) (.cons (Imm.lst _ _) (.cons (Imm.lst _ _) (.cons (Imm.con _) .nil))))) (.tmp rfl (Imm.con _))⟩
      replace h := ite_f hb51 h
      refine awp_skip ?_
      replace h := bind_some h
      obtain ⟨y52, hx53, h⟩ := h
      replace h := chk_some h
      obtain ⟨hc54, h⟩ := h
      refine awp_ghost ghost_res ?_
      refine awp_any [OD.mk [(10, (V.ptr 1 4 0 0))] [] [(106, (V.ptr 1 4 0 1))] [],
            OD.mk [(106, (V.ptr 1 4 0 1))] [(1, (Ob.arr 52 4 [[(sV a1.Product), (V.own 2 l45.length), (V.lst 3 ((y13.1).map encTPublished)), (iV a2.Until)]]))] [(107, (V.own 2 l45.length))] [],
            OD.mk [(14, (V.ptr 3 3 0 0))] [(3, (Ob.arr 42 3 [(encTRelease x47)]))] [(108, (V.agg (encTRelease x47)))] [],
            OD.mk [(108, (V.agg (encTRelease x47)))] [] [(109, (V.agg (encTRelease y52)))] [],
            OD.mk [(109, (V.agg (encTRelease y52)))] [] [(110, (V.lst 3 (([y52] : List TRelease).map encTRelease)))] [],
            OD.mk [(107, (V.own 2 l45.length)), (110, (V.lst 3 (([y52] : List TRelease).map encTRelease)))] [(2, (Ob.arr 42 3 (l45.map encTRelease))), (4, Ob.res)] [(111, (V.own 4 (l45 ++ ([y52] : List TRelease)).length))] [(4, (Ob.arr 42 3 ((l45 ++ ([y52] : List TRelease)).map encTRelease))), (2, Ob.dead)],
            OD.mk [(10, (V.ptr 1 4 0 0))] [] [(112, (V.ptr 1 4 0 1))] [],
            OD.mk [(112, (V.ptr 1 4 0 1)), (111, (V.own 4 (l45 ++ ([y52] : List TRelease)).length))] [(1, (Ob.arr 52 4 [[(sV a1.Product), (V.own 2 l45.length), (V.lst 3 ((y13.1).map encTPublished)), (iV a2.Until)]]))] [] [(1, (Ob.arr 52 4 [[(sV a1.Product), (V.own 4 (l45 ++ ([y52] : List TRelease)).length), (V.lst 3 ((y13.1).map encTPublished)), (iV a2.Until)]]))]] mixed ⟨⟨rfl, trivial⟩, trivial, ⟨⟨rfl, trivial⟩, ⟨rfl, trivial⟩, ⟨⟨rfl, trivial⟩, ⟨rfl, trivial⟩, ⟨⟨rfl, trivial⟩, trivial, ⟨⟨rfl, trivial⟩, trivial, ⟨⟨rfl, rfl, trivial⟩, ⟨rfl, rfl, trivial⟩, ⟨⟨rfl, trivial⟩, trivial, ⟨⟨rfl, rfl, trivial⟩, ⟨rfl, trivial⟩, trivial⟩⟩⟩⟩⟩⟩⟩⟩ (by kernel_rfl) (.cons (fun S hn h hh => aops_fieldAddr tF52_1 wants_none h.1 rfl (an ⟨rfl, rfl⟩)) (.cons (fun S hn h hh => aops_load_cell (V.own 2 l45.length) tC49 wants_none h.1 hh.1 rfl rfl rfl (an ⟨rfl, rfl⟩)) (.cons (fun S hn h hh => aops_load_agg (cs := (encTRelease x47)) tA42 wants_none h.1 hh.1 rfl rfl rfl rfl (an ⟨rfl, rfl⟩)) (.cons (fun S hn h hh => aops_call (V.agg (encTRelease y52)) [(V.agg (encTRelease x47))] fOk88 wants_none (evm_cons h.1 evm_nil) (.cons (Imm.agg (imms_encTRelease _)) .nil) (W88 F x47 y52 hx53) rfl (an ⟨rfl, rfl⟩)) (.cons (fun S hn h hh => aops_buildSlice_imm [(0, (V.agg (encTRelease y52)))] [(encTRelease y52)] tEl49 tZ42 wants_none rfl rfl rfl rfl (evp_cons h.1 evp_nil) rfl rfl (by simp) (imms_rows (.cons (imms_encTRelease _) .nil)) rfl (an ⟨rfl, rfl⟩)) (.cons (fun S hn h hh => aops_append_at 4 rfl hn hh.2.1 (([y52] : List TRelease).map encTRelease) ((l45 ++ ([y52] : List TRelease)).map encTRelease) tEl49 tIsSl49 rfl rfl wants_none h.1 hh.1 (by simp) h.2.1 (.lst (rows_one one_encTRelease)) (map_snoc encTRelease l45 ([y52] : List TRelease)) (List.length_map ..) hc54 rfl (an ⟨rfl, rfl⟩)) (.cons (fun S hn h hh => aops_fieldAddr tF52_1 wants_none h.1 rfl (an ⟨rfl, rfl⟩)) (.cons (fun S hn h hh => aops_store [(V.own 4 (l45 ++ ([y52] : List TRelease)).length)] [[(sV a1.Product), (V.own 4 (l45 ++ ([y52] : List TRelease)).length), (V.lst 3 ((y13.1).map encTPublished)), (iV a2.Until)]] tS49 wants_none h.1 h.2.1 rfl rfl hh.1 rfl rfl rfl (an ⟨rfl, rfl⟩)) .nil)))))))) ?_
      refine rg ?_
      refine aops_bin (.int .i64 (w64 (n44 + 1))) wants_none rfl rfl rfl rfl ?_
      refine am (iV (w64 (n44 + 1))) rfl rfl ?_
      refine an ?_
      exact awp_back (ih2 ((w64 (n44 + 1)), (l45 ++ ([y52] : List TRelease))) (hk2 _ h)) (ghost_ren 3 (fun i => ([0, 1, 4] : List Nat).getD i 0) _ _ (by decide) (EnvSub.get (.cons (Sub.ptr rfl rfl) (.cons (Sub.ptr rfl rfl) (.cons (Sub.imm (Imm.lst _ _)) (.cons (Sub.imm (Imm.con _)) (.cons (Sub.imm (Imm.con _)) .nil)))))) (HpSub.get (.cons rfl (ObSub.box (.cons (Sub.imm (Imm.con _)) (.cons (Sub.imm (Imm.con _)) (.cons (Sub.imm (Imm.con _)) (.cons (Sub.imm (Imm.con _)) .nil))))) (.cons rfl (ObSub.box (.cons (Sub.imm (Imm.con _)) (.cons (Sub.own rfl rfl) (.cons (Sub.imm (Imm.lst _ _)) (.cons (Sub.imm (Imm.con _)) .nil))))) (.cons rfl (ObSub.rows (rows_imm imms_encTRelease)) .nil)))) rfl)
    replace h := RG.f h hb46
    unfold M47_L2 at h
    refine awp_exit ?_
    exact ⟨l45, h, (ghost_ren 3 (fun i => ([0, 1, 2] : List Nat).getD i 0) _ _ (by decide) (EnvSub.get (.cons (Sub.ptr rfl rfl) (.cons (Sub.ptr rfl rfl) .nil))) (HpSub.get (.cons rfl (ObSub.box (.cons (Sub.imm (Imm.con _)) (.cons (Sub.imm (Imm.con _)) (.cons (Sub.imm (Imm.con _)) (.cons (Sub.imm (Imm.con _)) .nil))))) (.cons rfl (ObSub.box (.cons (Sub.imm (Imm.con _)) (.cons (Sub.own rfl rfl) (.cons (Sub.imm (Imm.lst _ _)) (.cons (Sub.imm (Imm.con _)) .nil))))) (.cons rfl (ObSub.rows (rows_imm imms_encTRelease)) .nil)))) rfl)⟩
  clear h
  intro l41 h
  subst hk40
  refine sq ?_
  refine sr ?_
  refine aops_load_agg (cs := [(sV a1.Product), (V.own 2 l41.length), (V.lst 3 ((y13.1).map encTPublished)), (iV a2.Until)]) tA52 wants_none rfl rfl rfl rfl rfl rfl ?_
  replace h := bind_some h
  obtain ⟨y56, hx57, h⟩ := h
  refine aops_lend_call (iV y56) [(V.agg [(sV a1.Product), (V.lst 3 (l41.map encTRelease)), (V.lst 3 ((y13.1).map encTPublished)), (iV a2.Until)])] fOk35 (ghost_frzV 2 114 (V.agg [(sV a1.Product), (V.lst 3 (l41.map encTRelease)), (V.lst 3 ((y13.1).map encTPublished)), (iV a2.Until)]) rfl (rows_imm imms_encTRelease) rfl (Sub.agg (.cons Sub.keep (.cons (Sub.frzAll (rows := l41.map encTRelease) (List.length_map ..).symm) (.cons Sub.keep (.cons Sub.keep .nil)))))) (Flat.con _) wants_none (evm_cons rfl evm_nil) (.cons (Imm.agg (.cons (Imm.con _) (.cons (Imm.lst _ _) (.cons (Imm.lst _ _) (.cons (Imm.con _) .nil))))) .nil) (W35 F (TStory.mk a1.Product l41 (y13.1) a2.Until) y56 hx57) rfl ?_
  refine aa (iV y56) rfl rfl ?_
  refine an ?_
  refine sr ?_
  refine am (iV y56) rfl rfl ?_
  refine aops_bin (.bool (y56 != 0)) wants_none rfl rfl rfl rfl ?_
  refine an ?_
  refine awp_cond (y56 != 0) rfl (fun hb58 => ?_) (fun hb58 => ?_)
  · replace h := ite_t hb58 h
    refine sr ?_
    refine aops_build [] [(sV ([] : List UInt8)), nV, nV, (iV 0)] tZ52 tPl52 rfl wants_none evp_nil rfl rfl ?_
    refine am (iV y56) rfl rfl ?_
    refine aops_store [(sV ([] : List UInt8)), nV, nV, (iV 0)] [[(sV ([] : List UInt8)), nV, nV, (iV 0)]] tS52 wants_none rfl rfl rfl rfl rfl rfl rfl rfl ?_
    refine aa (iV y56) rfl rfl ?_
    refine an ?_
    refine awp_ghost (ghost_tellC 0 (Ob.arr 52 4 [[(sV ([] : List UInt8)), (V.lst 3 (([] : List TRelease).map encTRelease)), (V.lst 3 (([] : List TPublished).map encTPublished)), (iV 0)]]) rfl (ObSub.box (.cons Sub.keepI (.cons (Sub.nil _) (.cons (Sub.nil _) (.cons Sub.keepI .nil)))))) ?_
    refine awp_ret ?_
    replace h := Option.some.inj h
    subst h
    exact ⟨.inl rfl, .two (.agg tA52 rfl rfl rfl rfl rfl (.cons (Imm.con _) (.cons (Imm.lst _ _) (.cons (Imm.lst _ _) (.cons (Imm.con _) .nil))))) (.tmp rfl (Imm.con _))⟩
  replace h := ite_f hb58 h
  refine awp_skip ?_
  refine sr ?_
  refine aops_load_agg (cs := [(sV a1.Product), (V.own 2 l41.length), (V.lst 3 ((y13.1).map encTPublished)), (iV a2.Until)]) tA52 wants_none rfl rfl rfl rfl rfl rfl ?_
  refine aops_store [(sV a1.Product), (V.own 2 l41.length), (V.lst 3 ((y13.1).map encTPublished)), (iV a2.Until)] [[(sV a1.Product), (V.own 2 l41.length), (V.lst 3 ((y13.1).map encTPublished)), (iV a2.Until)]] tS52 wants_none rfl rfl rfl rfl rfl rfl rfl rfl ?_
  refine aa (iV 0) rfl rfl ?_
  refine an ?_
  refine awp_ghost (ghost_frzC 2 0 (Ob.arr 52 4 [[(sV a1.Product), (V.lst 3 (l41.map encTRelease)), (V.lst 3 ((y13.1).map encTPublished)), (iV a2.Until)]]) rfl (rows_imm imms_encTRelease) (ObSub.box (.cons Sub.keep (.cons (Sub.frzAll (rows := l41.map encTRelease) (List.length_map ..).symm) (.cons Sub.keep (.cons Sub.keep .nil)))))) ?_
  refine awp_ret ?_
  replace h := Option.some.inj h
  subst h
  exact ⟨.inl rfl, .two (.agg tA52 rfl rfl rfl rfl rfl (.cons (Imm.con _) (.cons (Imm.lst _ _) (.cons (Imm.lst _ _) (.cons (Imm.con _) .nil))))) (.tmp rfl (Imm.con _))⟩
end Go.Proofs.Ytkciogeafbbggaa
