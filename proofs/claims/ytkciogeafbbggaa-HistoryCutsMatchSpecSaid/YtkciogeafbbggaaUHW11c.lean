/- Part of the proof: HW11c. -/
import Derived.Test.YtkciogeafbbggaaUHM
import Derived.Test.YtkciogeafbbggaaUHW7a
import Derived.Test.YtkciogeafbbggaaUHW11b
import Derived.Test.YtkciogeafbbggaaUHW7b
import Derived.Test.YtkciogeafbbggaaUHW11a
import Derived.Test.YtkciogeafbbggaaUHW3a
import Derived.KernelRfl
namespace Go.Proofs.Ytkciogeafbbggaa
open Go Go.Pv
set_option linter.unusedVariables false
set_option maxRecDepth 100000
theorem W48 (F : Nat) (a1 : TStory) (a2 : TStory) (r : (TStory × Int)) (h : M48 F a1 a2 = some r) : Pure Try.prog 48 [(V.agg (encTStory a1)), (V.agg (encTStory a2))] (V.tup [(V.agg (encTStory (r.1))), (iV (r.2))]) := by
  refine pure_enter Try.func48 rfl rfl (l := [.cell 4 52, .tmp 5]) rfl rfl [(0, (V.agg (encTStory a1))), (1, (V.agg (encTStory a2)))] rfl (fun w0 m0 => ?_)
  unfold M48 at h
  refine sr ?_
  refine aops_box (encTStory a1) wants_none rfl rfl rfl rfl ?_
  refine aops_box (encTStory a2) wants_none rfl rfl rfl rfl ?_
  refine aops_alloc tZ52 rfl rfl wants_none rfl ?_
  refine aa (iV 0) rfl rfl ?_
  refine an ?_
  refine sq ?_
  refine sr ?_
  refine aops_load_agg (cs := (encTStory a1)) tA52 wants_none rfl rfl rfl rfl rfl rfl ?_
  refine aops_load_agg (cs := (encTStory a2)) tA52 wants_none rfl rfl rfl rfl rfl rfl ?_
  refine aops_buildSlice [(0, (V.agg (encTStory a1))), (1, (V.agg (encTStory a2)))] [(encTStory a1), (encTStory a2)] tEl147 tZ52 rfl rfl rfl rfl wants_none (evp_cons rfl (evp_cons rfl evp_nil)) rfl rfl (by simp) rfl ?_
  refine aops_len (n := 2) tIsSl147 wants_none rfl rfl rfl ?_
  refine am (iV 0) rfl rfl ?_
  refine an ?_
  replace h := jn_elim h
  obtain ⟨k3, hk3, h⟩ := h
  refine awp_cut (fun _ : Unit => (⟨[(2, (V.ptr 0 4 0 0)), (3, (V.ptr 1 4 0 0)), (4, (V.ptr 2 4 0 0))], [(0, (Ob.arr 52 4 [(encTStory a1)])), (1, (Ob.arr 52 4 [(encTStory a2)])), (2, (Ob.arr 52 4 [[(sV ([] : List UInt8)), nV, nV, (iV 0)]]))], 3⟩ : St)) (fun _ : Unit => k3 = some r) ?_ ?_
  · clear hk3
    refine awp_block ?_
    replace h := chk_some h
    obtain ⟨hA12, h⟩ := h
    refine awp_loop_ind (fun (p : Int) => (⟨[(2, (V.ptr 0 4 0 0)), (3, (V.ptr 1 4 0 0)), (4, (V.ptr 2 4 0 0)), (20, (V.own 3 ([a1, a2] : List TStory).length)), (21, (iV ((2 : Nat) : Int))), (22, (iV p))], [(0, (Ob.arr 52 4 [(encTStory a1)])), (1, (Ob.arr 52 4 [(encTStory a2)])), (2, (Ob.arr 52 4 [[(sV ([] : List UInt8)), nV, nV, (iV 0)]])), (3, (Ob.arr 52 4 (([a1, a2] : List TStory).map encTStory)))], 4⟩ : St)) (fun n (p : Int) => RC ((2 : Nat) : Int) (fun tl nn => M48_L1 F a1 a2 k3 tl nn = some r) n p) (fun p h => RC.zero h) (fun n ih1 p h => ?_) (Int.toNat ((2 : Nat) : Int) + 1) 0 (RC.start h) (ghost_ren 4 (fun i => ([0, 1, 2, 3] : List Nat).getD i 0) _ _ (by decide) (EnvSub.get (.cons (Sub.ptr rfl rfl) (.cons (Sub.ptr rfl rfl) (.cons (Sub.ptr rfl rfl) (.cons (Sub.ownE rfl rfl (by simp)) (.cons (Sub.imm (Imm.con _)) (.cons (Sub.imm (Imm.con _)) .nil))))))) (HpSub.get (.cons rfl (ObSub.box (.cons (Sub.imm (Imm.con _)) (.cons (Sub.imm (Imm.lst _ _)) (.cons (Sub.imm (Imm.lst _ _)) (.cons (Sub.imm (Imm.con _)) .nil))))) (.cons rfl (ObSub.box (.cons (Sub.imm (Imm.con _)) (.cons (Sub.imm (Imm.lst _ _)) (.cons (Sub.imm (Imm.lst _ _)) (.cons (Sub.imm (Imm.con _)) .nil))))) (.cons rfl (ObSub.box (.cons (Sub.imm (Imm.con _)) (.cons (Sub.imm (Imm.con _)) (.cons (Sub.imm (Imm.con _)) (.cons (Sub.imm (Imm.con _)) .nil))))) (.cons rfl (ObSub.rows (rows_imm imms_encTStory)) .nil))))) rfl)
    revert p
    intro n5 h
    refine awp_loop ?_
    refine sr ?_
    refine aops_bin (.bool (decide (n5 < ((2 : Nat) : Int)))) wants_none rfl rfl rfl rfl ?_
    refine an ?_
    refine sq ?_
    refine awp_cond (decide (n5 < ((2 : Nat) : Int))) rfl (fun hb6 => ?_) (fun hb6 => ?_)
    · obtain ⟨tl, h, hk1⟩ := RC.t hA12 h hb6
      unfold M48_L1 at h
      refine awp_skip ?_
      refine sq ?_
      refine awp_block ?_
      refine sr ?_
      replace h := bind_some h
      obtain ⟨x7, hx8, h⟩ := h
      refine aops_index_own tSl147 wants_none rfl rfl (idx_some hx8).1 (by simpa using idx_lt hx8) rfl ?_
      refine aops_load_agg (cs := (encTStory x7)) tA52 wants_none rfl rfl (idx_map encTStory hx8) rfl rfl rfl ?_
      refine aops_alloc tZ52 rfl rfl wants_none rfl ?_
      refine aops_store (encTStory x7) [(encTStory x7)] tS52 wants_none rfl rfl rfl rfl rfl rfl rfl rfl ?_
      refine an ?_
      refine sr ?_
      refine aops_load_agg (cs := (encTStory x7)) tA52 wants_none rfl rfl rfl rfl rfl rfl ?_
      replace h := bind_some h
      obtain ⟨y9, hx10, h⟩ := h
      refine aops_call (iV y9) [(V.agg (encTStory x7))] fOk36 wants_none (evm_cons rfl evm_nil) (.cons (Imm.agg (imms_encTStory _)) .nil) (W36 F x7 y9 hx10) rfl ?_
      refine aa (iV y9) rfl rfl ?_
      refine an ?_
      refine sr ?_
      refine am (iV y9) rfl rfl ?_
      refine aops_bin (.bool (y9 != 0)) wants_none rfl rfl rfl rfl ?_
      refine an ?_
      refine awp_cond (y9 != 0) rfl (fun hb11 => ?_) (fun hb11 => ?_)
      · replace h := ite_t hb11 h
        refine sr ?_
        refine aops_build [] [(sV ([] : List UInt8)), nV, nV, (iV 0)] tZ52 tPl52 rfl wants_none evp_nil rfl rfl ?_
        refine am (iV y9) rfl rfl ?_
        refine aops_store [(sV ([] : List UInt8)), nV, nV, (iV 0)] [[(sV ([] : List UInt8)), nV, nV, (iV 0)]] tS52 wants_none rfl rfl rfl rfl rfl rfl rfl rfl ?_
        refine aa (iV y9) rfl rfl ?_
        refine an ?_
        refine awp_ghost (ghost_tellC 2 (Ob.arr 52 4 [[(sV ([] : List UInt8)), (V.lst 3 (([] : List TRelease).map encTRelease)), (V.lst 3 (([] : List TPublished).map encTPublished)), (iV 0)]]) rfl (ObSub.box (.cons Sub.keepI (.cons (Sub.nil _) (.cons (Sub.nil _) (.cons Sub.keepI .nil)))))) ?_
        refine awp_ret ?_
        replace h := Option.some.inj h
        subst h
        exact ⟨.inl rfl, .two (.agg tA52 rfl rfl rfl rfl rfl (.cons (Imm.con _) (.cons (Imm.lst _ _) (.cons (Imm.lst _ _) (.cons (Imm.con _) .nil))))) (.tmp rfl (Imm.con _))⟩
      replace h := ite_f hb11 h
      refine awp_skip ?_
      refine rg ?_
      refine aops_bin (.int .i64 (w64 (n5 + 1))) wants_none rfl rfl rfl rfl ?_
      refine am (iV (w64 (n5 + 1))) rfl rfl ?_
      refine an ?_
      exact awp_back (ih1 (w64 (n5 + 1)) (hk1 _ h)) (ghost_ren 4 (fun i => ([0, 1, 2, 3] : List Nat).getD i 0) _ _ (by decide) (EnvSub.get (.cons (Sub.ptr rfl rfl) (.cons (Sub.ptr rfl rfl) (.cons (Sub.ptr rfl rfl) (.cons (Sub.own rfl rfl) (.cons (Sub.imm (Imm.con _)) (.cons (Sub.imm (Imm.con _)) .nil))))))) (HpSub.get (.cons rfl (ObSub.box (.cons (Sub.imm (Imm.con _)) (.cons (Sub.imm (Imm.lst _ _)) (.cons (Sub.imm (Imm.lst _ _)) (.cons (Sub.imm (Imm.con _)) .nil))))) (.cons rfl (ObSub.box (.cons (Sub.imm (Imm.con _)) (.cons (Sub.imm (Imm.lst _ _)) (.cons (Sub.imm (Imm.lst _ _)) (.cons (Sub.imm (Imm.con _)) .nil))))) (.cons rfl (ObSub.box (.cons (Sub.imm (Imm.con _)) (.cons (Sub.imm (Imm.con _)) (.cons (Sub.imm (Imm.con _)) (.cons (Sub.imm (Imm.con _)) .nil))))) (.cons rfl (ObSub.rows (rows_imm imms_encTStory)) .nil))))) rfl)
    replace h := RC.f h hb6
    unfold M48_L1 at h
    refine awp_exit ?_
    exact ⟨(), h, (ghost_ren 3 (fun i => ([0, 1, 2] : List Nat).getD i 0) _ _ (by decide) (EnvSub.get (.cons (Sub.ptr rfl rfl) (.cons (Sub.ptr rfl rfl) (.cons (Sub.ptr rfl rfl) .nil)))) (HpSub.get (.cons rfl (ObSub.box (.cons (Sub.imm (Imm.con _)) (.cons (Sub.imm (Imm.lst _ _)) (.cons (Sub.imm (Imm.lst _ _)) (.cons (Sub.imm (Imm.con _)) .nil))))) (.cons rfl (ObSub.box (.cons (Sub.imm (Imm.con _)) (.cons (Sub.imm (Imm.lst _ _)) (.cons (Sub.imm (Imm.lst _ _)) (.cons (Sub.imm (Imm.con _)) .nil))))) (.cons rfl (ObSub.box (.cons (Sub.imm (Imm.con _)) (.cons (Sub.imm (Imm.con _)) (.cons (Sub.imm (Imm.con _)) (.cons (Sub.imm (Imm.con _)) .nil))))) .nil)))) rfl)⟩
  clear h
  intro _ h
  subst hk3
  refine sq ?_
  refine sr ?_
  refine aops_fieldAddr tF52_0 wants_none rfl rfl ?_
  refine aops_load_cell (sV a1.Product) tC9 wants_none rfl rfl rfl rfl rfl ?_
  refine aops_fieldAddr tF52_0 wants_none rfl rfl ?_
  refine aops_load_cell (sV a2.Product) tC9 wants_none rfl rfl rfl rfl rfl ?_
  refine aops_binT (.bool (!(a1.Product == a2.Product))) wants_none rfl rfl rfl rfl ?_
  refine an ?_
  refine awp_cond (!(a1.Product == a2.Product)) rfl (fun hb13 => ?_) (fun hb13 => ?_)
  · replace h := ite_t hb13 h
    refine sr ?_
    refine aops_build [] [(sV ([] : List UInt8)), nV, nV, (iV 0)] tZ52 tPl52 rfl wants_none evp_nil rfl rfl ?_
    refine aops_store [(sV ([] : List UInt8)), nV, nV, (iV 0)] [[(sV ([] : List UInt8)), nV, nV, (iV 0)]] tS52 wants_none rfl rfl rfl rfl rfl rfl rfl rfl ?_
    refine aa (iV 8) rfl rfl ?_
    refine an ?_
    refine awp_ghost (ghost_tellC 2 (Ob.arr 52 4 [[(sV ([] : List UInt8)), (V.lst 3 (([] : List TRelease).map encTRelease)), (V.lst 3 (([] : List TPublished).map encTPublished)), (iV 0)]]) rfl (ObSub.box (.cons Sub.keepI (.cons (Sub.nil _) (.cons (Sub.nil _) (.cons Sub.keepI .nil)))))) ?_
    refine awp_ret ?_
    replace h := Option.some.inj h
    subst h
    exact ⟨.inl rfl, .two (.agg tA52 rfl rfl rfl rfl rfl (.cons (Imm.con _) (.cons (Imm.lst _ _) (.cons (Imm.lst _ _) (.cons (Imm.con _) .nil))))) (.tmp rfl (Imm.con _))⟩
  replace h := ite_f hb13 h
  refine awp_skip ?_
  refine sq ?_
  refine sr ?_
  refine aops_fieldAddr tF52_1 wants_none rfl rfl ?_
  refine aops_load_cell (V.lst 3 (a2.Releases.map encTRelease)) tC49 wants_none rfl rfl rfl rfl rfl ?_
  refine aops_len (n := a2.Releases.length) tIsSl49 wants_none rfl (congrArg some (List.length_map ..)) rfl ?_
  refine aops_bin (.bool (decide (((a2.Releases.length : Nat) : Int) > 0))) wants_none rfl rfl rfl rfl ?_
  refine am (bV (decide (((a2.Releases.length : Nat) : Int) > 0))) rfl rfl ?_
  refine bsp (decide (((a2.Releases.length : Nat) : Int) > 0)) (fun hb14 => ?_) (fun hb14 => ?_)
  · replace h := ite_t hb14 h
    refine aops_fieldAddr tF52_3 (wants_some (c := (decide (((a2.Releases.length : Nat) : Int) > 0))) (b := true) 43 rfl rfl hb14) rfl rfl ?_
    refine aops_load_cell (iV a2.Until) tC3 (wants_some (c := (decide (((a2.Releases.length : Nat) : Int) > 0))) (b := true) 43 rfl rfl hb14) rfl rfl rfl rfl rfl ?_
    refine aops_fieldAddr tF52_3 (wants_some (c := (decide (((a2.Releases.length : Nat) : Int) > 0))) (b := true) 43 rfl rfl hb14) rfl rfl ?_
    refine aops_load_cell (iV a1.Until) tC3 (wants_some (c := (decide (((a2.Releases.length : Nat) : Int) > 0))) (b := true) 43 rfl rfl hb14) rfl rfl rfl rfl rfl ?_
    refine aops_bin (.bool (decide (a2.Until < a1.Until))) (wants_some (c := (decide (((a2.Releases.length : Nat) : Int) > 0))) (b := true) 43 rfl rfl hb14) rfl rfl rfl rfl ?_
    refine aops_pick true (cb := (decide (((a2.Releases.length : Nat) : Int) > 0))) (bV (decide (a2.Until < a1.Until))) wants_none rfl hb14 rfl rfl ?_
    refine an ?_
    refine awp_cond (decide (a2.Until < a1.Until)) rfl (fun hb15 => ?_) (fun hb15 => ?_)
    · replace h := ite_t hb15 h
      refine sr ?_
      refine aops_build [] [(sV ([] : List UInt8)), nV, nV, (iV 0)] tZ52 tPl52 rfl wants_none evp_nil rfl rfl ?_
      refine aops_store [(sV ([] : List UInt8)), nV, nV, (iV 0)] [[(sV ([] : List UInt8)), nV, nV, (iV 0)]] tS52 wants_none rfl rfl rfl rfl rfl rfl rfl rfl ?_
      refine aa (iV 10) rfl rfl ?_
      refine an ?_
      refine awp_ghost (ghost_tellC 2 (Ob.arr 52 4 [[(sV ([] : List UInt8)), (V.lst 3 (([] : List TRelease).map encTRelease)), (V.lst 3 (([] : List TPublished).map encTPublished)), (iV 0)]]) rfl (ObSub.box (.cons Sub.keepI (.cons (Sub.nil _) (.cons (Sub.nil _) (.cons Sub.keepI .nil)))))) ?_
      refine awp_ret ?_
      replace h := Option.some.inj h
      subst h
      exact ⟨.inl rfl, .two (.agg tA52 rfl rfl rfl rfl rfl (.cons (Imm.con _) (.cons (Imm.lst _ _) (.cons (Imm.lst _ _) (.cons (Imm.con _) .nil))))) (.tmp rfl (Imm.con _))⟩
    replace h := ite_f hb15 h
    refine awp_skip ?_
    refine sr ?_
    refine aops_fieldAddr tF52_0 wants_none rfl rfl ?_
    refine aops_load_cell (sV a1.Product) tC9 wants_none rfl rfl rfl rfl rfl ?_
    refine aops_fieldAddr tF52_3 wants_none rfl rfl ?_
    refine aops_load_cell (iV a2.Until) tC3 wants_none rfl rfl rfl rfl rfl ?_
    refine aops_build [(0, (sV a1.Product)), (3, (iV a2.Until))] [(sV a1.Product), nV, nV, (iV a2.Until)] tZ52 tPl52 rfl wants_none (evp_cons rfl (evp_cons rfl evp_nil)) rfl rfl ?_
    refine aops_alloc tZ52 rfl rfl wants_none rfl ?_
    refine aops_store [(sV a1.Product), nV, nV, (iV a2.Until)] [[(sV a1.Product), nV, nV, (iV a2.Until)]] tS52 wants_none rfl rfl rfl rfl rfl rfl rfl rfl ?_
    refine an ?_
    refine sq ?_
    refine sr ?_
    refine aops_fieldAddr tF52_1 wants_none rfl rfl ?_
    refine aops_load_cell (V.lst 3 (a1.Releases.map encTRelease)) tC49 wants_none rfl rfl rfl rfl rfl ?_
    refine aops_len (n := a1.Releases.length) tIsSl49 wants_none rfl (congrArg some (List.length_map ..)) rfl ?_
    refine am (iV 0) rfl rfl ?_
    refine an ?_
    replace h := jn_elim h
    obtain ⟨k16, hk16, h⟩ := h
    refine awp_cut (fun (p : (List TRelease)) => (⟨[(2, (V.ptr 0 4 0 0)), (3, (V.ptr 1 4 0 0)), (4, (V.ptr 2 4 0 0)), (9, (V.ptr 3 4 0 0))], [(0, (Ob.arr 52 4 [(encTStory a1)])), (1, (Ob.arr 52 4 [(encTStory a2)])), (2, (Ob.arr 52 4 [[(sV ([] : List UInt8)), nV, nV, (iV 0)]])), (3, (Ob.arr 52 4 [[(sV a1.Product), (V.own 4 p.length), nV, (iV a2.Until)]])), (4, (Ob.arr 42 3 (p.map encTRelease)))], 5⟩ : St)) (fun (p : (List TRelease)) => k16 p = some r) ?_ ?_
    · clear hk16
      refine awp_block ?_
      refine awp_len (A := a1.Releases) 57 rfl (fun hA35 => ?_)
      refine awp_loop_ind (fun (p : Int × (List TRelease)) => (⟨[(2, (V.ptr 0 4 0 0)), (3, (V.ptr 1 4 0 0)), (4, (V.ptr 2 4 0 0)), (9, (V.ptr 3 4 0 0)), (57, (V.lst 3 (a1.Releases.map encTRelease))), (58, (iV ((a1.Releases.length : Nat) : Int))), (59, (iV (p.1)))], [(0, (Ob.arr 52 4 [(encTStory a1)])), (1, (Ob.arr 52 4 [(encTStory a2)])), (2, (Ob.arr 52 4 [[(sV ([] : List UInt8)), nV, nV, (iV 0)]])), (3, (Ob.arr 52 4 [[(sV a1.Product), (V.own 4 (p.2).length), nV, (iV a2.Until)]])), (4, (Ob.arr 42 3 ((p.2).map encTRelease)))], 5⟩ : St)) (fun n (p : Int × (List TRelease)) => RG a1.Releases (fun tl nn => M48_L2 F a2 k16 tl p.2 = some r) n p.1) (fun p h => RG.zero h) (fun n ih2 p h => ?_) (a1.Releases.length + 1) (0, ([] : List TRelease)) (RG.start h) (Ghost.trans (ghost_nilC 3 42 3 (Ob.arr 52 4 [[(sV a1.Product), (V.own 4 0), nV, (iV a2.Until)]]) (ObSub.box (.cons Sub.keepNil (.cons Sub.mkNil (.cons Sub.keepNil (.cons Sub.keepNil .nil)))))) (ghost_ren 5 (fun i => ([0, 1, 2, 3, 4] : List Nat).getD i 0) _ _ (by decide) (EnvSub.get (.cons (Sub.ptr rfl rfl) (.cons (Sub.ptr rfl rfl) (.cons (Sub.ptr rfl rfl) (.cons (Sub.ptr rfl rfl) (.cons (Sub.imm (Imm.lst _ _)) (.cons (Sub.imm (Imm.con _)) (.cons (Sub.imm (Imm.con _)) .nil)))))))) (HpSub.get (.cons rfl (ObSub.box (.cons (Sub.imm (Imm.con _)) (.cons (Sub.imm (Imm.lst _ _)) (.cons (Sub.imm (Imm.lst _ _)) (.cons (Sub.imm (Imm.con _)) .nil))))) (.cons rfl (ObSub.box (.cons (Sub.imm (Imm.con _)) (.cons (Sub.imm (Imm.lst _ _)) (.cons (Sub.imm (Imm.lst _ _)) (.cons (Sub.imm (Imm.con _)) .nil))))) (.cons rfl (ObSub.box (.cons (Sub.imm (Imm.con _)) (.cons (Sub.imm (Imm.con _)) (.cons (Sub.imm (Imm.con _)) (.cons (Sub.imm (Imm.con _)) .nil))))) (.cons rfl (ObSub.box (.cons (Sub.imm (Imm.con _)) (.cons (Sub.ownE rfl rfl (by simp)) (.cons (Sub.imm (Imm.con _)) (.cons (Sub.imm (Imm.con _)) .nil))))) (.cons rfl (ObSub.rows (rows_imm imms_encTRelease)) .nil)))))) rfl))
      obtain ⟨n20, l21⟩ := p
      refine awp_loop ?_
      refine sr ?_
      refine aops_bin (.bool (decide (n20 < ((a1.Releases.length : Nat) : Int)))) wants_none rfl rfl rfl rfl ?_
      refine an ?_
      refine sq ?_
      refine awp_cond (decide (n20 < ((a1.Releases.length : Nat) : Int))) rfl (fun hb22 => ?_) (fun hb22 => ?_)
      · obtain ⟨x25, tl, hx26, h, hk2⟩ := RG.t hA35 h hb22
        unfold M48_L2 at h
        refine awp_skip ?_
        refine sq ?_
        replace h := jn_elim h
        obtain ⟨k23, hk23, h⟩ := h
        refine awp_cut (fun (p : (List TRelease)) => (⟨[(2, (V.ptr 0 4 0 0)), (3, (V.ptr 1 4 0 0)), (4, (V.ptr 2 4 0 0)), (9, (V.ptr 3 4 0 0)), (57, (V.lst 3 (a1.Releases.map encTRelease))), (58, (iV ((a1.Releases.length : Nat) : Int))), (59, (iV n20))], [(0, (Ob.arr 52 4 [(encTStory a1)])), (1, (Ob.arr 52 4 [(encTStory a2)])), (2, (Ob.arr 52 4 [[(sV ([] : List UInt8)), nV, nV, (iV 0)]])), (3, (Ob.arr 52 4 [[(sV a1.Product), (V.own 4 p.length), nV, (iV a2.Until)]])), (4, (Ob.arr 42 3 (p.map encTRelease)))], 5⟩ : St)) (fun (p : (List TRelease)) => k23 p = some r) ?_ ?_
        · clear hk23
          refine awp_block ?_
          refine sr ?_
          refine aops_index_lst (encTRelease x25) tSl49 wants_none rfl rfl (idx_some hx26).1 (idx_map encTRelease hx26) rfl ?_
          refine aops_iload_agg (cs := (encTRelease x25)) tA42 wants_none rfl rfl rfl rfl ?_
          refine aops_alloc tZ42 rfl rfl wants_none rfl ?_
          refine aops_store (encTRelease x25) [(encTRelease x25)] tS42 wants_none rfl rfl rfl rfl rfl rfl rfl rfl ?_
          refine an ?_
          refine sq ?_
          refine bsp (((a2.Releases.length : Nat) : Int) == 0) (fun hb27 => ?_) (fun hb27 => ?_)
          · replace h := ite_t hb27 h
            refine awp_any [OD.mk [(3, (V.ptr 1 4 0 0))] [] [(63, (V.ptr 1 4 0 1))] [],
                  OD.mk [(63, (V.ptr 1 4 0 1))] [(1, (Ob.arr 52 4 [(encTStory a2)]))] [(64, (V.lst 3 (a2.Releases.map encTRelease)))] [],
                  OD.mk [(64, (V.lst 3 (a2.Releases.map encTRelease)))] [] [(65, (iV ((a2.Releases.length : Nat) : Int)))] [],
                  OD.mk [(65, (iV ((a2.Releases.length : Nat) : Int)))] [] [(66, (bV (((a2.Releases.length : Nat) : Int) == 0)))] [],
                  OD.mk [(66, (bV (((a2.Releases.length : Nat) : Int) == 0)))] [] [(67, (bV (((a2.Releases.length : Nat) : Int) == 0)))] [],
                  OD.mk [(67, (bV (((a2.Releases.length : Nat) : Int) == 0)))] [] [(68, (V.con undef))] [],
                  OD.mk [(67, (bV (((a2.Releases.length : Nat) : Int) == 0)))] [] [(69, (V.con undef))] [],
                  OD.mk [(67, (bV (((a2.Releases.length : Nat) : Int) == 0)))] [] [(70, (V.con undef))] [],
                  OD.mk [(67, (bV (((a2.Releases.length : Nat) : Int) == 0)))] [] [(71, (V.con undef))] [],
                  OD.mk [(67, (bV (((a2.Releases.length : Nat) : Int) == 0)))] [] [(72, (V.con undef))] [],
                  OD.mk [(67, (bV (((a2.Releases.length : Nat) : Int) == 0)))] [] [(73, (V.con undef))] [],
                  OD.mk [(67, (bV (((a2.Releases.length : Nat) : Int) == 0)))] [] [(74, (V.con undef))] [],
                  OD.mk [(67, (bV (((a2.Releases.length : Nat) : Int) == 0)))] [] [(75, (V.con undef))] [],
                  OD.mk [(67, (bV (((a2.Releases.length : Nat) : Int) == 0)))] [] [(76, (bV true))] []] mixed ⟨⟨rfl, trivial⟩, trivial, ⟨⟨rfl, trivial⟩, ⟨rfl, trivial⟩, ⟨⟨rfl, trivial⟩, trivial, ⟨⟨rfl, trivial⟩, trivial, ⟨⟨rfl, trivial⟩, trivial, ⟨⟨rfl, trivial⟩, trivial, ⟨⟨rfl, trivial⟩, trivial, ⟨⟨rfl, trivial⟩, trivial, ⟨⟨rfl, trivial⟩, trivial, ⟨⟨rfl, trivial⟩, trivial, ⟨⟨rfl, trivial⟩, trivial, ⟨⟨rfl, trivial⟩, trivial, ⟨⟨rfl, trivial⟩, trivial, ⟨⟨rfl, trivial⟩, trivial, trivial⟩⟩⟩⟩⟩⟩⟩⟩⟩⟩⟩⟩⟩⟩ (by kernel_rfl) (.cons (fun S hn h hh => aops_fieldAddr tF52_1 wants_none h.1 rfl (an ⟨rfl, rfl⟩)) (.cons (fun S hn h hh => aops_load_cell (V.lst 3 (a2.Releases.map encTRelease)) tC49 wants_none h.1 hh.1 rfl rfl rfl (an ⟨rfl, rfl⟩)) (.cons (fun S hn h hh => aops_len (n := a2.Releases.length) tIsSl49 wants_none h.1 (congrArg some (List.length_map ..)) rfl (an ⟨rfl, rfl⟩)) (.cons (fun S hn h hh => aops_bin (.bool (((a2.Releases.length : Nat) : Int) == 0)) wants_none h.1 rfl rfl rfl (an ⟨rfl, rfl⟩)) (.cons (fun S hn h hh => aops_move (bV (((a2.Releases.length : Nat) : Int) == 0)) wants_none h.1 rfl (an ⟨rfl, rfl⟩)) (.cons (fun S hn h hh => aops_skip (wants_some (c := (((a2.Releases.length : Nat) : Int) == 0)) (b := true) 67 rfl h.1 hb27) rfl rfl (an ⟨rfl, rfl⟩)) (.cons (fun S hn h hh => aops_skip (wants_some (c := (((a2.Releases.length : Nat) : Int) == 0)) (b := true) 67 rfl h.1 hb27) rfl rfl (an ⟨rfl, rfl⟩)) (.cons (fun S hn h hh => aops_skip (wants_some (c := (((a2.Releases.length : Nat) : Int) == 0)) (b := true) 67 rfl h.1 hb27) rfl rfl (an ⟨rfl, rfl⟩)) (.cons (fun S hn h hh => aops_skip (wants_some (c := (((a2.Releases.length : Nat) : Int) == 0)) (b := true) 67 rfl h.1 hb27) rfl rfl (an ⟨rfl, rfl⟩)) (.cons (fun S hn h hh => aops_skip (wants_some (c := (((a2.Releases.length : Nat) : Int) == 0)) (b := true) 67 rfl h.1 hb27) rfl rfl (an ⟨rfl, rfl⟩)) (.cons (fun S hn h hh => aops_skip (wants_some (c := (((a2.Releases.length : Nat) : Int) == 0)) (b := true) 67 rfl h.1 hb27) rfl rfl (an ⟨rfl, rfl⟩)) (.cons (fun S hn h hh => aops_skip (wants_some (c := (((a2.Releases.length : Nat) : Int) == 0)) (b := true) 67 rfl h.1 hb27) rfl rfl (an ⟨rfl, rfl⟩)) (.cons (fun S hn h hh => aops_skip (wants_some (c := (((a2.Releases.length : Nat) : Int) == 0)) (b := true) 67 rfl h.1 hb27) rfl rfl (an ⟨rfl, rfl⟩)) (.cons (fun S hn h hh => aops_pick true (cb := (((a2.Releases.length : Nat) : Int) == 0)) (bV true) wants_none h.1 hb27 rfl rfl (an ⟨rfl, rfl⟩)) .nil)))))))))))))) ?_
            refine awp_cond_t rfl rfl ?_
            refine rg ?_
            refine aops_fieldAddr tF52_1 wants_none rfl rfl ?_
            refine aops_load_cell (V.own 4 l21.length) tC49 wants_none rfl rfl rfl rfl rfl ?_
            refine aops_load_agg (cs := (encTRelease x25)) tA42 wants_none rfl rfl rfl rfl rfl rfl ?_
            refine aops_buildSlice [(0, (V.agg (encTRelease x25)))] [(encTRelease x25)] tEl49 tZ42 rfl rfl rfl rfl wants_none (evp_cons rfl evp_nil) rfl rfl (by simp) rfl ?_
            replace h := chk_some h
            obtain ⟨hc28, h⟩ := h
            refine aops_append [(encTRelease x25)] ((l21 ++ ([x25] : List TRelease)).map encTRelease) tEl49 tIsSl49 rfl rfl wants_none rfl rfl (by simp) rfl (.own rfl (by simp)) (map_snoc encTRelease l21 ([x25] : List TRelease)) (List.length_map ..) hc28 rfl ?_
            refine aops_fieldAddr tF52_1 wants_none rfl rfl ?_
            refine aops_store [(V.own 7 (l21 ++ ([x25] : List TRelease)).length)] [[(sV a1.Product), (V.own 7 (l21 ++ ([x25] : List TRelease)).length), nV, (iV a2.Until)]] tS49 wants_none rfl rfl rfl rfl rfl rfl rfl rfl ?_
            refine an ?_
            exact ⟨(l21 ++ ([x25] : List TRelease)), h, (ghost_ren 5 (fun i => ([0, 1, 2, 3, 7] : List Nat).getD i 0) _ _ (by decide) (EnvSub.get (.cons (Sub.ptr rfl rfl) (.cons (Sub.ptr rfl rfl) (.cons (Sub.ptr rfl rfl) (.cons (Sub.ptr rfl rfl) (.cons (Sub.imm (Imm.lst _ _)) (.cons (Sub.imm (Imm.con _)) (.cons (Sub.imm (Imm.con _)) .nil)))))))) (HpSub.get (.cons rfl (ObSub.box (.cons (Sub.imm (Imm.con _)) (.cons (Sub.imm (Imm.lst _ _)) (.cons (Sub.imm (Imm.lst _ _)) (.cons (Sub.imm (Imm.con _)) .nil))))) (.cons rfl (ObSub.box (.cons (Sub.imm (Imm.con _)) (.cons (Sub.imm (Imm.lst _ _)) (.cons (Sub.imm (Imm.lst _ _)) (.cons (Sub.imm (Imm.con _)) .nil))))) (.cons rfl (ObSub.box (.cons (Sub.imm (Imm.con _)) (.cons (Sub.imm (Imm.con _)) (.cons (Sub.imm (Imm.con _)) (.cons (Sub.imm (Imm.con _)) .nil))))) (.cons rfl (ObSub.box (.cons (Sub.imm (Imm.con _)) (.cons (Sub.own rfl rfl) (.cons (Sub.imm (Imm.con _)) (.cons (Sub.imm (Imm.con _)) .nil))))) (.cons rfl (ObSub.rows (rows_imm imms_encTRelease)) .nil)))))) rfl)⟩
          replace h := ite_f hb27 h
          replace h := bind_some h
          obtain ⟨x29, hx30, h⟩ := h
          refine awp_any [OD.mk [(3, (V.ptr 1 4 0 0))] [] [(63, (V.ptr 1 4 0 1))] [],
                OD.mk [(63, (V.ptr 1 4 0 1))] [(1, (Ob.arr 52 4 [(encTStory a2)]))] [(64, (V.lst 3 (a2.Releases.map encTRelease)))] [],
                OD.mk [(64, (V.lst 3 (a2.Releases.map encTRelease)))] [] [(65, (iV ((a2.Releases.length : Nat) : Int)))] [],
                OD.mk [(65, (iV ((a2.Releases.length : Nat) : Int)))] [] [(66, (bV (((a2.Releases.length : Nat) : Int) == 0)))] [],
                OD.mk [(66, (bV (((a2.Releases.length : Nat) : Int) == 0)))] [] [(67, (bV (((a2.Releases.length : Nat) : Int) == 0)))] [],
                OD.mk [(67, (bV (((a2.Releases.length : Nat) : Int) == 0))), (11, (V.ptr 5 3 0 0))] [] [(68, (V.ptr 5 3 0 1))] [],
                OD.mk [(67, (bV (((a2.Releases.length : Nat) : Int) == 0))), (68, (V.ptr 5 3 0 1))] [(5, (Ob.arr 42 3 [(encTRelease x25)]))] [(69, (iV x25.Day))] [],
                OD.mk [(67, (bV (((a2.Releases.length : Nat) : Int) == 0))), (3, (V.ptr 1 4 0 0))] [] [(70, (V.ptr 1 4 0 1))] [],
                OD.mk [(67, (bV (((a2.Releases.length : Nat) : Int) == 0))), (70, (V.ptr 1 4 0 1))] [(1, (Ob.arr 52 4 [(encTStory a2)]))] [(71, (V.lst 3 (a2.Releases.map encTRelease)))] [],
                OD.mk [(67, (bV (((a2.Releases.length : Nat) : Int) == 0))), (71, (V.lst 3 (a2.Releases.map encTRelease)))] [] [(72, (V.iptr (encTRelease x29) 0))] [],
                OD.mk [(67, (bV (((a2.Releases.length : Nat) : Int) == 0))), (72, (V.iptr (encTRelease x29) 0))] [] [(73, (V.iptr (encTRelease x29) 1))] [],
                OD.mk [(67, (bV (((a2.Releases.length : Nat) : Int) == 0))), (73, (V.iptr (encTRelease x29) 1))] [] [(74, (iV x29.Day))] [],
                OD.mk [(67, (bV (((a2.Releases.length : Nat) : Int) == 0))), (69, (iV x25.Day)), (74, (iV x29.Day))] [] [(75, (bV (decide (x25.Day < x29.Day))))] [],
                OD.mk [(67, (bV (((a2.Releases.length : Nat) : Int) == 0))), (75, (bV (decide (x25.Day < x29.Day))))] [] [(76, (bV (decide (x25.Day < x29.Day))))] []] mixed ⟨⟨rfl, trivial⟩, trivial, ⟨⟨rfl, trivial⟩, ⟨rfl, trivial⟩, ⟨⟨rfl, trivial⟩, trivial, ⟨⟨rfl, trivial⟩, trivial, ⟨⟨rfl, trivial⟩, trivial, ⟨⟨rfl, rfl, trivial⟩, trivial, ⟨⟨rfl, rfl, trivial⟩, ⟨rfl, trivial⟩, ⟨⟨rfl, rfl, trivial⟩, trivial, ⟨⟨rfl, rfl, trivial⟩, ⟨rfl, trivial⟩, ⟨⟨rfl, rfl, trivial⟩, trivial, ⟨⟨rfl, rfl, trivial⟩, trivial, ⟨⟨rfl, rfl, trivial⟩, trivial, ⟨⟨rfl, rfl, rfl, trivial⟩, trivial, ⟨⟨rfl, rfl, trivial⟩, trivial, trivial⟩⟩⟩⟩⟩⟩⟩⟩⟩⟩⟩⟩⟩⟩ (by kernel_rfl) (.cons (fun S hn h hh => aops_fieldAddr tF52_1 wants_none h.1 rfl (an ⟨rfl, rfl⟩)) (.cons (fun S hn h hh => aops_load_cell (V.lst 3 (a2.Releases.map encTRelease)) tC49 wants_none h.1 hh.1 rfl rfl rfl (an ⟨rfl, rfl⟩)) (.cons (fun S hn h hh => aops_len (n := a2.Releases.length) tIsSl49 wants_none h.1 (congrArg some (List.length_map ..)) rfl (an ⟨rfl, rfl⟩)) (.cons (fun S hn h hh => aops_bin (.bool (((a2.Releases.length : Nat) : Int) == 0)) wants_none h.1 rfl rfl rfl (an ⟨rfl, rfl⟩)) (.cons (fun S hn h hh => aops_move (bV (((a2.Releases.length : Nat) : Int) == 0)) wants_none h.1 rfl (an ⟨rfl, rfl⟩)) (.cons (fun S hn h hh => aops_fieldAddr tF42_1 (wants_some (c := (((a2.Releases.length : Nat) : Int) == 0)) (b := false) 67 rfl h.1 hb27) h.2.1 rfl (an ⟨rfl, rfl⟩)) (.cons (fun S hn h hh => aops_load_cell (iV x25.Day) tC3 (wants_some (c := (((a2.Releases.length : Nat) : Int) == 0)) (b := false) 67 rfl h.1 hb27) h.2.1 hh.1 rfl rfl rfl (an ⟨rfl, rfl⟩)) (.cons (fun S hn h hh => aops_fieldAddr tF52_1 (wants_some (c := (((a2.Releases.length : Nat) : Int) == 0)) (b := false) 67 rfl h.1 hb27) h.2.1 rfl (an ⟨rfl, rfl⟩)) (.cons (fun S hn h hh => aops_load_cell (V.lst 3 (a2.Releases.map encTRelease)) tC49 (wants_some (c := (((a2.Releases.length : Nat) : Int) == 0)) (b := false) 67 rfl h.1 hb27) h.2.1 hh.1 rfl rfl rfl (an ⟨rfl, rfl⟩)) (.cons (fun S hn h hh => aops_index_lst (encTRelease x29) tSl49 (wants_some (c := (((a2.Releases.length : Nat) : Int) == 0)) (b := false) 67 rfl h.1 hb27) h.2.1 rfl (idx_some hx30).1 (idx_map encTRelease hx30) rfl (an ⟨rfl, rfl⟩)) (.cons (fun S hn h hh => aops_ifieldAddr tF42_1 (wants_some (c := (((a2.Releases.length : Nat) : Int) == 0)) (b := false) 67 rfl h.1 hb27) h.2.1 rfl (an ⟨rfl, rfl⟩)) (.cons (fun S hn h hh => aops_iload_cell (iV x29.Day) tC3 (wants_some (c := (((a2.Releases.length : Nat) : Int) == 0)) (b := false) 67 rfl h.1 hb27) h.2.1 rfl rfl (an ⟨rfl, rfl⟩)) (.cons (fun S hn h hh => aops_bin (.bool (decide (x25.Day < x29.Day))) (wants_some (c := (((a2.Releases.length : Nat) : Int) == 0)) (b := false) 67 rfl h.1 hb27) h.2.1 h.2.2.1 rfl rfl (an ⟨rfl, rfl⟩)) (.cons (fun S hn h hh => aops_pick false (cb := (((a2.Releases.length : Nat) : Int) == 0)) (bV (decide (x25.Day < x29.Day))) wants_none h.1 hb27 h.2.1 rfl (an ⟨rfl, rfl⟩)) .nil)))))))))))))) ?_
          replace h := jn_elim h
          obtain ⟨k31, hk31, h⟩ := h
          refine awp_cut (fun (p : (List TRelease)) => (⟨[(2, (V.ptr 0 4 0 0)), (3, (V.ptr 1 4 0 0)), (4, (V.ptr 2 4 0 0)), (9, (V.ptr 3 4 0 0)), (57, (V.lst 3 (a1.Releases.map encTRelease))), (58, (iV ((a1.Releases.length : Nat) : Int))), (59, (iV n20)), (68, (V.ptr 4 3 0 1)), (69, (iV x25.Day)), (70, (V.ptr 1 4 0 1)), (71, (V.lst 3 (a2.Releases.map encTRelease))), (72, (V.iptr (encTRelease x29) 0)), (73, (V.iptr (encTRelease x29) 1)), (74, (iV x29.Day)), (75, (bV (decide (x25.Day < x29.Day))))], [(0, (Ob.arr 52 4 [(encTStory a1)])), (1, (Ob.arr 52 4 [(encTStory a2)])), (2, (Ob.arr 52 4 [[(sV ([] : List UInt8)), nV, nV, (iV 0)]])), (3, (Ob.arr 52 4 [[(sV a1.Product), (V.own 5 p.length), nV, (iV a2.Until)]])), (4, (Ob.arr 42 3 [(encTRelease x25)])), (5, (Ob.arr 42 3 (p.map encTRelease)))], 6⟩ : St)) (fun (p : (List TRelease)) => k31 p = some r) ?_ ?_
          · clear hk31
            refine awp_cond (decide (x25.Day < x29.Day)) rfl (fun hb33 => ?_) (fun hb33 => ?_)
            · replace h := ite_t hb33 h
              refine rg ?_
              refine aops_fieldAddr tF52_1 wants_none rfl rfl ?_
              refine aops_load_cell (V.own 4 l21.length) tC49 wants_none rfl rfl rfl rfl rfl ?_
              refine aops_load_agg (cs := (encTRelease x25)) tA42 wants_none rfl rfl rfl rfl rfl rfl ?_
              refine aops_buildSlice [(0, (V.agg (encTRelease x25)))] [(encTRelease x25)] tEl49 tZ42 rfl rfl rfl rfl wants_none (evp_cons rfl evp_nil) rfl rfl (by simp) rfl ?_
              replace h := chk_some h
              obtain ⟨hc34, h⟩ := h
              refine aops_append [(encTRelease x25)] ((l21 ++ ([x25] : List TRelease)).map encTRelease) tEl49 tIsSl49 rfl rfl wants_none rfl rfl (by simp) rfl (.own rfl (by simp)) (map_snoc encTRelease l21 ([x25] : List TRelease)) (List.length_map ..) hc34 rfl ?_
              refine aops_fieldAddr tF52_1 wants_none rfl rfl ?_
              refine aops_store [(V.own 7 (l21 ++ ([x25] : List TRelease)).length)] [[(sV a1.Product), (V.own 7 (l21 ++ ([x25] : List TRelease)).length), nV, (iV a2.Until)]] tS49 wants_none rfl rfl rfl rfl rfl rfl rfl rfl ?_
              refine an ?_
              exact ⟨(l21 ++ ([x25] : List TRelease)), h, (ghost_ren 6 (fun i => ([0, 1, 2, 3, 5, 7] : List Nat).getD i 0) _ _ (by decide) (EnvSub.get (.cons (Sub.ptr rfl rfl) (.cons (Sub.ptr rfl rfl) (.cons (Sub.ptr rfl rfl) (.cons (Sub.ptr rfl rfl) (.cons (Sub.imm (Imm.lst _ _)) (.cons (Sub.imm (Imm.con _)) (.cons (Sub.imm (Imm.con _)) (.cons (Sub.ptr rfl rfl) (.cons (Sub.imm (Imm.con _)) (.cons (Sub.ptr rfl rfl) (.cons (Sub.imm (Imm.lst _ _)) (.cons (Sub.imm (Imm.iptr _ _)) (.cons (Sub.imm (Imm.iptr _ _)) (.cons (Sub.imm (Imm.con _)) (.cons (Sub.imm (Imm.con _)) .nil)))))))))))))))) (HpSub.get (.cons rfl (ObSub.box (.cons (Sub.imm (Imm.con _)) (.cons (Sub.imm (Imm.lst _ _)) (.cons (Sub.imm (Imm.lst _ _)) (.cons (Sub.imm (Imm.con _)) .nil))))) (.cons rfl (ObSub.box (.cons (Sub.imm (Imm.con _)) (.cons (Sub.imm (Imm.lst _ _)) (.cons (Sub.imm (Imm.lst _ _)) (.cons (Sub.imm (Imm.con _)) .nil))))) (.cons rfl (ObSub.box (.cons (Sub.imm (Imm.con _)) (.cons (Sub.imm (Imm.con _)) (.cons (Sub.imm (Imm.con _)) (.cons (Sub.imm (Imm.con _)) .nil))))) (.cons rfl (ObSub.box (.cons (Sub.imm (Imm.con _)) (.cons (Sub.own rfl rfl) (.cons (Sub.imm (Imm.con _)) (.cons (Sub.imm (Imm.con _)) .nil))))) (.cons rfl (ObSub.box (.cons (Sub.imm (Imm.con _)) (.cons (Sub.imm (Imm.con _)) (.cons (Sub.imm (Imm.lst _ _)) .nil)))) (.cons rfl (ObSub.rows (rows_imm imms_encTRelease)) .nil))))))) rfl)⟩
            replace h := ite_f hb33 h
            refine awp_skip ?_
            exact ⟨l21, h, (ghost_ren 6 (fun i => ([0, 1, 2, 3, 5, 4] : List Nat).getD i 0) _ _ (by decide) (EnvSub.get (.cons (Sub.ptr rfl rfl) (.cons (Sub.ptr rfl rfl) (.cons (Sub.ptr rfl rfl) (.cons (Sub.ptr rfl rfl) (.cons (Sub.imm (Imm.lst _ _)) (.cons (Sub.imm (Imm.con _)) (.cons (Sub.imm (Imm.con _)) (.cons (Sub.ptr rfl rfl) (.cons (Sub.imm (Imm.con _)) (.cons (Sub.ptr rfl rfl) (.cons (Sub.imm (Imm.lst _ _)) (.cons (Sub.imm (Imm.iptr _ _)) (.cons (Sub.imm (Imm.iptr _ _)) (.cons (Sub.imm (Imm.con _)) (.cons (Sub.imm (Imm.con _)) .nil)))))))))))))))) (HpSub.get (.cons rfl (ObSub.box (.cons (Sub.imm (Imm.con _)) (.cons (Sub.imm (Imm.lst _ _)) (.cons (Sub.imm (Imm.lst _ _)) (.cons (Sub.imm (Imm.con _)) .nil))))) (.cons rfl (ObSub.box (.cons (Sub.imm (Imm.con _)) (.cons (Sub.imm (Imm.lst _ _)) (.cons (Sub.imm (Imm.lst _ _)) (.cons (Sub.imm (Imm.con _)) .nil))))) (.cons rfl (ObSub.box (.cons (Sub.imm (Imm.con _)) (.cons (Sub.imm (Imm.con _)) (.cons (Sub.imm (Imm.con _)) (.cons (Sub.imm (Imm.con _)) .nil))))) (.cons rfl (ObSub.box (.cons (Sub.imm (Imm.con _)) (.cons (Sub.own rfl rfl) (.cons (Sub.imm (Imm.con _)) (.cons (Sub.imm (Imm.con _)) .nil))))) (.cons rfl (ObSub.box (.cons (Sub.imm (Imm.con _)) (.cons (Sub.imm (Imm.con _)) (.cons (Sub.imm (Imm.lst _ _)) .nil)))) (.cons rfl (ObSub.rows (rows_imm imms_encTRelease)) .nil))))))) rfl)⟩
          clear h
          intro l32 h
          subst hk31
          exact ⟨l32, h, (ghost_ren 5 (fun i => ([0, 1, 2, 3, 5] : List Nat).getD i 0) _ _ (by decide) (EnvSub.get (.cons (Sub.ptr rfl rfl) (.cons (Sub.ptr rfl rfl) (.cons (Sub.ptr rfl rfl) (.cons (Sub.ptr rfl rfl) (.cons (Sub.imm (Imm.lst _ _)) (.cons (Sub.imm (Imm.con _)) (.cons (Sub.imm (Imm.con _)) .nil)))))))) (HpSub.get (.cons rfl (ObSub.box (.cons (Sub.imm (Imm.con _)) (.cons (Sub.imm (Imm.lst _ _)) (.cons (Sub.imm (Imm.lst _ _)) (.cons (Sub.imm (Imm.con _)) .nil))))) (.cons rfl (ObSub.box (.cons (Sub.imm (Imm.con _)) (.cons (Sub.imm (Imm.lst _ _)) (.cons (Sub.imm (Imm.lst _ _)) (.cons (Sub.imm (Imm.con _)) .nil))))) (.cons rfl (ObSub.box (.cons (Sub.imm (Imm.con _)) (.cons (Sub.imm (Imm.con _)) (.cons (Sub.imm (Imm.con _)) (.cons (Sub.imm (Imm.con _)) .nil))))) (.cons rfl (ObSub.box (.cons (Sub.imm (Imm.con _)) (.cons (Sub.own rfl rfl) (.cons (Sub.imm (Imm.con _)) (.cons (Sub.imm (Imm.con _)) .nil))))) (.cons rfl (ObSub.rows (rows_imm imms_encTRelease)) .nil)))))) rfl)⟩
        clear h
        intro l24 h
        subst hk23
        refine rg ?_
        refine aops_bin (.int .i64 (w64 (n20 + 1))) wants_none rfl rfl rfl rfl ?_
        refine am (iV (w64 (n20 + 1))) rfl rfl ?_
        refine an ?_
        exact awp_back (ih2 ((w64 (n20 + 1)), l24) (hk2 _ h)) (ghost_ren 5 (fun i => ([0, 1, 2, 3, 4] : List Nat).getD i 0) _ _ (by decide) (EnvSub.get (.cons (Sub.ptr rfl rfl) (.cons (Sub.ptr rfl rfl) (.cons (Sub.ptr rfl rfl) (.cons (Sub.ptr rfl rfl) (.cons (Sub.imm (Imm.lst _ _)) (.cons (Sub.imm (Imm.con _)) (.cons (Sub.imm (Imm.con _)) .nil)))))))) (HpSub.get (.cons rfl (ObSub.box (.cons (Sub.imm (Imm.con _)) (.cons (Sub.imm (Imm.lst _ _)) (.cons (Sub.imm (Imm.lst _ _)) (.cons (Sub.imm (Imm.con _)) .nil))))) (.cons rfl (ObSub.box (.cons (Sub.imm (Imm.con _)) (.cons (Sub.imm (Imm.lst _ _)) (.cons (Sub.imm (Imm.lst _ _)) (.cons (Sub.imm (Imm.con _)) .nil))))) (.cons rfl (ObSub.box (.cons (Sub.imm (Imm.con _)) (.cons (Sub.imm (Imm.con _)) (.cons (Sub.imm (Imm.con _)) (.cons (Sub.imm (Imm.con _)) .nil))))) (.cons rfl (ObSub.box (.cons (Sub.imm (Imm.con _)) (.cons (Sub.own rfl rfl) (.cons (Sub.imm (Imm.con _)) (.cons (Sub.imm (Imm.con _)) .nil))))) (.cons rfl (ObSub.rows (rows_imm imms_encTRelease)) .nil)))))) rfl)
      replace h := RG.f h hb22
      unfold M48_L2 at h
      refine awp_exit ?_
      exact ⟨l21, h, (ghost_ren 5 (fun i => ([0, 1, 2, 3, 4] : List Nat).getD i 0) _ _ (by decide) (EnvSub.get (.cons (Sub.ptr rfl rfl) (.cons (Sub.ptr rfl rfl) (.cons (Sub.ptr rfl rfl) (.cons (Sub.ptr rfl rfl) .nil))))) (HpSub.get (.cons rfl (ObSub.box (.cons (Sub.imm (Imm.con _)) (.cons (Sub.imm (Imm.lst _ _)) (.cons (Sub.imm (Imm.lst _ _)) (.cons (Sub.imm (Imm.con _)) .nil))))) (.cons rfl (ObSub.box (.cons (Sub.imm (Imm.con _)) (.cons (Sub.imm (Imm.lst _ _)) (.cons (Sub.imm (Imm.lst _ _)) (.cons (Sub.imm (Imm.con _)) .nil))))) (.cons rfl (ObSub.box (.cons (Sub.imm (Imm.con _)) (.cons (Sub.imm (Imm.con _)) (.cons (Sub.imm (Imm.con _)) (.cons (Sub.imm (Imm.con _)) .nil))))) (.cons rfl (ObSub.box (.cons (Sub.imm (Imm.con _)) (.cons (Sub.own rfl rfl) (.cons (Sub.imm (Imm.con _)) (.cons (Sub.imm (Imm.con _)) .nil))))) (.cons rfl (ObSub.rows (rows_imm imms_encTRelease)) .nil)))))) rfl)⟩
    clear h
    intro l17 h
    subst hk16
    refine sr ?_
    refine aops_fieldAddr tF52_1 wants_none rfl rfl ?_
    refine aops_load_cell (V.own 4 l17.length) tC49 wants_none rfl rfl rfl rfl rfl ?_
    refine aops_fieldAddr tF52_1 wants_none rfl rfl ?_
    refine aops_load_cell (V.lst 3 (a2.Releases.map encTRelease)) tC49 wants_none rfl rfl rfl rfl rfl ?_
    replace h := chk_some h
    obtain ⟨hc36, h⟩ := h
    refine aops_append (a2.Releases.map encTRelease) ((l17 ++ a2.Releases).map encTRelease) tEl49 tIsSl49 rfl rfl wants_none rfl rfl (by simp) rfl (.lst (rows_one one_encTRelease)) (map_snoc encTRelease l17 a2.Releases) (List.length_map ..) hc36 rfl ?_
    refine aops_fieldAddr tF52_1 wants_none rfl rfl ?_
    refine aops_store [(V.own 5 (l17 ++ a2.Releases).length)] [[(sV a1.Product), (V.own 5 (l17 ++ a2.Releases).length), nV, (iV a2.Until)]] tS49 wants_none rfl rfl rfl rfl rfl rfl rfl rfl ?_
    refine an ?_
    refine sr ?_
    refine aa (bV false) rfl rfl ?_
    refine an ?_
    refine sr ?_
    refine aops_fieldAddr tF52_2 wants_none rfl rfl ?_
    refine aops_load_cell (V.lst 3 (a1.Known.map encTPublished)) tC50 wants_none rfl rfl rfl rfl rfl ?_
    refine aops_fieldAddr tF52_2 wants_none rfl rfl ?_
    refine aops_load_cell (V.lst 3 (a2.Known.map encTPublished)) tC50 wants_none rfl rfl rfl rfl rfl ?_
    replace h := bind_some h
    obtain ⟨y37, hx38, h⟩ := h
    refine aops_call (V.tup [(V.lst 3 ((y37.1).map encTPublished)), (bV (y37.2))]) [(V.lst 3 (a1.Known.map encTPublished)), (V.lst 3 (a2.Known.map encTPublished))] fOk105 wants_none (evm_cons rfl (evm_cons rfl evm_nil)) (.cons (Imm.lst _ _) (.cons (Imm.lst _ _) .nil)) (W105 F a1.Known a2.Known y37 hx38) rfl ?_
    refine am (V.tup [(V.lst 3 ((y37.1).map encTPublished)), (bV (y37.2))]) rfl rfl ?_
    refine aops_extract (V.lst 3 ((y37.1).map encTPublished)) wants_none rfl rfl rfl ?_
    refine aops_extract (bV (y37.2)) wants_none rfl rfl rfl ?_
    refine aops_fieldAddr tF52_2 wants_none rfl rfl ?_
    refine aops_store [(V.lst 3 ((y37.1).map encTPublished))] [[(sV a1.Product), (V.own 5 (l17 ++ a2.Releases).length), (V.lst 3 ((y37.1).map encTPublished)), (iV a2.Until)]] tS50 wants_none rfl rfl rfl rfl rfl rfl rfl rfl ?_
    refine aa (bV (y37.2)) rfl rfl ?_
    refine an ?_
    refine sr ?_
    refine aops_makeMap wants_none rfl ?_
    refine aa (V.map 6) rfl rfl ?_
    refine an ?_
    refine sq ?_
    refine sr ?_
    refine aops_fieldAddr tF52_1 wants_none rfl rfl ?_
    refine aops_load_cell (V.own 5 (l17 ++ a2.Releases).length) tC49 wants_none rfl rfl rfl rfl rfl ?_
    refine aops_len (n := (l17 ++ a2.Releases).length) tIsSl49 wants_none rfl rfl rfl ?_
    refine am (iV 0) rfl rfl ?_
    refine an ?_
    replace h := jn_elim h
    obtain ⟨k39, hk39, h⟩ := h
    refine awp_cut (fun (p : Bool) => (⟨[(4, (V.ptr 0 4 0 0)), (9, (V.ptr 1 4 0 0)), (12, (bV p))], [(0, (Ob.arr 52 4 [[(sV ([] : List UInt8)), nV, nV, (iV 0)]])), (1, (Ob.arr 52 4 [[(sV a1.Product), (V.own 2 (l17 ++ a2.Releases).length), (V.lst 3 ((y37.1).map encTPublished)), (iV a2.Until)]])), (2, (Ob.arr 42 3 ((l17 ++ a2.Releases).map encTRelease)))], 3⟩ : St)) (fun (p : Bool) => k39 p = some r) ?_ ?_
    · clear hk39
      refine awp_block ?_
      refine awp_lenO (A := (l17 ++ a2.Releases)) 5 rfl (fun hA54 => ?_)
      refine awp_loop_ind (fun (p : Bool × Int × (List ((List UInt8) × Bool))) => (⟨[(4, (V.ptr 0 4 0 0)), (9, (V.ptr 1 4 0 0)), (12, (bV (p.1))), (13, (V.map 2)), (101, (V.own 3 (l17 ++ a2.Releases).length)), (102, (iV (((l17 ++ a2.Releases).length : Nat) : Int))), (103, (iV (p.2.1)))], [(0, (Ob.arr 52 4 [[(sV ([] : List UInt8)), nV, nV, (iV 0)]])), (1, (Ob.arr 52 4 [[(sV a1.Product), (V.own 3 (l17 ++ a2.Releases).length), (V.lst 3 ((y37.1).map encTPublished)), (iV a2.Until)]])), (2, (Ob.map ((p.2.2).map encM9_4))), (3, (Ob.arr 42 3 ((l17 ++ a2.Releases).map encTRelease)))], 4⟩ : St)) (fun n (p : Bool × Int × (List ((List UInt8) × Bool))) => RG (l17 ++ a2.Releases) (fun tl nn => M48_L3 F k39 tl p.1 p.2.2 = some r) n p.2.1) (fun p h => RG.zero h) (fun n ih3 p h => ?_) ((l17 ++ a2.Releases).length + 1) ((y37.2), 0, ([] : List ((List UInt8) × Bool))) (RG.start h) (ghost_ren 4 (fun i => ([2, 3, 6, 5] : List Nat).getD i 0) _ _ (by decide) (EnvSub.get (.cons (Sub.ptr rfl rfl) (.cons (Sub.ptr rfl rfl) (.cons (Sub.imm (Imm.con _)) (.cons (Sub.map rfl rfl) (.cons (Sub.own rfl rfl) (.cons (Sub.imm (Imm.con _)) (.cons (Sub.imm (Imm.con _)) .nil)))))))) (HpSub.get (.cons rfl (ObSub.box (.cons (Sub.imm (Imm.con _)) (.cons (Sub.imm (Imm.con _)) (.cons (Sub.imm (Imm.con _)) (.cons (Sub.imm (Imm.con _)) .nil))))) (.cons rfl (ObSub.box (.cons (Sub.imm (Imm.con _)) (.cons (Sub.own rfl rfl) (.cons (Sub.imm (Imm.lst _ _)) (.cons (Sub.imm (Imm.con _)) .nil))))) (.cons rfl (ObSub.maps encM9_4_imm) (.cons rfl (ObSub.rows (rows_imm imms_encTRelease)) .nil))))) rfl)
      obtain ⟨b44, n45, m46⟩ := p
      refine awp_loop ?_
      refine sr ?_
      refine aops_bin (.bool (decide (n45 < (((l17 ++ a2.Releases).length : Nat) : Int)))) wants_none rfl rfl rfl rfl ?_
      refine an ?_
      refine sq ?_
      refine awp_cond (decide (n45 < (((l17 ++ a2.Releases).length : Nat) : Int))) rfl (fun hb47 => ?_) (fun hb47 => ?_)
      · obtain ⟨x51, tl, hx52, h, hk3⟩ := RG.t hA54 h hb47
        unfold M48_L3 at h
        refine awp_skip ?_
        refine sq ?_
        replace h := jn_elim h
        obtain ⟨k48, hk48, h⟩ := h
        refine awp_cut (fun (p : Bool × (List ((List UInt8) × Bool))) => (⟨[(4, (V.ptr 0 4 0 0)), (9, (V.ptr 1 4 0 0)), (12, (bV (p.1))), (13, (V.map 2)), (101, (V.own 3 (l17 ++ a2.Releases).length)), (102, (iV (((l17 ++ a2.Releases).length : Nat) : Int))), (103, (iV n45))], [(0, (Ob.arr 52 4 [[(sV ([] : List UInt8)), nV, nV, (iV 0)]])), (1, (Ob.arr 52 4 [[(sV a1.Product), (V.own 3 (l17 ++ a2.Releases).length), (V.lst 3 ((y37.1).map encTPublished)), (iV a2.Until)]])), (2, (Ob.map ((p.2).map encM9_4))), (3, (Ob.arr 42 3 ((l17 ++ a2.Releases).map encTRelease)))], 4⟩ : St)) (fun (p : Bool × (List ((List UInt8) × Bool))) => k48 p.1 p.2 = some r) ?_ ?_
        · clear hk48
          refine awp_block ?_
          refine sr ?_
          refine aops_index_own tSl49 wants_none rfl rfl (idx_some hx52).1 (by simpa using idx_lt hx52) rfl ?_
          refine aops_load_agg (cs := (encTRelease x51)) tA42 wants_none rfl rfl (idx_map encTRelease hx52) rfl rfl rfl ?_
          refine aops_alloc tZ42 rfl rfl wants_none rfl ?_
          refine aops_store (encTRelease x51) [(encTRelease x51)] tS42 wants_none rfl rfl rfl rfl rfl rfl rfl rfl ?_
          refine an ?_
          refine sr ?_
          refine am (bV b44) rfl rfl ?_
          refine am (bV b44) rfl rfl ?_
          refine bsp b44 (fun hb53 => ?_) (fun hb53 => ?_)
          · replace h := ite_t hb53 h
            refine aops_move (V.map 2) (wants_some (c := b44) (b := true) 108 rfl rfl hb53) rfl rfl ?_
            refine aops_fieldAddr tF42_0 (wants_some (c := b44) (b := true) 108 rfl rfl hb53) rfl rfl ?_
            refine aops_load_cell (sV x51.Version) tC9 (wants_some (c := b44) (b := true) 108 rfl rfl hb53) rfl rfl rfl rfl rfl ?_
            refine aops_lookup _ (bV false) (bV ((mget m46 x51.Version).getD false)) tMap135 tKey9 tZo4 (irel_con _) (wants_some (c := b44) (b := true) 108 rfl rfl hb53) rfl (.own rfl) (.con rfl) ⟨_, rfl⟩ encM9_4_good (encM9_4_look m46 x51.Version) (getD_map (encM9_4_val) (mget m46 x51.Version) false) rfl ?_
            refine aops_not (wants_some (c := b44) (b := true) 108 rfl rfl hb53) rfl rfl ?_
            refine aops_pick true (cb := b44) (bV (!((mget m46 x51.Version).getD false))) wants_none rfl hb53 rfl rfl ?_
            refine aa (bV (!((mget m46 x51.Version).getD false))) rfl rfl ?_
            refine an ?_
            refine rg ?_
            refine am (V.map 2) rfl rfl ?_
            refine aops_fieldAddr tF42_0 wants_none rfl rfl ?_
            refine aops_load_cell (sV x51.Version) tC9 wants_none rfl rfl rfl rfl rfl ?_
            refine aops_mapUpdate ((mput m46 x51.Version true).map encM9_4) tMap135 tKey9 wants_none rfl rfl (.con rfl) ⟨_, rfl⟩ encM9_4_good rfl (encM9_4_puts m46 x51.Version true) ?_
            refine an ?_
            exact ⟨((!((mget m46 x51.Version).getD false)), (mput m46 x51.Version true)), h, (ghost_ren 4 (fun i => ([0, 1, 2, 3] : List Nat).getD i 0) _ _ (by decide) (EnvSub.get (.cons (Sub.ptr rfl rfl) (.cons (Sub.ptr rfl rfl) (.cons (Sub.imm (Imm.con _)) (.cons (Sub.map rfl rfl) (.cons (Sub.own rfl rfl) (.cons (Sub.imm (Imm.con _)) (.cons (Sub.imm (Imm.con _)) .nil)))))))) (HpSub.get (.cons rfl (ObSub.box (.cons (Sub.imm (Imm.con _)) (.cons (Sub.imm (Imm.con _)) (.cons (Sub.imm (Imm.con _)) (.cons (Sub.imm (Imm.con _)) .nil))))) (.cons rfl (ObSub.box (.cons (Sub.imm (Imm.con _)) (.cons (Sub.own rfl rfl) (.cons (Sub.imm (Imm.lst _ _)) (.cons (Sub.imm (Imm.con _)) .nil))))) (.cons rfl (ObSub.maps encM9_4_imm) (.cons rfl (ObSub.rows (rows_imm imms_encTRelease)) .nil))))) rfl)⟩
          replace h := ite_f hb53 h
          refine aops_skips 5 1 108 true (c := b44) (b := false) rfl rfl hb53 rfl rfl ?_
          refine aops_pick false (cb := b44) (bV false) wants_none rfl hb53 rfl rfl ?_
          refine aa (bV false) rfl rfl ?_
          refine an ?_
          refine rg ?_
          refine am (V.map 2) rfl rfl ?_
          refine aops_fieldAddr tF42_0 wants_none rfl rfl ?_
          refine aops_load_cell (sV x51.Version) tC9 wants_none rfl rfl rfl rfl rfl ?_
          refine aops_mapUpdate ((mput m46 x51.Version true).map encM9_4) tMap135 tKey9 wants_none rfl rfl (.con rfl) ⟨_, rfl⟩ encM9_4_good rfl (encM9_4_puts m46 x51.Version true) ?_
          refine an ?_
          exact ⟨(false, (mput m46 x51.Version true)), h, (ghost_ren 4 (fun i => ([0, 1, 2, 3] : List Nat).getD i 0) _ _ (by decide) (EnvSub.get (.cons (Sub.ptr rfl rfl) (.cons (Sub.ptr rfl rfl) (.cons (Sub.imm (Imm.con _)) (.cons (Sub.map rfl rfl) (.cons (Sub.own rfl rfl) (.cons (Sub.imm (Imm.con _)) (.cons (Sub.imm (Imm.con _)) .nil)))))))) (HpSub.get (.cons rfl (ObSub.box (.cons (Sub.imm (Imm.con _)) (.cons (Sub.imm (Imm.con _)) (.cons (Sub.imm (Imm.con _)) (.cons (Sub.imm (Imm.con _)) .nil))))) (.cons rfl (ObSub.box (.cons (Sub.imm (Imm.con _)) (.cons (Sub.own rfl rfl) (.cons (Sub.imm (Imm.lst _ _)) (.cons (Sub.imm (Imm.con _)) .nil))))) (.cons rfl (ObSub.maps encM9_4_imm) (.cons rfl (ObSub.rows (rows_imm imms_encTRelease)) .nil))))) rfl)⟩
        clear h
        rintro ⟨b49, m50⟩ h
        subst hk48
        refine rg ?_
        refine aops_bin (.int .i64 (w64 (n45 + 1))) wants_none rfl rfl rfl rfl ?_
        refine am (iV (w64 (n45 + 1))) rfl rfl ?_
        refine an ?_
        exact awp_back (ih3 (b49, (w64 (n45 + 1)), m50) (hk3 _ h)) (ghost_ren 4 (fun i => ([0, 1, 2, 3] : List Nat).getD i 0) _ _ (by decide) (EnvSub.get (.cons (Sub.ptr rfl rfl) (.cons (Sub.ptr rfl rfl) (.cons (Sub.imm (Imm.con _)) (.cons (Sub.map rfl rfl) (.cons (Sub.own rfl rfl) (.cons (Sub.imm (Imm.con _)) (.cons (Sub.imm (Imm.con _)) .nil)))))))) (HpSub.get (.cons rfl (ObSub.box (.cons (Sub.imm (Imm.con _)) (.cons (Sub.imm (Imm.con _)) (.cons (Sub.imm (Imm.con _)) (.cons (Sub.imm (Imm.con _)) .nil))))) (.cons rfl (ObSub.box (.cons (Sub.imm (Imm.con _)) (.cons (Sub.own rfl rfl) (.cons (Sub.imm (Imm.lst _ _)) (.cons (Sub.imm (Imm.con _)) .nil))))) (.cons rfl (ObSub.maps encM9_4_imm) (.cons rfl (ObSub.rows (rows_imm imms_encTRelease)) .nil))))) rfl)
      replace h := RG.f h hb47
      unfold M48_L3 at h
      refine awp_exit ?_
      exact ⟨b44, h, (ghost_ren 3 (fun i => ([0, 1, 3] : List Nat).getD i 0) _ _ (by decide) (EnvSub.get (.cons (Sub.ptr rfl rfl) (.cons (Sub.ptr rfl rfl) (.cons (Sub.imm (Imm.con _)) .nil)))) (HpSub.get (.cons rfl (ObSub.box (.cons (Sub.imm (Imm.con _)) (.cons (Sub.imm (Imm.con _)) (.cons (Sub.imm (Imm.con _)) (.cons (Sub.imm (Imm.con _)) .nil))))) (.cons rfl (ObSub.box (.cons (Sub.imm (Imm.con _)) (.cons (Sub.own rfl rfl) (.cons (Sub.imm (Imm.lst _ _)) (.cons (Sub.imm (Imm.con _)) .nil))))) (.cons rfl (ObSub.rows (rows_imm imms_encTRelease)) .nil)))) rfl)⟩
    clear h
    intro b40 h
    subst hk39
    refine sq ?_
    refine sr ?_
    refine am (bV b40) rfl rfl ?_
    refine aops_not wants_none rfl rfl ?_
    refine an ?_
    refine awp_cond (!b40) rfl (fun hb55 => ?_) (fun hb55 => ?_)
    · replace h := ite_t hb55 h
      refine sr ?_
      refine aops_build [] [(sV ([] : List UInt8)), nV, nV, (iV 0)] tZ52 tPl52 rfl wants_none evp_nil rfl rfl ?_
      refine aops_store [(sV ([] : List UInt8)), nV, nV, (iV 0)] [[(sV ([] : List UInt8)), nV, nV, (iV 0)]] tS52 wants_none rfl rfl rfl rfl rfl rfl rfl rfl ?_
      refine aa (iV 5) rfl rfl ?_
      refine an ?_
      refine awp_ghost (ghost_tellC 0 (Ob.arr 52 4 [[(sV ([] : List UInt8)), (V.lst 3 (([] : List TRelease).map encTRelease)), (V.lst 3 (([] : List TPublished).map encTPublished)), (iV 0)]]) rfl (ObSub.box (.cons Sub.keepI (.cons (Sub.nil _) (.cons (Sub.nil _) (.cons Sub.keepI .nil)))))) ?_
      refine awp_ret ?_
      replace h := Option.some.inj h
      subst h
      exact ⟨.inl rfl, .two (.agg tA52 rfl rfl rfl rfl rfl (.cons (Imm.con _) (.cons (Imm.lst _ _) (.cons (Imm.lst _ _) (.cons (Imm.con _) .nil))))) (.tmp rfl (Imm.con _))⟩
    replace h := ite_f hb55 h
    refine awp_skip ?_
    refine sq ?_
    refine sr ?_
    refine aops_fieldAddr tF52_1 wants_none rfl rfl ?_
    refine aops_load_cell (V.own 2 (l17 ++ a2.Releases).length) tC49 wants_none rfl rfl rfl rfl rfl ?_
    refine aops_len (n := (l17 ++ a2.Releases).length) tIsSl49 wants_none rfl rfl rfl ?_
    refine aops_bin (.bool (decide ((((l17 ++ a2.Releases).length : Nat) : Int) > 500))) wants_none rfl rfl rfl rfl ?_
    refine am (bV (decide ((((l17 ++ a2.Releases).length : Nat) : Int) > 500))) rfl rfl ?_
    refine bsp (decide ((((l17 ++ a2.Releases).length : Nat) : Int) > 500)) (fun hb56 => ?_) (fun hb56 => ?_)
    · replace h := ite_t hb56 h
      refine aops_skips 4 4 126 false (c := (decide ((((l17 ++ a2.Releases).length : Nat) : Int) > 500))) (b := true) rfl rfl hb56 rfl rfl ?_
      refine aops_pick true (cb := (decide ((((l17 ++ a2.Releases).length : Nat) : Int) > 500))) (bV true) wants_none rfl hb56 rfl rfl ?_
      refine an ?_
      refine awp_cond_t rfl rfl ?_
      refine sr ?_
      refine aops_build [] [(sV ([] : List UInt8)), nV, nV, (iV 0)] tZ52 tPl52 rfl wants_none evp_nil rfl rfl ?_
      refine aops_store [(sV ([] : List UInt8)), nV, nV, (iV 0)] [[(sV ([] : List UInt8)), nV, nV, (iV 0)]] tS52 wants_none rfl rfl rfl rfl rfl rfl rfl rfl ?_
      refine aa (iV 3) rfl rfl ?_
      refine an ?_
      refine awp_ghost (ghost_tellC 0 (Ob.arr 52 4 [[(sV ([] : List UInt8)), (V.lst 3 (([] : List TRelease).map encTRelease)), (V.lst 3 (([] : List TPublished).map encTPublished)), (iV 0)]]) rfl (ObSub.box (.cons Sub.keepI (.cons (Sub.nil _) (.cons (Sub.nil _) (.cons Sub.keepI .nil)))))) ?_
      refine awp_ret ?_
      replace h := Option.some.inj h
      subst h
      exact ⟨.inl rfl, .two (.agg tA52 rfl rfl rfl rfl rfl (.cons (Imm.con _) (.cons (Imm.lst _ _) (.cons (Imm.lst _ _) (.cons (Imm.con _) .nil))))) (.tmp rfl (Imm.con _))⟩
    replace h := ite_f hb56 h
    refine aops_fieldAddr tF52_2 (wants_some (c := (decide ((((l17 ++ a2.Releases).length : Nat) : Int) > 500))) (b := false) 126 rfl rfl hb56) rfl rfl ?_
    refine aops_load_cell (V.lst 3 ((y37.1).map encTPublished)) tC50 (wants_some (c := (decide ((((l17 ++ a2.Releases).length : Nat) : Int) > 500))) (b := false) 126 rfl rfl hb56) rfl rfl rfl rfl rfl ?_
    refine aops_len (n := (y37.1).length) tIsSl50 (wants_some (c := (decide ((((l17 ++ a2.Releases).length : Nat) : Int) > 500))) (b := false) 126 rfl rfl hb56) rfl (congrArg some (List.length_map ..)) rfl ?_
    refine aops_bin (.bool (decide ((((y37.1).length : Nat) : Int) > 2000))) (wants_some (c := (decide ((((l17 ++ a2.Releases).length : Nat) : Int) > 500))) (b := false) 126 rfl rfl hb56) rfl rfl rfl rfl ?_
    refine aops_pick false (cb := (decide ((((l17 ++ a2.Releases).length : Nat) : Int) > 500))) (bV (decide ((((y37.1).length : Nat) : Int) > 2000))) wants_none rfl hb56 rfl rfl ?_
    refine an ?_
    refine awp_cond (decide ((((y37.1).length : Nat) : Int) > 2000)) rfl (fun hb57 => ?_) (fun hb57 => ?_)
    · replace h := ite_t hb57 h
      refine sr ?_
      refine aops_build [] [(sV ([] : List UInt8)), nV, nV, (iV 0)] tZ52 tPl52 rfl wants_none evp_nil rfl rfl ?_
      refine aops_store [(sV ([] : List UInt8)), nV, nV, (iV 0)] [[(sV ([] : List UInt8)), nV, nV, (iV 0)]] tS52 wants_none rfl rfl rfl rfl rfl rfl rfl rfl ?_
      refine aa (iV 3) rfl rfl ?_
      refine an ?_
      refine awp_ghost (ghost_tellC 0 (Ob.arr 52 4 [[(sV ([] : List UInt8)), (V.lst 3 (([] : List TRelease).map encTRelease)), (V.lst 3 (([] : List TPublished).map encTPublished)), (iV 0)]]) rfl (ObSub.box (.cons Sub.keepI (.cons (Sub.nil _) (.cons (Sub.nil _) (.cons Sub.keepI .nil)))))) ?_
      refine awp_ret ?_
      replace h := Option.some.inj h
      subst h
      exact ⟨.inl rfl, .two (.agg tA52 rfl rfl rfl rfl rfl (.cons (Imm.con _) (.cons (Imm.lst _ _) (.cons (Imm.lst _ _) (.cons (Imm.con _) .nil))))) (.tmp rfl (Imm.con _))⟩
    replace h := ite_f hb57 h
    refine awp_skip ?_
    refine sq ?_
    refine sr ?_
    refine aops_fieldAddr tF52_1 wants_none rfl rfl ?_
    refine aops_load_cell (V.own 2 (l17 ++ a2.Releases).length) tC49 wants_none rfl rfl rfl rfl rfl ?_
    refine aops_len (n := (l17 ++ a2.Releases).length) tIsSl49 wants_none rfl rfl rfl ?_
    refine am (iV 0) rfl rfl ?_
    refine an ?_
    replace h := jn_elim h
    obtain ⟨k58, hk58, h⟩ := h
    refine awp_cut (fun _ : Unit => (⟨[(4, (V.ptr 0 4 0 0)), (9, (V.ptr 1 4 0 0))], [(0, (Ob.arr 52 4 [[(sV ([] : List UInt8)), nV, nV, (iV 0)]])), (1, (Ob.arr 52 4 [[(sV a1.Product), (V.own 2 (l17 ++ a2.Releases).length), (V.lst 3 ((y37.1).map encTPublished)), (iV a2.Until)]])), (2, (Ob.arr 42 3 ((l17 ++ a2.Releases).map encTRelease)))], 3⟩ : St)) (fun _ : Unit => k58 = some r) ?_ ?_
    · clear hk58
      refine awp_block ?_
      refine awp_lenO (A := (l17 ++ a2.Releases)) 2 rfl (fun hA65 => ?_)
      refine awp_loop_ind (fun (p : Int) => (⟨[(4, (V.ptr 0 4 0 0)), (9, (V.ptr 1 4 0 0)), (134, (V.own 2 (l17 ++ a2.Releases).length)), (135, (iV (((l17 ++ a2.Releases).length : Nat) : Int))), (136, (iV p))], [(0, (Ob.arr 52 4 [[(sV ([] : List UInt8)), nV, nV, (iV 0)]])), (1, (Ob.arr 52 4 [[(sV a1.Product), (V.own 2 (l17 ++ a2.Releases).length), (V.lst 3 ((y37.1).map encTPublished)), (iV a2.Until)]])), (2, (Ob.arr 42 3 ((l17 ++ a2.Releases).map encTRelease)))], 3⟩ : St)) (fun n (p : Int) => RG (l17 ++ a2.Releases) (fun tl nn => M48_L4 F a2 k58 tl = some r) n p) (fun p h => RG.zero h) (fun n ih4 p h => ?_) ((l17 ++ a2.Releases).length + 1) 0 (RG.start h) (ghost_ren 3 (fun i => ([0, 1, 2] : List Nat).getD i 0) _ _ (by decide) (EnvSub.get (.cons (Sub.ptr rfl rfl) (.cons (Sub.ptr rfl rfl) (.cons (Sub.own rfl rfl) (.cons (Sub.imm (Imm.con _)) (.cons (Sub.imm (Imm.con _)) .nil)))))) (HpSub.get (.cons rfl (ObSub.box (.cons (Sub.imm (Imm.con _)) (.cons (Sub.imm (Imm.con _)) (.cons (Sub.imm (Imm.con _)) (.cons (Sub.imm (Imm.con _)) .nil))))) (.cons rfl (ObSub.box (.cons (Sub.imm (Imm.con _)) (.cons (Sub.own rfl rfl) (.cons (Sub.imm (Imm.lst _ _)) (.cons (Sub.imm (Imm.con _)) .nil))))) (.cons rfl (ObSub.rows (rows_imm imms_encTRelease)) .nil)))) rfl)
      revert p
      intro n60 h
      refine awp_loop ?_
      refine sr ?_
      refine aops_bin (.bool (decide (n60 < (((l17 ++ a2.Releases).length : Nat) : Int)))) wants_none rfl rfl rfl rfl ?_
      refine an ?_
      refine sq ?_
      refine awp_cond (decide (n60 < (((l17 ++ a2.Releases).length : Nat) : Int))) rfl (fun hb61 => ?_) (fun hb61 => ?_)
      · obtain ⟨x62, tl, hx63, h, hk4⟩ := RG.t hA65 h hb61
        unfold M48_L4 at h
        refine awp_skip ?_
        refine sq ?_
        refine awp_block ?_
        refine sr ?_
        refine aops_index_own tSl49 wants_none rfl rfl (idx_some hx63).1 (by simpa using idx_lt hx63) rfl ?_
        refine aops_load_agg (cs := (encTRelease x62)) tA42 wants_none rfl rfl (idx_map encTRelease hx63) rfl rfl rfl ?_
        refine aops_alloc tZ42 rfl rfl wants_none rfl ?_
        refine aops_store (encTRelease x62) [(encTRelease x62)] tS42 wants_none rfl rfl rfl rfl rfl rfl rfl rfl ?_
        refine an ?_
        refine sr ?_
        refine aops_fieldAddr tF42_1 wants_none rfl rfl ?_
        refine aops_load_cell (iV x62.Day) tC3 wants_none rfl rfl rfl rfl rfl ?_
        refine aops_fieldAddr tF52_3 wants_none rfl rfl ?_
        refine aops_load_cell (iV a2.Until) tC3 wants_none rfl rfl rfl rfl rfl ?_
        refine aops_bin (.bool (decide (x62.Day > a2.Until))) wants_none rfl rfl rfl rfl ?_
        refine an ?_
        refine awp_cond (decide (x62.Day > a2.Until)) rfl (fun hb64 => ?_) (fun hb64 => ?_)
        · replace h := ite_t hb64 h
          refine sr ?_
          refine aops_build [] [(sV ([] : List UInt8)), nV, nV, (iV 0)] tZ52 tPl52 rfl wants_none evp_nil rfl rfl ?_
          refine aops_store [(sV ([] : List UInt8)), nV, nV, (iV 0)] [[(sV ([] : List UInt8)), nV, nV, (iV 0)]] tS52 wants_none rfl rfl rfl rfl rfl rfl rfl rfl ?_
          refine aa (iV 9) rfl rfl ?_
          refine an ?_
          refine awp_ghost (ghost_tellC 0 (Ob.arr 52 4 [[(sV ([] : List UInt8)), (V.lst 3 (([] : List TRelease).map encTRelease)), (V.lst 3 (([] : List TPublished).map encTPublished)), (iV 0)]]) rfl (ObSub.box (.cons Sub.keepI (.cons (Sub.nil _) (.cons (Sub.nil _) (.cons Sub.keepI .nil)))))) ?_
          refine awp_ret ?_
          replace h := Option.some.inj h
          subst h
          exact ⟨.inl rfl, .two (.agg tA52 rfl rfl rfl rfl rfl (.cons (Imm.con _) (.cons (Imm.lst _ _) (.cons (Imm.lst _ _) (.cons (Imm.con _) .nil))))) (.tmp rfl (Imm.con _))⟩
        replace h := ite_f hb64 h
        refine awp_skip ?_
        refine rg ?_
        refine aops_bin (.int .i64 (w64 (n60 + 1))) wants_none rfl rfl rfl rfl ?_
        refine am (iV (w64 (n60 + 1))) rfl rfl ?_
        refine an ?_
        exact awp_back (ih4 (w64 (n60 + 1)) (hk4 _ h)) (ghost_ren 3 (fun i => ([0, 1, 2] : List Nat).getD i 0) _ _ (by decide) (EnvSub.get (.cons (Sub.ptr rfl rfl) (.cons (Sub.ptr rfl rfl) (.cons (Sub.own rfl rfl) (.cons (Sub.imm (Imm.con _)) (.cons (Sub.imm (Imm.con _)) .nil)))))) (HpSub.get (.cons rfl (ObSub.box (.cons (Sub.imm (Imm.con _)) (.cons (Sub.imm (Imm.con _)) (.cons (Sub.imm (Imm.con _)) (.cons (Sub.imm (Imm.con _)) .nil))))) (.cons rfl (ObSub.box (.cons (Sub.imm (Imm.con _)) (.cons (Sub.own rfl rfl) (.cons (Sub.imm (Imm.lst _ _)) (.cons (Sub.imm (Imm.con _)) .nil))))) (.cons rfl (ObSub.rows (rows_imm imms_encTRelease)) .nil)))) rfl)
      replace h := RG.f h hb61
      unfold M48_L4 at h
      refine awp_exit ?_
      exact ⟨(), h, (ghost_ren 3 (fun i => ([0, 1, 2] : List Nat).getD i 0) _ _ (by decide) (EnvSub.get (.cons (Sub.ptr rfl rfl) (.cons (Sub.ptr rfl rfl) .nil))) (HpSub.get (.cons rfl (ObSub.box (.cons (Sub.imm (Imm.con _)) (.cons (Sub.imm (Imm.con _)) (.cons (Sub.imm (Imm.con _)) (.cons (Sub.imm (Imm.con _)) .nil))))) (.cons rfl (ObSub.box (.cons (Sub.imm (Imm.con _)) (.cons (Sub.own rfl rfl) (.cons (Sub.imm (Imm.lst _ _)) (.cons (Sub.imm (Imm.con _)) .nil))))) (.cons rfl (ObSub.rows (rows_imm imms_encTRelease)) .nil)))) rfl)⟩
    clear h
    intro _ h
    subst hk58
    refine sr ?_
    refine aops_load_agg (cs := [(sV a1.Product), (V.own 2 (l17 ++ a2.Releases).length), (V.lst 3 ((y37.1).map encTPublished)), (iV a2.Until)]) tA52 wants_none rfl rfl rfl rfl rfl rfl ?_
    refine aops_store [(sV a1.Product), (V.own 2 (l17 ++ a2.Releases).length), (V.lst 3 ((y37.1).map encTPublished)), (iV a2.Until)] [[(sV a1.Product), (V.own 2 (l17 ++ a2.Releases).length), (V.lst 3 ((y37.1).map encTPublished)), (iV a2.Until)]] tS52 wants_none rfl rfl rfl rfl rfl rfl rfl rfl ?_
    refine aa (iV 0) rfl rfl ?_
    refine an ?_
    refine awp_ghost (ghost_frzC 2 0 (Ob.arr 52 4 [[(sV a1.Product), (V.lst 3 ((l17 ++ a2.Releases).map encTRelease)), (V.lst 3 ((y37.1).map encTPublished)), (iV a2.Until)]]) rfl (rows_imm imms_encTRelease) (ObSub.box (.cons Sub.keep (.cons (Sub.frzAll (rows := (l17 ++ a2.Releases).map encTRelease) (List.length_map ..).symm) (.cons Sub.keep (.cons Sub.keep .nil)))))) ?_
    refine awp_ret ?_
    replace h := Option.some.inj h
    subst h
    exact ⟨.inl rfl, .two (.agg tA52 rfl rfl rfl rfl rfl (.cons (Imm.con _) (.cons (Imm.lst _ _) (.cons (Imm.lst _ _) (.cons (Imm.con _) .nil))))) (.tmp rfl (Imm.con _))⟩
  replace h := ite_f hb14 h
  refine aops_skips 5 4 43 true (c := (decide (((a2.Releases.length : Nat) : Int) > 0))) (b := false) rfl rfl hb14 rfl rfl ?_
  refine aops_pick false (cb := (decide (((a2.Releases.length : Nat) : Int) > 0))) (bV false) wants_none rfl hb14 rfl rfl ?_
  refine an ?_
  refine awp_cond_f rfl rfl ?_
  refine awp_skip ?_
  refine sr ?_
  refine aops_fieldAddr tF52_0 wants_none rfl rfl ?_
  refine aops_load_cell (sV a1.Product) tC9 wants_none rfl rfl rfl rfl rfl ?_
  refine aops_fieldAddr tF52_3 wants_none rfl rfl ?_
  refine aops_load_cell (iV a2.Until) tC3 wants_none rfl rfl rfl rfl rfl ?_
  refine aops_build [(0, (sV a1.Product)), (3, (iV a2.Until))] [(sV a1.Product), nV, nV, (iV a2.Until)] tZ52 tPl52 rfl wants_none (evp_cons rfl (evp_cons rfl evp_nil)) rfl rfl ?_
  refine aops_alloc tZ52 rfl rfl wants_none rfl ?_
  refine aops_store [(sV a1.Product), nV, nV, (iV a2.Until)] [[(sV a1.Product), nV, nV, (iV a2.Until)]] tS52 wants_none rfl rfl rfl rfl rfl rfl rfl rfl ?_
  refine an ?_
  refine sq ?_
  refine sr ?_
  refine aops_fieldAddr tF52_1 wants_none rfl rfl ?_
  refine aops_load_cell (V.lst 3 (a1.Releases.map encTRelease)) tC49 wants_none rfl rfl rfl rfl rfl ?_
  refine aops_len (n := a1.Releases.length) tIsSl49 wants_none rfl (congrArg some (List.length_map ..)) rfl ?_
  refine am (iV 0) rfl rfl ?_
  refine an ?_
  replace h := jn_elim h
  obtain ⟨k66, hk66, h⟩ := h
  refine awp_cut (fun (p : (List TRelease)) => (⟨[(2, (V.ptr 0 4 0 0)), (3, (V.ptr 1 4 0 0)), (4, (V.ptr 2 4 0 0)), (9, (V.ptr 3 4 0 0))], [(0, (Ob.arr 52 4 [(encTStory a1)])), (1, (Ob.arr 52 4 [(encTStory a2)])), (2, (Ob.arr 52 4 [[(sV ([] : List UInt8)), nV, nV, (iV 0)]])), (3, (Ob.arr 52 4 [[(sV a1.Product), (V.own 4 p.length), nV, (iV a2.Until)]])), (4, (Ob.arr 42 3 (p.map encTRelease)))], 5⟩ : St)) (fun (p : (List TRelease)) => k66 p = some r) ?_ ?_
  · clear hk66
    refine awp_block ?_
    refine awp_len (A := a1.Releases) 57 rfl (fun hA85 => ?_)
    refine awp_loop_ind (fun (p : Int × (List TRelease)) => (⟨[(2, (V.ptr 0 4 0 0)), (3, (V.ptr 1 4 0 0)), (4, (V.ptr 2 4 0 0)), (9, (V.ptr 3 4 0 0)), (57, (V.lst 3 (a1.Releases.map encTRelease))), (58, (iV ((a1.Releases.length : Nat) : Int))), (59, (iV (p.1)))], [(0, (Ob.arr 52 4 [(encTStory a1)])), (1, (Ob.arr 52 4 [(encTStory a2)])), (2, (Ob.arr 52 4 [[(sV ([] : List UInt8)), nV, nV, (iV 0)]])), (3, (Ob.arr 52 4 [[(sV a1.Product), (V.own 4 (p.2).length), nV, (iV a2.Until)]])), (4, (Ob.arr 42 3 ((p.2).map encTRelease)))], 5⟩ : St)) (fun n (p : Int × (List TRelease)) => RG a1.Releases (fun tl nn => M48_L5 F a2 k66 tl p.2 = some r) n p.1) (fun p h => RG.zero h) (fun n ih5 p h => ?_) (a1.Releases.length + 1) (0, ([] : List TRelease)) (RG.start h) (Ghost.trans (ghost_nilC 3 42 3 (Ob.arr 52 4 [[(sV a1.Product), (V.own 4 0), nV, (iV a2.Until)]]) (ObSub.box (.cons Sub.keepNil (.cons Sub.mkNil (.cons Sub.keepNil (.cons Sub.keepNil .nil)))))) (ghost_ren 5 (fun i => ([0, 1, 2, 3, 4] : List Nat).getD i 0) _ _ (by decide) (EnvSub.get (.cons (Sub.ptr rfl rfl) (.cons (Sub.ptr rfl rfl) (.cons (Sub.ptr rfl rfl) (.cons (Sub.ptr rfl rfl) (.cons (Sub.imm (Imm.lst _ _)) (.cons (Sub.imm (Imm.con _)) (.cons (Sub.imm (Imm.con _)) .nil)))))))) (HpSub.get (.cons rfl (ObSub.box (.cons (Sub.imm (Imm.con _)) (.cons (Sub.imm (Imm.lst _ _)) (.cons (Sub.imm (Imm.lst _ _)) (.cons (Sub.imm (Imm.con _)) .nil))))) (.cons rfl (ObSub.box (.cons (Sub.imm (Imm.con _)) (.cons (Sub.imm (Imm.lst _ _)) (.cons (Sub.imm (Imm.lst _ _)) (.cons (Sub.imm (Imm.con _)) .nil))))) (.cons rfl (ObSub.box (.cons (Sub.imm (Imm.con _)) (.cons (Sub.imm (Imm.con _)) (.cons (Sub.imm (Imm.con _)) (.cons (Sub.imm (Imm.con _)) .nil))))) (.cons rfl (ObSub.box (.cons (Sub.imm (Imm.con _)) (.cons (Sub.ownE rfl rfl (by simp)) (.cons (Sub.imm (Imm.con _)) (.cons (Sub.imm (Imm.con _)) .nil))))) (.cons rfl (ObSub.rows (rows_imm imms_encTRelease)) .nil)))))) rfl))
    obtain ⟨n70, l71⟩ := p
    refine awp_loop ?_
    refine sr ?_
    refine aops_bin (.bool (decide (n70 < ((a1.Releases.length : Nat) : Int)))) wants_none rfl rfl rfl rfl ?_
    refine an ?_
    refine sq ?_
    refine awp_cond (decide (n70 < ((a1.Releases.length : Nat) : Int))) rfl (fun hb72 => ?_) (fun hb72 => ?_)
    · obtain ⟨x75, tl, hx76, h, hk5⟩ := RG.t hA85 h hb72
      unfold M48_L5 at h
      refine awp_skip ?_
      refine sq ?_
      replace h := jn_elim h
      obtain ⟨k73, hk73, h⟩ := h
      refine awp_cut (fun (p : (List TRelease)) => (⟨[(2, (V.ptr 0 4 0 0)), (3, (V.ptr 1 4 0 0)), (4, (V.ptr 2 4 0 0)), (9, (V.ptr 3 4 0 0)), (57, (V.lst 3 (a1.Releases.map encTRelease))), (58, (iV ((a1.Releases.length : Nat) : Int))), (59, (iV n70))], [(0, (Ob.arr 52 4 [(encTStory a1)])), (1, (Ob.arr 52 4 [(encTStory a2)])), (2, (Ob.arr 52 4 [[(sV ([] : List UInt8)), nV, nV, (iV 0)]])), (3, (Ob.arr 52 4 [[(sV a1.Product), (V.own 4 p.length), nV, (iV a2.Until)]])), (4, (Ob.arr 42 3 (p.map encTRelease)))], 5⟩ : St)) (fun (p : (List TRelease)) => k73 p = some r) ?_ ?_
      · clear hk73
        refine awp_block ?_
        refine sr ?_
        refine aops_index_lst (encTRelease x75) tSl49 wants_none rfl rfl (idx_some hx76).1 (idx_map encTRelease hx76) rfl ?_
        refine aops_iload_agg (cs := (encTRelease x75)) tA42 wants_none rfl rfl rfl rfl ?_
        refine aops_alloc tZ42 rfl rfl wants_none rfl ?_
        refine aops_store (encTRelease x75) [(encTRelease x75)] tS42 wants_none rfl rfl rfl rfl rfl rfl rfl rfl ?_
        refine an ?_
        refine sq ?_
        refine bsp (((a2.Releases.length : Nat) : Int) == 0) (fun hb77 => ?_) (fun hb77 => ?_)
        · replace h := ite_t hb77 h
          refine awp_any [OD.mk [(3, (V.ptr 1 4 0 0))] [] [(63, (V.ptr 1 4 0 1))] [],
                OD.mk [(63, (V.ptr 1 4 0 1))] [(1, (Ob.arr 52 4 [(encTStory a2)]))] [(64, (V.lst 3 (a2.Releases.map encTRelease)))] [],
                OD.mk [(64, (V.lst 3 (a2.Releases.map encTRelease)))] [] [(65, (iV ((a2.Releases.length : Nat) : Int)))] [],
                OD.mk [(65, (iV ((a2.Releases.length : Nat) : Int)))] [] [(66, (bV (((a2.Releases.length : Nat) : Int) == 0)))] [],
                OD.mk [(66, (bV (((a2.Releases.length : Nat) : Int) == 0)))] [] [(67, (bV (((a2.Releases.length : Nat) : Int) == 0)))] [],
                OD.mk [(67, (bV (((a2.Releases.length : Nat) : Int) == 0)))] [] [(68, (V.con undef))] [],
                OD.mk [(67, (bV (((a2.Releases.length : Nat) : Int) == 0)))] [] [(69, (V.con undef))] [],
                OD.mk [(67, (bV (((a2.Releases.length : Nat) : Int) == 0)))] [] [(70, (V.con undef))] [],
                OD.mk [(67, (bV (((a2.Releases.length : Nat) : Int) == 0)))] [] [(71, (V.con undef))] [],
                OD.mk [(67, (bV (((a2.Releases.length : Nat) : Int) == 0)))] [] [(72, (V.con undef))] [],
                OD.mk [(67, (bV (((a2.Releases.length : Nat) : Int) == 0)))] [] [(73, (V.con undef))] [],
                OD.mk [(67, (bV (((a2.Releases.length : Nat) : Int) == 0)))] [] [(74, (V.con undef))] [],
                OD.mk [(67, (bV (((a2.Releases.length : Nat) : Int) == 0)))] [] [(75, (V.con undef))] [],
                OD.mk [(67, (bV (((a2.Releases.length : Nat) : Int) == 0)))] [] [(76, (bV true))] []] mixed ⟨⟨rfl, trivial⟩, trivial, ⟨⟨rfl, trivial⟩, ⟨rfl, trivial⟩, ⟨⟨rfl, trivial⟩, trivial, ⟨⟨rfl, trivial⟩, trivial, ⟨⟨rfl, trivial⟩, trivial, ⟨⟨rfl, trivial⟩, trivial, ⟨⟨rfl, trivial⟩, trivial, ⟨⟨rfl, trivial⟩, trivial, ⟨⟨rfl, trivial⟩, trivial, ⟨⟨rfl, trivial⟩, trivial, ⟨⟨rfl, trivial⟩, trivial, ⟨⟨rfl, trivial⟩, trivial, ⟨⟨rfl, trivial⟩, trivial, ⟨⟨rfl, trivial⟩, trivial, trivial⟩⟩⟩⟩⟩⟩⟩⟩⟩⟩⟩⟩⟩⟩ (by kernel_rfl) (.cons (fun S hn h hh => aops_fieldAddr tF52_1 wants_none h.1 rfl (an ⟨rfl, rfl⟩)) (.cons (fun S hn h hh => aops_load_cell (V.lst 3 (a2.Releases.map encTRelease)) tC49 wants_none h.1 hh.1 rfl rfl rfl (an ⟨rfl, rfl⟩)) (.cons (fun S hn h hh => aops_len (n := a2.Releases.length) tIsSl49 wants_none h.1 (congrArg some (List.length_map ..)) rfl (an ⟨rfl, rfl⟩)) (.cons (fun S hn h hh => aops_bin (.bool (((a2.Releases.length : Nat) : Int) == 0)) wants_none h.1 rfl rfl rfl (an ⟨rfl, rfl⟩)) (.cons (fun S hn h hh => aops_move (bV (((a2.Releases.length : Nat) : Int) == 0)) wants_none h.1 rfl (an ⟨rfl, rfl⟩)) (.cons (fun S hn h hh => aops_skip (wants_some (c := (((a2.Releases.length : Nat) : Int) == 0)) (b := true) 67 rfl h.1 hb77) rfl rfl (an ⟨rfl, rfl⟩)) (.cons (fun S hn h hh => aops_skip (wants_some (c := (((a2.Releases.length : Nat) : Int) == 0)) (b := true) 67 rfl h.1 hb77) rfl rfl (an ⟨rfl, rfl⟩)) (.cons (fun S hn h hh => aops_skip (wants_some (c := (((a2.Releases.length : Nat) : Int) == 0)) (b := true) 67 rfl h.1 hb77) rfl rfl (an ⟨rfl, rfl⟩)) (.cons (fun S hn h hh => aops_skip (wants_some (c := (((a2.Releases.length : Nat) : Int) == 0)) (b := true) 67 rfl h.1 hb77) rfl rfl (an ⟨rfl, rfl⟩)) (.cons (fun S hn h hh => aops_skip (wants_some (c := (((a2.Releases.length : Nat) : Int) == 0)) (b := true) 67 rfl h.1 hb77) rfl rfl (an ⟨rfl, rfl⟩)) (.cons (fun S hn h hh => aops_skip (wants_some (c := (((a2.Releases.length : Nat) : Int) == 0)) (b := true) 67 rfl h.1 hb77) rfl rfl (an ⟨rfl, rfl⟩)) (.cons (fun S hn h hh => aops_skip (wants_some (c := (((a2.Releases.length : Nat) : Int) == 0)) (b := true) 67 rfl h.1 hb77) rfl rfl (an ⟨rfl, rfl⟩)) (.cons (fun S hn h hh => aops_skip (wants_some (c := (((a2.Releases.length : Nat) : Int) == 0)) (b := true) 67 rfl h.1 hb77) rfl rfl (an ⟨rfl, rfl⟩)) (.cons (fun S hn h hh => aops_pick true (cb := (((a2.Releases.length : Nat) : Int) == 0)) (bV true) wants_none h.1 hb77 rfl rfl (an ⟨rfl, rfl⟩)) .nil)))))))))))))) ?_
          refine awp_cond_t rfl rfl ?_
          refine rg ?_
          refine aops_fieldAddr tF52_1 wants_none rfl rfl ?_
          refine aops_load_cell (V.own 4 l71.length) tC49 wants_none rfl rfl rfl rfl rfl ?_
          refine aops_load_agg (cs := (encTRelease x75)) tA42 wants_none rfl rfl rfl rfl rfl rfl ?_
          refine aops_buildSlice [(0, (V.agg (encTRelease x75)))] [(encTRelease x75)] tEl49 tZ42 rfl rfl rfl rfl wants_none (evp_cons rfl evp_nil) rfl rfl (by simp) rfl ?_
          replace h := chk_some h
          obtain ⟨hc78, h⟩ := h
          refine aops_append [(encTRelease x75)] ((l71 ++ ([x75] : List TRelease)).map encTRelease) tEl49 tIsSl49 rfl rfl wants_none rfl rfl (by simp) rfl (.own rfl (by simp)) (map_snoc encTRelease l71 ([x75] : List TRelease)) (List.length_map ..) hc78 rfl ?_
          refine aops_fieldAddr tF52_1 wants_none rfl rfl ?_
          refine aops_store [(V.own 7 (l71 ++ ([x75] : List TRelease)).length)] [[(sV a1.Product), (V.own 7 (l71 ++ ([x75] : List TRelease)).length), nV, (iV a2.Until)]] tS49 wants_none rfl rfl rfl rfl rfl rfl rfl rfl ?_
          refine an ?_
          exact ⟨(l71 ++ ([x75] : List TRelease)), h, (ghost_ren 5 (fun i => ([0, 1, 2, 3, 7] : List Nat).getD i 0) _ _ (by decide) (EnvSub.get (.cons (Sub.ptr rfl rfl) (.cons (Sub.ptr rfl rfl) (.cons (Sub.ptr rfl rfl) (.cons (Sub.ptr rfl rfl) (.cons (Sub.imm (Imm.lst _ _)) (.cons (Sub.imm (Imm.con _)) (.cons (Sub.imm (Imm.con _)) .nil)))))))) (HpSub.get (.cons rfl (ObSub.box (.cons (Sub.imm (Imm.con _)) (.cons (Sub.imm (Imm.lst _ _)) (.cons (Sub.imm (Imm.lst _ _)) (.cons (Sub.imm (Imm.con _)) .nil))))) (.cons rfl (ObSub.box (.cons (Sub.imm (Imm.con _)) (.cons (Sub.imm (Imm.lst _ _)) (.cons (Sub.imm (Imm.lst _ _)) (.cons (Sub.imm (Imm.con _)) .nil))))) (.cons rfl (ObSub.box (.cons (Sub.imm (Imm.con _)) (.cons (Sub.imm (Imm.con _)) (.cons (Sub.imm (Imm.con _)) (.cons (Sub.imm (Imm.con _)) .nil))))) (.cons rfl (ObSub.box (.cons (Sub.imm (Imm.con _)) (.cons (Sub.own rfl rfl) (.cons (Sub.imm (Imm.con _)) (.cons (Sub.imm (Imm.con _)) .nil))))) (.cons rfl (ObSub.rows (rows_imm imms_encTRelease)) .nil)))))) rfl)⟩
        replace h := ite_f hb77 h
        replace h := bind_some h
        obtain ⟨x79, hx80, h⟩ := h
        refine awp_any [OD.mk [(3, (V.ptr 1 4 0 0))] [] [(63, (V.ptr 1 4 0 1))] [],
              OD.mk [(63, (V.ptr 1 4 0 1))] [(1, (Ob.arr 52 4 [(encTStory a2)]))] [(64, (V.lst 3 (a2.Releases.map encTRelease)))] [],
              OD.mk [(64, (V.lst 3 (a2.Releases.map encTRelease)))] [] [(65, (iV ((a2.Releases.length : Nat) : Int)))] [],
              OD.mk [(65, (iV ((a2.Releases.length : Nat) : Int)))] [] [(66, (bV (((a2.Releases.length : Nat) : Int) == 0)))] [],
              OD.mk [(66, (bV (((a2.Releases.length : Nat) : Int) == 0)))] [] [(67, (bV (((a2.Releases.length : Nat) : Int) == 0)))] [],
              OD.mk [(67, (bV (((a2.Releases.length : Nat) : Int) == 0))), (11, (V.ptr 5 3 0 0))] [] [(68, (V.ptr 5 3 0 1))] [],
              OD.mk [(67, (bV (((a2.Releases.length : Nat) : Int) == 0))), (68, (V.ptr 5 3 0 1))] [(5, (Ob.arr 42 3 [(encTRelease x75)]))] [(69, (iV x75.Day))] [],
              OD.mk [(67, (bV (((a2.Releases.length : Nat) : Int) == 0))), (3, (V.ptr 1 4 0 0))] [] [(70, (V.ptr 1 4 0 1))] [],
              OD.mk [(67, (bV (((a2.Releases.length : Nat) : Int) == 0))), (70, (V.ptr 1 4 0 1))] [(1, (Ob.arr 52 4 [(encTStory a2)]))] [(71, (V.lst 3 (a2.Releases.map encTRelease)))] [],
              OD.mk [(67, (bV (((a2.Releases.length : Nat) : Int) == 0))), (71, (V.lst 3 (a2.Releases.map encTRelease)))] [] [(72, (V.iptr (encTRelease x79) 0))] [],
              OD.mk [(67, (bV (((a2.Releases.length : Nat) : Int) == 0))), (72, (V.iptr (encTRelease x79) 0))] [] [(73, (V.iptr (encTRelease x79) 1))] [],
              OD.mk [(67, (bV (((a2.Releases.length : Nat) : Int) == 0))), (73, (V.iptr (encTRelease x79) 1))] [] [(74, (iV x79.Day))] [],
              OD.mk [(67, (bV (((a2.Releases.length : Nat) : Int) == 0))), (69, (iV x75.Day)), (74, (iV x79.Day))] [] [(75, (bV (decide (x75.Day < x79.Day))))] [],
              OD.mk [(67, (bV (((a2.Releases.length : Nat) : Int) == 0))), (75, (bV (decide (x75.Day < x79.Day))))] [] [(76, (bV (decide (x75.Day < x79.Day))))] []] mixed ⟨⟨rfl, trivial⟩, trivial, ⟨⟨rfl, trivial⟩, ⟨rfl, trivial⟩, ⟨⟨rfl, trivial⟩, trivial, ⟨⟨rfl, trivial⟩, trivial, ⟨⟨rfl, trivial⟩, trivial, ⟨⟨rfl, rfl, trivial⟩, trivial, ⟨⟨rfl, rfl, trivial⟩, ⟨rfl, trivial⟩, ⟨⟨rfl, rfl, trivial⟩, trivial, ⟨⟨rfl, rfl, trivial⟩, ⟨rfl, trivial⟩, ⟨⟨rfl, rfl, trivial⟩, trivial, ⟨⟨rfl, rfl, trivial⟩, trivial, ⟨⟨rfl, rfl, trivial⟩, trivial, ⟨⟨rfl, rfl, rfl, trivial⟩, trivial, ⟨⟨rfl, rfl, trivial⟩, trivial, trivial⟩⟩⟩⟩⟩⟩⟩⟩⟩⟩⟩⟩⟩⟩ (by kernel_rfl) (.cons (fun S hn h hh => aops_fieldAddr tF52_1 wants_none h.1 rfl (an ⟨rfl, rfl⟩)) (.cons (fun S hn h hh => aops_load_cell (V.lst 3 (a2.Releases.map encTRelease)) tC49 wants_none h.1 hh.1 rfl rfl rfl (an ⟨rfl, rfl⟩)) (.cons (fun S hn h hh => aops_len (n := a2.Releases.length) tIsSl49 wants_none h.1 (congrArg some (List.length_map ..)) rfl (an ⟨rfl, rfl⟩)) (.cons (fun S hn h hh => aops_bin (.bool (((a2.Releases.length : Nat) : Int) == 0)) wants_none h.1 rfl rfl rfl (an ⟨rfl, rfl⟩)) (.cons (fun S hn h hh => aops_move (bV (((a2.Releases.length : Nat) : Int) == 0)) wants_none h.1 rfl (an ⟨rfl, rfl⟩)) (.cons (fun S hn h hh => aops_fieldAddr tF42_1 (wants_some (c := (((a2.Releases.length : Nat) : Int) == 0)) (b := false) 67 rfl h.1 hb77) h.2.1 rfl (an ⟨rfl, rfl⟩)) (.cons (fun S hn h hh => aops_load_cell (iV x75.Day) tC3 (wants_some (c := (((a2.Releases.length : Nat) : Int) == 0)) (b := false) 67 rfl h.1 hb77) h.2.1 hh.1 rfl rfl rfl (an ⟨rfl, rfl⟩)) (.cons (fun S hn h hh => aops_fieldAddr tF52_1 (wants_some (c := (((a2.Releases.length : Nat) : Int) == 0)) (b := false) 67 rfl h.1 hb77) h.2.1 rfl (an ⟨rfl, rfl⟩)) (.cons (fun S hn h hh => aops_load_cell (V.lst 3 (a2.Releases.map encTRelease)) tC49 (wants_some (c := (((a2.Releases.length : Nat) : Int) == 0)) (b := false) 67 rfl h.1 hb77) h.2.1 hh.1 rfl rfl rfl (an ⟨rfl, rfl⟩)) (.cons (fun S hn h hh => aops_index_lst (encTRelease x79) tSl49 (wants_some (c := (((a2.Releases.length : Nat) : Int) == 0)) (b := false) 67 rfl h.1 hb77) h.2.1 rfl (idx_some hx80).1 (idx_map encTRelease hx80) rfl (an ⟨rfl, rfl⟩)) (.cons (fun S hn h hh => aops_ifieldAddr tF42_1 (wants_some (c := (((a2.Releases.length : Nat) : Int) == 0)) (b := false) 67 rfl h.1 hb77) h.2.1 rfl (an ⟨rfl, rfl⟩)) (.cons (fun S hn h hh => aops_iload_cell (iV x79.Day) tC3 (wants_some (c := (((a2.Releases.length : Nat) : Int) == 0)) (b := false) 67 rfl h.1 hb77) h.2.1 rfl rfl (an ⟨rfl, rfl⟩)) (.cons (fun S hn h hh => aops_bin (.bool (decide (x75.Day < x79.Day))) (wants_some (c := (((a2.Releases.length : Nat) : Int) == 0)) (b := false) 67 rfl h.1 hb77) h.2.1 h.2.2.1 rfl rfl (an ⟨rfl, rfl⟩)) (.cons (fun S hn h hh => aops_pick false (cb := (((a2.Releases.length : Nat) : Int) == 0)) (bV (decide (x75.Day < x79.Day))) wants_none h.1 hb77 h.2.1 rfl (an ⟨rfl, rfl⟩)) .nil)))))))))))))) ?_
        replace h := jn_elim h
        obtain ⟨k81, hk81, h⟩ := h
        refine awp_cut (fun (p : (List TRelease)) => (⟨[(2, (V.ptr 0 4 0 0)), (3, (V.ptr 1 4 0 0)), (4, (V.ptr 2 4 0 0)), (9, (V.ptr 3 4 0 0)), (57, (V.lst 3 (a1.Releases.map encTRelease))), (58, (iV ((a1.Releases.length : Nat) : Int))), (59, (iV n70)), (68, (V.ptr 4 3 0 1)), (69, (iV x75.Day)), (70, (V.ptr 1 4 0 1)), (71, (V.lst 3 (a2.Releases.map encTRelease))), (72, (V.iptr (encTRelease x79) 0)), (73, (V.iptr (encTRelease x79) 1)), (74, (iV x79.Day)), (75, (bV (decide (x75.Day < x79.Day))))], [(0, (Ob.arr 52 4 [(encTStory a1)])), (1, (Ob.arr 52 4 [(encTStory a2)])), (2, (Ob.arr 52 4 [[(sV ([] : List UInt8)), nV, nV, (iV 0)]])), (3, (Ob.arr 52 4 [[(sV a1.Product), (V.own 5 p.length), nV, (iV a2.Until)]])), (4, (Ob.arr 42 3 [(encTRelease x75)])), (5, (Ob.arr 42 3 (p.map encTRelease)))], 6⟩ : St)) (fun (p : (List TRelease)) => k81 p = some r) ?_ ?_
        · clear hk81
          refine awp_cond (decide (x75.Day < x79.Day)) rfl (fun hb83 => ?_) (fun hb83 => ?_)
          · replace h := ite_t hb83 h
            refine rg ?_
            refine aops_fieldAddr tF52_1 wants_none rfl rfl ?_
            refine aops_load_cell (V.own 4 l71.length) tC49 wants_none rfl rfl rfl rfl rfl ?_
            refine aops_load_agg (cs := (encTRelease x75)) tA42 wants_none rfl rfl rfl rfl rfl rfl ?_
            refine aops_buildSlice [(0, (V.agg (encTRelease x75)))] [(encTRelease x75)] tEl49 tZ42 rfl rfl rfl rfl wants_none (evp_cons rfl evp_nil) rfl rfl (by simp) rfl ?_
            replace h := chk_some h
            obtain ⟨hc84, h⟩ := h
            refine aops_append [(encTRelease x75)] ((l71 ++ ([x75] : List TRelease)).map encTRelease) tEl49 tIsSl49 rfl rfl wants_none rfl rfl (by simp) rfl (.own rfl (by simp)) (map_snoc encTRelease l71 ([x75] : List TRelease)) (List.length_map ..) hc84 rfl ?_
            refine aops_fieldAddr tF52_1 wants_none rfl rfl ?_
            refine aops_store [(V.own 7 (l71 ++ ([x75] : List TRelease)).length)] [[(sV a1.Product), (V.own 7 (l71 ++ ([x75] : List TRelease)).length), nV, (iV a2.Until)]] tS49 wants_none rfl rfl rfl rfl rfl rfl rfl rfl ?_
            refine an ?_
            exact ⟨(l71 ++ ([x75] : List TRelease)), h, (ghost_ren 6 (fun i => ([0, 1, 2, 3, 5, 7] : List Nat).getD i 0) _ _ (by decide) (EnvSub.get (.cons (Sub.ptr rfl rfl) (.cons (Sub.ptr rfl rfl) (.cons (Sub.ptr rfl rfl) (.cons (Sub.ptr rfl rfl) (.cons (Sub.imm (Imm.lst _ _)) (.cons (Sub.imm (Imm.con _)) (.cons (Sub.imm (Imm.con _)) (.cons (Sub.ptr rfl rfl) (.cons (Sub.imm (Imm.con _)) (.cons (Sub.ptr rfl rfl) (.cons (Sub.imm (Imm.lst _ _)) (.cons (Sub.imm (Imm.iptr _ _)) (.cons (Sub.imm (Imm.iptr _ _)) (.cons (Sub.imm (Imm.con _)) (.cons (Sub.imm (Imm.con _)) .nil)))))))))))))))) (HpSub.get (.cons rfl (ObSub.box (.cons (Sub.imm (Imm.con _)) (.cons (Sub.imm (Imm.lst _ _)) (.cons (Sub.imm (Imm.lst _ _)) (.cons (Sub.imm (Imm.con _)) .nil))))) (.cons rfl (ObSub.box (.cons (Sub.imm (Imm.con _)) (.cons (Sub.imm (Imm.lst _ _)) (.cons (Sub.imm (Imm.lst _ _)) (.cons (Sub.imm (Imm.con _)) .nil))))) (.cons rfl (ObSub.box (.cons (Sub.imm (Imm.con _)) (.cons (Sub.imm (Imm.con _)) (.cons (Sub.imm (Imm.con _)) (.cons (Sub.imm (Imm.con _)) .nil))))) (.cons rfl (ObSub.box (.cons (Sub.imm (Imm.con _)) (.cons (Sub.own rfl rfl) (.cons (Sub.imm (Imm.con _)) (.cons (Sub.imm (Imm.con _)) .nil))))) (.cons rfl (ObSub.box (.cons (Sub.imm (Imm.con _)) (.cons (Sub.imm (Imm.con _)) (.cons (Sub.imm (Imm.lst _ _)) .nil)))) (.cons rfl (ObSub.rows (rows_imm imms_encTRelease)) .nil))))))) rfl)⟩
          replace h := ite_f hb83 h
          refine awp_skip ?_
          exact ⟨l71, h, (ghost_ren 6 (fun i => ([0, 1, 2, 3, 5, 4] : List Nat).getD i 0) _ _ (by decide) (EnvSub.get (.cons (Sub.ptr rfl rfl) (.cons (Sub.ptr rfl rfl) (.cons (Sub.ptr rfl rfl) (.cons (Sub.ptr rfl rfl) (.cons (Sub.imm (Imm.lst _ _)) (.cons (Sub.imm (Imm.con _)) (.cons (Sub.imm (Imm.con _)) (.cons (Sub.ptr rfl rfl) (.cons (Sub.imm (Imm.con _)) (.cons (Sub.ptr rfl rfl) (.cons (Sub.imm (Imm.lst _ _)) (.cons (Sub.imm (Imm.iptr _ _)) (.cons (Sub.imm (Imm.iptr _ _)) (.cons (Sub.imm (Imm.con _)) (.cons (Sub.imm (Imm.con _)) .nil)))))))))))))))) (HpSub.get (.cons rfl (ObSub.box (.cons (Sub.imm (Imm.con _)) (.cons (Sub.imm (Imm.lst _ _)) (.cons (Sub.imm (Imm.lst _ _)) (.cons (Sub.imm (Imm.con _)) .nil))))) (.cons rfl (ObSub.box (.cons (Sub.imm (Imm.con _)) (.cons (Sub.imm (Imm.lst _ _)) (.cons (Sub.imm (Imm.lst _ _)) (.cons (Sub.imm (Imm.con _)) .nil))))) (.cons rfl (ObSub.box (.cons (Sub.imm (Imm.con _)) (.cons (Sub.imm (Imm.con _)) (.cons (Sub.imm (Imm.con _)) (.cons (Sub.imm (Imm.con _)) .nil))))) (.cons rfl (ObSub.box (.cons (Sub.imm (Imm.con _)) (.cons (Sub.own rfl rfl) (.cons (Sub.imm (Imm.con _)) (.cons (Sub.imm (Imm.con _)) .nil))))) (.cons rfl (ObSub.box (.cons (Sub.imm (Imm.con _)) (.cons (Sub.imm (Imm.con _)) (.cons (Sub.imm (Imm.lst _ _)) .nil)))) (.cons rfl (ObSub.rows (rows_imm imms_encTRelease)) .nil))))))) rfl)⟩
        clear h
        intro l82 h
        subst hk81
        exact ⟨l82, h, (ghost_ren 5 (fun i => ([0, 1, 2, 3, 5] : List Nat).getD i 0) _ _ (by decide) (EnvSub.get (.cons (Sub.ptr rfl rfl) (.cons (Sub.ptr rfl rfl) (.cons (Sub.ptr rfl rfl) (.cons (Sub.ptr rfl rfl) (.cons (Sub.imm (Imm.lst _ _)) (.cons (Sub.imm (Imm.con _)) (.cons (Sub.imm (Imm.con _)) .nil)))))))) (HpSub.get (.cons rfl (ObSub.box (.cons (Sub.imm (Imm.con _)) (.cons (Sub.imm (Imm.lst _ _)) (.cons (Sub.imm (Imm.lst _ _)) (.cons (Sub.imm (Imm.con _)) .nil))))) (.cons rfl (ObSub.box (.cons (Sub.imm (Imm.con _)) (.cons (Sub.imm (Imm.lst _ _)) (.cons (Sub.imm (Imm.lst _ _)) (.cons (Sub.imm (Imm.con _)) .nil))))) (.cons rfl (ObSub.box (.cons (Sub.imm (Imm.con _)) (.cons (Sub.imm (Imm.con _)) (.cons (Sub.imm (Imm.con _)) (.cons (Sub.imm (Imm.con _)) .nil))))) (.cons rfl (ObSub.box (.cons (Sub.imm (Imm.con _)) (.cons (Sub.own rfl rfl) (.cons (Sub.imm (Imm.con _)) (.cons (Sub.imm (Imm.con _)) .nil))))) (.cons rfl (ObSub.rows (rows_imm imms_encTRelease)) .nil)))))) rfl)⟩
      clear h
      intro l74 h
      subst hk73
      refine rg ?_
      refine aops_bin (.int .i64 (w64 (n70 + 1))) wants_none rfl rfl rfl rfl ?_
      refine am (iV (w64 (n70 + 1))) rfl rfl ?_
      refine an ?_
      exact awp_back (ih5 ((w64 (n70 + 1)), l74) (hk5 _ h)) (ghost_ren 5 (fun i => ([0, 1, 2, 3, 4] : List Nat).getD i 0) _ _ (by decide) (EnvSub.get (.cons (Sub.ptr rfl rfl) (.cons (Sub.ptr rfl rfl) (.cons (Sub.ptr rfl rfl) (.cons (Sub.ptr rfl rfl) (.cons (Sub.imm (Imm.lst _ _)) (.cons (Sub.imm (Imm.con _)) (.cons (Sub.imm (Imm.con _)) .nil)))))))) (HpSub.get (.cons rfl (ObSub.box (.cons (Sub.imm (Imm.con _)) (.cons (Sub.imm (Imm.lst _ _)) (.cons (Sub.imm (Imm.lst _ _)) (.cons (Sub.imm (Imm.con _)) .nil))))) (.cons rfl (ObSub.box (.cons (Sub.imm (Imm.con _)) (.cons (Sub.imm (Imm.lst _ _)) (.cons (Sub.imm (Imm.lst _ _)) (.cons (Sub.imm (Imm.con _)) .nil))))) (.cons rfl (ObSub.box (.cons (Sub.imm (Imm.con _)) (.cons (Sub.imm (Imm.con _)) (.cons (Sub.imm (Imm.con _)) (.cons (Sub.imm (Imm.con _)) .nil))))) (.cons rfl (ObSub.box (.cons (Sub.imm (Imm.con _)) (.cons (Sub.own rfl rfl) (.cons (Sub.imm (Imm.con _)) (.cons (Sub.imm (Imm.con _)) .nil))))) (.cons rfl (ObSub.rows (rows_imm imms_encTRelease)) .nil)))))) rfl)
    replace h := RG.f h hb72
    unfold M48_L5 at h
    refine awp_exit ?_
    exact ⟨l71, h, (ghost_ren 5 (fun i => ([0, 1, 2, 3, 4] : List Nat).getD i 0) _ _ (by decide) (EnvSub.get (.cons (Sub.ptr rfl rfl) (.cons (Sub.ptr rfl rfl) (.cons (Sub.ptr rfl rfl) (.cons (Sub.ptr rfl rfl) .nil))))) (HpSub.get (.cons rfl (ObSub.box (.cons (Sub.imm (Imm.con _)) (.cons (Sub.imm (Imm.lst _ _)) (.cons (Sub.imm (Imm.lst _ _)) (.cons (Sub.imm (Imm.con _)) .nil))))) (.cons rfl (ObSub.box (.cons (Sub.imm (Imm.con _)) (.cons (Sub.imm (Imm.lst _ _)) (.cons (Sub.imm (Imm.lst _ _)) (.cons (Sub.imm (Imm.con _)) .nil))))) (.cons rfl (ObSub.box (.cons (Sub.imm (Imm.con _)) (.cons (Sub.imm (Imm.con _)) (.cons (Sub.imm (Imm.con _)) (.cons (Sub.imm (Imm.con _)) .nil))))) (.cons rfl (ObSub.box (.cons (Sub.imm (Imm.con _)) (.cons (Sub.own rfl rfl) (.cons (Sub.imm (Imm.con _)) (.cons (Sub.imm (Imm.con _)) .nil))))) (.cons rfl (ObSub.rows (rows_imm imms_encTRelease)) .nil)))))) rfl)⟩
  clear h
  intro l67 h
  subst hk66
  refine sr ?_
  refine aops_fieldAddr tF52_1 wants_none rfl rfl ?_
  refine aops_load_cell (V.own 4 l67.length) tC49 wants_none rfl rfl rfl rfl rfl ?_
  refine aops_fieldAddr tF52_1 wants_none rfl rfl ?_
  refine aops_load_cell (V.lst 3 (a2.Releases.map encTRelease)) tC49 wants_none rfl rfl rfl rfl rfl ?_
  replace h := chk_some h
  obtain ⟨hc86, h⟩ := h
  refine aops_append (a2.Releases.map encTRelease) ((l67 ++ a2.Releases).map encTRelease) tEl49 tIsSl49 rfl rfl wants_none rfl rfl (by simp) rfl (.lst (rows_one one_encTRelease)) (map_snoc encTRelease l67 a2.Releases) (List.length_map ..) hc86 rfl ?_
  refine aops_fieldAddr tF52_1 wants_none rfl rfl ?_
  refine aops_store [(V.own 5 (l67 ++ a2.Releases).length)] [[(sV a1.Product), (V.own 5 (l67 ++ a2.Releases).length), nV, (iV a2.Until)]] tS49 wants_none rfl rfl rfl rfl rfl rfl rfl rfl ?_
  refine an ?_
  refine sr ?_
  refine aa (bV false) rfl rfl ?_
  refine an ?_
  refine sr ?_
  refine aops_fieldAddr tF52_2 wants_none rfl rfl ?_
  refine aops_load_cell (V.lst 3 (a1.Known.map encTPublished)) tC50 wants_none rfl rfl rfl rfl rfl ?_
  refine aops_fieldAddr tF52_2 wants_none rfl rfl ?_
  refine aops_load_cell (V.lst 3 (a2.Known.map encTPublished)) tC50 wants_none rfl rfl rfl rfl rfl ?_
  replace h := bind_some h
  obtain ⟨y87, hx88, h⟩ := h
  refine aops_call (V.tup [(V.lst 3 ((y87.1).map encTPublished)), (bV (y87.2))]) [(V.lst 3 (a1.Known.map encTPublished)), (V.lst 3 (a2.Known.map encTPublished))] fOk105 wants_none (evm_cons rfl (evm_cons rfl evm_nil)) (.cons (Imm.lst _ _) (.cons (Imm.lst _ _) .nil)) (W105 F a1.Known a2.Known y87 hx88) rfl ?_
  refine am (V.tup [(V.lst 3 ((y87.1).map encTPublished)), (bV (y87.2))]) rfl rfl ?_
  refine aops_extract (V.lst 3 ((y87.1).map encTPublished)) wants_none rfl rfl rfl ?_
  refine aops_extract (bV (y87.2)) wants_none rfl rfl rfl ?_
  refine aops_fieldAddr tF52_2 wants_none rfl rfl ?_
  refine aops_store [(V.lst 3 ((y87.1).map encTPublished))] [[(sV a1.Product), (V.own 5 (l67 ++ a2.Releases).length), (V.lst 3 ((y87.1).map encTPublished)), (iV a2.Until)]] tS50 wants_none rfl rfl rfl rfl rfl rfl rfl rfl ?_
  refine aa (bV (y87.2)) rfl rfl ?_
  refine an ?_
  refine sr ?_
  refine aops_makeMap wants_none rfl ?_
  refine aa (V.map 6) rfl rfl ?_
  refine an ?_
  refine sq ?_
  refine sr ?_
  refine aops_fieldAddr tF52_1 wants_none rfl rfl ?_
  refine aops_load_cell (V.own 5 (l67 ++ a2.Releases).length) tC49 wants_none rfl rfl rfl rfl rfl ?_
  refine aops_len (n := (l67 ++ a2.Releases).length) tIsSl49 wants_none rfl rfl rfl ?_
  refine am (iV 0) rfl rfl ?_
  refine an ?_
  replace h := jn_elim h
  obtain ⟨k89, hk89, h⟩ := h
  refine awp_cut (fun (p : Bool) => (⟨[(4, (V.ptr 0 4 0 0)), (9, (V.ptr 1 4 0 0)), (12, (bV p))], [(0, (Ob.arr 52 4 [[(sV ([] : List UInt8)), nV, nV, (iV 0)]])), (1, (Ob.arr 52 4 [[(sV a1.Product), (V.own 2 (l67 ++ a2.Releases).length), (V.lst 3 ((y87.1).map encTPublished)), (iV a2.Until)]])), (2, (Ob.arr 42 3 ((l67 ++ a2.Releases).map encTRelease)))], 3⟩ : St)) (fun (p : Bool) => k89 p = some r) ?_ ?_
  · clear hk89
    refine awp_block ?_
    refine awp_lenO (A := (l67 ++ a2.Releases)) 5 rfl (fun hA104 => ?_)
    refine awp_loop_ind (fun (p : Bool × Int × (List ((List UInt8) × Bool))) => (⟨[(4, (V.ptr 0 4 0 0)), (9, (V.ptr 1 4 0 0)), (12, (bV (p.1))), (13, (V.map 2)), (101, (V.own 3 (l67 ++ a2.Releases).length)), (102, (iV (((l67 ++ a2.Releases).length : Nat) : Int))), (103, (iV (p.2.1)))], [(0, (Ob.arr 52 4 [[(sV ([] : List UInt8)), nV, nV, (iV 0)]])), (1, (Ob.arr 52 4 [[(sV a1.Product), (V.own 3 (l67 ++ a2.Releases).length), (V.lst 3 ((y87.1).map encTPublished)), (iV a2.Until)]])), (2, (Ob.map ((p.2.2).map encM9_4))), (3, (Ob.arr 42 3 ((l67 ++ a2.Releases).map encTRelease)))], 4⟩ : St)) (fun n (p : Bool × Int × (List ((List UInt8) × Bool))) => RG (l67 ++ a2.Releases) (fun tl nn => M48_L6 F k89 tl p.1 p.2.2 = some r) n p.2.1) (fun p h => RG.zero h) (fun n ih6 p h => ?_) ((l67 ++ a2.Releases).length + 1) ((y87.2), 0, ([] : List ((List UInt8) × Bool))) (RG.start h) (ghost_ren 4 (fun i => ([2, 3, 6, 5] : List Nat).getD i 0) _ _ (by decide) (EnvSub.get (.cons (Sub.ptr rfl rfl) (.cons (Sub.ptr rfl rfl) (.cons (Sub.imm (Imm.con _)) (.cons (Sub.map rfl rfl) (.cons (Sub.own rfl rfl) (.cons (Sub.imm (Imm.con _)) (.cons (Sub.imm (Imm.con _)) .nil)))))))) (HpSub.get (.cons rfl (ObSub.box (.cons (Sub.imm (Imm.con _)) (.cons (Sub.imm (Imm.con _)) (.cons (Sub.imm (Imm.con _)) (.cons (Sub.imm (Imm.con _)) .nil))))) (.cons rfl (ObSub.box (.cons (Sub.imm (Imm.con _)) (.cons (Sub.own rfl rfl) (.cons (Sub.imm (Imm.lst _ _)) (.cons (Sub.imm (Imm.con _)) .nil))))) (.cons rfl (ObSub.maps encM9_4_imm) (.cons rfl (ObSub.rows (rows_imm imms_encTRelease)) .nil))))) rfl)
    obtain ⟨b94, n95, m96⟩ := p
    refine awp_loop ?_
    refine sr ?_
    refine aops_bin (.bool (decide (n95 < (((l67 ++ a2.Releases).length : Nat) : Int)))) wants_none rfl rfl rfl rfl ?_
    refine an ?_
    refine sq ?_
    refine awp_cond (decide (n95 < (((l67 ++ a2.Releases).length : Nat) : Int))) rfl (fun hb97 => ?_) (fun hb97 => ?_)
    · obtain ⟨x101, tl, hx102, h, hk6⟩ := RG.t hA104 h hb97
      unfold M48_L6 at h
      refine awp_skip ?_
      refine sq ?_
      replace h := jn_elim h
      obtain ⟨k98, hk98, h⟩ := h
      refine awp_cut (fun (p : Bool × (List ((List UInt8) × Bool))) => (⟨[(4, (V.ptr 0 4 0 0)), (9, (V.ptr 1 4 0 0)), (12, (bV (p.1))), (13, (V.map 2)), (101, (V.own 3 (l67 ++ a2.Releases).length)), (102, (iV (((l67 ++ a2.Releases).length : Nat) : Int))), (103, (iV n95))], [(0, (Ob.arr 52 4 [[(sV ([] : List UInt8)), nV, nV, (iV 0)]])), (1, (Ob.arr 52 4 [[(sV a1.Product), (V.own 3 (l67 ++ a2.Releases).length), (V.lst 3 ((y87.1).map encTPublished)), (iV a2.Until)]])), (2, (Ob.map ((p.2).map encM9_4))), (3, (Ob.arr 42 3 ((l67 ++ a2.Releases).map encTRelease)))], 4⟩ : St)) (fun (p : Bool × (List ((List UInt8) × Bool))) => k98 p.1 p.2 = some r) ?_ ?_
      · clear hk98
        refine awp_block ?_
        refine sr ?_
        refine aops_index_own tSl49 wants_none rfl rfl (idx_some hx102).1 (by simpa using idx_lt hx102) rfl ?_
        refine aops_load_agg (cs := (encTRelease x101)) tA42 wants_none rfl rfl (idx_map encTRelease hx102) rfl rfl rfl ?_
        refine aops_alloc tZ42 rfl rfl wants_none rfl ?_
        refine aops_store (encTRelease x101) [(encTRelease x101)] tS42 wants_none rfl rfl rfl rfl rfl rfl rfl rfl ?_
        refine an ?_
        refine sr ?_
        refine am (bV b94) rfl rfl ?_
        refine am (bV b94) rfl rfl ?_
        refine bsp b94 (fun hb103 => ?_) (fun hb103 => ?_)
        · replace h := ite_t hb103 h
          refine aops_move (V.map 2) (wants_some (c := b94) (b := true) 108 rfl rfl hb103) rfl rfl ?_
          refine aops_fieldAddr tF42_0 (wants_some (c := b94) (b := true) 108 rfl rfl hb103) rfl rfl ?_
          refine aops_load_cell (sV x101.Version) tC9 (wants_some (c := b94) (b := true) 108 rfl rfl hb103) rfl rfl rfl rfl rfl ?_
          refine aops_lookup _ (bV false) (bV ((mget m96 x101.Version).getD false)) tMap135 tKey9 tZo4 (irel_con _) (wants_some (c := b94) (b := true) 108 rfl rfl hb103) rfl (.own rfl) (.con rfl) ⟨_, rfl⟩ encM9_4_good (encM9_4_look m96 x101.Version) (getD_map (encM9_4_val) (mget m96 x101.Version) false) rfl ?_
          refine aops_not (wants_some (c := b94) (b := true) 108 rfl rfl hb103) rfl rfl ?_
          refine aops_pick true (cb := b94) (bV (!((mget m96 x101.Version).getD false))) wants_none rfl hb103 rfl rfl ?_
          refine aa (bV (!((mget m96 x101.Version).getD false))) rfl rfl ?_
          refine an ?_
          refine rg ?_
          refine am (V.map 2) rfl rfl ?_
          refine aops_fieldAddr tF42_0 wants_none rfl rfl ?_
          refine aops_load_cell (sV x101.Version) tC9 wants_none rfl rfl rfl rfl rfl ?_
          refine aops_mapUpdate ((mput m96 x101.Version true).map encM9_4) tMap135 tKey9 wants_none rfl rfl (.con rfl) ⟨_, rfl⟩ encM9_4_good rfl (encM9_4_puts m96 x101.Version true) ?_
          refine an ?_
          exact ⟨((!((mget m96 x101.Version).getD false)), (mput m96 x101.Version true)), h, (ghost_ren 4 (fun i => ([0, 1, 2, 3] : List Nat).getD i 0) _ _ (by decide) (EnvSub.get (.cons (Sub.ptr rfl rfl) (.cons (Sub.ptr rfl rfl) (.cons (Sub.imm (Imm.con _)) (.cons (Sub.map rfl rfl) (.cons (Sub.own rfl rfl) (.cons (Sub.imm (Imm.con _)) (.cons (Sub.imm (Imm.con _)) .nil)))))))) (HpSub.get (.cons rfl (ObSub.box (.cons (Sub.imm (Imm.con _)) (.cons (Sub.imm (Imm.con _)) (.cons (Sub.imm (Imm.con _)) (.cons (Sub.imm (Imm.con _)) .nil))))) (.cons rfl (ObSub.box (.cons (Sub.imm (Imm.con _)) (.cons (Sub.own rfl rfl) (.cons (Sub.imm (Imm.lst _ _)) (.cons (Sub.imm (Imm.con _)) .nil))))) (.cons rfl (ObSub.maps encM9_4_imm) (.cons rfl (ObSub.rows (rows_imm imms_encTRelease)) .nil))))) rfl)⟩
        replace h := ite_f hb103 h
        refine aops_skips 5 1 108 true (c := b94) (b := false) rfl rfl hb103 rfl rfl ?_
        refine aops_pick false (cb := b94) (bV false) wants_none rfl hb103 rfl rfl ?_
        refine aa (bV false) rfl rfl ?_
        refine an ?_
        refine rg ?_
        refine am (V.map 2) rfl rfl ?_
        refine aops_fieldAddr tF42_0 wants_none rfl rfl ?_
        refine aops_load_cell (sV x101.Version) tC9 wants_none rfl rfl rfl rfl rfl ?_
        refine aops_mapUpdate ((mput m96 x101.Version true).map encM9_4) tMap135 tKey9 wants_none rfl rfl (.con rfl) ⟨_, rfl⟩ encM9_4_good rfl (encM9_4_puts m96 x101.Version true) ?_
        refine an ?_
        exact ⟨(false, (mput m96 x101.Version true)), h, (ghost_ren 4 (fun i => ([0, 1, 2, 3] : List Nat).getD i 0) _ _ (by decide) (EnvSub.get (.cons (Sub.ptr rfl rfl) (.cons (Sub.ptr rfl rfl) (.cons (Sub.imm (Imm.con _)) (.cons (Sub.map rfl rfl) (.cons (Sub.own rfl rfl) (.cons (Sub.imm (Imm.con _)) (.cons (Sub.imm (Imm.con _)) .nil)))))))) (HpSub.get (.cons rfl (ObSub.box (.cons (Sub.imm (Imm.con _)) (.cons (Sub.imm (Imm.con _)) (.cons (Sub.imm (Imm.con _)) (.cons (Sub.imm (Imm.con _)) .nil))))) (.cons rfl (ObSub.box (.cons (Sub.imm (Imm.con _)) (.cons (Sub.own rfl rfl) (.cons (Sub.imm (Imm.lst _ _)) (.cons (Sub.imm (Imm.con _)) .nil))))) (.cons rfl (ObSub.maps encM9_4_imm) (.cons rfl (ObSub.rows (rows_imm imms_encTRelease)) .nil))))) rfl)⟩
      clear h
      rintro ⟨b99, m100⟩ h
      subst hk98
      refine rg ?_
      refine aops_bin (.int .i64 (w64 (n95 + 1))) wants_none rfl rfl rfl rfl ?_
      refine am (iV (w64 (n95 + 1))) rfl rfl ?_
      refine an ?_
      exact awp_back (ih6 (b99, (w64 (n95 + 1)), m100) (hk6 _ h)) (ghost_ren 4 (fun i => ([0, 1, 2, 3] : List Nat).getD i 0) _ _ (by decide) (EnvSub.get (.cons (Sub.ptr rfl rfl) (.cons (Sub.ptr rfl rfl) (.cons (Sub.imm (Imm.con _)) (.cons (Sub.map rfl rfl) (.cons (Sub.own rfl rfl) (.cons (Sub.imm (Imm.con _)) (.cons (Sub.imm (Imm.con _)) .nil)))))))) (HpSub.get (.cons rfl (ObSub.box (.cons (Sub.imm (Imm.con _)) (.cons (Sub.imm (Imm.con _)) (.cons (Sub.imm (Imm.con _)) (.cons (Sub.imm (Imm.con _)) .nil))))) (.cons rfl (ObSub.box (.cons (Sub.imm (Imm.con _)) (.cons (Sub.own rfl rfl) (.cons (Sub.imm (Imm.lst _ _)) (.cons (Sub.imm (Imm.con _)) .nil))))) (.cons rfl (ObSub.maps encM9_4_imm) (.cons rfl (ObSub.rows (rows_imm imms_encTRelease)) .nil))))) rfl)
    replace h := RG.f h hb97
    unfold M48_L6 at h
    refine awp_exit ?_
    exact ⟨b94, h, (ghost_ren 3 (fun i => ([0, 1, 3] : List Nat).getD i 0) _ _ (by decide) (EnvSub.get (.cons (Sub.ptr rfl rfl) (.cons (Sub.ptr rfl rfl) (.cons (Sub.imm (Imm.con _)) .nil)))) (HpSub.get (.cons rfl (ObSub.box (.cons (Sub.imm (Imm.con _)) (.cons (Sub.imm (Imm.con _)) (.cons (Sub.imm (Imm.con _)) (.cons (Sub.imm (Imm.con _)) .nil))))) (.cons rfl (ObSub.box (.cons (Sub.imm (Imm.con _)) (.cons (Sub.own rfl rfl) (.cons (Sub.imm (Imm.lst _ _)) (.cons (Sub.imm (Imm.con _)) .nil))))) (.cons rfl (ObSub.rows (rows_imm imms_encTRelease)) .nil)))) rfl)⟩
  clear h
  intro b90 h
  subst hk89
  refine sq ?_
  refine sr ?_
  refine am (bV b90) rfl rfl ?_
  refine aops_not wants_none rfl rfl ?_
  refine an ?_
  refine awp_cond (!b90) rfl (fun hb105 => ?_) (fun hb105 => ?_)
  · replace h := ite_t hb105 h
    refine sr ?_
    refine aops_build [] [(sV ([] : List UInt8)), nV, nV, (iV 0)] tZ52 tPl52 rfl wants_none evp_nil rfl rfl ?_
    refine aops_store [(sV ([] : List UInt8)), nV, nV, (iV 0)] [[(sV ([] : List UInt8)), nV, nV, (iV 0)]] tS52 wants_none rfl rfl rfl rfl rfl rfl rfl rfl ?_
    refine aa (iV 5) rfl rfl ?_
    refine an ?_
    refine awp_ghost (ghost_tellC 0 (Ob.arr 52 4 [[(sV ([] : List UInt8)), (V.lst 3 (([] : List TRelease).map encTRelease)), (V.lst 3 (([] : List TPublished).map encTPublished)), (iV 0)]]) rfl (ObSub.box (.cons Sub.keepI (.cons (Sub.nil _) (.cons (Sub.nil _) (.cons Sub.keepI .nil)))))) ?_
    refine awp_ret ?_
    replace h := Option.some.inj h
    subst h
    exact ⟨.inl rfl, .two (.agg tA52 rfl rfl rfl rfl rfl (.cons (Imm.con _) (.cons (Imm.lst _ _) (.cons (Imm.lst _ _) (.cons (Imm.con _) .nil))))) (.tmp rfl (Imm.con _))⟩
  replace h := ite_f hb105 h
  refine awp_skip ?_
  refine sq ?_
  refine sr ?_
  refine aops_fieldAddr tF52_1 wants_none rfl rfl ?_
  refine aops_load_cell (V.own 2 (l67 ++ a2.Releases).length) tC49 wants_none rfl rfl rfl rfl rfl ?_
  refine aops_len (n := (l67 ++ a2.Releases).length) tIsSl49 wants_none rfl rfl rfl ?_
  refine aops_bin (.bool (decide ((((l67 ++ a2.Releases).length : Nat) : Int) > 500))) wants_none rfl rfl rfl rfl ?_
  refine am (bV (decide ((((l67 ++ a2.Releases).length : Nat) : Int) > 500))) rfl rfl ?_
  refine bsp (decide ((((l67 ++ a2.Releases).length : Nat) : Int) > 500)) (fun hb106 => ?_) (fun hb106 => ?_)
  · replace h := ite_t hb106 h
    refine aops_skips 4 4 126 false (c := (decide ((((l67 ++ a2.Releases).length : Nat) : Int) > 500))) (b := true) rfl rfl hb106 rfl rfl ?_
    refine aops_pick true (cb := (decide ((((l67 ++ a2.Releases).length : Nat) : Int) > 500))) (bV true) wants_none rfl hb106 rfl rfl ?_
    refine an ?_
    refine awp_cond_t rfl rfl ?_
    refine sr ?_
    refine aops_build [] [(sV ([] : List UInt8)), nV, nV, (iV 0)] tZ52 tPl52 rfl wants_none evp_nil rfl rfl ?_
    refine aops_store [(sV ([] : List UInt8)), nV, nV, (iV 0)] [[(sV ([] : List UInt8)), nV, nV, (iV 0)]] tS52 wants_none rfl rfl rfl rfl rfl rfl rfl rfl ?_
    refine aa (iV 3) rfl rfl ?_
    refine an ?_
    refine awp_ghost (ghost_tellC 0 (Ob.arr 52 4 [[(sV ([] : List UInt8)), (V.lst 3 (([] : List TRelease).map encTRelease)), (V.lst 3 (([] : List TPublished).map encTPublished)), (iV 0)]]) rfl (ObSub.box (.cons Sub.keepI (.cons (Sub.nil _) (.cons (Sub.nil _) (.cons Sub.keepI .nil)))))) ?_
    refine awp_ret ?_
    replace h := Option.some.inj h
    subst h
    exact ⟨.inl rfl, .two (.agg tA52 rfl rfl rfl rfl rfl (.cons (Imm.con _) (.cons (Imm.lst _ _) (.cons (Imm.lst _ _) (.cons (Imm.con _) .nil))))) (.tmp rfl (Imm.con _))⟩
  replace h := ite_f hb106 h
  refine aops_fieldAddr tF52_2 (wants_some (c := (decide ((((l67 ++ a2.Releases).length : Nat) : Int) > 500))) (b := false) 126 rfl rfl hb106) rfl rfl ?_
  refine aops_load_cell (V.lst 3 ((y87.1).map encTPublished)) tC50 (wants_some (c := (decide ((((l67 ++ a2.Releases).length : Nat) : Int) > 500))) (b := false) 126 rfl rfl hb106) rfl rfl rfl rfl rfl ?_
  refine aops_len (n := (y87.1).length) tIsSl50 (wants_some (c := (decide ((((l67 ++ a2.Releases).length : Nat) : Int) > 500))) (b := false) 126 rfl rfl hb106) rfl (congrArg some (List.length_map ..)) rfl ?_
  refine aops_bin (.bool (decide ((((y87.1).length : Nat) : Int) > 2000))) (wants_some (c := (decide ((((l67 ++ a2.Releases).length : Nat) : Int) > 500))) (b := false) 126 rfl rfl hb106) rfl rfl rfl rfl ?_
  refine aops_pick false (cb := (decide ((((l67 ++ a2.Releases).length : Nat) : Int) > 500))) (bV (decide ((((y87.1).length : Nat) : Int) > 2000))) wants_none rfl hb106 rfl rfl ?_
  refine an ?_
  refine awp_cond (decide ((((y87.1).length : Nat) : Int) > 2000)) rfl (fun hb107 => ?_) (fun hb107 => ?_)
  · replace h := ite_t hb107 h
    refine sr ?_
    refine aops_build [] [(sV ([] : List UInt8)), nV, nV, (iV 0)] tZ52 tPl52 rfl wants_none evp_nil rfl rfl ?_
    refine aops_store [(sV ([] : List UInt8)), nV, nV, (iV 0)] [[(sV ([] : List UInt8)), nV, nV, (iV 0)]] tS52 wants_none rfl rfl rfl rfl rfl rfl rfl rfl ?_
    refine aa (iV 3) rfl rfl ?_
    refine an ?_
    refine awp_ghost (ghost_tellC 0 (Ob.arr 52 4 [[(sV ([] : List UInt8)), (V.lst 3 (([] : List TRelease).map encTRelease)), (V.lst 3 (([] : List TPublished).map encTPublished)), (iV 0)]]) rfl (ObSub.box (.cons Sub.keepI (.cons (Sub.nil _) (.cons (Sub.nil _) (.cons Sub.keepI .nil)))))) ?_
    refine awp_ret ?_
    replace h := Option.some.inj h
    subst h
    exact ⟨.inl rfl, .two (.agg tA52 rfl rfl rfl rfl rfl (.cons (Imm.con _) (.cons (Imm.lst _ _) (.cons (Imm.lst _ _) (.cons (Imm.con _) .nil))))) (.tmp rfl (Imm.con _))⟩
  replace h := ite_f hb107 h
  refine awp_skip ?_
  refine sq ?_
  refine sr ?_
  refine aops_fieldAddr tF52_1 wants_none rfl rfl ?_
  refine aops_load_cell (V.own 2 (l67 ++ a2.Releases).length) tC49 wants_none rfl rfl rfl rfl rfl ?_
  refine aops_len (n := (l67 ++ a2.Releases).length) tIsSl49 wants_none rfl rfl rfl ?_
  refine am (iV 0) rfl rfl ?_
  refine an ?_
  replace h := jn_elim h
  obtain ⟨k108, hk108, h⟩ := h
  refine awp_cut (fun _ : Unit => (⟨[(4, (V.ptr 0 4 0 0)), (9, (V.ptr 1 4 0 0))], [(0, (Ob.arr 52 4 [[(sV ([] : List UInt8)), nV, nV, (iV 0)]])), (1, (Ob.arr 52 4 [[(sV a1.Product), (V.own 2 (l67 ++ a2.Releases).length), (V.lst 3 ((y87.1).map encTPublished)), (iV a2.Until)]])), (2, (Ob.arr 42 3 ((l67 ++ a2.Releases).map encTRelease)))], 3⟩ : St)) (fun _ : Unit => k108 = some r) ?_ ?_
  · clear hk108
    refine awp_block ?_
    refine awp_lenO (A := (l67 ++ a2.Releases)) 2 rfl (fun hA115 => ?_)
    refine awp_loop_ind (fun (p : Int) => (⟨[(4, (V.ptr 0 4 0 0)), (9, (V.ptr 1 4 0 0)), (134, (V.own 2 (l67 ++ a2.Releases).length)), (135, (iV (((l67 ++ a2.Releases).length : Nat) : Int))), (136, (iV p))], [(0, (Ob.arr 52 4 [[(sV ([] : List UInt8)), nV, nV, (iV 0)]])), (1, (Ob.arr 52 4 [[(sV a1.Product), (V.own 2 (l67 ++ a2.Releases).length), (V.lst 3 ((y87.1).map encTPublished)), (iV a2.Until)]])), (2, (Ob.arr 42 3 ((l67 ++ a2.Releases).map encTRelease)))], 3⟩ : St)) (fun n (p : Int) => RG (l67 ++ a2.Releases) (fun tl nn => M48_L7 F a2 k108 tl = some r) n p) (fun p h => RG.zero h) (fun n ih7 p h => ?_) ((l67 ++ a2.Releases).length + 1) 0 (RG.start h) (ghost_ren 3 (fun i => ([0, 1, 2] : List Nat).getD i 0) _ _ (by decide) (EnvSub.get (.cons (Sub.ptr rfl rfl) (.cons (Sub.ptr rfl rfl) (.cons (Sub.own rfl rfl) (.cons (Sub.imm (Imm.con _)) (.cons (Sub.imm (Imm.con _)) .nil)))))) (HpSub.get (.cons rfl (ObSub.box (.cons (Sub.imm (Imm.con _)) (.cons (Sub.imm (Imm.con _)) (.cons (Sub.imm (Imm.con _)) (.cons (Sub.imm (Imm.con _)) .nil))))) (.cons rfl (ObSub.box (.cons (Sub.imm (Imm.con _)) (.cons (Sub.own rfl rfl) (.cons (Sub.imm (Imm.lst _ _)) (.cons (Sub.imm (Imm.con _)) .nil))))) (.cons rfl (ObSub.rows (rows_imm imms_encTRelease)) .nil)))) rfl)
    revert p
    intro n110 h
    refine awp_loop ?_
    refine sr ?_
    refine aops_bin (.bool (decide (n110 < (((l67 ++ a2.Releases).length : Nat) : Int)))) wants_none rfl rfl rfl rfl ?_
    refine an ?_
    refine sq ?_
    refine awp_cond (decide (n110 < (((l67 ++ a2.Releases).length : Nat) : Int))) rfl (fun hb111 => ?_) (fun hb111 => ?_)
    · obtain ⟨x112, tl, hx113, h, hk7⟩ := RG.t hA115 h hb111
      unfold M48_L7 at h
      refine awp_skip ?_
      refine sq ?_
      refine awp_block ?_
      refine sr ?_
      refine aops_index_own tSl49 wants_none rfl rfl (idx_some hx113).1 (by simpa using idx_lt hx113) rfl ?_
      refine aops_load_agg (cs := (encTRelease x112)) tA42 wants_none rfl rfl (idx_map encTRelease hx113) rfl rfl rfl ?_
      refine aops_alloc tZ42 rfl rfl wants_none rfl ?_
      refine aops_store (encTRelease x112) [(encTRelease x112)] tS42 wants_none rfl rfl rfl rfl rfl rfl rfl rfl ?_
      refine an ?_
      refine sr ?_
      refine aops_fieldAddr tF42_1 wants_none rfl rfl ?_
      refine aops_load_cell (iV x112.Day) tC3 wants_none rfl rfl rfl rfl rfl ?_
      refine aops_fieldAddr tF52_3 wants_none rfl rfl ?_
      refine aops_load_cell (iV a2.Until) tC3 wants_none rfl rfl rfl rfl rfl ?_
      refine aops_bin (.bool (decide (x112.Day > a2.Until))) wants_none rfl rfl rfl rfl ?_
      refine an ?_
      refine awp_cond (decide (x112.Day > a2.Until)) rfl (fun hb114 => ?_) (fun hb114 => ?_)
      · replace h := ite_t hb114 h
        refine sr ?_
        refine aops_build [] [(sV ([] : List UInt8)), nV, nV, (iV 0)] tZ52 tPl52 rfl wants_none evp_nil rfl rfl ?_
        refine aops_store [(sV ([] : List UInt8)), nV, nV, (iV 0)] [[(sV ([] : List UInt8)), nV, nV, (iV 0)]] tS52 wants_none rfl rfl rfl rfl rfl rfl rfl rfl ?_
        refine aa (iV 9) rfl rfl ?_
        refine an ?_
        refine awp_ghost (ghost_tellC 0 (Ob.arr 52 4 [[(sV ([] : List UInt8)), (V.lst 3 (([] : List TRelease).map encTRelease)), (V.lst 3 (([] : List TPublished).map encTPublished)), (iV 0)]]) rfl (ObSub.box (.cons Sub.keepI (.cons (Sub.nil _) (.cons (Sub.nil _) (.cons Sub.keepI .nil)))))) ?_
        refine awp_ret ?_
        replace h := Option.some.inj h
        subst h
        exact ⟨.inl rfl, .two (.agg tA52 rfl rfl rfl rfl rfl (.cons (Imm.con _) (.cons (Imm.lst _ _) (.cons (Imm.lst _ _) (.cons (Imm.con _) .nil))))) (.tmp rfl (Imm.con _))⟩
      replace h := ite_f hb114 h
      refine awp_skip ?_
      refine rg ?_
      refine aops_bin (.int .i64 (w64 (n110 + 1))) wants_none rfl rfl rfl rfl ?_
      refine am (iV (w64 (n110 + 1))) rfl rfl ?_
      refine an ?_
      exact awp_back (ih7 (w64 (n110 + 1)) (hk7 _ h)) (ghost_ren 3 (fun i => ([0, 1, 2] : List Nat).getD i 0) _ _ (by decide) (EnvSub.get (.cons (Sub.ptr rfl rfl) (.cons (Sub.ptr rfl rfl) (.cons (Sub.own rfl rfl) (.cons (Sub.imm (Imm.con _)) (.cons (Sub.imm (Imm.con _)) .nil)))))) (HpSub.get (.cons rfl (ObSub.box (.cons (Sub.imm (Imm.con _)) (.cons (Sub.imm (Imm.con _)) (.cons (Sub.imm (Imm.con _)) (.cons (Sub.imm (Imm.con _)) .nil))))) (.cons rfl (ObSub.box (.cons (Sub.imm (Imm.con _)) (.cons (Sub.own rfl rfl) (.cons (Sub.imm (Imm.lst _ _)) (.cons (Sub.imm (Imm.con _)) .nil))))) (.cons rfl (ObSub.rows (rows_imm imms_encTRelease)) .nil)))) rfl)
    replace h := RG.f h hb111
    unfold M48_L7 at h
    refine awp_exit ?_
    exact ⟨(), h, (ghost_ren 3 (fun i => ([0, 1, 2] : List Nat).getD i 0) _ _ (by decide) (EnvSub.get (.cons (Sub.ptr rfl rfl) (.cons (Sub.ptr rfl rfl) .nil))) (HpSub.get (.cons rfl (ObSub.box (.cons (Sub.imm (Imm.con _)) (.cons (Sub.imm (Imm.con _)) (.cons (Sub.imm (Imm.con _)) (.cons (Sub.imm (Imm.con _)) .nil))))) (.cons rfl (ObSub.box (.cons (Sub.imm (Imm.con _)) (.cons (Sub.own rfl rfl) (.cons (Sub.imm (Imm.lst _ _)) (.cons (Sub.imm (Imm.con _)) .nil))))) (.cons rfl (ObSub.rows (rows_imm imms_encTRelease)) .nil)))) rfl)⟩
  clear h
  intro _ h
  subst hk108
  refine sr ?_
  refine aops_load_agg (cs := [(sV a1.Product), (V.own 2 (l67 ++ a2.Releases).length), (V.lst 3 ((y87.1).map encTPublished)), (iV a2.Until)]) tA52 wants_none rfl rfl rfl rfl rfl rfl ?_
  refine aops_store [(sV a1.Product), (V.own 2 (l67 ++ a2.Releases).length), (V.lst 3 ((y87.1).map encTPublished)), (iV a2.Until)] [[(sV a1.Product), (V.own 2 (l67 ++ a2.Releases).length), (V.lst 3 ((y87.1).map encTPublished)), (iV a2.Until)]] tS52 wants_none rfl rfl rfl rfl rfl rfl rfl rfl ?_
  refine aa (iV 0) rfl rfl ?_
  refine an ?_
  refine awp_ghost (ghost_frzC 2 0 (Ob.arr 52 4 [[(sV a1.Product), (V.lst 3 ((l67 ++ a2.Releases).map encTRelease)), (V.lst 3 ((y87.1).map encTPublished)), (iV a2.Until)]]) rfl (rows_imm imms_encTRelease) (ObSub.box (.cons Sub.keep (.cons (Sub.frzAll (rows := (l67 ++ a2.Releases).map encTRelease) (List.length_map ..).symm) (.cons Sub.keep (.cons Sub.keep .nil)))))) ?_
  refine awp_ret ?_
  replace h := Option.some.inj h
  subst h
  exact ⟨.inl rfl, .two (.agg tA52 rfl rfl rfl rfl rfl (.cons (Imm.con _) (.cons (Imm.lst _ _) (.cons (Imm.lst _ _) (.cons (Imm.con _) .nil))))) (.tmp rfl (Imm.con _))⟩
theorem W106 (F : Nat) (a1 : (List TRelease)) (a2 : (List TRelease)) (r : Bool) (h : M106 F a1 a2 = some r) : Pure Try.prog 106 [(V.lst 3 (a1.map encTRelease)), (V.lst 3 (a2.map encTRelease)), (V.fn (.func 37) [] [])] (bV r) := by
  refine pure_enter Try.func106 rfl rfl (l := [.tmp 6]) rfl rfl [(0, (V.lst 3 (a1.map encTRelease))), (1, (V.lst 3 (a2.map encTRelease))), (2, (V.fn (.func 37) [] []))] rfl (fun w0 m0 => ?_)
  unfold M106 at h
  refine sr ?_
  refine aa (bV false) rfl rfl ?_
  refine an ?_
  refine sq ?_
  refine sr ?_
  refine am (V.lst 3 (a1.map encTRelease)) rfl rfl ?_
  refine aops_len (n := a1.length) tIsSl49 wants_none rfl (congrArg some (List.length_map ..)) rfl ?_
  refine am (V.lst 3 (a2.map encTRelease)) rfl rfl ?_
  refine aops_len (n := a2.length) tIsSl49 wants_none rfl (congrArg some (List.length_map ..)) rfl ?_
  refine aops_bin (.bool (((a1.length : Nat) : Int) != ((a2.length : Nat) : Int))) wants_none rfl rfl rfl rfl ?_
  refine an ?_
  refine awp_cond (((a1.length : Nat) : Int) != ((a2.length : Nat) : Int)) rfl (fun hb3 => ?_) (fun hb3 => ?_)
  · replace h := ite_t hb3 h
    refine sr ?_
    refine aa (bV false) rfl rfl ?_
    refine an ?_
    refine awp_ret ?_
    replace h := Option.some.inj h
    subst h
    exact ⟨.inl rfl, .one (.tmp rfl (Imm.con _))⟩
  replace h := ite_f hb3 h
  refine awp_skip ?_
  refine sq ?_
  refine sr ?_
  refine am (V.lst 3 (a1.map encTRelease)) rfl rfl ?_
  refine aops_len (n := a1.length) tIsSl49 wants_none rfl (congrArg some (List.length_map ..)) rfl ?_
  refine am (iV 0) rfl rfl ?_
  refine an ?_
  replace h := jn_elim h
  obtain ⟨k4, hk4, h⟩ := h
  refine awp_cut (fun _ : Unit => (⟨[], [], 0⟩ : St)) (fun _ : Unit => k4 = some r) ?_ ?_
  · clear hk4
    refine awp_block ?_
    refine awp_len (A := a1) 0 rfl (fun hA15 => ?_)
    refine awp_loop_ind (fun (p : Int) => (⟨[(1, (V.lst 3 (a2.map encTRelease))), (2, (V.fn (.func 37) [] [])), (15, (V.lst 3 (a1.map encTRelease))), (16, (iV ((a1.length : Nat) : Int))), (17, (iV p))], [], 0⟩ : St)) (fun n (p : Int) => RG a1 (fun tl nn => M106_L1 F a2 k4 tl nn = some r) n p) (fun p h => RG.zero h) (fun n ih1 p h => ?_) (a1.length + 1) 0 (RG.start h) (ghost_ren 0 (fun i => ([] : List Nat).getD i 0) _ _ (by decide) (EnvSub.get (.cons (Sub.imm (Imm.lst _ _)) (.cons (Sub.imm (Imm.fn .nil .nil)) (.cons (Sub.imm (Imm.lst _ _)) (.cons (Sub.imm (Imm.con _)) (.cons (Sub.imm (Imm.con _)) .nil)))))) (HpSub.get .nil) rfl)
    revert p
    intro n6 h
    refine awp_loop ?_
    refine sr ?_
    refine aops_bin (.bool (decide (n6 < ((a1.length : Nat) : Int)))) wants_none rfl rfl rfl rfl ?_
    refine an ?_
    refine sq ?_
    refine awp_cond (decide (n6 < ((a1.length : Nat) : Int))) rfl (fun hb7 => ?_) (fun hb7 => ?_)
    · obtain ⟨x8, tl, hx9, h, hk1⟩ := RG.t hA15 h hb7
      unfold M106_L1 at h
      refine awp_skip ?_
      refine sq ?_
      refine awp_block ?_
      refine sr ?_
      refine am (iV n6) rfl rfl ?_
      refine aops_index_lst (encTRelease x8) tSl49 wants_none rfl rfl (idx_some hx9).1 (idx_map encTRelease hx9) rfl ?_
      refine aops_iload_agg (cs := (encTRelease x8)) tA42 wants_none rfl rfl rfl rfl ?_
      refine aops_alloc tZ42 rfl rfl wants_none rfl ?_
      refine aa (iV n6) rfl rfl ?_
      refine aops_store (encTRelease x8) [(encTRelease x8)] tS42 wants_none rfl rfl rfl rfl rfl rfl rfl rfl ?_
      refine an ?_
      refine sr ?_
      refine am (V.lst 3 (a2.map encTRelease)) rfl rfl ?_
      refine am (iV n6) rfl rfl ?_
      replace h := bind_some h
      obtain ⟨x10, hx11, h⟩ := h
      refine aops_index_lst (encTRelease x10) tSl49 wants_none rfl rfl (idx_some hx11).1 (idx_map encTRelease hx11) rfl ?_
      refine aops_iload_agg (cs := (encTRelease x10)) tA42 wants_none rfl rfl rfl rfl ?_
      refine aops_alloc tZ42 rfl rfl wants_none rfl ?_
      refine aops_store (encTRelease x10) [(encTRelease x10)] tS42 wants_none rfl rfl rfl rfl rfl rfl rfl rfl ?_
      refine an ?_
      refine sr ?_
      refine am (V.fn (.func 37) [] []) rfl rfl ?_
      refine aops_load_agg (cs := (encTRelease x8)) tA42 wants_none rfl rfl rfl rfl rfl rfl ?_
      refine aops_load_agg (cs := (encTRelease x10)) tA42 wants_none rfl rfl rfl rfl rfl rfl ?_
      replace h := bind_some h
      obtain ⟨y12, hx13, h⟩ := h
      refine aops_callv (bV y12) [(V.agg (encTRelease x8)), (V.agg (encTRelease x10))] fOk37 wants_none rfl rfl (.cons (Imm.agg (imms_encTRelease _)) (.cons (Imm.agg (imms_encTRelease _)) .nil)) (W37 F x8 x10 y12 hx13) rfl ?_
      refine aops_not wants_none rfl rfl ?_
      refine an ?_
      refine awp_cond (!y12) rfl (fun hb14 => ?_) (fun hb14 => ?_)
      · replace h := ite_t hb14 h
        refine sr ?_
        refine aa (bV false) rfl rfl ?_
        refine an ?_
        refine awp_ret ?_
        replace h := Option.some.inj h
        subst h
        exact ⟨.inl rfl, .one (.tmp rfl (Imm.con _))⟩
      replace h := ite_f hb14 h
      refine awp_skip ?_
      refine rg ?_
      refine aops_bin (.int .i64 (w64 (n6 + 1))) wants_none rfl rfl rfl rfl ?_
      refine am (iV (w64 (n6 + 1))) rfl rfl ?_
      refine an ?_
      exact awp_back (ih1 (w64 (n6 + 1)) (hk1 _ h)) (ghost_ren 0 (fun i => ([] : List Nat).getD i 0) _ _ (by decide) (EnvSub.get (.cons (Sub.imm (Imm.lst _ _)) (.cons (Sub.imm (Imm.fn .nil .nil)) (.cons (Sub.imm (Imm.lst _ _)) (.cons (Sub.imm (Imm.con _)) (.cons (Sub.imm (Imm.con _)) .nil)))))) (HpSub.get .nil) rfl)
    replace h := RG.f h hb7
    unfold M106_L1 at h
    refine awp_exit ?_
    exact ⟨(), h, (ghost_ren 0 (fun i => ([] : List Nat).getD i 0) _ _ (by decide) (EnvSub.get .nil) (HpSub.get .nil) rfl)⟩
  clear h
  intro _ h
  subst hk4
  refine sr ?_
  refine aa (bV true) rfl rfl ?_
  refine an ?_
  refine awp_ret ?_
  replace h := Option.some.inj h
  subst h
  exact ⟨.inl rfl, .one (.tmp rfl (Imm.con _))⟩
theorem W107 (F : Nat) (a1 : (List TPublished)) (a2 : (List TPublished)) (r : Bool) (h : M107 F a1 a2 = some r) : Pure Try.prog 107 [(V.lst 3 (a1.map encTPublished)), (V.lst 3 (a2.map encTPublished))] (bV r) := by
  refine pure_enter Try.func107 rfl rfl (l := [.tmp 4]) rfl rfl [(0, (V.lst 3 (a1.map encTPublished))), (1, (V.lst 3 (a2.map encTPublished)))] rfl (fun w0 m0 => ?_)
  unfold M107 at h
  refine sr ?_
  refine aa (bV false) rfl rfl ?_
  refine an ?_
  refine sq ?_
  refine sr ?_
  refine am (V.lst 3 (a1.map encTPublished)) rfl rfl ?_
  refine aops_len (n := a1.length) tIsSl50 wants_none rfl (congrArg some (List.length_map ..)) rfl ?_
  refine am (V.lst 3 (a2.map encTPublished)) rfl rfl ?_
  refine aops_len (n := a2.length) tIsSl50 wants_none rfl (congrArg some (List.length_map ..)) rfl ?_
  refine aops_bin (.bool (((a1.length : Nat) : Int) != ((a2.length : Nat) : Int))) wants_none rfl rfl rfl rfl ?_
  refine an ?_
  refine awp_cond (((a1.length : Nat) : Int) != ((a2.length : Nat) : Int)) rfl (fun hb3 => ?_) (fun hb3 => ?_)
  · replace h := ite_t hb3 h
    refine sr ?_
    refine aa (bV false) rfl rfl ?_
    refine an ?_
    refine awp_ret ?_
    replace h := Option.some.inj h
    subst h
    exact ⟨.inl rfl, .one (.tmp rfl (Imm.con _))⟩
  replace h := ite_f hb3 h
  refine awp_skip ?_
  refine sq ?_
  refine sr ?_
  refine am (V.lst 3 (a1.map encTPublished)) rfl rfl ?_
  refine aops_len (n := a1.length) tIsSl50 wants_none rfl (congrArg some (List.length_map ..)) rfl ?_
  refine am (iV 0) rfl rfl ?_
  refine an ?_
  replace h := jn_elim h
  obtain ⟨k4, hk4, h⟩ := h
  refine awp_cut (fun _ : Unit => (⟨[], [], 0⟩ : St)) (fun _ : Unit => k4 = some r) ?_ ?_
  · clear hk4
    refine awp_block ?_
    refine awp_len (A := a1) 0 rfl (fun hA13 => ?_)
    refine awp_loop_ind (fun (p : Int) => (⟨[(0, (V.lst 3 (a1.map encTPublished))), (1, (V.lst 3 (a2.map encTPublished))), (12, (iV ((a1.length : Nat) : Int))), (13, (iV p))], [], 0⟩ : St)) (fun n (p : Int) => RG a1 (fun tl nn => M107_L1 F a2 k4 tl nn = some r) n p) (fun p h => RG.zero h) (fun n ih1 p h => ?_) (a1.length + 1) 0 (RG.start h) (ghost_ren 0 (fun i => ([] : List Nat).getD i 0) _ _ (by decide) (EnvSub.get (.cons (Sub.imm (Imm.lst _ _)) (.cons (Sub.imm (Imm.lst _ _)) (.cons (Sub.imm (Imm.con _)) (.cons (Sub.imm (Imm.con _)) .nil))))) (HpSub.get .nil) rfl)
    revert p
    intro n6 h
    refine awp_loop ?_
    refine sr ?_
    refine aops_bin (.bool (decide (n6 < ((a1.length : Nat) : Int)))) wants_none rfl rfl rfl rfl ?_
    refine an ?_
    refine sq ?_
    refine awp_cond (decide (n6 < ((a1.length : Nat) : Int))) rfl (fun hb7 => ?_) (fun hb7 => ?_)
    · obtain ⟨x8, tl, hx9, h, hk1⟩ := RG.t hA13 h hb7
      unfold M107_L1 at h
      refine awp_skip ?_
      refine sq ?_
      refine awp_block ?_
      refine sr ?_
      refine am (iV n6) rfl rfl ?_
      refine aa (iV n6) rfl rfl ?_
      refine an ?_
      refine sq ?_
      replace h := bind_some h
      obtain ⟨x10, hx11, h⟩ := h
      refine awp_any [OD.mk [(0, (V.lst 3 (a1.map encTPublished)))] [] [(16, (V.lst 3 (a1.map encTPublished)))] [],
            OD.mk [(5, (iV n6))] [] [(17, (iV n6))] [],
            OD.mk [(16, (V.lst 3 (a1.map encTPublished))), (17, (iV n6))] [] [(18, (V.iptr (encTPublished x8) 0))] [],
            OD.mk [(18, (V.iptr (encTPublished x8) 0))] [] [(19, (V.agg (encTPublished x8)))] [],
            OD.mk [(1, (V.lst 3 (a2.map encTPublished)))] [] [(20, (V.lst 3 (a2.map encTPublished)))] [],
            OD.mk [(5, (iV n6))] [] [(21, (iV n6))] [],
            OD.mk [(20, (V.lst 3 (a2.map encTPublished))), (21, (iV n6))] [] [(22, (V.iptr (encTPublished x10) 0))] [],
            OD.mk [(22, (V.iptr (encTPublished x10) 0))] [] [(23, (V.agg (encTPublished x10)))] [],
            OD.mk [(19, (V.agg (encTPublished x8))), (23, (V.agg (encTPublished x10)))] [] [(24, (bV (!(decide (x8 = x10)))))] []] mixed ⟨⟨rfl, trivial⟩, trivial, ⟨⟨rfl, trivial⟩, trivial, ⟨⟨rfl, rfl, trivial⟩, trivial, ⟨⟨rfl, trivial⟩, trivial, ⟨⟨rfl, trivial⟩, trivial, ⟨⟨rfl, trivial⟩, trivial, ⟨⟨rfl, rfl, trivial⟩, trivial, ⟨⟨rfl, trivial⟩, trivial, ⟨⟨rfl, rfl, trivial⟩, trivial, trivial⟩⟩⟩⟩⟩⟩⟩⟩⟩ (by kernel_rfl) (.cons (fun S hn h hh => aops_move (V.lst 3 (a1.map encTPublished)) wants_none h.1 rfl (an ⟨rfl, rfl⟩)) (.cons (fun S hn h hh => aops_move (iV n6) wants_none h.1 rfl (an ⟨rfl, rfl⟩)) (.cons (fun S hn h hh => aops_index_lst (encTPublished x8) tSl50 wants_none h.1 h.2.1 (idx_some hx9).1 (idx_map encTPublished hx9) rfl (an ⟨rfl, rfl⟩)) (.cons (fun S hn h hh => aops_iload_agg (cs := (encTPublished x8)) tA137 wants_none h.1 rfl rfl rfl (an ⟨rfl, rfl⟩)) (.cons (fun S hn h hh => aops_move (V.lst 3 (a2.map encTPublished)) wants_none h.1 rfl (an ⟨rfl, rfl⟩)) (.cons (fun S hn h hh => aops_move (iV n6) wants_none h.1 rfl (an ⟨rfl, rfl⟩)) (.cons (fun S hn h hh => aops_index_lst (encTPublished x10) tSl50 wants_none h.1 h.2.1 (idx_some hx11).1 (idx_map encTPublished hx11) rfl (an ⟨rfl, rfl⟩)) (.cons (fun S hn h hh => aops_iload_agg (cs := (encTPublished x10)) tA137 wants_none h.1 rfl rfl rfl (an ⟨rfl, rfl⟩)) (.cons (fun S hn h hh => aops_eqS true (xs := cv137 x8) (ys := cv137 x10) (b := (decide (x8 = x10))) eqk137 ⟨_, rfl⟩ ⟨_, rfl⟩ (eq_b cv137 _ _ (inj_cv137 _ _)) tEqG137 wants_none h.1 h.2.1 rfl (an ⟨rfl, rfl⟩)) .nil))))))))) ?_
      refine awp_cond (!(decide (x8 = x10))) rfl (fun hb12 => ?_) (fun hb12 => ?_)
      · replace h := ite_t hb12 h
        refine sr ?_
        refine aa (bV false) rfl rfl ?_
        refine an ?_
        refine awp_ret ?_
        replace h := Option.some.inj h
        subst h
        exact ⟨.inl rfl, .one (.tmp rfl (Imm.con _))⟩
      replace h := ite_f hb12 h
      refine awp_skip ?_
      refine rg ?_
      refine aops_bin (.int .i64 (w64 (n6 + 1))) wants_none rfl rfl rfl rfl ?_
      refine am (iV (w64 (n6 + 1))) rfl rfl ?_
      refine an ?_
      exact awp_back (ih1 (w64 (n6 + 1)) (hk1 _ h)) (ghost_ren 0 (fun i => ([] : List Nat).getD i 0) _ _ (by decide) (EnvSub.get (.cons (Sub.imm (Imm.lst _ _)) (.cons (Sub.imm (Imm.lst _ _)) (.cons (Sub.imm (Imm.con _)) (.cons (Sub.imm (Imm.con _)) .nil))))) (HpSub.get .nil) rfl)
    replace h := RG.f h hb7
    unfold M107_L1 at h
    refine awp_exit ?_
    exact ⟨(), h, (ghost_ren 0 (fun i => ([] : List Nat).getD i 0) _ _ (by decide) (EnvSub.get .nil) (HpSub.get .nil) rfl)⟩
  clear h
  intro _ h
  subst hk4
  refine sr ?_
  refine aa (bV true) rfl rfl ?_
  refine an ?_
  refine awp_ret ?_
  replace h := Option.some.inj h
  subst h
  exact ⟨.inl rfl, .one (.tmp rfl (Imm.con _))⟩
theorem W49 (F : Nat) (a1 : TStory) (a2 : TStory) (r : Bool) (h : M49 F a1 a2 = some r) : Pure Try.prog 49 [(V.agg (encTStory a1)), (V.agg (encTStory a2))] (bV r) := by
  refine pure_enter Try.func49 rfl rfl (l := [.tmp 4]) rfl rfl [(0, (V.agg (encTStory a1))), (1, (V.agg (encTStory a2)))] rfl (fun w0 m0 => ?_)
  unfold M49 at h
  refine sr ?_
  refine aops_box (encTStory a1) wants_none rfl rfl rfl rfl ?_
  refine aops_box (encTStory a2) wants_none rfl rfl rfl rfl ?_
  refine aa (bV false) rfl rfl ?_
  refine an ?_
  refine sr ?_
  refine aops_fieldAddr tF52_0 wants_none rfl rfl ?_
  refine aops_load_cell (sV a1.Product) tC9 wants_none rfl rfl rfl rfl rfl ?_
  refine aops_fieldAddr tF52_0 wants_none rfl rfl ?_
  refine aops_load_cell (sV a2.Product) tC9 wants_none rfl rfl rfl rfl rfl ?_
  refine aops_binT (.bool (a1.Product == a2.Product)) wants_none rfl rfl rfl rfl ?_
  refine am (bV (a1.Product == a2.Product)) rfl rfl ?_
  refine bsp (a1.Product == a2.Product) (fun hb3 => ?_) (fun hb3 => ?_)
  · replace h := ite_t hb3 h
    refine aops_fieldAddr tF52_3 (wants_some (c := (a1.Product == a2.Product)) (b := true) 10 rfl rfl hb3) rfl rfl ?_
    refine aops_load_cell (iV a1.Until) tC3 (wants_some (c := (a1.Product == a2.Product)) (b := true) 10 rfl rfl hb3) rfl rfl rfl rfl rfl ?_
    refine aops_fieldAddr tF52_3 (wants_some (c := (a1.Product == a2.Product)) (b := true) 10 rfl rfl hb3) rfl rfl ?_
    refine aops_load_cell (iV a2.Until) tC3 (wants_some (c := (a1.Product == a2.Product)) (b := true) 10 rfl rfl hb3) rfl rfl rfl rfl rfl ?_
    refine aops_bin (.bool (a1.Until == a2.Until)) (wants_some (c := (a1.Product == a2.Product)) (b := true) 10 rfl rfl hb3) rfl rfl rfl rfl ?_
    refine aops_pick true (cb := (a1.Product == a2.Product)) (bV (a1.Until == a2.Until)) wants_none rfl hb3 rfl rfl ?_
    refine am (bV (a1.Until == a2.Until)) rfl rfl ?_
    refine bsp (a1.Until == a2.Until) (fun hb4 => ?_) (fun hb4 => ?_)
    · replace h := ite_t hb4 h
      refine aops_fieldAddr tF52_1 (wants_some (c := (a1.Until == a2.Until)) (b := true) 17 rfl rfl hb4) rfl rfl ?_
      refine aops_load_cell (V.lst 3 (a1.Releases.map encTRelease)) tC49 (wants_some (c := (a1.Until == a2.Until)) (b := true) 17 rfl rfl hb4) rfl rfl rfl rfl rfl ?_
      refine aops_fieldAddr tF52_1 (wants_some (c := (a1.Until == a2.Until)) (b := true) 17 rfl rfl hb4) rfl rfl ?_
      refine aops_load_cell (V.lst 3 (a2.Releases.map encTRelease)) tC49 (wants_some (c := (a1.Until == a2.Until)) (b := true) 17 rfl rfl hb4) rfl rfl rfl rfl rfl ?_
      replace h := bind_some h
      obtain ⟨y5, hx6, h⟩ := h
      refine aops_call (bV y5) [(V.lst 3 (a1.Releases.map encTRelease)), (V.lst 3 (a2.Releases.map encTRelease)), (V.fn (.func 37) [] [])] fOk106 (wants_some (c := (a1.Until == a2.Until)) (b := true) 17 rfl rfl hb4) (evm_cons rfl (evm_cons rfl (evm_cons rfl evm_nil))) (.cons (Imm.lst _ _) (.cons (Imm.lst _ _) (.cons (Imm.fn .nil .nil) .nil))) (W106 F a1.Releases a2.Releases y5 hx6) rfl ?_
      refine aops_pick true (cb := (a1.Until == a2.Until)) (bV y5) wants_none rfl hb4 rfl rfl ?_
      refine am (bV y5) rfl rfl ?_
      refine bsp y5 (fun hb7 => ?_) (fun hb7 => ?_)
      · replace h := ite_t hb7 h
        refine aops_fieldAddr tF52_2 (wants_some (c := y5) (b := true) 24 rfl rfl hb7) rfl rfl ?_
        refine aops_load_cell (V.lst 3 (a1.Known.map encTPublished)) tC50 (wants_some (c := y5) (b := true) 24 rfl rfl hb7) rfl rfl rfl rfl rfl ?_
        refine aops_fieldAddr tF52_2 (wants_some (c := y5) (b := true) 24 rfl rfl hb7) rfl rfl ?_
        refine aops_load_cell (V.lst 3 (a2.Known.map encTPublished)) tC50 (wants_some (c := y5) (b := true) 24 rfl rfl hb7) rfl rfl rfl rfl rfl ?_
        replace h := bind_some h
        obtain ⟨y8, hx9, h⟩ := h
        refine aops_call (bV y8) [(V.lst 3 (a1.Known.map encTPublished)), (V.lst 3 (a2.Known.map encTPublished))] fOk107 (wants_some (c := y5) (b := true) 24 rfl rfl hb7) (evm_cons rfl (evm_cons rfl evm_nil)) (.cons (Imm.lst _ _) (.cons (Imm.lst _ _) .nil)) (W107 F a1.Known a2.Known y8 hx9) rfl ?_
        refine aops_pick true (cb := y5) (bV y8) wants_none rfl hb7 rfl rfl ?_
        refine aa (bV y8) rfl rfl ?_
        refine an ?_
        refine awp_ret ?_
        replace h := Option.some.inj h
        subst h
        exact ⟨.inl rfl, .one (.tmp rfl (Imm.con _))⟩
      replace h := ite_f hb7 h
      refine aops_skips 5 19 24 true (c := y5) (b := false) rfl rfl hb7 rfl rfl ?_
      refine aops_pick false (cb := y5) (bV false) wants_none rfl hb7 rfl rfl ?_
      refine aa (bV false) rfl rfl ?_
      refine an ?_
      refine awp_ret ?_
      replace h := Option.some.inj h
      subst h
      exact ⟨.inl rfl, .one (.tmp rfl (Imm.con _))⟩
    replace h := ite_f hb4 h
    refine aops_skips 5 12 17 true (c := (a1.Until == a2.Until)) (b := false) rfl rfl hb4 rfl rfl ?_
    refine aops_pick false (cb := (a1.Until == a2.Until)) (bV false) wants_none rfl hb4 rfl rfl ?_
    refine am (bV false) rfl rfl ?_
    refine aops_skips 5 19 24 true (c := false) (b := false) rfl rfl rfl rfl rfl ?_
    refine aops_pick false (cb := false) (bV false) wants_none rfl rfl rfl rfl ?_
    refine aa (bV false) rfl rfl ?_
    refine an ?_
    refine awp_ret ?_
    replace h := Option.some.inj h
    subst h
    exact ⟨.inl rfl, .one (.tmp rfl (Imm.con _))⟩
  replace h := ite_f hb3 h
  refine aops_skips 5 5 10 true (c := (a1.Product == a2.Product)) (b := false) rfl rfl hb3 rfl rfl ?_
  refine aops_pick false (cb := (a1.Product == a2.Product)) (bV false) wants_none rfl hb3 rfl rfl ?_
  refine am (bV false) rfl rfl ?_
  refine aops_skips 5 12 17 true (c := false) (b := false) rfl rfl rfl rfl rfl ?_
  refine aops_pick false (cb := false) (bV false) wants_none rfl rfl rfl rfl ?_
  refine am (bV false) rfl rfl ?_
  refine aops_skips 5 19 24 true (c := false) (b := false) rfl rfl rfl rfl rfl ?_
  refine aops_pick false (cb := false) (bV false) wants_none rfl rfl rfl rfl ?_
  refine aa (bV false) rfl rfl ?_
  refine an ?_
  refine awp_ret ?_
  replace h := Option.some.inj h
  subst h
  exact ⟨.inl rfl, .one (.tmp rfl (Imm.con _))⟩
theorem W11 (F : Nat) (a1 : TStory) (a2 : TStory) (a3 : Int) (r : Bool) (h : M11 F a1 a2 a3 = some r) : Pure Try.prog 11 [(V.agg (encTStory a1)), (V.agg (encTStory a2)), (iV a3)] (bV r) := by
  refine pure_enter Try.func11 rfl rfl (l := [.tmp 6]) rfl rfl [(0, (V.agg (encTStory a1))), (1, (V.agg (encTStory a2))), (2, (iV a3))] rfl (fun w0 m0 => ?_)
  unfold M11 at h
  refine sr ?_
  refine aops_box (encTStory a1) wants_none rfl rfl rfl rfl ?_
  refine aops_box (encTStory a2) wants_none rfl rfl rfl rfl ?_
  refine aa (bV false) rfl rfl ?_
  refine an ?_
  refine sr ?_
  refine aops_load_agg (cs := (encTStory a1)) tA52 wants_none rfl rfl rfl rfl rfl rfl ?_
  refine am (iV a3) rfl rfl ?_
  replace h := bind_some h
  obtain ⟨y4, hx5, h⟩ := h
  refine aops_call (V.tup [(V.agg (encTStory (y4.1))), (iV (y4.2))]) [(V.agg (encTStory a1)), (iV a3)] fOk45 wants_none (evm_cons rfl (evm_cons rfl evm_nil)) (.cons (Imm.agg (imms_encTStory _)) (.cons (Imm.con _) .nil)) (W45 F a1 a3 y4 hx5) rfl ?_
  refine am (V.tup [(V.agg (encTStory (y4.1))), (iV (y4.2))]) rfl rfl ?_
  refine aops_extract (V.agg (encTStory (y4.1))) wants_none rfl rfl rfl ?_
  refine aops_extract (iV (y4.2)) wants_none rfl rfl rfl ?_
  refine aops_alloc tZ52 rfl rfl wants_none rfl ?_
  refine aops_store (encTStory (y4.1)) [(encTStory (y4.1))] tS52 wants_none rfl rfl rfl rfl rfl rfl rfl rfl ?_
  refine aa (iV (y4.2)) rfl rfl ?_
  refine an ?_
  refine sr ?_
  refine aops_load_agg (cs := (encTStory a1)) tA52 wants_none rfl rfl rfl rfl rfl rfl ?_
  refine am (iV a3) rfl rfl ?_
  replace h := bind_some h
  obtain ⟨y6, hx7, h⟩ := h
  refine aops_call (V.tup [(V.agg (encTStory (y6.1))), (iV (y6.2))]) [(V.agg (encTStory a1)), (iV a3)] fOk46 wants_none (evm_cons rfl (evm_cons rfl evm_nil)) (.cons (Imm.agg (imms_encTStory _)) (.cons (Imm.con _) .nil)) (W46 F a1 a3 y6 hx7) rfl ?_
  refine am (V.tup [(V.agg (encTStory (y6.1))), (iV (y6.2))]) rfl rfl ?_
  refine aops_extract (V.agg (encTStory (y6.1))) wants_none rfl rfl rfl ?_
  refine aops_extract (iV (y6.2)) wants_none rfl rfl rfl ?_
  refine aops_alloc tZ52 rfl rfl wants_none rfl ?_
  refine aops_store (encTStory (y6.1)) [(encTStory (y6.1))] tS52 wants_none rfl rfl rfl rfl rfl rfl rfl rfl ?_
  refine aa (iV (y6.2)) rfl rfl ?_
  refine an ?_
  refine sr ?_
  refine aops_load_agg (cs := (encTStory a1)) tA52 wants_none rfl rfl rfl rfl rfl rfl ?_
  refine aops_load_agg (cs := (encTStory a2)) tA52 wants_none rfl rfl rfl rfl rfl rfl ?_
  replace h := bind_some h
  obtain ⟨y8, hx9, h⟩ := h
  refine aops_call (V.tup [(V.agg (encTStory (y8.1))), (iV (y8.2))]) [(V.agg (encTStory a1)), (V.agg (encTStory a2))] fOk47 wants_none (evm_cons rfl (evm_cons rfl evm_nil)) (.cons (Imm.agg (imms_encTStory _)) (.cons (Imm.agg (imms_encTStory _)) .nil)) (W47 F a1 a2 y8 hx9) rfl ?_
  refine am (V.tup [(V.agg (encTStory (y8.1))), (iV (y8.2))]) rfl rfl ?_
  refine aops_extract (V.agg (encTStory (y8.1))) wants_none rfl rfl rfl ?_
  refine aops_extract (iV (y8.2)) wants_none rfl rfl rfl ?_
  refine aops_alloc tZ52 rfl rfl wants_none rfl ?_
  refine aops_store (encTStory (y8.1)) [(encTStory (y8.1))] tS52 wants_none rfl rfl rfl rfl rfl rfl rfl rfl ?_
  refine aa (iV (y8.2)) rfl rfl ?_
  refine an ?_
  refine sr ?_
  refine aops_load_agg (cs := (encTStory a1)) tA52 wants_none rfl rfl rfl rfl rfl rfl ?_
  refine aops_load_agg (cs := (encTStory a2)) tA52 wants_none rfl rfl rfl rfl rfl rfl ?_
  replace h := bind_some h
  obtain ⟨y10, hx11, h⟩ := h
  refine aops_call (V.tup [(V.agg (encTStory (y10.1))), (iV (y10.2))]) [(V.agg (encTStory a1)), (V.agg (encTStory a2))] fOk48 wants_none (evm_cons rfl (evm_cons rfl evm_nil)) (.cons (Imm.agg (imms_encTStory _)) (.cons (Imm.agg (imms_encTStory _)) .nil)) (W48 F a1 a2 y10 hx11) rfl ?_
  refine am (V.tup [(V.agg (encTStory (y10.1))), (iV (y10.2))]) rfl rfl ?_
  refine aops_extract (V.agg (encTStory (y10.1))) wants_none rfl rfl rfl ?_
  refine aops_extract (iV (y10.2)) wants_none rfl rfl rfl ?_
  refine aops_alloc tZ52 rfl rfl wants_none rfl ?_
  refine aops_store (encTStory (y10.1)) [(encTStory (y10.1))] tS52 wants_none rfl rfl rfl rfl rfl rfl rfl rfl ?_
  refine aa (iV (y10.2)) rfl rfl ?_
  refine an ?_
  refine sr ?_
  refine aops_load_agg (cs := (encTStory (y4.1))) tA52 wants_none rfl rfl rfl rfl rfl rfl ?_
  refine aops_load_agg (cs := (encTStory (y6.1))) tA52 wants_none rfl rfl rfl rfl rfl rfl ?_
  replace h := bind_some h
  obtain ⟨y12, hx13, h⟩ := h
  refine aops_call (bV y12) [(V.agg (encTStory (y4.1))), (V.agg (encTStory (y6.1)))] fOk49 wants_none (evm_cons rfl (evm_cons rfl evm_nil)) (.cons (Imm.agg (imms_encTStory _)) (.cons (Imm.agg (imms_encTStory _)) .nil)) (W49 F (y4.1) (y6.1) y12 hx13) rfl ?_
  refine am (bV y12) rfl rfl ?_
  refine bsp y12 (fun hb14 => ?_) (fun hb14 => ?_)
  · replace h := ite_t hb14 h
    refine aops_move (iV (y4.2)) (wants_some (c := y12) (b := true) 42 rfl rfl hb14) rfl rfl ?_
    refine aops_move (iV (y6.2)) (wants_some (c := y12) (b := true) 42 rfl rfl hb14) rfl rfl ?_
    refine aops_bin (.bool ((y4.2) == (y6.2))) (wants_some (c := y12) (b := true) 42 rfl rfl hb14) rfl rfl rfl rfl ?_
    refine aops_pick true (cb := y12) (bV ((y4.2) == (y6.2))) wants_none rfl hb14 rfl rfl ?_
    refine am (bV ((y4.2) == (y6.2))) rfl rfl ?_
    refine bsp ((y4.2) == (y6.2)) (fun hb15 => ?_) (fun hb15 => ?_)
    · replace h := ite_t hb15 h
      refine aops_load_agg (cs := (encTStory (y8.1))) tA52 (wants_some (c := ((y4.2) == (y6.2))) (b := true) 47 rfl rfl hb15) rfl rfl rfl rfl rfl rfl ?_
      refine aops_load_agg (cs := (encTStory (y10.1))) tA52 (wants_some (c := ((y4.2) == (y6.2))) (b := true) 47 rfl rfl hb15) rfl rfl rfl rfl rfl rfl ?_
      replace h := bind_some h
      obtain ⟨y16, hx17, h⟩ := h
      refine aops_call (bV y16) [(V.agg (encTStory (y8.1))), (V.agg (encTStory (y10.1)))] fOk49 (wants_some (c := ((y4.2) == (y6.2))) (b := true) 47 rfl rfl hb15) (evm_cons rfl (evm_cons rfl evm_nil)) (.cons (Imm.agg (imms_encTStory _)) (.cons (Imm.agg (imms_encTStory _)) .nil)) (W49 F (y8.1) (y10.1) y16 hx17) rfl ?_
      refine aops_pick true (cb := ((y4.2) == (y6.2))) (bV y16) wants_none rfl hb15 rfl rfl ?_
      refine am (bV y16) rfl rfl ?_
      refine bsp y16 (fun hb18 => ?_) (fun hb18 => ?_)
      · replace h := ite_t hb18 h
        refine aops_move (iV (y8.2)) (wants_some (c := y16) (b := true) 52 rfl rfl hb18) rfl rfl ?_
        refine aops_move (iV (y10.2)) (wants_some (c := y16) (b := true) 52 rfl rfl hb18) rfl rfl ?_
        refine aops_bin (.bool ((y8.2) == (y10.2))) (wants_some (c := y16) (b := true) 52 rfl rfl hb18) rfl rfl rfl rfl ?_
        refine aops_pick true (cb := y16) (bV ((y8.2) == (y10.2))) wants_none rfl hb18 rfl rfl ?_
        refine am (bV ((y8.2) == (y10.2))) rfl rfl ?_
        refine bsp ((y8.2) == (y10.2)) (fun hb19 => ?_) (fun hb19 => ?_)
        · replace h := ite_t hb19 h
          replace h := bind_some h
          obtain ⟨y20, hx21, h⟩ := h
          refine aops_call (bV y20) [] fOk23 (wants_some (c := ((y8.2) == (y10.2))) (b := true) 57 rfl rfl hb19) evm_nil .nil (W23 F  y20 hx21) rfl ?_
          refine aops_pick true (cb := ((y8.2) == (y10.2))) (bV y20) wants_none rfl hb19 rfl rfl ?_
          refine aa (bV y20) rfl rfl ?_
          refine an ?_
          refine awp_ret ?_
          replace h := Option.some.inj h
          subst h
          exact ⟨.inl rfl, .one (.tmp rfl (Imm.con _))⟩
        replace h := ite_f hb19 h
        refine aops_skip (wants_some (c := ((y8.2) == (y10.2))) (b := false) 57 rfl rfl hb19) rfl rfl ?_
        refine aops_pick false (cb := ((y8.2) == (y10.2))) (bV false) wants_none rfl hb19 rfl rfl ?_
        refine aa (bV false) rfl rfl ?_
        refine an ?_
        refine awp_ret ?_
        replace h := Option.some.inj h
        subst h
        exact ⟨.inl rfl, .one (.tmp rfl (Imm.con _))⟩
      replace h := ite_f hb18 h
      refine aops_skips 3 13 52 true (c := y16) (b := false) rfl rfl hb18 rfl rfl ?_
      refine aops_pick false (cb := y16) (bV false) wants_none rfl hb18 rfl rfl ?_
      refine am (bV false) rfl rfl ?_
      refine aops_skip (wants_some (c := false) (b := false) 57 rfl rfl rfl) rfl rfl ?_
      refine aops_pick false (cb := false) (bV false) wants_none rfl rfl rfl rfl ?_
      refine aa (bV false) rfl rfl ?_
      refine an ?_
      refine awp_ret ?_
      replace h := Option.some.inj h
      subst h
      exact ⟨.inl rfl, .one (.tmp rfl (Imm.con _))⟩
    replace h := ite_f hb15 h
    refine aops_skips 3 8 47 true (c := ((y4.2) == (y6.2))) (b := false) rfl rfl hb15 rfl rfl ?_
    refine aops_pick false (cb := ((y4.2) == (y6.2))) (bV false) wants_none rfl hb15 rfl rfl ?_
    refine am (bV false) rfl rfl ?_
    refine aops_skips 3 13 52 true (c := false) (b := false) rfl rfl rfl rfl rfl ?_
    refine aops_pick false (cb := false) (bV false) wants_none rfl rfl rfl rfl ?_
    refine am (bV false) rfl rfl ?_
    refine aops_skip (wants_some (c := false) (b := false) 57 rfl rfl rfl) rfl rfl ?_
    refine aops_pick false (cb := false) (bV false) wants_none rfl rfl rfl rfl ?_
    refine aa (bV false) rfl rfl ?_
    refine an ?_
    refine awp_ret ?_
    replace h := Option.some.inj h
    subst h
    exact ⟨.inl rfl, .one (.tmp rfl (Imm.con _))⟩
  replace h := ite_f hb14 h
  refine aops_skips 3 3 42 true (c := y12) (b := false) rfl rfl hb14 rfl rfl ?_
  refine aops_pick false (cb := y12) (bV false) wants_none rfl hb14 rfl rfl ?_
  refine am (bV false) rfl rfl ?_
  refine aops_skips 3 8 47 true (c := false) (b := false) rfl rfl rfl rfl rfl ?_
  refine aops_pick false (cb := false) (bV false) wants_none rfl rfl rfl rfl ?_
  refine am (bV false) rfl rfl ?_
  refine aops_skips 3 13 52 true (c := false) (b := false) rfl rfl rfl rfl rfl ?_
  refine aops_pick false (cb := false) (bV false) wants_none rfl rfl rfl rfl ?_
  refine am (bV false) rfl rfl ?_
  refine aops_skip (wants_some (c := false) (b := false) 57 rfl rfl rfl) rfl rfl ?_
  refine aops_pick false (cb := false) (bV false) wants_none rfl rfl rfl rfl ?_
  refine aa (bV false) rfl rfl ?_
  refine an ?_
  refine awp_ret ?_
  replace h := Option.some.inj h
  subst h
  exact ⟨.inl rfl, .one (.tmp rfl (Imm.con _))⟩
end Go.Proofs.Ytkciogeafbbggaa
