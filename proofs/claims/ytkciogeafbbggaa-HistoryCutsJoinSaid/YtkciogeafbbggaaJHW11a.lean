/- Part of the proof: HW11a. -/
import Derived.Test.YtkciogeafbbggaaJHM
import Derived.Test.YtkciogeafbbggaaJHW7a
import Derived.Test.YtkciogeafbbggaaJHW3a
import Derived.Test.YtkciogeafbbggaaJHW6a
import Derived.KernelRfl
namespace Go.Proofs.Ytkciogeafbbggaa
open Go Go.Pv
set_option linter.unusedVariables false
set_option maxRecDepth 100000
theorem W101 (F : Nat) (a1 : (List TPublished)) (r : (List TPublished)) (h : M101 F a1 = some r) : Pure Try.prog 101 [(V.lst 3 (a1.map encTPublished))] (V.lst 3 (r.map encTPublished)) := by
  refine pure_enter Try.func101 rfl rfl (l := [.tmp 2]) rfl rfl [(0, (V.lst 3 (a1.map encTPublished)))] rfl (fun w0 m0 => ?_)
  unfold M101 at h
  refine sr ?_
  refine aa nV rfl rfl ?_
  refine an ?_
  refine sq ?_
  refine sr ?_
  refine am (V.lst 3 (a1.map encTPublished)) rfl rfl ?_
  refine aops_isNil (n := a1.length) false tIsSl50 wants_none rfl rfl (congrArg some (List.length_map ..)) rfl (fun b2 hn3 => ?_)
  replace h := nilq_elim h hn3
  refine an ?_
  refine awp_cond b2 rfl (fun hb4 => ?_) (fun hb4 => ?_)
  · replace h := ite_t hb4 h
    refine sr ?_
    refine aa nV rfl rfl ?_
    refine an ?_
    refine awp_ghost (ghost_tell 2 (V.lst 3 (([] : List TPublished).map encTPublished)) rfl (Sub.nil _)) ?_
    refine awp_ret ?_
    replace h := Option.some.inj h
    subst h
    exact ⟨.inl rfl, .one (.tmp rfl (Imm.lst _ _))⟩
  replace h := ite_f hb4 h
  refine awp_skip ?_
  refine sr ?_
  refine aops_emptySlice tEl50 wants_none rfl ?_
  refine am (V.lst 3 (a1.map encTPublished)) rfl rfl ?_
  replace h := chk_some h
  obtain ⟨hc5, h⟩ := h
  refine aops_append (a1.map encTPublished) ((([] : List TPublished) ++ a1).map encTPublished) tEl50 tIsSl50 rfl rfl wants_none rfl rfl (by simp) rfl (.lst (rows_one one_encTPublished)) (map_snoc encTPublished ([] : List TPublished) a1) (List.length_map ..) hc5 rfl ?_
  refine aa (V.own 1 (([] : List TPublished) ++ a1).length) rfl rfl ?_
  refine an ?_
  refine awp_ghost (ghost_frzE 1 2 rfl (rows_imm imms_encTPublished) rfl (List.length_map ..).symm) ?_
  refine awp_ret ?_
  replace h := Option.some.inj h
  subst h
  exact ⟨.inl rfl, .one (.tmp rfl (Imm.lst _ _))⟩
theorem W45 (F : Nat) (a1 : TStory) (a2 : Int) (r : (TStory × Int)) (h : M45 F a1 a2 = some r) : Pure Try.prog 45 [(V.agg (encTStory a1)), (iV a2)] (V.tup [(V.agg (encTStory (r.1))), (iV (r.2))]) := by
  refine pure_enter Try.func45 rfl rfl (l := [.cell 4 52, .tmp 5]) rfl rfl [(0, (V.agg (encTStory a1))), (1, (iV a2))] rfl (fun w0 m0 => ?_)
  unfold M45 at h
  refine sr ?_
  refine aops_box (encTStory a1) wants_none rfl rfl rfl rfl ?_
  refine aops_alloc tZ52 rfl rfl wants_none rfl ?_
  refine aa (iV 0) rfl rfl ?_
  refine an ?_
  refine sq ?_
  refine sr ?_
  refine aops_load_agg (cs := (encTStory a1)) tA52 wants_none rfl rfl rfl rfl rfl rfl ?_
  replace h := bind_some h
  obtain ⟨y3, hx4, h⟩ := h
  refine aops_call (iV y3) [(V.agg (encTStory a1))] fOk35 wants_none (evm_cons rfl evm_nil) (.cons (Imm.agg (imms_encTStory _)) .nil) (W35 F a1 y3 hx4) rfl ?_
  refine aa (iV y3) rfl rfl ?_
  refine an ?_
  refine sr ?_
  refine am (iV y3) rfl rfl ?_
  refine aops_bin (.bool (y3 != 0)) wants_none rfl rfl rfl rfl ?_
  refine an ?_
  refine awp_cond (y3 != 0) rfl (fun hb5 => ?_) (fun hb5 => ?_)
  · replace h := ite_t hb5 h
    refine sr ?_
    refine aops_build [] [(sV ([] : List UInt8)), nV, nV, (iV 0)] tZ52 tPl52 rfl wants_none evp_nil rfl rfl ?_
    refine am (iV y3) rfl rfl ?_
    refine aops_store [(sV ([] : List UInt8)), nV, nV, (iV 0)] [[(sV ([] : List UInt8)), nV, nV, (iV 0)]] tS52 wants_none rfl rfl rfl rfl rfl rfl rfl rfl ?_
    refine aa (iV y3) rfl rfl ?_
    refine an ?_
    refine awp_ghost (ghost_tellC 1 (Ob.arr 52 4 [[(sV ([] : List UInt8)), (V.lst 3 (([] : List TRelease).map encTRelease)), (V.lst 3 (([] : List TPublished).map encTPublished)), (iV 0)]]) rfl (ObSub.box (.cons Sub.keepI (.cons (Sub.nil _) (.cons (Sub.nil _) (.cons Sub.keepI .nil)))))) ?_
    refine awp_ret ?_
    replace h := Option.some.inj h
    subst h
    exact ⟨.inl rfl, .two (.agg tA52 rfl rfl rfl rfl rfl (.cons (Imm.con _) (.cons (Imm.lst _ _) (.cons (Imm.lst _ _) (.cons (Imm.con _) .nil))))) (.tmp rfl (Imm.con _))⟩
  replace h := ite_f hb5 h
  refine awp_skip ?_
  refine sq ?_
  refine sr ?_
  refine am (iV a2) rfl rfl ?_
  replace h := bind_some h
  obtain ⟨y6, hx7, h⟩ := h
  refine aops_call (bV y6) [(iV a2)] fOk69 wants_none (evm_cons rfl evm_nil) (.cons (Imm.con _) .nil) (W69 F a2 y6 hx7) rfl ?_
  refine aops_not wants_none rfl rfl ?_
  refine an ?_
  refine awp_cond (!y6) rfl (fun hb8 => ?_) (fun hb8 => ?_)
  · replace h := ite_t hb8 h
    refine sr ?_
    refine aops_build [] [(sV ([] : List UInt8)), nV, nV, (iV 0)] tZ52 tPl52 rfl wants_none evp_nil rfl rfl ?_
    refine aops_store [(sV ([] : List UInt8)), nV, nV, (iV 0)] [[(sV ([] : List UInt8)), nV, nV, (iV 0)]] tS52 wants_none rfl rfl rfl rfl rfl rfl rfl rfl ?_
    refine aa (iV 9) rfl rfl ?_
    refine an ?_
    refine awp_ghost (ghost_tellC 1 (Ob.arr 52 4 [[(sV ([] : List UInt8)), (V.lst 3 (([] : List TRelease).map encTRelease)), (V.lst 3 (([] : List TPublished).map encTPublished)), (iV 0)]]) rfl (ObSub.box (.cons Sub.keepI (.cons (Sub.nil _) (.cons (Sub.nil _) (.cons Sub.keepI .nil)))))) ?_
    refine awp_ret ?_
    replace h := Option.some.inj h
    subst h
    exact ⟨.inl rfl, .two (.agg tA52 rfl rfl rfl rfl rfl (.cons (Imm.con _) (.cons (Imm.lst _ _) (.cons (Imm.lst _ _) (.cons (Imm.con _) .nil))))) (.tmp rfl (Imm.con _))⟩
  replace h := ite_f hb8 h
  refine awp_skip ?_
  refine sq ?_
  replace h := bind_some h
  obtain ⟨y9, hx10, h⟩ := h
  refine awp_ghost ghost_res ?_
  refine awp_any [OD.mk [(2, (V.ptr 0 4 0 0))] [] [(20, (V.ptr 0 4 0 0))] [],
        OD.mk [(20, (V.ptr 0 4 0 0))] [(0, (Ob.arr 52 4 [(encTStory a1)]))] [(21, (sV a1.Product))] [],
        OD.mk [(2, (V.ptr 0 4 0 0))] [] [(22, (V.ptr 0 4 0 2))] [],
        OD.mk [(22, (V.ptr 0 4 0 2))] [(0, (Ob.arr 52 4 [(encTStory a1)]))] [(23, (V.lst 3 (a1.Known.map encTPublished)))] [],
        OD.mk [(23, (V.lst 3 (a1.Known.map encTPublished)))] [] [(24, (V.lst 3 (y9.map encTPublished)))] [],
        OD.mk [(2, (V.ptr 0 4 0 0))] [] [(25, (V.ptr 0 4 0 3))] [],
        OD.mk [(25, (V.ptr 0 4 0 3))] [(0, (Ob.arr 52 4 [(encTStory a1)]))] [(26, (iV a1.Until))] [],
        OD.mk [(1, (iV a2))] [] [(27, (iV a2))] [],
        OD.mk [(26, (iV a1.Until)), (27, (iV a2))] [] [(28, (iV (if a2 < a1.Until then a2 else a1.Until)))] [],
        OD.mk [(21, (sV a1.Product)), (24, (V.lst 3 (y9.map encTPublished))), (28, (iV (if a2 < a1.Until then a2 else a1.Until)))] [] [(29, (V.agg [(sV a1.Product), nV, (V.lst 3 (y9.map encTPublished)), (iV (if a2 < a1.Until then a2 else a1.Until))]))] [],
        OD.mk [] [(2, Ob.res)] [(7, (V.ptr 2 4 0 0))] [(2, (Ob.arr 52 4 [[(sV ([] : List UInt8)), nV, nV, (iV 0)]]))],
        OD.mk [(7, (V.ptr 2 4 0 0)), (29, (V.agg [(sV a1.Product), nV, (V.lst 3 (y9.map encTPublished)), (iV (if a2 < a1.Until then a2 else a1.Until))]))] [(2, (Ob.arr 52 4 [[(sV ([] : List UInt8)), nV, nV, (iV 0)]]))] [] [(2, (Ob.arr 52 4 [[(sV a1.Product), nV, (V.lst 3 (y9.map encTPublished)), (iV (if a2 < a1.Until then a2 else a1.Until))]]))]] mixed ⟨⟨rfl, trivial⟩, trivial, ⟨⟨rfl, trivial⟩, ⟨rfl, trivial⟩, ⟨⟨rfl, trivial⟩, trivial, ⟨⟨rfl, trivial⟩, ⟨rfl, trivial⟩, ⟨⟨rfl, trivial⟩, trivial, ⟨⟨rfl, trivial⟩, trivial, ⟨⟨rfl, trivial⟩, ⟨rfl, trivial⟩, ⟨⟨rfl, trivial⟩, trivial, ⟨⟨rfl, rfl, trivial⟩, trivial, ⟨⟨rfl, rfl, rfl, trivial⟩, trivial, ⟨trivial, ⟨rfl, trivial⟩, ⟨⟨rfl, rfl, trivial⟩, ⟨rfl, trivial⟩, trivial⟩⟩⟩⟩⟩⟩⟩⟩⟩⟩⟩⟩ (by kernel_rfl) (.cons (fun S hn h hh => aops_fieldAddr tF52_0 wants_none h.1 rfl (an ⟨rfl, rfl⟩)) (.cons (fun S hn h hh => aops_load_cell (sV a1.Product) tC9 wants_none h.1 hh.1 rfl rfl rfl (an ⟨rfl, rfl⟩)) (.cons (fun S hn h hh => aops_fieldAddr tF52_2 wants_none h.1 rfl (an ⟨rfl, rfl⟩)) (.cons (fun S hn h hh => aops_load_cell (V.lst 3 (a1.Known.map encTPublished)) tC50 wants_none h.1 hh.1 rfl rfl rfl (an ⟨rfl, rfl⟩)) (.cons (fun S hn h hh => aops_call (V.lst 3 (y9.map encTPublished)) [(V.lst 3 (a1.Known.map encTPublished))] fOk101 wants_none (evm_cons h.1 evm_nil) (.cons (Imm.lst _ _) .nil) (W101 F a1.Known y9 hx10) rfl (an ⟨rfl, rfl⟩)) (.cons (fun S hn h hh => aops_fieldAddr tF52_3 wants_none h.1 rfl (an ⟨rfl, rfl⟩)) (.cons (fun S hn h hh => aops_load_cell (iV a1.Until) tC3 wants_none h.1 hh.1 rfl rfl rfl (an ⟨rfl, rfl⟩)) (.cons (fun S hn h hh => aops_move (iV a2) wants_none h.1 rfl (an ⟨rfl, rfl⟩)) (.cons (fun S hn h hh => aops_min wants_none h.1 h.2.1 rfl (an ⟨rfl, rfl⟩)) (.cons (fun S hn h hh => aops_build [(0, (sV a1.Product)), (2, (V.lst 3 (y9.map encTPublished))), (3, (iV (if a2 < a1.Until then a2 else a1.Until)))] [(sV a1.Product), nV, (V.lst 3 (y9.map encTPublished)), (iV (if a2 < a1.Until then a2 else a1.Until))] tZ52 tPl52 rfl wants_none (evp_cons h.1 (evp_cons h.2.1 (evp_cons h.2.2.1 evp_nil))) rfl rfl (an ⟨rfl, rfl⟩)) (.cons (fun S hn h hh => aops_alloc_at 2 rfl hn hh.1 tZ52 rfl rfl wants_none rfl (an ⟨rfl, rfl⟩)) (.cons (fun S hn h hh => aops_store [(sV a1.Product), nV, (V.lst 3 (y9.map encTPublished)), (iV (if a2 < a1.Until then a2 else a1.Until))] [[(sV a1.Product), nV, (V.lst 3 (y9.map encTPublished)), (iV (if a2 < a1.Until then a2 else a1.Until))]] tS52 wants_none h.1 h.2.1 rfl rfl hh.1 rfl rfl rfl (an ⟨rfl, rfl⟩)) .nil)))))))))))) ?_
  refine sq ?_
  refine sr ?_
  refine aops_fieldAddr tF52_1 wants_none rfl rfl ?_
  refine aops_load_cell (V.lst 3 (a1.Releases.map encTRelease)) tC49 wants_none rfl rfl rfl rfl rfl ?_
  refine aops_len (n := a1.Releases.length) tIsSl49 wants_none rfl (congrArg some (List.length_map ..)) rfl ?_
  refine am (iV 0) rfl rfl ?_
  refine an ?_
  replace h := jn_elim h
  obtain ⟨k11, hk11, h⟩ := h
  refine awp_cut (fun (p : (List TRelease)) => (⟨[(4, (V.ptr 0 4 0 0)), (7, (V.ptr 1 4 0 0))], [(0, (Ob.arr 52 4 [[(sV ([] : List UInt8)), nV, nV, (iV 0)]])), (1, (Ob.arr 52 4 [[(sV a1.Product), (V.own 2 p.length), (V.lst 3 (y9.map encTPublished)), (iV (if a2 < a1.Until then a2 else a1.Until))]])), (2, (Ob.arr 42 3 (p.map encTRelease)))], 3⟩ : St)) (fun (p : (List TRelease)) => k11 p = some r) ?_ ?_
  · clear hk11
    refine awp_block ?_
    refine awp_len (A := a1.Releases) 31 rfl (fun hA26 => ?_)
    refine awp_loop_ind (fun (p : Int × (List TRelease)) => (⟨[(1, (iV a2)), (4, (V.ptr 0 4 0 0)), (7, (V.ptr 1 4 0 0)), (31, (V.lst 3 (a1.Releases.map encTRelease))), (32, (iV ((a1.Releases.length : Nat) : Int))), (33, (iV (p.1)))], [(0, (Ob.arr 52 4 [[(sV ([] : List UInt8)), nV, nV, (iV 0)]])), (1, (Ob.arr 52 4 [[(sV a1.Product), (V.own 2 (p.2).length), (V.lst 3 (y9.map encTPublished)), (iV (if a2 < a1.Until then a2 else a1.Until))]])), (2, (Ob.arr 42 3 ((p.2).map encTRelease)))], 3⟩ : St)) (fun n (p : Int × (List TRelease)) => RG a1.Releases (fun tl nn => M45_L1 F a2 k11 tl p.2 = some r) n p.1) (fun p h => RG.zero h) (fun n ih1 p h => ?_) (a1.Releases.length + 1) (0, ([] : List TRelease)) (RG.start h) (Ghost.trans (ghost_nilC 2 42 3 (Ob.arr 52 4 [[(sV a1.Product), (V.own 3 0), (V.lst 3 (y9.map encTPublished)), (iV (if a2 < a1.Until then a2 else a1.Until))]]) (ObSub.box (.cons Sub.keepNil (.cons Sub.mkNil (.cons Sub.keepNil (.cons Sub.keepNil .nil)))))) (ghost_ren 3 (fun i => ([1, 2, 3] : List Nat).getD i 0) _ _ (by decide) (EnvSub.get (.cons (Sub.imm (Imm.con _)) (.cons (Sub.ptr rfl rfl) (.cons (Sub.ptr rfl rfl) (.cons (Sub.imm (Imm.lst _ _)) (.cons (Sub.imm (Imm.con _)) (.cons (Sub.imm (Imm.con _)) .nil))))))) (HpSub.get (.cons rfl (ObSub.box (.cons (Sub.imm (Imm.con _)) (.cons (Sub.imm (Imm.con _)) (.cons (Sub.imm (Imm.con _)) (.cons (Sub.imm (Imm.con _)) .nil))))) (.cons rfl (ObSub.box (.cons (Sub.imm (Imm.con _)) (.cons (Sub.ownE rfl rfl (by simp)) (.cons (Sub.imm (Imm.lst _ _)) (.cons (Sub.imm (Imm.con _)) .nil))))) (.cons rfl (ObSub.rows (rows_imm imms_encTRelease)) .nil)))) rfl))
    obtain ⟨n15, l16⟩ := p
    refine awp_loop ?_
    refine sr ?_
    refine aops_bin (.bool (decide (n15 < ((a1.Releases.length : Nat) : Int)))) wants_none rfl rfl rfl rfl ?_
    refine an ?_
    refine sq ?_
    refine awp_cond (decide (n15 < ((a1.Releases.length : Nat) : Int))) rfl (fun hb17 => ?_) (fun hb17 => ?_)
    · obtain ⟨x18, tl, hx19, h, hk1⟩ := RG.t hA26 h hb17
      unfold M45_L1 at h
      refine awp_skip ?_
      refine sq ?_
      refine awp_block ?_
      refine sr ?_
      refine aops_index_lst (encTRelease x18) tSl49 wants_none rfl rfl (idx_some hx19).1 (idx_map encTRelease hx19) rfl ?_
      refine aops_iload_agg (cs := (encTRelease x18)) tA42 wants_none rfl rfl rfl rfl ?_
      refine aops_alloc tZ42 rfl rfl wants_none rfl ?_
      refine aops_store (encTRelease x18) [(encTRelease x18)] tS42 wants_none rfl rfl rfl rfl rfl rfl rfl rfl ?_
      refine an ?_
      refine sr ?_
      refine aops_fieldAddr tF42_1 wants_none rfl rfl ?_
      refine aops_load_cell (iV x18.Day) tC3 wants_none rfl rfl rfl rfl rfl ?_
      refine am (iV a2) rfl rfl ?_
      refine aops_bin (.bool (decide (x18.Day < a2))) wants_none rfl rfl rfl rfl ?_
      refine an ?_
      replace h := jn_elim h
      obtain ⟨k20, hk20, h⟩ := h
      refine awp_cut (fun (p : (List TRelease)) => (⟨[(1, (iV a2)), (4, (V.ptr 0 4 0 0)), (7, (V.ptr 1 4 0 0)), (31, (V.lst 3 (a1.Releases.map encTRelease))), (32, (iV ((a1.Releases.length : Nat) : Int))), (33, (iV n15))], [(0, (Ob.arr 52 4 [[(sV ([] : List UInt8)), nV, nV, (iV 0)]])), (1, (Ob.arr 52 4 [[(sV a1.Product), (V.own 2 p.length), (V.lst 3 (y9.map encTPublished)), (iV (if a2 < a1.Until then a2 else a1.Until))]])), (2, (Ob.arr 42 3 (p.map encTRelease)))], 3⟩ : St)) (fun (p : (List TRelease)) => k20 p = some r) ?_ ?_
      · clear hk20
        refine awp_cond (decide (x18.Day < a2)) rfl (fun hb22 => ?_) (fun hb22 => ?_)
        · replace h := ite_t hb22 h
          replace h := bind_some h
          obtain ⟨y23, hx24, h⟩ := h
          replace h := chk_some h
          obtain ⟨hc25, h⟩ := h
          refine awp_ghost ghost_res ?_
          refine awp_any [OD.mk [(7, (V.ptr 1 4 0 0))] [] [(41, (V.ptr 1 4 0 1))] [],
                OD.mk [(41, (V.ptr 1 4 0 1))] [(1, (Ob.arr 52 4 [[(sV a1.Product), (V.own 2 l16.length), (V.lst 3 (y9.map encTPublished)), (iV (if a2 < a1.Until then a2 else a1.Until))]]))] [(42, (V.own 2 l16.length))] [],
                OD.mk [(9, (V.ptr 3 3 0 0))] [(3, (Ob.arr 42 3 [(encTRelease x18)]))] [(43, (V.agg (encTRelease x18)))] [],
                OD.mk [(43, (V.agg (encTRelease x18)))] [] [(44, (V.agg (encTRelease y23)))] [],
                OD.mk [(44, (V.agg (encTRelease y23)))] [] [(45, (V.lst 3 (([y23] : List TRelease).map encTRelease)))] [],
                OD.mk [(42, (V.own 2 l16.length)), (45, (V.lst 3 (([y23] : List TRelease).map encTRelease)))] [(2, (Ob.arr 42 3 (l16.map encTRelease))), (4, Ob.res)] [(46, (V.own 4 (l16 ++ ([y23] : List TRelease)).length))] [(4, (Ob.arr 42 3 ((l16 ++ ([y23] : List TRelease)).map encTRelease))), (2, Ob.dead)],
                OD.mk [(7, (V.ptr 1 4 0 0))] [] [(47, (V.ptr 1 4 0 1))] [],
                OD.mk [(47, (V.ptr 1 4 0 1)), (46, (V.own 4 (l16 ++ ([y23] : List TRelease)).length))] [(1, (Ob.arr 52 4 [[(sV a1.Product), (V.own 2 l16.length), (V.lst 3 (y9.map encTPublished)), (iV (if a2 < a1.Until then a2 else a1.Until))]]))] [] [(1, (Ob.arr 52 4 [[(sV a1.Product), (V.own 4 (l16 ++ ([y23] : List TRelease)).length), (V.lst 3 (y9.map encTPublished)), (iV (if a2 < a1.Until then a2 else a1.Until))]]))]] mixed ⟨⟨rfl, trivial⟩, trivial, ⟨⟨rfl, trivial⟩, ⟨rfl, trivial⟩, ⟨⟨rfl, trivial⟩, ⟨rfl, trivial⟩, ⟨⟨rfl, trivial⟩, trivial, ⟨⟨rfl, trivial⟩, trivial, ⟨⟨rfl, rfl, trivial⟩, ⟨rfl, rfl, trivial⟩, ⟨⟨rfl, trivial⟩, trivial, ⟨⟨rfl, rfl, trivial⟩, ⟨rfl, trivial⟩, trivial⟩⟩⟩⟩⟩⟩⟩⟩ (by kernel_rfl) (.cons (fun S hn h hh => aops_fieldAddr tF52_1 wants_none h.1 rfl (an ⟨rfl, rfl⟩)) (.cons (fun S hn h hh => aops_load_cell (V.own 2 l16.length) tC49 wants_none h.1 hh.1 rfl rfl rfl (an ⟨rfl, rfl⟩)) (.cons (fun S hn h hh => aops_load_agg (cs := (encTRelease x18)) tA42 wants_none h.1 hh.1 rfl rfl rfl rfl (an ⟨rfl, rfl⟩)) (.cons (fun S hn h hh => aops_call (V.agg (encTRelease y23)) [(V.agg (encTRelease x18))] fOk88 wants_none (evm_cons h.1 evm_nil) (.cons (Imm.agg (imms_encTRelease _)) .nil) (W88 F x18 y23 hx24) rfl (an ⟨rfl, rfl⟩)) (.cons (fun S hn h hh => aops_buildSlice_imm [(0, (V.agg (encTRelease y23)))] [(encTRelease y23)] tEl49 tZ42 wants_none rfl rfl rfl rfl (evp_cons h.1 evp_nil) rfl rfl (by simp) (imms_rows (.cons (imms_encTRelease _) .nil)) rfl (an ⟨rfl, rfl⟩)) (.cons (fun S hn h hh => aops_append_at 4 rfl hn hh.2.1 (([y23] : List TRelease).map encTRelease) ((l16 ++ ([y23] : List TRelease)).map encTRelease) tEl49 tIsSl49 rfl rfl wants_none h.1 hh.1 (by simp) h.2.1 (.lst (rows_one one_encTRelease)) (map_snoc encTRelease l16 ([y23] : List TRelease)) (List.length_map ..) hc25 rfl (an ⟨rfl, rfl⟩)) (.cons (fun S hn h hh => aops_fieldAddr tF52_1 wants_none h.1 rfl (an ⟨rfl, rfl⟩)) (.cons (fun S hn h hh => aops_store [(V.own 4 (l16 ++ ([y23] : List TRelease)).length)] [[(sV a1.Product), (V.own 4 (l16 ++ ([y23] : List TRelease)).length), (V.lst 3 (y9.map encTPublished)), (iV (if a2 < a1.Until then a2 else a1.Until))]] tS49 wants_none h.1 h.2.1 rfl rfl hh.1 rfl rfl rfl (an ⟨rfl, rfl⟩)) .nil)))))))) ?_
          exact ⟨(l16 ++ ([y23] : List TRelease)), h, (ghost_ren 3 (fun i => ([0, 1, 4] : List Nat).getD i 0) _ _ (by decide) (EnvSub.get (.cons (Sub.imm (Imm.con _)) (.cons (Sub.ptr rfl rfl) (.cons (Sub.ptr rfl rfl) (.cons (Sub.imm (Imm.lst _ _)) (.cons (Sub.imm (Imm.con _)) (.cons (Sub.imm (Imm.con _)) .nil))))))) (HpSub.get (.cons rfl (ObSub.box (.cons (Sub.imm (Imm.con _)) (.cons (Sub.imm (Imm.con _)) (.cons (Sub.imm (Imm.con _)) (.cons (Sub.imm (Imm.con _)) .nil))))) (.cons rfl (ObSub.box (.cons (Sub.imm (Imm.con _)) (.cons (Sub.own rfl rfl) (.cons (Sub.imm (Imm.lst _ _)) (.cons (Sub.imm (Imm.con _)) .nil))))) (.cons rfl (ObSub.rows (rows_imm imms_encTRelease)) .nil)))) rfl)⟩
        replace h := ite_f hb22 h
        refine awp_skip ?_
        exact ⟨l16, h, (ghost_ren 3 (fun i => ([0, 1, 2] : List Nat).getD i 0) _ _ (by decide) (EnvSub.get (.cons (Sub.imm (Imm.con _)) (.cons (Sub.ptr rfl rfl) (.cons (Sub.ptr rfl rfl) (.cons (Sub.imm (Imm.lst _ _)) (.cons (Sub.imm (Imm.con _)) (.cons (Sub.imm (Imm.con _)) .nil))))))) (HpSub.get (.cons rfl (ObSub.box (.cons (Sub.imm (Imm.con _)) (.cons (Sub.imm (Imm.con _)) (.cons (Sub.imm (Imm.con _)) (.cons (Sub.imm (Imm.con _)) .nil))))) (.cons rfl (ObSub.box (.cons (Sub.imm (Imm.con _)) (.cons (Sub.own rfl rfl) (.cons (Sub.imm (Imm.lst _ _)) (.cons (Sub.imm (Imm.con _)) .nil))))) (.cons rfl (ObSub.rows (rows_imm imms_encTRelease)) .nil)))) rfl)⟩
      clear h
      intro l21 h
      subst hk20
      refine rg ?_
      refine aops_bin (.int .i64 (w64 (n15 + 1))) wants_none rfl rfl rfl rfl ?_
      refine am (iV (w64 (n15 + 1))) rfl rfl ?_
      refine an ?_
      exact awp_back (ih1 ((w64 (n15 + 1)), l21) (hk1 _ h)) (ghost_ren 3 (fun i => ([0, 1, 2] : List Nat).getD i 0) _ _ (by decide) (EnvSub.get (.cons (Sub.imm (Imm.con _)) (.cons (Sub.ptr rfl rfl) (.cons (Sub.ptr rfl rfl) (.cons (Sub.imm (Imm.lst _ _)) (.cons (Sub.imm (Imm.con _)) (.cons (Sub.imm (Imm.con _)) .nil))))))) (HpSub.get (.cons rfl (ObSub.box (.cons (Sub.imm (Imm.con _)) (.cons (Sub.imm (Imm.con _)) (.cons (Sub.imm (Imm.con _)) (.cons (Sub.imm (Imm.con _)) .nil))))) (.cons rfl (ObSub.box (.cons (Sub.imm (Imm.con _)) (.cons (Sub.own rfl rfl) (.cons (Sub.imm (Imm.lst _ _)) (.cons (Sub.imm (Imm.con _)) .nil))))) (.cons rfl (ObSub.rows (rows_imm imms_encTRelease)) .nil)))) rfl)
    replace h := RG.f h hb17
    unfold M45_L1 at h
    refine awp_exit ?_
    exact ⟨l16, h, (ghost_ren 3 (fun i => ([0, 1, 2] : List Nat).getD i 0) _ _ (by decide) (EnvSub.get (.cons (Sub.ptr rfl rfl) (.cons (Sub.ptr rfl rfl) .nil))) (HpSub.get (.cons rfl (ObSub.box (.cons (Sub.imm (Imm.con _)) (.cons (Sub.imm (Imm.con _)) (.cons (Sub.imm (Imm.con _)) (.cons (Sub.imm (Imm.con _)) .nil))))) (.cons rfl (ObSub.box (.cons (Sub.imm (Imm.con _)) (.cons (Sub.own rfl rfl) (.cons (Sub.imm (Imm.lst _ _)) (.cons (Sub.imm (Imm.con _)) .nil))))) (.cons rfl (ObSub.rows (rows_imm imms_encTRelease)) .nil)))) rfl)⟩
  clear h
  intro l12 h
  subst hk11
  refine sr ?_
  refine aops_load_agg (cs := [(sV a1.Product), (V.own 2 l12.length), (V.lst 3 (y9.map encTPublished)), (iV (if a2 < a1.Until then a2 else a1.Until))]) tA52 wants_none rfl rfl rfl rfl rfl rfl ?_
  refine aops_store [(sV a1.Product), (V.own 2 l12.length), (V.lst 3 (y9.map encTPublished)), (iV (if a2 < a1.Until then a2 else a1.Until))] [[(sV a1.Product), (V.own 2 l12.length), (V.lst 3 (y9.map encTPublished)), (iV (if a2 < a1.Until then a2 else a1.Until))]] tS52 wants_none rfl rfl rfl rfl rfl rfl rfl rfl ?_
  refine aa (iV 0) rfl rfl ?_
  refine an ?_
  refine awp_ghost (ghost_frzC 2 0 (Ob.arr 52 4 [[(sV a1.Product), (V.lst 3 (l12.map encTRelease)), (V.lst 3 (y9.map encTPublished)), (iV (if a2 < a1.Until then a2 else a1.Until))]]) rfl (rows_imm imms_encTRelease) (ObSub.box (.cons Sub.keep (.cons (Sub.frzAll (rows := l12.map encTRelease) (List.length_map ..).symm) (.cons Sub.keep (.cons Sub.keep .nil)))))) ?_
  refine awp_ret ?_
  replace h := Option.some.inj h
  subst h
  exact ⟨.inl rfl, .two (.agg tA52 rfl rfl rfl rfl rfl (.cons (Imm.con _) (.cons (Imm.lst _ _) (.cons (Imm.lst _ _) (.cons (Imm.con _) .nil))))) (.tmp rfl (Imm.con _))⟩
theorem W46 (F : Nat) (a1 : TStory) (a2 : Int) (r : (TStory × Int)) (h : M46 F a1 a2 = some r) : Pure Try.prog 46 [(V.agg (encTStory a1)), (iV a2)] (V.tup [(V.agg (encTStory (r.1))), (iV (r.2))]) := by
  refine pure_enter Try.func46 rfl rfl (l := [.cell 4 52, .tmp 5]) rfl rfl [(0, (V.agg (encTStory a1))), (1, (iV a2))] rfl (fun w0 m0 => ?_)
  unfold M46 at h
  refine sr ?_
  refine aops_box (encTStory a1) wants_none rfl rfl rfl rfl ?_
  refine aops_alloc tZ52 rfl rfl wants_none rfl ?_
  refine aa (iV 0) rfl rfl ?_
  refine an ?_
  refine sq ?_
  refine sr ?_
  refine aops_load_agg (cs := (encTStory a1)) tA52 wants_none rfl rfl rfl rfl rfl rfl ?_
  replace h := bind_some h
  obtain ⟨y3, hx4, h⟩ := h
  refine aops_call (iV y3) [(V.agg (encTStory a1))] fOk36 wants_none (evm_cons rfl evm_nil) (.cons (Imm.agg (imms_encTStory _)) .nil) (W36 F a1 y3 hx4) rfl ?_
  refine aa (iV y3) rfl rfl ?_
  refine an ?_
  refine sr ?_
  refine am (iV y3) rfl rfl ?_
  refine aops_bin (.bool (y3 != 0)) wants_none rfl rfl rfl rfl ?_
  refine an ?_
  refine awp_cond (y3 != 0) rfl (fun hb5 => ?_) (fun hb5 => ?_)
  · replace h := ite_t hb5 h
    refine sr ?_
    refine aops_build [] [(sV ([] : List UInt8)), nV, nV, (iV 0)] tZ52 tPl52 rfl wants_none evp_nil rfl rfl ?_
    refine am (iV y3) rfl rfl ?_
    refine aops_store [(sV ([] : List UInt8)), nV, nV, (iV 0)] [[(sV ([] : List UInt8)), nV, nV, (iV 0)]] tS52 wants_none rfl rfl rfl rfl rfl rfl rfl rfl ?_
    refine aa (iV y3) rfl rfl ?_
    refine an ?_
    refine awp_ghost (ghost_tellC 1 (Ob.arr 52 4 [[(sV ([] : List UInt8)), (V.lst 3 (([] : List TRelease).map encTRelease)), (V.lst 3 (([] : List TPublished).map encTPublished)), (iV 0)]]) rfl (ObSub.box (.cons Sub.keepI (.cons (Sub.nil _) (.cons (Sub.nil _) (.cons Sub.keepI .nil)))))) ?_
    refine awp_ret ?_
    replace h := Option.some.inj h
    subst h
    exact ⟨.inl rfl, .two (.agg tA52 rfl rfl rfl rfl rfl (.cons (Imm.con _) (.cons (Imm.lst _ _) (.cons (Imm.lst _ _) (.cons (Imm.con _) .nil))))) (.tmp rfl (Imm.con _))⟩
  replace h := ite_f hb5 h
  refine awp_skip ?_
  refine sq ?_
  refine sr ?_
  refine am (iV a2) rfl rfl ?_
  replace h := bind_some h
  obtain ⟨y6, hx7, h⟩ := h
  refine aops_call (bV y6) [(iV a2)] fOk72 wants_none (evm_cons rfl evm_nil) (.cons (Imm.con _) .nil) (W72 F a2 y6 hx7) rfl ?_
  refine aops_not wants_none rfl rfl ?_
  refine an ?_
  refine awp_cond (!y6) rfl (fun hb8 => ?_) (fun hb8 => ?_)
  · replace h := ite_t hb8 h
    refine sr ?_
    refine aops_build [] [(sV ([] : List UInt8)), nV, nV, (iV 0)] tZ52 tPl52 rfl wants_none evp_nil rfl rfl ?_
    refine aops_store [(sV ([] : List UInt8)), nV, nV, (iV 0)] [[(sV ([] : List UInt8)), nV, nV, (iV 0)]] tS52 wants_none rfl rfl rfl rfl rfl rfl rfl rfl ?_
    refine aa (iV 9) rfl rfl ?_
    refine an ?_
    refine awp_ghost (ghost_tellC 1 (Ob.arr 52 4 [[(sV ([] : List UInt8)), (V.lst 3 (([] : List TRelease).map encTRelease)), (V.lst 3 (([] : List TPublished).map encTPublished)), (iV 0)]]) rfl (ObSub.box (.cons Sub.keepI (.cons (Sub.nil _) (.cons (Sub.nil _) (.cons Sub.keepI .nil)))))) ?_
    refine awp_ret ?_
    replace h := Option.some.inj h
    subst h
    exact ⟨.inl rfl, .two (.agg tA52 rfl rfl rfl rfl rfl (.cons (Imm.con _) (.cons (Imm.lst _ _) (.cons (Imm.lst _ _) (.cons (Imm.con _) .nil))))) (.tmp rfl (Imm.con _))⟩
  replace h := ite_f hb8 h
  refine awp_skip ?_
  refine sr ?_
  refine aops_load_agg (cs := (encTStory a1)) tA52 wants_none rfl rfl rfl rfl rfl rfl ?_
  refine aops_alloc tZ52 rfl rfl wants_none rfl ?_
  refine aops_store (encTStory a1) [(encTStory a1)] tS52 wants_none rfl rfl rfl rfl rfl rfl rfl rfl ?_
  refine an ?_
  refine sr ?_
  refine aops_fieldAddr tF52_3 wants_none rfl rfl ?_
  refine aops_load_cell (iV a1.Until) tC3 wants_none rfl rfl rfl rfl rfl ?_
  refine am (iV a2) rfl rfl ?_
  refine aops_min wants_none rfl rfl rfl ?_
  refine aops_fieldAddr tF52_3 wants_none rfl rfl ?_
  refine aops_store [(iV (if a2 < a1.Until then a2 else a1.Until))] [[(sV a1.Product), (V.lst 3 (a1.Releases.map encTRelease)), (V.lst 3 (a1.Known.map encTPublished)), (iV (if a2 < a1.Until then a2 else a1.Until))]] tS3 wants_none rfl rfl rfl rfl rfl rfl rfl rfl ?_
  refine an ?_
  refine sr ?_
  refine aops_fieldAddr tF52_1 wants_none rfl rfl ?_
  refine aops_store [nV] [[(sV a1.Product), nV, (V.lst 3 (a1.Known.map encTPublished)), (iV (if a2 < a1.Until then a2 else a1.Until))]] tS49 wants_none rfl rfl rfl rfl rfl rfl rfl rfl ?_
  refine an ?_
  refine sq ?_
  refine sr ?_
  refine aops_fieldAddr tF52_1 wants_none rfl rfl ?_
  refine aops_load_cell (V.lst 3 (a1.Releases.map encTRelease)) tC49 wants_none rfl rfl rfl rfl rfl ?_
  refine aops_len (n := a1.Releases.length) tIsSl49 wants_none rfl (congrArg some (List.length_map ..)) rfl ?_
  refine am (iV 0) rfl rfl ?_
  refine an ?_
  replace h := jn_elim h
  obtain ⟨k9, hk9, h⟩ := h
  refine awp_cut (fun (p : (List TRelease)) => (⟨[(4, (V.ptr 0 4 0 0)), (7, (V.ptr 1 4 0 0))], [(0, (Ob.arr 52 4 [[(sV ([] : List UInt8)), nV, nV, (iV 0)]])), (1, (Ob.arr 52 4 [[(sV a1.Product), (V.own 2 p.length), (V.lst 3 (a1.Known.map encTPublished)), (iV (if a2 < a1.Until then a2 else a1.Until))]])), (2, (Ob.arr 42 3 (p.map encTRelease)))], 3⟩ : St)) (fun (p : (List TRelease)) => k9 p = some r) ?_ ?_
  · clear hk9
    refine awp_block ?_
    refine awp_len (A := a1.Releases) 28 rfl (fun hA22 => ?_)
    refine awp_loop_ind (fun (p : Int × (List TRelease)) => (⟨[(1, (iV a2)), (4, (V.ptr 0 4 0 0)), (7, (V.ptr 1 4 0 0)), (28, (V.lst 3 (a1.Releases.map encTRelease))), (29, (iV ((a1.Releases.length : Nat) : Int))), (30, (iV (p.1)))], [(0, (Ob.arr 52 4 [[(sV ([] : List UInt8)), nV, nV, (iV 0)]])), (1, (Ob.arr 52 4 [[(sV a1.Product), (V.own 2 (p.2).length), (V.lst 3 (a1.Known.map encTPublished)), (iV (if a2 < a1.Until then a2 else a1.Until))]])), (2, (Ob.arr 42 3 ((p.2).map encTRelease)))], 3⟩ : St)) (fun n (p : Int × (List TRelease)) => RG a1.Releases (fun tl nn => M46_L1 F a2 k9 tl p.2 = some r) n p.1) (fun p h => RG.zero h) (fun n ih1 p h => ?_) (a1.Releases.length + 1) (0, ([] : List TRelease)) (RG.start h) (Ghost.trans (ghost_nilC 2 42 3 (Ob.arr 52 4 [[(sV a1.Product), (V.own 3 0), (V.lst 3 (a1.Known.map encTPublished)), (iV (if a2 < a1.Until then a2 else a1.Until))]]) (ObSub.box (.cons Sub.keepNil (.cons Sub.mkNil (.cons Sub.keepNil (.cons Sub.keepNil .nil)))))) (ghost_ren 3 (fun i => ([1, 2, 3] : List Nat).getD i 0) _ _ (by decide) (EnvSub.get (.cons (Sub.imm (Imm.con _)) (.cons (Sub.ptr rfl rfl) (.cons (Sub.ptr rfl rfl) (.cons (Sub.imm (Imm.lst _ _)) (.cons (Sub.imm (Imm.con _)) (.cons (Sub.imm (Imm.con _)) .nil))))))) (HpSub.get (.cons rfl (ObSub.box (.cons (Sub.imm (Imm.con _)) (.cons (Sub.imm (Imm.con _)) (.cons (Sub.imm (Imm.con _)) (.cons (Sub.imm (Imm.con _)) .nil))))) (.cons rfl (ObSub.box (.cons (Sub.imm (Imm.con _)) (.cons (Sub.ownE rfl rfl (by simp)) (.cons (Sub.imm (Imm.lst _ _)) (.cons (Sub.imm (Imm.con _)) .nil))))) (.cons rfl (ObSub.rows (rows_imm imms_encTRelease)) .nil)))) rfl))
    obtain ⟨n13, l14⟩ := p
    refine awp_loop ?_
    refine sr ?_
    refine aops_bin (.bool (decide (n13 < ((a1.Releases.length : Nat) : Int)))) wants_none rfl rfl rfl rfl ?_
    refine an ?_
    refine sq ?_
    refine awp_cond (decide (n13 < ((a1.Releases.length : Nat) : Int))) rfl (fun hb15 => ?_) (fun hb15 => ?_)
    · obtain ⟨x16, tl, hx17, h, hk1⟩ := RG.t hA22 h hb15
      unfold M46_L1 at h
      refine awp_skip ?_
      refine sq ?_
      refine awp_block ?_
      refine sr ?_
      refine aops_index_lst (encTRelease x16) tSl49 wants_none rfl rfl (idx_some hx17).1 (idx_map encTRelease hx17) rfl ?_
      refine aops_iload_agg (cs := (encTRelease x16)) tA42 wants_none rfl rfl rfl rfl ?_
      refine aops_alloc tZ42 rfl rfl wants_none rfl ?_
      refine aops_store (encTRelease x16) [(encTRelease x16)] tS42 wants_none rfl rfl rfl rfl rfl rfl rfl rfl ?_
      refine an ?_
      refine sr ?_
      refine aops_fieldAddr tF42_1 wants_none rfl rfl ?_
      refine aops_load_cell (iV x16.Day) tC3 wants_none rfl rfl rfl rfl rfl ?_
      refine am (iV a2) rfl rfl ?_
      refine aops_bin (.bool (decide (x16.Day < a2))) wants_none rfl rfl rfl rfl ?_
      refine an ?_
      replace h := jn_elim h
      obtain ⟨k18, hk18, h⟩ := h
      refine awp_cut (fun (p : (List TRelease)) => (⟨[(1, (iV a2)), (4, (V.ptr 0 4 0 0)), (7, (V.ptr 1 4 0 0)), (28, (V.lst 3 (a1.Releases.map encTRelease))), (29, (iV ((a1.Releases.length : Nat) : Int))), (30, (iV n13))], [(0, (Ob.arr 52 4 [[(sV ([] : List UInt8)), nV, nV, (iV 0)]])), (1, (Ob.arr 52 4 [[(sV a1.Product), (V.own 2 p.length), (V.lst 3 (a1.Known.map encTPublished)), (iV (if a2 < a1.Until then a2 else a1.Until))]])), (2, (Ob.arr 42 3 (p.map encTRelease)))], 3⟩ : St)) (fun (p : (List TRelease)) => k18 p = some r) ?_ ?_
      · clear hk18
        refine awp_cond (decide (x16.Day < a2)) rfl (fun hb20 => ?_) (fun hb20 => ?_)
        · replace h := ite_t hb20 h
          refine rg ?_
          refine aops_fieldAddr tF52_1 wants_none rfl rfl ?_
          refine aops_load_cell (V.own 2 l14.length) tC49 wants_none rfl rfl rfl rfl rfl ?_
          refine aops_load_agg (cs := (encTRelease x16)) tA42 wants_none rfl rfl rfl rfl rfl rfl ?_
          refine aops_buildSlice [(0, (V.agg (encTRelease x16)))] [(encTRelease x16)] tEl49 tZ42 rfl rfl rfl rfl wants_none (evp_cons rfl evp_nil) rfl rfl (by simp) rfl ?_
          replace h := chk_some h
          obtain ⟨hc21, h⟩ := h
          refine aops_append [(encTRelease x16)] ((l14 ++ ([x16] : List TRelease)).map encTRelease) tEl49 tIsSl49 rfl rfl wants_none rfl rfl (by simp) rfl (.own rfl (by simp)) (map_snoc encTRelease l14 ([x16] : List TRelease)) (List.length_map ..) hc21 rfl ?_
          refine aops_fieldAddr tF52_1 wants_none rfl rfl ?_
          refine aops_store [(V.own 5 (l14 ++ ([x16] : List TRelease)).length)] [[(sV a1.Product), (V.own 5 (l14 ++ ([x16] : List TRelease)).length), (V.lst 3 (a1.Known.map encTPublished)), (iV (if a2 < a1.Until then a2 else a1.Until))]] tS49 wants_none rfl rfl rfl rfl rfl rfl rfl rfl ?_
          refine an ?_
          exact ⟨(l14 ++ ([x16] : List TRelease)), h, (ghost_ren 3 (fun i => ([0, 1, 5] : List Nat).getD i 0) _ _ (by decide) (EnvSub.get (.cons (Sub.imm (Imm.con _)) (.cons (Sub.ptr rfl rfl) (.cons (Sub.ptr rfl rfl) (.cons (Sub.imm (Imm.lst _ _)) (.cons (Sub.imm (Imm.con _)) (.cons (Sub.imm (Imm.con _)) .nil))))))) (HpSub.get (.cons rfl (ObSub.box (.cons (Sub.imm (Imm.con _)) (.cons (Sub.imm (Imm.con _)) (.cons (Sub.imm (Imm.con _)) (.cons (Sub.imm (Imm.con _)) .nil))))) (.cons rfl (ObSub.box (.cons (Sub.imm (Imm.con _)) (.cons (Sub.own rfl rfl) (.cons (Sub.imm (Imm.lst _ _)) (.cons (Sub.imm (Imm.con _)) .nil))))) (.cons rfl (ObSub.rows (rows_imm imms_encTRelease)) .nil)))) rfl)⟩
        replace h := ite_f hb20 h
        refine awp_skip ?_
        exact ⟨l14, h, (ghost_ren 3 (fun i => ([0, 1, 2] : List Nat).getD i 0) _ _ (by decide) (EnvSub.get (.cons (Sub.imm (Imm.con _)) (.cons (Sub.ptr rfl rfl) (.cons (Sub.ptr rfl rfl) (.cons (Sub.imm (Imm.lst _ _)) (.cons (Sub.imm (Imm.con _)) (.cons (Sub.imm (Imm.con _)) .nil))))))) (HpSub.get (.cons rfl (ObSub.box (.cons (Sub.imm (Imm.con _)) (.cons (Sub.imm (Imm.con _)) (.cons (Sub.imm (Imm.con _)) (.cons (Sub.imm (Imm.con _)) .nil))))) (.cons rfl (ObSub.box (.cons (Sub.imm (Imm.con _)) (.cons (Sub.own rfl rfl) (.cons (Sub.imm (Imm.lst _ _)) (.cons (Sub.imm (Imm.con _)) .nil))))) (.cons rfl (ObSub.rows (rows_imm imms_encTRelease)) .nil)))) rfl)⟩
      clear h
      intro l19 h
      subst hk18
      refine rg ?_
      refine aops_bin (.int .i64 (w64 (n13 + 1))) wants_none rfl rfl rfl rfl ?_
      refine am (iV (w64 (n13 + 1))) rfl rfl ?_
      refine an ?_
      exact awp_back (ih1 ((w64 (n13 + 1)), l19) (hk1 _ h)) (ghost_ren 3 (fun i => ([0, 1, 2] : List Nat).getD i 0) _ _ (by decide) (EnvSub.get (.cons (Sub.imm (Imm.con _)) (.cons (Sub.ptr rfl rfl) (.cons (Sub.ptr rfl rfl) (.cons (Sub.imm (Imm.lst _ _)) (.cons (Sub.imm (Imm.con _)) (.cons (Sub.imm (Imm.con _)) .nil))))))) (HpSub.get (.cons rfl (ObSub.box (.cons (Sub.imm (Imm.con _)) (.cons (Sub.imm (Imm.con _)) (.cons (Sub.imm (Imm.con _)) (.cons (Sub.imm (Imm.con _)) .nil))))) (.cons rfl (ObSub.box (.cons (Sub.imm (Imm.con _)) (.cons (Sub.own rfl rfl) (.cons (Sub.imm (Imm.lst _ _)) (.cons (Sub.imm (Imm.con _)) .nil))))) (.cons rfl (ObSub.rows (rows_imm imms_encTRelease)) .nil)))) rfl)
    replace h := RG.f h hb15
    unfold M46_L1 at h
    refine awp_exit ?_
    exact ⟨l14, h, (ghost_ren 3 (fun i => ([0, 1, 2] : List Nat).getD i 0) _ _ (by decide) (EnvSub.get (.cons (Sub.ptr rfl rfl) (.cons (Sub.ptr rfl rfl) .nil))) (HpSub.get (.cons rfl (ObSub.box (.cons (Sub.imm (Imm.con _)) (.cons (Sub.imm (Imm.con _)) (.cons (Sub.imm (Imm.con _)) (.cons (Sub.imm (Imm.con _)) .nil))))) (.cons rfl (ObSub.box (.cons (Sub.imm (Imm.con _)) (.cons (Sub.own rfl rfl) (.cons (Sub.imm (Imm.lst _ _)) (.cons (Sub.imm (Imm.con _)) .nil))))) (.cons rfl (ObSub.rows (rows_imm imms_encTRelease)) .nil)))) rfl)⟩
  clear h
  intro l10 h
  subst hk9
  refine sr ?_
  refine aops_load_agg (cs := [(sV a1.Product), (V.own 2 l10.length), (V.lst 3 (a1.Known.map encTPublished)), (iV (if a2 < a1.Until then a2 else a1.Until))]) tA52 wants_none rfl rfl rfl rfl rfl rfl ?_
  refine aops_store [(sV a1.Product), (V.own 2 l10.length), (V.lst 3 (a1.Known.map encTPublished)), (iV (if a2 < a1.Until then a2 else a1.Until))] [[(sV a1.Product), (V.own 2 l10.length), (V.lst 3 (a1.Known.map encTPublished)), (iV (if a2 < a1.Until then a2 else a1.Until))]] tS52 wants_none rfl rfl rfl rfl rfl rfl rfl rfl ?_
  refine aa (iV 0) rfl rfl ?_
  refine an ?_
  refine awp_ghost (ghost_frzC 2 0 (Ob.arr 52 4 [[(sV a1.Product), (V.lst 3 (l10.map encTRelease)), (V.lst 3 (a1.Known.map encTPublished)), (iV (if a2 < a1.Until then a2 else a1.Until))]]) rfl (rows_imm imms_encTRelease) (ObSub.box (.cons Sub.keep (.cons (Sub.frzAll (rows := l10.map encTRelease) (List.length_map ..).symm) (.cons Sub.keep (.cons Sub.keep .nil)))))) ?_
  refine awp_ret ?_
  replace h := Option.some.inj h
  subst h
  exact ⟨.inl rfl, .two (.agg tA52 rfl rfl rfl rfl rfl (.cons (Imm.con _) (.cons (Imm.lst _ _) (.cons (Imm.lst _ _) (.cons (Imm.con _) .nil))))) (.tmp rfl (Imm.con _))⟩
theorem W101_1 (F : Nat) (a1 : (List TPublished)) (r : (List TPublished)) (h : M101_1 F a1 = some r) : Mut Try.prog 101 [(V.lst 3 (a1.map encTPublished))] 0 [] (resV [(V.own 0 r.length)]) 1 [(0, (Ob.arr 137 3 (r.map encTPublished)))] := by
  refine mut_enter Try.func101 rfl rfl (l := [.tmp 2]) rfl rfl [(0, (V.lst 3 (a1.map encTPublished)))] rfl (fun w0 m0 β0 => ?_)
  unfold M101_1 at h
  refine sr ?_
  refine aa nV rfl rfl ?_
  refine an ?_
  refine sq ?_
  refine sr ?_
  refine am (V.lst 3 (a1.map encTPublished)) rfl rfl ?_
  refine aops_isNil (n := a1.length) false tIsSl50 wants_none rfl rfl (congrArg some (List.length_map ..)) rfl (fun b7 hn8 => ?_)
  replace h := nilq_elim h hn8
  refine an ?_
  refine awp_cond b7 rfl (fun hb9 => ?_) (fun hb9 => ?_)
  · replace h := ite_t hb9 h
    refine sr ?_
    refine aa nV rfl rfl ?_
    refine an ?_
    refine awp_ret ?_
    replace h := Option.some.inj h
    subst h
    exact ⟨.inl rfl, [(2, (V.own 0 ([] : List TPublished).length))], (Ghost.trans (ghost_nilE 2 137 3 rfl) (ghost_ren 1 (fun i => ([0] : List Nat).getD i 0) _ _ (by decide) (EnvSub.get (.cons (Sub.ownE rfl rfl (by simp)) .nil)) (HpSub.get (.cons rfl (ObSub.rows (rows_imm imms_encTPublished)) .nil)) rfl)), (.cons (.tmp rfl) .nil)⟩
  replace h := ite_f hb9 h
  refine awp_skip ?_
  refine sr ?_
  refine aops_emptySlice tEl50 wants_none rfl ?_
  refine am (V.lst 3 (a1.map encTPublished)) rfl rfl ?_
  replace h := chk_some h
  obtain ⟨hc10, h⟩ := h
  refine aops_append (a1.map encTPublished) ((([] : List TPublished) ++ a1).map encTPublished) tEl50 tIsSl50 rfl rfl wants_none rfl rfl (by simp) rfl (.lst (rows_one one_encTPublished)) (map_snoc encTPublished ([] : List TPublished) a1) (List.length_map ..) hc10 rfl ?_
  refine aa (V.own 1 (([] : List TPublished) ++ a1).length) rfl rfl ?_
  refine an ?_
  refine awp_ret ?_
  replace h := Option.some.inj h
  subst h
  exact ⟨.inl rfl, [(2, (V.own 0 (([] : List TPublished) ++ a1).length))], (ghost_ren 1 (fun i => ([1] : List Nat).getD i 0) _ _ (by decide) (EnvSub.get (.cons (Sub.own rfl rfl) .nil)) (HpSub.get (.cons rfl (ObSub.rows (rows_imm imms_encTPublished)) .nil)) rfl), (.cons (.tmp rfl) .nil)⟩
theorem W137 (F : Nat) (a1 : TPublished) (a2 : TPublished) (r : Int) (h : M137 F a1 a2 = some r) : Pure Try.prog 137 [(V.agg (encTPublished a1)), (V.agg (encTPublished a2))] (iV r) := by
  refine pure_enter Try.func137 rfl rfl (l := [.tmp 4]) rfl rfl [(0, (V.agg (encTPublished a1))), (1, (V.agg (encTPublished a2)))] rfl (fun w0 m0 => ?_)
  unfold M137 at h
  refine sr ?_
  refine aops_box (encTPublished a1) wants_none rfl rfl rfl rfl ?_
  refine aops_box (encTPublished a2) wants_none rfl rfl rfl rfl ?_
  refine aa (iV 0) rfl rfl ?_
  refine an ?_
  refine sr ?_
  refine aops_fieldAddr tF137_0 wants_none rfl rfl ?_
  refine aops_load_cell (sV a1.Advisory) tC9 wants_none rfl rfl rfl rfl rfl ?_
  refine aops_fieldAddr tF137_0 wants_none rfl rfl ?_
  refine aops_load_cell (sV a2.Advisory) tC9 wants_none rfl rfl rfl rfl rfl ?_
  replace h := bind_some h
  obtain ⟨y3, hx4, h⟩ := h
  refine aops_call (iV y3) [(sV a1.Advisory), (sV a2.Advisory)] fOk138 wants_none (evm_cons rfl (evm_cons rfl evm_nil)) (.cons (Imm.con _) (.cons (Imm.con _) .nil)) (W138 F a1.Advisory a2.Advisory y3 hx4) rfl ?_
  refine aa (iV y3) rfl rfl ?_
  refine an ?_
  refine awp_ret ?_
  replace h := Option.some.inj h
  subst h
  exact ⟨.inl rfl, .one (.tmp rfl (Imm.con _))⟩
theorem W173 (F : Nat) (a1 : Int) (a2 : Int) (a3 : List TPublished) (r : (List TPublished)) (h : M173 F a1 a2 a3 = some r) : Mut Try.prog 173 [(V.own 0 a3.length), (iV a1), (iV a2), (V.fn (.func 137) [] [])] 1 [(0, (Ob.arr 137 3 (a3.map encTPublished)))] (resV []) 1 [(0, (Ob.arr 137 3 (r.map encTPublished)))] := by
  refine mut_enter Try.func173 rfl rfl (l := []) rfl rfl [(0, (V.own 0 a3.length)), (1, (iV a1)), (2, (iV a2)), (3, (V.fn (.func 137) [] []))] rfl (fun w0 m0 β0 => ?_)
  unfold M173 at h
  refine sr ?_
  refine am (iV a1) rfl rfl ?_
  refine aops_bin (.int .i64 (w64 (a1 + 1))) wants_none rfl rfl rfl rfl ?_
  refine aa (iV (w64 (a1 + 1))) rfl rfl ?_
  refine an ?_
  refine awp_block ?_
  refine awp_loop_ind (fun (p : Int × (List TPublished)) => (⟨[(0, (V.own 0 (p.2).length)), (1, (iV a1)), (2, (iV a2)), (3, (V.fn (.func 137) [] [])), (8, (iV (p.1)))], [(0, (Ob.arr 137 3 ((p.2).map encTPublished)))], 1⟩ : St)) (fun n (p : Int × (List TPublished)) => M173_L1 F a1 a2 n p.1 p.2 = some r) (fun p h => by simp [M173_L1] at h) (fun n ih1 p h => ?_) F ((w64 (a1 + 1)), a3) h (ghost_ren 1 (fun i => ([0] : List Nat).getD i 0) _ _ (by decide) (EnvSub.get (.cons (Sub.own rfl rfl) (.cons (Sub.imm (Imm.con _)) (.cons (Sub.imm (Imm.con _)) (.cons (Sub.imm (Imm.fn .nil .nil)) (.cons (Sub.imm (Imm.con _)) .nil)))))) (HpSub.get (.cons rfl (ObSub.rows (rows_imm imms_encTPublished)) .nil)) rfl)
  obtain ⟨n36, l37⟩ := p
  unfold M173_L1 at h
  refine awp_loop ?_
  refine sq ?_
  refine sr ?_
  refine am (iV n36) rfl rfl ?_
  refine am (iV a2) rfl rfl ?_
  refine aops_bin (.bool (decide (n36 < a2))) wants_none rfl rfl rfl rfl ?_
  refine an ?_
  refine awp_cond (decide (n36 < a2)) rfl (fun hb38 => ?_) (fun hb38 => ?_)
  · replace h := ite_t hb38 h
    refine awp_skip ?_
    refine sq ?_
    replace h := jn_elim h
    obtain ⟨k39, hk39, h⟩ := h
    refine awp_cut (fun (p : (List TPublished)) => (⟨[(0, (V.own 0 p.length)), (1, (iV a1)), (2, (iV a2)), (3, (V.fn (.func 137) [] [])), (8, (iV n36))], [(0, (Ob.arr 137 3 (p.map encTPublished)))], 1⟩ : St)) (fun (p : (List TPublished)) => k39 p = some r) ?_ ?_
    · clear hk39
      refine awp_block ?_
      refine sr ?_
      refine am (iV n36) rfl rfl ?_
      refine aa (iV n36) rfl rfl ?_
      refine an ?_
      replace h := jn_elim h
      obtain ⟨k41, hk41, h⟩ := h
      refine awp_cut (fun (p : (List TPublished)) => (⟨[(0, (V.own 0 p.length)), (1, (iV a1)), (2, (iV a2)), (3, (V.fn (.func 137) [] [])), (8, (iV n36))], [(0, (Ob.arr 137 3 (p.map encTPublished)))], 1⟩ : St)) (fun (p : (List TPublished)) => k41 p = some r) ?_ ?_
      · clear hk41
        refine awp_block ?_
        refine awp_loop_ind (fun (p : Int × (List TPublished)) => (⟨[(0, (V.own 0 (p.2).length)), (1, (iV a1)), (2, (iV a2)), (3, (V.fn (.func 137) [] [])), (8, (iV n36)), (9, (iV (p.1)))], [(0, (Ob.arr 137 3 ((p.2).map encTPublished)))], 1⟩ : St)) (fun n (p : Int × (List TPublished)) => M173_L2 F a1 k41 n p.1 p.2 = some r) (fun p h => by simp [M173_L2] at h) (fun n ih2 p h => ?_) F (n36, l37) h (ghost_ren 1 (fun i => ([0] : List Nat).getD i 0) _ _ (by decide) (EnvSub.get (.cons (Sub.own rfl rfl) (.cons (Sub.imm (Imm.con _)) (.cons (Sub.imm (Imm.con _)) (.cons (Sub.imm (Imm.fn .nil .nil)) (.cons (Sub.imm (Imm.con _)) (.cons (Sub.imm (Imm.con _)) .nil))))))) (HpSub.get (.cons rfl (ObSub.rows (rows_imm imms_encTPublished)) .nil)) rfl)
        obtain ⟨n45, l46⟩ := p
        unfold M173_L2 at h
        refine awp_loop ?_
        refine sq ?_
        refine sq ?_
        refine bsp (decide (n45 > a1)) (fun hb47 => ?_) (fun hb47 => ?_)
        · replace h := ite_t hb47 h
          replace h := bind_some h
          obtain ⟨x48, hx49, h⟩ := h
          replace h := bind_some h
          obtain ⟨x50, hx51, h⟩ := h
          replace h := bind_some h
          obtain ⟨y52, hx53, h⟩ := h
          refine awp_any [OD.mk [(9, (iV n45))] [] [(18, (iV n45))] [],
                OD.mk [(1, (iV a1))] [] [(19, (iV a1))] [],
                OD.mk [(18, (iV n45)), (19, (iV a1))] [] [(20, (bV (decide (n45 > a1))))] [],
                OD.mk [(20, (bV (decide (n45 > a1))))] [] [(21, (bV (decide (n45 > a1))))] [],
                OD.mk [(21, (bV (decide (n45 > a1)))), (3, (V.fn (.func 137) [] []))] [] [(22, (V.fn (.func 137) [] []))] [],
                OD.mk [(21, (bV (decide (n45 > a1)))), (0, (V.own 0 l46.length))] [] [(23, (V.own 0 l46.length))] [],
                OD.mk [(21, (bV (decide (n45 > a1)))), (9, (iV n45))] [] [(24, (iV n45))] [],
                OD.mk [(21, (bV (decide (n45 > a1)))), (23, (V.own 0 l46.length)), (24, (iV n45))] [] [(25, (V.ptr 0 3 n45.toNat 0))] [],
                OD.mk [(21, (bV (decide (n45 > a1)))), (25, (V.ptr 0 3 n45.toNat 0))] [(0, (Ob.arr 137 3 (l46.map encTPublished)))] [(26, (V.agg (encTPublished x48)))] [],
                OD.mk [(21, (bV (decide (n45 > a1)))), (0, (V.own 0 l46.length))] [] [(27, (V.own 0 l46.length))] [],
                OD.mk [(21, (bV (decide (n45 > a1)))), (9, (iV n45))] [] [(28, (iV n45))] [],
                OD.mk [(21, (bV (decide (n45 > a1)))), (28, (iV n45))] [] [(29, (iV (w64 (n45 - 1))))] [],
                OD.mk [(21, (bV (decide (n45 > a1)))), (27, (V.own 0 l46.length)), (29, (iV (w64 (n45 - 1))))] [] [(30, (V.ptr 0 3 (w64 (n45 - 1)).toNat 0))] [],
                OD.mk [(21, (bV (decide (n45 > a1)))), (30, (V.ptr 0 3 (w64 (n45 - 1)).toNat 0))] [(0, (Ob.arr 137 3 (l46.map encTPublished)))] [(31, (V.agg (encTPublished x50)))] [],
                OD.mk [(21, (bV (decide (n45 > a1)))), (22, (V.fn (.func 137) [] [])), (26, (V.agg (encTPublished x48))), (31, (V.agg (encTPublished x50)))] [] [(32, (iV y52))] [],
                OD.mk [(21, (bV (decide (n45 > a1)))), (32, (iV y52))] [] [(33, (bV (decide (y52 < 0))))] [],
                OD.mk [(21, (bV (decide (n45 > a1)))), (33, (bV (decide (y52 < 0))))] [] [(34, (bV (decide (y52 < 0))))] []] mixed ⟨⟨rfl, trivial⟩, trivial, ⟨⟨rfl, trivial⟩, trivial, ⟨⟨rfl, rfl, trivial⟩, trivial, ⟨⟨rfl, trivial⟩, trivial, ⟨⟨rfl, rfl, trivial⟩, trivial, ⟨⟨rfl, rfl, trivial⟩, trivial, ⟨⟨rfl, rfl, trivial⟩, trivial, ⟨⟨rfl, rfl, rfl, trivial⟩, trivial, ⟨⟨rfl, rfl, trivial⟩, ⟨rfl, trivial⟩, ⟨⟨rfl, rfl, trivial⟩, trivial, ⟨⟨rfl, rfl, trivial⟩, trivial, ⟨⟨rfl, rfl, trivial⟩, trivial, ⟨⟨rfl, rfl, rfl, trivial⟩, trivial, ⟨⟨rfl, rfl, trivial⟩, ⟨rfl, trivial⟩, ⟨⟨rfl, rfl, rfl, rfl, trivial⟩, trivial, ⟨⟨rfl, rfl, trivial⟩, trivial, ⟨⟨rfl, rfl, trivial⟩, trivial, trivial⟩⟩⟩⟩⟩⟩⟩⟩⟩⟩⟩⟩⟩⟩⟩⟩⟩ (by kernel_rfl) (.cons (fun S hn h hh => aops_move (iV n45) wants_none h.1 rfl (an ⟨rfl, rfl⟩)) (.cons (fun S hn h hh => aops_move (iV a1) wants_none h.1 rfl (an ⟨rfl, rfl⟩)) (.cons (fun S hn h hh => aops_bin (.bool (decide (n45 > a1))) wants_none h.1 h.2.1 rfl rfl (an ⟨rfl, rfl⟩)) (.cons (fun S hn h hh => aops_move (bV (decide (n45 > a1))) wants_none h.1 rfl (an ⟨rfl, rfl⟩)) (.cons (fun S hn h hh => aops_move (V.fn (.func 137) [] []) (wants_some (c := (decide (n45 > a1))) (b := true) 21 rfl h.1 hb47) h.2.1 rfl (an ⟨rfl, rfl⟩)) (.cons (fun S hn h hh => aops_move (V.own 0 l46.length) (wants_some (c := (decide (n45 > a1))) (b := true) 21 rfl h.1 hb47) h.2.1 rfl (an ⟨rfl, rfl⟩)) (.cons (fun S hn h hh => aops_move (iV n45) (wants_some (c := (decide (n45 > a1))) (b := true) 21 rfl h.1 hb47) h.2.1 rfl (an ⟨rfl, rfl⟩)) (.cons (fun S hn h hh => aops_index_own tSl50 (wants_some (c := (decide (n45 > a1))) (b := true) 21 rfl h.1 hb47) h.2.1 h.2.2.1 (idx_some hx49).1 (by simpa using idx_lt hx49) rfl (an ⟨rfl, rfl⟩)) (.cons (fun S hn h hh => aops_load_agg (cs := (encTPublished x48)) tA137 (wants_some (c := (decide (n45 > a1))) (b := true) 21 rfl h.1 hb47) h.2.1 hh.1 (idx_map encTPublished hx49) rfl rfl rfl (an ⟨rfl, rfl⟩)) (.cons (fun S hn h hh => aops_move (V.own 0 l46.length) (wants_some (c := (decide (n45 > a1))) (b := true) 21 rfl h.1 hb47) h.2.1 rfl (an ⟨rfl, rfl⟩)) (.cons (fun S hn h hh => aops_move (iV n45) (wants_some (c := (decide (n45 > a1))) (b := true) 21 rfl h.1 hb47) h.2.1 rfl (an ⟨rfl, rfl⟩)) (.cons (fun S hn h hh => aops_bin (.int .i64 (w64 (n45 - 1))) (wants_some (c := (decide (n45 > a1))) (b := true) 21 rfl h.1 hb47) h.2.1 rfl rfl rfl (an ⟨rfl, rfl⟩)) (.cons (fun S hn h hh => aops_index_own tSl50 (wants_some (c := (decide (n45 > a1))) (b := true) 21 rfl h.1 hb47) h.2.1 h.2.2.1 (idx_some hx51).1 (by simpa using idx_lt hx51) rfl (an ⟨rfl, rfl⟩)) (.cons (fun S hn h hh => aops_load_agg (cs := (encTPublished x50)) tA137 (wants_some (c := (decide (n45 > a1))) (b := true) 21 rfl h.1 hb47) h.2.1 hh.1 (idx_map encTPublished hx51) rfl rfl rfl (an ⟨rfl, rfl⟩)) (.cons (fun S hn h hh => aops_callv (iV y52) [(V.agg (encTPublished x48)), (V.agg (encTPublished x50))] fOk137 (wants_some (c := (decide (n45 > a1))) (b := true) 21 rfl h.1 hb47) h.2.1 (evmc (S := S) (first := []) (captured := []) (vs := [(V.agg (encTPublished x48)), (V.agg (encTPublished x50))]) (evm_cons h.2.2.1 (evm_cons h.2.2.2.1 evm_nil))) (.cons (Imm.agg (imms_encTPublished _)) (.cons (Imm.agg (imms_encTPublished _)) .nil)) (W137 F x48 x50 y52 hx53) rfl (an ⟨rfl, rfl⟩)) (.cons (fun S hn h hh => aops_bin (.bool (decide (y52 < 0))) (wants_some (c := (decide (n45 > a1))) (b := true) 21 rfl h.1 hb47) h.2.1 rfl rfl rfl (an ⟨rfl, rfl⟩)) (.cons (fun S hn h hh => aops_pick true (cb := (decide (n45 > a1))) (bV (decide (y52 < 0))) wants_none h.1 hb47 h.2.1 rfl (an ⟨rfl, rfl⟩)) .nil))))))))))))))))) ?_
          refine awp_cond (decide (y52 < 0)) rfl (fun hb54 => ?_) (fun hb54 => ?_)
          · replace h := ite_t hb54 h
            refine awp_skip ?_
            refine sq ?_
            refine awp_block ?_
            replace h := bind_some h
            obtain ⟨x55, hx56, h⟩ := h
            replace h := bind_some h
            obtain ⟨x57, hx58, h⟩ := h
            replace h := bind_some h
            obtain ⟨x59, hx60, h⟩ := h
            replace h := bind_some h
            obtain ⟨x61, hx62, h⟩ := h
            refine awp_any [OD.mk [(0, (V.own 0 l46.length))] [] [(37, (V.own 0 l46.length))] [],
                  OD.mk [(9, (iV n45))] [] [(38, (iV n45))] [],
                  OD.mk [(0, (V.own 0 l46.length))] [] [(39, (V.own 0 l46.length))] [],
                  OD.mk [(9, (iV n45))] [] [(40, (iV n45))] [],
                  OD.mk [(40, (iV n45))] [] [(41, (iV (w64 (n45 - 1))))] [],
                  OD.mk [(0, (V.own 0 l46.length))] [] [(42, (V.own 0 l46.length))] [],
                  OD.mk [(9, (iV n45))] [] [(43, (iV n45))] [],
                  OD.mk [(43, (iV n45))] [] [(44, (iV (w64 (n45 - 1))))] [],
                  OD.mk [(42, (V.own 0 l46.length)), (44, (iV (w64 (n45 - 1))))] [] [(45, (V.ptr 0 3 (w64 (n45 - 1)).toNat 0))] [],
                  OD.mk [(45, (V.ptr 0 3 (w64 (n45 - 1)).toNat 0))] [(0, (Ob.arr 137 3 (l46.map encTPublished)))] [(46, (V.agg (encTPublished x55)))] [],
                  OD.mk [(0, (V.own 0 l46.length))] [] [(47, (V.own 0 l46.length))] [],
                  OD.mk [(9, (iV n45))] [] [(48, (iV n45))] [],
                  OD.mk [(47, (V.own 0 l46.length)), (48, (iV n45))] [] [(49, (V.ptr 0 3 n45.toNat 0))] [],
                  OD.mk [(49, (V.ptr 0 3 n45.toNat 0))] [(0, (Ob.arr 137 3 (l46.map encTPublished)))] [(50, (V.agg (encTPublished x57)))] [],
                  OD.mk [(37, (V.own 0 l46.length)), (38, (iV n45))] [] [(51, (V.ptr 0 3 n45.toNat 0))] [],
                  OD.mk [(51, (V.ptr 0 3 n45.toNat 0)), (46, (V.agg (encTPublished x55)))] [(0, (Ob.arr 137 3 (l46.map encTPublished)))] [] [(0, (Ob.arr 137 3 ((l46.set n45.toNat x55).map encTPublished)))],
                  OD.mk [(39, (V.own 0 l46.length)), (41, (iV (w64 (n45 - 1))))] [] [(52, (V.ptr 0 3 (w64 (n45 - 1)).toNat 0))] [],
                  OD.mk [(52, (V.ptr 0 3 (w64 (n45 - 1)).toNat 0)), (50, (V.agg (encTPublished x57)))] [(0, (Ob.arr 137 3 ((l46.set n45.toNat x55).map encTPublished)))] [] [(0, (Ob.arr 137 3 (((l46.set n45.toNat x55).set (w64 (n45 - 1)).toNat x57).map encTPublished)))]] mixed ⟨⟨rfl, trivial⟩, trivial, ⟨⟨rfl, trivial⟩, trivial, ⟨⟨rfl, trivial⟩, trivial, ⟨⟨rfl, trivial⟩, trivial, ⟨⟨rfl, trivial⟩, trivial, ⟨⟨rfl, trivial⟩, trivial, ⟨⟨rfl, trivial⟩, trivial, ⟨⟨rfl, trivial⟩, trivial, ⟨⟨rfl, rfl, trivial⟩, trivial, ⟨⟨rfl, trivial⟩, ⟨rfl, trivial⟩, ⟨⟨rfl, trivial⟩, trivial, ⟨⟨rfl, trivial⟩, trivial, ⟨⟨rfl, rfl, trivial⟩, trivial, ⟨⟨rfl, trivial⟩, ⟨rfl, trivial⟩, ⟨⟨rfl, rfl, trivial⟩, trivial, ⟨⟨rfl, rfl, trivial⟩, ⟨rfl, trivial⟩, ⟨⟨rfl, rfl, trivial⟩, trivial, ⟨⟨rfl, rfl, trivial⟩, ⟨rfl, trivial⟩, trivial⟩⟩⟩⟩⟩⟩⟩⟩⟩⟩⟩⟩⟩⟩⟩⟩⟩⟩ (by kernel_rfl) (.cons (fun S hn h hh => aops_move (V.own 0 l46.length) wants_none h.1 rfl (an ⟨rfl, rfl⟩)) (.cons (fun S hn h hh => aops_move (iV n45) wants_none h.1 rfl (an ⟨rfl, rfl⟩)) (.cons (fun S hn h hh => aops_move (V.own 0 l46.length) wants_none h.1 rfl (an ⟨rfl, rfl⟩)) (.cons (fun S hn h hh => aops_move (iV n45) wants_none h.1 rfl (an ⟨rfl, rfl⟩)) (.cons (fun S hn h hh => aops_bin (.int .i64 (w64 (n45 - 1))) wants_none h.1 rfl rfl rfl (an ⟨rfl, rfl⟩)) (.cons (fun S hn h hh => aops_move (V.own 0 l46.length) wants_none h.1 rfl (an ⟨rfl, rfl⟩)) (.cons (fun S hn h hh => aops_move (iV n45) wants_none h.1 rfl (an ⟨rfl, rfl⟩)) (.cons (fun S hn h hh => aops_bin (.int .i64 (w64 (n45 - 1))) wants_none h.1 rfl rfl rfl (an ⟨rfl, rfl⟩)) (.cons (fun S hn h hh => aops_index_own tSl50 wants_none h.1 h.2.1 (idx_some hx56).1 (by simpa using idx_lt hx56) rfl (an ⟨rfl, rfl⟩)) (.cons (fun S hn h hh => aops_load_agg (cs := (encTPublished x55)) tA137 wants_none h.1 hh.1 (idx_map encTPublished hx56) rfl rfl rfl (an ⟨rfl, rfl⟩)) (.cons (fun S hn h hh => aops_move (V.own 0 l46.length) wants_none h.1 rfl (an ⟨rfl, rfl⟩)) (.cons (fun S hn h hh => aops_move (iV n45) wants_none h.1 rfl (an ⟨rfl, rfl⟩)) (.cons (fun S hn h hh => aops_index_own tSl50 wants_none h.1 h.2.1 (idx_some hx58).1 (by simpa using idx_lt hx58) rfl (an ⟨rfl, rfl⟩)) (.cons (fun S hn h hh => aops_load_agg (cs := (encTPublished x57)) tA137 wants_none h.1 hh.1 (idx_map encTPublished hx58) rfl rfl rfl (an ⟨rfl, rfl⟩)) (.cons (fun S hn h hh => aops_index_own tSl50 wants_none h.1 h.2.1 (idx_some hx60).1 (by simpa using idx_lt hx60) rfl (an ⟨rfl, rfl⟩)) (.cons (fun S hn h hh => aops_store (encTPublished x55) ((l46.set n45.toNat x55).map encTPublished) tS137 wants_none h.1 h.2.1 rfl rfl hh.1 (idx_map encTPublished hx60) rfl (map_set encTPublished l46 _ x55) (an ⟨rfl, rfl⟩)) (.cons (fun S hn h hh => aops_index_own tSl50 wants_none h.1 h.2.1 (idx_some hx62).1 (by simpa using idx_lt hx62) rfl (an ⟨rfl, rfl⟩)) (.cons (fun S hn h hh => aops_store (encTPublished x57) (((l46.set n45.toNat x55).set (w64 (n45 - 1)).toNat x57).map encTPublished) tS137 wants_none h.1 h.2.1 rfl rfl hh.1 (idx_map encTPublished hx62) rfl (map_set encTPublished (l46.set n45.toNat x55) _ x57) (an ⟨rfl, rfl⟩)) .nil)))))))))))))))))) ?_
            refine rg ?_
            refine am (iV n45) rfl rfl ?_
            refine aops_bin (.int .i64 (w64 (n45 - 1))) wants_none rfl rfl rfl rfl ?_
            refine aa (iV (w64 (n45 - 1))) rfl rfl ?_
            refine an ?_
            exact awp_back (ih2 ((w64 (n45 - 1)), ((l46.set n45.toNat x55).set (w64 (n45 - 1)).toNat x57)) h) (ghost_ren 1 (fun i => ([0] : List Nat).getD i 0) _ _ (by decide) (EnvSub.get (.cons (Sub.ownE rfl rfl (by simp)) (.cons (Sub.imm (Imm.con _)) (.cons (Sub.imm (Imm.con _)) (.cons (Sub.imm (Imm.fn .nil .nil)) (.cons (Sub.imm (Imm.con _)) (.cons (Sub.imm (Imm.con _)) .nil))))))) (HpSub.get (.cons rfl (ObSub.rows (rows_imm imms_encTPublished)) .nil)) rfl)
          replace h := ite_f hb54 h
          refine awp_exit ?_
          exact ⟨l46, h, (ghost_ren 1 (fun i => ([0] : List Nat).getD i 0) _ _ (by decide) (EnvSub.get (.cons (Sub.own rfl rfl) (.cons (Sub.imm (Imm.con _)) (.cons (Sub.imm (Imm.con _)) (.cons (Sub.imm (Imm.fn .nil .nil)) (.cons (Sub.imm (Imm.con _)) .nil)))))) (HpSub.get (.cons rfl (ObSub.rows (rows_imm imms_encTPublished)) .nil)) rfl)⟩
        replace h := ite_f hb47 h
        refine awp_any [OD.mk [(9, (iV n45))] [] [(18, (iV n45))] [],
              OD.mk [(1, (iV a1))] [] [(19, (iV a1))] [],
              OD.mk [(18, (iV n45)), (19, (iV a1))] [] [(20, (bV (decide (n45 > a1))))] [],
              OD.mk [(20, (bV (decide (n45 > a1))))] [] [(21, (bV (decide (n45 > a1))))] [],
              OD.mk [(21, (bV (decide (n45 > a1))))] [] [(22, (V.con undef))] [],
              OD.mk [(21, (bV (decide (n45 > a1))))] [] [(23, (V.con undef))] [],
              OD.mk [(21, (bV (decide (n45 > a1))))] [] [(24, (V.con undef))] [],
              OD.mk [(21, (bV (decide (n45 > a1))))] [] [(25, (V.con undef))] [],
              OD.mk [(21, (bV (decide (n45 > a1))))] [] [(26, (V.con undef))] [],
              OD.mk [(21, (bV (decide (n45 > a1))))] [] [(27, (V.con undef))] [],
              OD.mk [(21, (bV (decide (n45 > a1))))] [] [(28, (V.con undef))] [],
              OD.mk [(21, (bV (decide (n45 > a1))))] [] [(29, (V.con undef))] [],
              OD.mk [(21, (bV (decide (n45 > a1))))] [] [(30, (V.con undef))] [],
              OD.mk [(21, (bV (decide (n45 > a1))))] [] [(31, (V.con undef))] [],
              OD.mk [(21, (bV (decide (n45 > a1))))] [] [(32, (V.con undef))] [],
              OD.mk [(21, (bV (decide (n45 > a1))))] [] [(33, (V.con undef))] [],
              OD.mk [(21, (bV (decide (n45 > a1))))] [] [(34, (bV false))] []] mixed ⟨⟨rfl, trivial⟩, trivial, ⟨⟨rfl, trivial⟩, trivial, ⟨⟨rfl, rfl, trivial⟩, trivial, ⟨⟨rfl, trivial⟩, trivial, ⟨⟨rfl, trivial⟩, trivial, ⟨⟨rfl, trivial⟩, trivial, ⟨⟨rfl, trivial⟩, trivial, ⟨⟨rfl, trivial⟩, trivial, ⟨⟨rfl, trivial⟩, trivial, ⟨⟨rfl, trivial⟩, trivial, ⟨⟨rfl, trivial⟩, trivial, ⟨⟨rfl, trivial⟩, trivial, ⟨⟨rfl, trivial⟩, trivial, ⟨⟨rfl, trivial⟩, trivial, ⟨⟨rfl, trivial⟩, trivial, ⟨⟨rfl, trivial⟩, trivial, ⟨⟨rfl, trivial⟩, trivial, trivial⟩⟩⟩⟩⟩⟩⟩⟩⟩⟩⟩⟩⟩⟩⟩⟩⟩ (by kernel_rfl) (.cons (fun S hn h hh => aops_move (iV n45) wants_none h.1 rfl (an ⟨rfl, rfl⟩)) (.cons (fun S hn h hh => aops_move (iV a1) wants_none h.1 rfl (an ⟨rfl, rfl⟩)) (.cons (fun S hn h hh => aops_bin (.bool (decide (n45 > a1))) wants_none h.1 h.2.1 rfl rfl (an ⟨rfl, rfl⟩)) (.cons (fun S hn h hh => aops_move (bV (decide (n45 > a1))) wants_none h.1 rfl (an ⟨rfl, rfl⟩)) (.cons (fun S hn h hh => aops_skip (wants_some (c := (decide (n45 > a1))) (b := false) 21 rfl h.1 hb47) rfl rfl (an ⟨rfl, rfl⟩)) (.cons (fun S hn h hh => aops_skip (wants_some (c := (decide (n45 > a1))) (b := false) 21 rfl h.1 hb47) rfl rfl (an ⟨rfl, rfl⟩)) (.cons (fun S hn h hh => aops_skip (wants_some (c := (decide (n45 > a1))) (b := false) 21 rfl h.1 hb47) rfl rfl (an ⟨rfl, rfl⟩)) (.cons (fun S hn h hh => aops_skip (wants_some (c := (decide (n45 > a1))) (b := false) 21 rfl h.1 hb47) rfl rfl (an ⟨rfl, rfl⟩)) (.cons (fun S hn h hh => aops_skip (wants_some (c := (decide (n45 > a1))) (b := false) 21 rfl h.1 hb47) rfl rfl (an ⟨rfl, rfl⟩)) (.cons (fun S hn h hh => aops_skip (wants_some (c := (decide (n45 > a1))) (b := false) 21 rfl h.1 hb47) rfl rfl (an ⟨rfl, rfl⟩)) (.cons (fun S hn h hh => aops_skip (wants_some (c := (decide (n45 > a1))) (b := false) 21 rfl h.1 hb47) rfl rfl (an ⟨rfl, rfl⟩)) (.cons (fun S hn h hh => aops_skip (wants_some (c := (decide (n45 > a1))) (b := false) 21 rfl h.1 hb47) rfl rfl (an ⟨rfl, rfl⟩)) (.cons (fun S hn h hh => aops_skip (wants_some (c := (decide (n45 > a1))) (b := false) 21 rfl h.1 hb47) rfl rfl (an ⟨rfl, rfl⟩)) (.cons (fun S hn h hh => aops_skip (wants_some (c := (decide (n45 > a1))) (b := false) 21 rfl h.1 hb47) rfl rfl (an ⟨rfl, rfl⟩)) (.cons (fun S hn h hh => aops_skip (wants_some (c := (decide (n45 > a1))) (b := false) 21 rfl h.1 hb47) rfl rfl (an ⟨rfl, rfl⟩)) (.cons (fun S hn h hh => aops_skip (wants_some (c := (decide (n45 > a1))) (b := false) 21 rfl h.1 hb47) rfl rfl (an ⟨rfl, rfl⟩)) (.cons (fun S hn h hh => aops_pick false (cb := (decide (n45 > a1))) (bV false) wants_none h.1 hb47 rfl rfl (an ⟨rfl, rfl⟩)) .nil))))))))))))))))) ?_
        refine awp_cond_f rfl rfl ?_
        refine awp_exit ?_
        exact ⟨l46, h, (ghost_ren 1 (fun i => ([0] : List Nat).getD i 0) _ _ (by decide) (EnvSub.get (.cons (Sub.own rfl rfl) (.cons (Sub.imm (Imm.con _)) (.cons (Sub.imm (Imm.con _)) (.cons (Sub.imm (Imm.fn .nil .nil)) (.cons (Sub.imm (Imm.con _)) .nil)))))) (HpSub.get (.cons rfl (ObSub.rows (rows_imm imms_encTPublished)) .nil)) rfl)⟩
      clear h
      intro l42 h
      subst hk41
      exact ⟨l42, h, (ghost_ren 1 (fun i => ([0] : List Nat).getD i 0) _ _ (by decide) (EnvSub.get (.cons (Sub.own rfl rfl) (.cons (Sub.imm (Imm.con _)) (.cons (Sub.imm (Imm.con _)) (.cons (Sub.imm (Imm.fn .nil .nil)) (.cons (Sub.imm (Imm.con _)) .nil)))))) (HpSub.get (.cons rfl (ObSub.rows (rows_imm imms_encTPublished)) .nil)) rfl)⟩
    clear h
    intro l40 h
    subst hk39
    refine rg ?_
    refine am (iV n36) rfl rfl ?_
    refine aops_bin (.int .i64 (w64 (n36 + 1))) wants_none rfl rfl rfl rfl ?_
    refine aa (iV (w64 (n36 + 1))) rfl rfl ?_
    refine an ?_
    exact awp_back (ih1 ((w64 (n36 + 1)), l40) h) (ghost_ren 1 (fun i => ([0] : List Nat).getD i 0) _ _ (by decide) (EnvSub.get (.cons (Sub.own rfl rfl) (.cons (Sub.imm (Imm.con _)) (.cons (Sub.imm (Imm.con _)) (.cons (Sub.imm (Imm.fn .nil .nil)) (.cons (Sub.imm (Imm.con _)) .nil)))))) (HpSub.get (.cons rfl (ObSub.rows (rows_imm imms_encTPublished)) .nil)) rfl)
  replace h := ite_f hb38 h
  refine awp_exit ?_
  replace h := Option.some.inj h
  subst h
  exact ⟨.inr rfl, [], (ghost_ren 1 (fun i => ([0] : List Nat).getD i 0) _ _ (by decide) (EnvSub.get .nil) (HpSub.get (.cons rfl (ObSub.rows (rows_imm imms_encTPublished)) .nil)) rfl), .nil⟩
theorem W186 (F : Nat) (a1 : Int) (a2 : Int) (a3 : Int) (a4 : List TPublished) (r : (List TPublished)) (h : M186 F a1 a2 a3 a4 = some r) : Mut Try.prog 186 [(V.own 0 a4.length), (iV a1), (iV a2), (iV a3), (V.fn (.func 137) [] [])] 1 [(0, (Ob.arr 137 3 (a4.map encTPublished)))] (resV []) 1 [(0, (Ob.arr 137 3 (r.map encTPublished)))] := by
  refine mut_enter Try.func186 rfl rfl (l := []) rfl rfl [(0, (V.own 0 a4.length)), (1, (iV a1)), (2, (iV a2)), (3, (iV a3)), (4, (V.fn (.func 137) [] []))] rfl (fun w0 m0 β0 => ?_)
  unfold M186 at h
  refine sr ?_
  refine aa (iV 0) rfl rfl ?_
  refine an ?_
  refine awp_block ?_
  replace h := chk_some h
  obtain ⟨hA33, h⟩ := h
  refine awp_loop_ind (fun (p : Int × (List TPublished)) => (⟨[(0, (V.own 0 (p.2).length)), (1, (iV a1)), (2, (iV a2)), (3, (iV a3)), (10, (iV (p.1)))], [(0, (Ob.arr 137 3 ((p.2).map encTPublished)))], 1⟩ : St)) (fun n (p : Int × (List TPublished)) => RC a3 (fun tl nn => M186_L1 F a1 a2 tl nn p.2 = some r) n p.1) (fun p h => RC.zero h) (fun n ih1 p h => ?_) (Int.toNat a3 + 1) (0, a4) (RC.start h) (ghost_ren 1 (fun i => ([0] : List Nat).getD i 0) _ _ (by decide) (EnvSub.get (.cons (Sub.own rfl rfl) (.cons (Sub.imm (Imm.con _)) (.cons (Sub.imm (Imm.con _)) (.cons (Sub.imm (Imm.con _)) (.cons (Sub.imm (Imm.con _)) .nil)))))) (HpSub.get (.cons rfl (ObSub.rows (rows_imm imms_encTPublished)) .nil)) rfl)
  obtain ⟨n22, l23⟩ := p
  refine awp_loop ?_
  refine sq ?_
  refine sr ?_
  refine am (iV n22) rfl rfl ?_
  refine am (iV a3) rfl rfl ?_
  refine aops_bin (.bool (decide (n22 < a3))) wants_none rfl rfl rfl rfl ?_
  refine an ?_
  refine awp_cond (decide (n22 < a3)) rfl (fun hb24 => ?_) (fun hb24 => ?_)
  · obtain ⟨tl, h, hk1⟩ := RC.t hA33 h hb24
    unfold M186_L1 at h
    refine awp_skip ?_
    refine sq ?_
    refine awp_block ?_
    replace h := bind_some h
    obtain ⟨x25, hx26, h⟩ := h
    replace h := bind_some h
    obtain ⟨x27, hx28, h⟩ := h
    replace h := bind_some h
    obtain ⟨x29, hx30, h⟩ := h
    replace h := bind_some h
    obtain ⟨x31, hx32, h⟩ := h
    refine awp_any [OD.mk [(0, (V.own 0 l23.length))] [] [(16, (V.own 0 l23.length))] [],
          OD.mk [(1, (iV a1))] [] [(17, (iV a1))] [],
          OD.mk [(10, (iV n22))] [] [(18, (iV n22))] [],
          OD.mk [(17, (iV a1)), (18, (iV n22))] [] [(19, (iV (w64 (a1 + n22))))] [],
          OD.mk [(0, (V.own 0 l23.length))] [] [(20, (V.own 0 l23.length))] [],
          OD.mk [(2, (iV a2))] [] [(21, (iV a2))] [],
          OD.mk [(10, (iV n22))] [] [(22, (iV n22))] [],
          OD.mk [(21, (iV a2)), (22, (iV n22))] [] [(23, (iV (w64 (a2 + n22))))] [],
          OD.mk [(0, (V.own 0 l23.length))] [] [(24, (V.own 0 l23.length))] [],
          OD.mk [(2, (iV a2))] [] [(25, (iV a2))] [],
          OD.mk [(10, (iV n22))] [] [(26, (iV n22))] [],
          OD.mk [(25, (iV a2)), (26, (iV n22))] [] [(27, (iV (w64 (a2 + n22))))] [],
          OD.mk [(24, (V.own 0 l23.length)), (27, (iV (w64 (a2 + n22))))] [] [(28, (V.ptr 0 3 (w64 (a2 + n22)).toNat 0))] [],
          OD.mk [(28, (V.ptr 0 3 (w64 (a2 + n22)).toNat 0))] [(0, (Ob.arr 137 3 (l23.map encTPublished)))] [(29, (V.agg (encTPublished x25)))] [],
          OD.mk [(0, (V.own 0 l23.length))] [] [(30, (V.own 0 l23.length))] [],
          OD.mk [(1, (iV a1))] [] [(31, (iV a1))] [],
          OD.mk [(10, (iV n22))] [] [(32, (iV n22))] [],
          OD.mk [(31, (iV a1)), (32, (iV n22))] [] [(33, (iV (w64 (a1 + n22))))] [],
          OD.mk [(30, (V.own 0 l23.length)), (33, (iV (w64 (a1 + n22))))] [] [(34, (V.ptr 0 3 (w64 (a1 + n22)).toNat 0))] [],
          OD.mk [(34, (V.ptr 0 3 (w64 (a1 + n22)).toNat 0))] [(0, (Ob.arr 137 3 (l23.map encTPublished)))] [(35, (V.agg (encTPublished x27)))] [],
          OD.mk [(16, (V.own 0 l23.length)), (19, (iV (w64 (a1 + n22))))] [] [(36, (V.ptr 0 3 (w64 (a1 + n22)).toNat 0))] [],
          OD.mk [(36, (V.ptr 0 3 (w64 (a1 + n22)).toNat 0)), (29, (V.agg (encTPublished x25)))] [(0, (Ob.arr 137 3 (l23.map encTPublished)))] [] [(0, (Ob.arr 137 3 ((l23.set (w64 (a1 + n22)).toNat x25).map encTPublished)))],
          OD.mk [(20, (V.own 0 l23.length)), (23, (iV (w64 (a2 + n22))))] [] [(37, (V.ptr 0 3 (w64 (a2 + n22)).toNat 0))] [],
          OD.mk [(37, (V.ptr 0 3 (w64 (a2 + n22)).toNat 0)), (35, (V.agg (encTPublished x27)))] [(0, (Ob.arr 137 3 ((l23.set (w64 (a1 + n22)).toNat x25).map encTPublished)))] [] [(0, (Ob.arr 137 3 (((l23.set (w64 (a1 + n22)).toNat x25).set (w64 (a2 + n22)).toNat x27).map encTPublished)))]] mixed ⟨⟨rfl, trivial⟩, trivial, ⟨⟨rfl, trivial⟩, trivial, ⟨⟨rfl, trivial⟩, trivial, ⟨⟨rfl, rfl, trivial⟩, trivial, ⟨⟨rfl, trivial⟩, trivial, ⟨⟨rfl, trivial⟩, trivial, ⟨⟨rfl, trivial⟩, trivial, ⟨⟨rfl, rfl, trivial⟩, trivial, ⟨⟨rfl, trivial⟩, trivial, ⟨⟨rfl, trivial⟩, trivial, ⟨⟨rfl, trivial⟩, trivial, ⟨⟨rfl, rfl, trivial⟩, trivial, ⟨⟨rfl, rfl, trivial⟩, trivial, ⟨⟨rfl, trivial⟩, ⟨rfl, trivial⟩, ⟨⟨rfl, trivial⟩, trivial, ⟨⟨rfl, trivial⟩, trivial, ⟨⟨rfl, trivial⟩, trivial, ⟨⟨rfl, rfl, trivial⟩, trivial, ⟨⟨rfl, rfl, trivial⟩, trivial, ⟨⟨rfl, trivial⟩, ⟨rfl, trivial⟩, ⟨⟨rfl, rfl, trivial⟩, trivial, ⟨⟨rfl, rfl, trivial⟩, ⟨rfl, trivial⟩, ⟨⟨rfl, rfl, trivial⟩, trivial, ⟨⟨rfl, rfl, trivial⟩, ⟨rfl, trivial⟩, trivial⟩⟩⟩⟩⟩⟩⟩⟩⟩⟩⟩⟩⟩⟩⟩⟩⟩⟩⟩⟩⟩⟩⟩⟩ (by kernel_rfl) (.cons (fun S hn h hh => aops_move (V.own 0 l23.length) wants_none h.1 rfl (an ⟨rfl, rfl⟩)) (.cons (fun S hn h hh => aops_move (iV a1) wants_none h.1 rfl (an ⟨rfl, rfl⟩)) (.cons (fun S hn h hh => aops_move (iV n22) wants_none h.1 rfl (an ⟨rfl, rfl⟩)) (.cons (fun S hn h hh => aops_bin (.int .i64 (w64 (a1 + n22))) wants_none h.1 h.2.1 rfl rfl (an ⟨rfl, rfl⟩)) (.cons (fun S hn h hh => aops_move (V.own 0 l23.length) wants_none h.1 rfl (an ⟨rfl, rfl⟩)) (.cons (fun S hn h hh => aops_move (iV a2) wants_none h.1 rfl (an ⟨rfl, rfl⟩)) (.cons (fun S hn h hh => aops_move (iV n22) wants_none h.1 rfl (an ⟨rfl, rfl⟩)) (.cons (fun S hn h hh => aops_bin (.int .i64 (w64 (a2 + n22))) wants_none h.1 h.2.1 rfl rfl (an ⟨rfl, rfl⟩)) (.cons (fun S hn h hh => aops_move (V.own 0 l23.length) wants_none h.1 rfl (an ⟨rfl, rfl⟩)) (.cons (fun S hn h hh => aops_move (iV a2) wants_none h.1 rfl (an ⟨rfl, rfl⟩)) (.cons (fun S hn h hh => aops_move (iV n22) wants_none h.1 rfl (an ⟨rfl, rfl⟩)) (.cons (fun S hn h hh => aops_bin (.int .i64 (w64 (a2 + n22))) wants_none h.1 h.2.1 rfl rfl (an ⟨rfl, rfl⟩)) (.cons (fun S hn h hh => aops_index_own tSl50 wants_none h.1 h.2.1 (idx_some hx26).1 (by simpa using idx_lt hx26) rfl (an ⟨rfl, rfl⟩)) (.cons (fun S hn h hh => aops_load_agg (cs := (encTPublished x25)) tA137 wants_none h.1 hh.1 (idx_map encTPublished hx26) rfl rfl rfl (an ⟨rfl, rfl⟩)) (.cons (fun S hn h hh => aops_move (V.own 0 l23.length) wants_none h.1 rfl (an ⟨rfl, rfl⟩)) (.cons (fun S hn h hh => aops_move (iV a1) wants_none h.1 rfl (an ⟨rfl, rfl⟩)) (.cons (fun S hn h hh => aops_move (iV n22) wants_none h.1 rfl (an ⟨rfl, rfl⟩)) (.cons (fun S hn h hh => aops_bin (.int .i64 (w64 (a1 + n22))) wants_none h.1 h.2.1 rfl rfl (an ⟨rfl, rfl⟩)) (.cons (fun S hn h hh => aops_index_own tSl50 wants_none h.1 h.2.1 (idx_some hx28).1 (by simpa using idx_lt hx28) rfl (an ⟨rfl, rfl⟩)) (.cons (fun S hn h hh => aops_load_agg (cs := (encTPublished x27)) tA137 wants_none h.1 hh.1 (idx_map encTPublished hx28) rfl rfl rfl (an ⟨rfl, rfl⟩)) (.cons (fun S hn h hh => aops_index_own tSl50 wants_none h.1 h.2.1 (idx_some hx30).1 (by simpa using idx_lt hx30) rfl (an ⟨rfl, rfl⟩)) (.cons (fun S hn h hh => aops_store (encTPublished x25) ((l23.set (w64 (a1 + n22)).toNat x25).map encTPublished) tS137 wants_none h.1 h.2.1 rfl rfl hh.1 (idx_map encTPublished hx30) rfl (map_set encTPublished l23 _ x25) (an ⟨rfl, rfl⟩)) (.cons (fun S hn h hh => aops_index_own tSl50 wants_none h.1 h.2.1 (idx_some hx32).1 (by simpa using idx_lt hx32) rfl (an ⟨rfl, rfl⟩)) (.cons (fun S hn h hh => aops_store (encTPublished x27) (((l23.set (w64 (a1 + n22)).toNat x25).set (w64 (a2 + n22)).toNat x27).map encTPublished) tS137 wants_none h.1 h.2.1 rfl rfl hh.1 (idx_map encTPublished hx32) rfl (map_set encTPublished (l23.set (w64 (a1 + n22)).toNat x25) _ x27) (an ⟨rfl, rfl⟩)) .nil)))))))))))))))))))))))) ?_
    refine rg ?_
    refine am (iV n22) rfl rfl ?_
    refine aops_bin (.int .i64 (w64 (n22 + 1))) wants_none rfl rfl rfl rfl ?_
    refine aa (iV (w64 (n22 + 1))) rfl rfl ?_
    refine an ?_
    exact awp_back (ih1 ((w64 (n22 + 1)), ((l23.set (w64 (a1 + n22)).toNat x25).set (w64 (a2 + n22)).toNat x27)) (hk1 _ h)) (ghost_ren 1 (fun i => ([0] : List Nat).getD i 0) _ _ (by decide) (EnvSub.get (.cons (Sub.ownE rfl rfl (by simp)) (.cons (Sub.imm (Imm.con _)) (.cons (Sub.imm (Imm.con _)) (.cons (Sub.imm (Imm.con _)) (.cons (Sub.imm (Imm.con _)) .nil)))))) (HpSub.get (.cons rfl (ObSub.rows (rows_imm imms_encTPublished)) .nil)) rfl)
  replace h := RC.f h hb24
  unfold M186_L1 at h
  refine awp_exit ?_
  replace h := Option.some.inj h
  subst h
  exact ⟨.inr rfl, [], (ghost_ren 1 (fun i => ([0] : List Nat).getD i 0) _ _ (by decide) (EnvSub.get .nil) (HpSub.get (.cons rfl (ObSub.rows (rows_imm imms_encTPublished)) .nil)) rfl), .nil⟩
theorem W182 (F : Nat) (a1 : Int) (a2 : Int) (a3 : Int) (a4 : List TPublished) (r : (List TPublished)) (h : M182 F a1 a2 a3 a4 = some r) : Mut Try.prog 182 [(V.own 0 a4.length), (iV a1), (iV a2), (iV a3), (V.fn (.func 137) [] [])] 1 [(0, (Ob.arr 137 3 (a4.map encTPublished)))] (resV []) 1 [(0, (Ob.arr 137 3 (r.map encTPublished)))] := by
  refine mut_enter Try.func182 rfl rfl (l := []) rfl rfl [(0, (V.own 0 a4.length)), (1, (iV a1)), (2, (iV a2)), (3, (iV a3)), (4, (V.fn (.func 137) [] []))] rfl (fun w0 m0 β0 => ?_)
  unfold M182 at h
  refine sr ?_
  refine am (iV a2) rfl rfl ?_
  refine am (iV a1) rfl rfl ?_
  refine aops_bin (.int .i64 (w64 (a2 - a1))) wants_none rfl rfl rfl rfl ?_
  refine aa (iV (w64 (a2 - a1))) rfl rfl ?_
  refine an ?_
  refine sr ?_
  refine am (iV a3) rfl rfl ?_
  refine am (iV a2) rfl rfl ?_
  refine aops_bin (.int .i64 (w64 (a3 - a2))) wants_none rfl rfl rfl rfl ?_
  refine aa (iV (w64 (a3 - a2))) rfl rfl ?_
  refine an ?_
  refine sq ?_
  replace h := jn_elim h
  obtain ⟨k30, hk30, h⟩ := h
  refine awp_cut (fun (p : Int × (List TPublished)) => (⟨[(0, (V.own 0 (p.2).length)), (2, (iV a2)), (4, (V.fn (.func 137) [] [])), (10, (iV (p.1)))], [(0, (Ob.arr 137 3 ((p.2).map encTPublished)))], 1⟩ : St)) (fun (p : Int × (List TPublished)) => k30 p.1 p.2 = some r) ?_ ?_
  · clear hk30
    refine awp_block ?_
    refine awp_loop_ind (fun (p : Int × Int × (List TPublished)) => (⟨[(0, (V.own 0 (p.2.2).length)), (2, (iV a2)), (4, (V.fn (.func 137) [] [])), (10, (iV (p.1))), (11, (iV (p.2.1)))], [(0, (Ob.arr 137 3 ((p.2.2).map encTPublished)))], 1⟩ : St)) (fun n (p : Int × Int × (List TPublished)) => M182_L1 F a2 k30 n p.1 p.2.1 p.2.2 = some r) (fun p h => by simp [M182_L1] at h) (fun n ih1 p h => ?_) F ((w64 (a2 - a1)), (w64 (a3 - a2)), a4) h (ghost_ren 1 (fun i => ([0] : List Nat).getD i 0) _ _ (by decide) (EnvSub.get (.cons (Sub.own rfl rfl) (.cons (Sub.imm (Imm.con _)) (.cons (Sub.imm (Imm.fn .nil .nil)) (.cons (Sub.imm (Imm.con _)) (.cons (Sub.imm (Imm.con _)) .nil)))))) (HpSub.get (.cons rfl (ObSub.rows (rows_imm imms_encTPublished)) .nil)) rfl)
    obtain ⟨n36, n37, l38⟩ := p
    unfold M182_L1 at h
    refine awp_loop ?_
    refine sq ?_
    refine sr ?_
    refine am (iV n36) rfl rfl ?_
    refine am (iV n37) rfl rfl ?_
    refine aops_bin (.bool (n36 != n37)) wants_none rfl rfl rfl rfl ?_
    refine an ?_
    refine awp_cond (n36 != n37) rfl (fun hb39 => ?_) (fun hb39 => ?_)
    · replace h := ite_t hb39 h
      refine awp_skip ?_
      refine awp_block ?_
      refine sr ?_
      refine am (iV n36) rfl rfl ?_
      refine am (iV n37) rfl rfl ?_
      refine aops_bin (.bool (decide (n36 > n37))) wants_none rfl rfl rfl rfl ?_
      refine an ?_
      replace h := jn_elim h
      obtain ⟨k40, hk40, h⟩ := h
      refine awp_cut (fun (p : Int × Int × (List TPublished)) => (⟨[(0, (V.own 0 (p.2.2).length)), (2, (iV a2)), (4, (V.fn (.func 137) [] [])), (10, (iV (p.1))), (11, (iV (p.2.1)))], [(0, (Ob.arr 137 3 ((p.2.2).map encTPublished)))], 1⟩ : St)) (fun (p : Int × Int × (List TPublished)) => k40 p.1 p.2.1 p.2.2 = some r) ?_ ?_
      · clear hk40
        refine awp_cond (decide (n36 > n37)) rfl (fun hb44 => ?_) (fun hb44 => ?_)
        · replace h := ite_t hb44 h
          refine sr ?_
          refine am (V.own 0 l38.length) rfl rfl ?_
          refine am (iV a2) rfl rfl ?_
          refine am (iV n36) rfl rfl ?_
          refine aops_bin (.int .i64 (w64 (a2 - n36))) wants_none rfl rfl rfl rfl ?_
          refine am (iV a2) rfl rfl ?_
          refine am (iV n37) rfl rfl ?_
          refine am (V.fn (.func 137) [] []) rfl rfl ?_
          replace h := bind_some h
          obtain ⟨y45, hx46, h⟩ := h
          replace h := chk_some h
          obtain ⟨hc47, h⟩ := h
          refine aops_mcall (V.tup []) [(V.own 0 l38.length), (iV (w64 (a2 - n36))), (iV a2), (iV n37), (V.fn (.func 137) [] [])] (fun i => ([0] : List Nat).getD i 0) (fun i => ([0] : List Nat).getD i 0) 1 1 [(0, (Ob.arr 137 3 (y45.map encTPublished)))] fOk186 wants_none rfl (evm_cons rfl (evm_cons rfl (evm_cons rfl (evm_cons rfl (evm_cons rfl evm_nil))))) (.cons (Sub.own rfl rfl) (.cons (Sub.imm (Imm.con _)) (.cons (Sub.imm (Imm.con _)) (.cons (Sub.imm (Imm.con _)) (.cons (Sub.imm (Imm.fn .nil .nil)) .nil))))) (.cons rfl (ObSub.rows (rows_imm imms_encTPublished)) .nil) (W186 F (w64 (a2 - n36)) a2 n37 l38 y45 hx46) rfl rfl rfl rfl rfl (Sub.immT (Imm.tup .nil)) (.cons rfl (ObSub.rowsT (rows_imm imms_encTPublished)) .nil) ?_
          refine aops_ghost (ghost_tell 0 (V.own 0 y45.length) rfl (Sub.ownI hc47)) ?_
          refine aops_ghost (ghost_tell 24 (V.own 0 y45.length) rfl (Sub.ownI hc47)) ?_
          refine an ?_
          refine rg ?_
          refine am (iV n36) rfl rfl ?_
          refine am (iV n37) rfl rfl ?_
          refine aops_bin (.int .i64 (w64 (n36 - n37))) wants_none rfl rfl rfl rfl ?_
          refine aa (iV (w64 (n36 - n37))) rfl rfl ?_
          refine an ?_
          exact ⟨((w64 (n36 - n37)), n37, y45), h, (ghost_ren 1 (fun i => ([0] : List Nat).getD i 0) _ _ (by decide) (EnvSub.get (.cons (Sub.own rfl rfl) (.cons (Sub.imm (Imm.con _)) (.cons (Sub.imm (Imm.fn .nil .nil)) (.cons (Sub.imm (Imm.con _)) (.cons (Sub.imm (Imm.con _)) .nil)))))) (HpSub.get (.cons rfl (ObSub.rows (rows_imm imms_encTPublished)) .nil)) rfl)⟩
        replace h := ite_f hb44 h
        refine sr ?_
        refine am (V.own 0 l38.length) rfl rfl ?_
        refine am (iV a2) rfl rfl ?_
        refine am (iV n36) rfl rfl ?_
        refine aops_bin (.int .i64 (w64 (a2 - n36))) wants_none rfl rfl rfl rfl ?_
        refine am (iV a2) rfl rfl ?_
        refine am (iV n37) rfl rfl ?_
        refine aops_bin (.int .i64 (w64 (a2 + n37))) wants_none rfl rfl rfl rfl ?_
        refine am (iV n36) rfl rfl ?_
        refine aops_bin (.int .i64 (w64 ((w64 (a2 + n37)) - n36))) wants_none rfl rfl rfl rfl ?_
        refine am (iV n36) rfl rfl ?_
        refine am (V.fn (.func 137) [] []) rfl rfl ?_
        replace h := bind_some h
        obtain ⟨y48, hx49, h⟩ := h
        replace h := chk_some h
        obtain ⟨hc50, h⟩ := h
        refine aops_mcall (V.tup []) [(V.own 0 l38.length), (iV (w64 (a2 - n36))), (iV (w64 ((w64 (a2 + n37)) - n36))), (iV n36), (V.fn (.func 137) [] [])] (fun i => ([0] : List Nat).getD i 0) (fun i => ([0] : List Nat).getD i 0) 1 1 [(0, (Ob.arr 137 3 (y48.map encTPublished)))] fOk186 wants_none rfl (evm_cons rfl (evm_cons rfl (evm_cons rfl (evm_cons rfl (evm_cons rfl evm_nil))))) (.cons (Sub.own rfl rfl) (.cons (Sub.imm (Imm.con _)) (.cons (Sub.imm (Imm.con _)) (.cons (Sub.imm (Imm.con _)) (.cons (Sub.imm (Imm.fn .nil .nil)) .nil))))) (.cons rfl (ObSub.rows (rows_imm imms_encTPublished)) .nil) (W186 F (w64 (a2 - n36)) (w64 ((w64 (a2 + n37)) - n36)) n36 l38 y48 hx49) rfl rfl rfl rfl rfl (Sub.immT (Imm.tup .nil)) (.cons rfl (ObSub.rowsT (rows_imm imms_encTPublished)) .nil) ?_
        refine aops_ghost (ghost_tell 0 (V.own 0 y48.length) rfl (Sub.ownI hc50)) ?_
        refine aops_ghost (ghost_tell 35 (V.own 0 y48.length) rfl (Sub.ownI hc50)) ?_
        refine an ?_
        refine rg ?_
        refine am (iV n37) rfl rfl ?_
        refine am (iV n36) rfl rfl ?_
        refine aops_bin (.int .i64 (w64 (n37 - n36))) wants_none rfl rfl rfl rfl ?_
        refine aa (iV (w64 (n37 - n36))) rfl rfl ?_
        refine an ?_
        exact ⟨(n36, (w64 (n37 - n36)), y48), h, (ghost_ren 1 (fun i => ([0] : List Nat).getD i 0) _ _ (by decide) (EnvSub.get (.cons (Sub.own rfl rfl) (.cons (Sub.imm (Imm.con _)) (.cons (Sub.imm (Imm.fn .nil .nil)) (.cons (Sub.imm (Imm.con _)) (.cons (Sub.imm (Imm.con _)) .nil)))))) (HpSub.get (.cons rfl (ObSub.rows (rows_imm imms_encTPublished)) .nil)) rfl)⟩
      clear h
      rintro ⟨n41, n42, l43⟩ h
      subst hk40
      exact awp_back (ih1 (n41, n42, l43) h) (ghost_ren 1 (fun i => ([0] : List Nat).getD i 0) _ _ (by decide) (EnvSub.get (.cons (Sub.own rfl rfl) (.cons (Sub.imm (Imm.con _)) (.cons (Sub.imm (Imm.fn .nil .nil)) (.cons (Sub.imm (Imm.con _)) (.cons (Sub.imm (Imm.con _)) .nil)))))) (HpSub.get (.cons rfl (ObSub.rows (rows_imm imms_encTPublished)) .nil)) rfl)
    replace h := ite_f hb39 h
    refine awp_exit ?_
    exact ⟨(n36, l38), h, (ghost_ren 1 (fun i => ([0] : List Nat).getD i 0) _ _ (by decide) (EnvSub.get (.cons (Sub.own rfl rfl) (.cons (Sub.imm (Imm.con _)) (.cons (Sub.imm (Imm.fn .nil .nil)) (.cons (Sub.imm (Imm.con _)) .nil))))) (HpSub.get (.cons rfl (ObSub.rows (rows_imm imms_encTPublished)) .nil)) rfl)⟩
  clear h
  rintro ⟨n31, l32⟩ h
  subst hk30
  refine rg ?_
  refine am (V.own 0 l32.length) rfl rfl ?_
  refine am (iV a2) rfl rfl ?_
  refine am (iV n31) rfl rfl ?_
  refine aops_bin (.int .i64 (w64 (a2 - n31))) wants_none rfl rfl rfl rfl ?_
  refine am (iV a2) rfl rfl ?_
  refine am (iV n31) rfl rfl ?_
  refine am (V.fn (.func 137) [] []) rfl rfl ?_
  replace h := bind_some h
  obtain ⟨y51, hx52, h⟩ := h
  replace h := chk_some h
  obtain ⟨hc53, h⟩ := h
  refine aops_mcall (V.tup []) [(V.own 0 l32.length), (iV (w64 (a2 - n31))), (iV a2), (iV n31), (V.fn (.func 137) [] [])] (fun i => ([0] : List Nat).getD i 0) (fun i => ([0] : List Nat).getD i 0) 1 1 [(0, (Ob.arr 137 3 (y51.map encTPublished)))] fOk186 wants_none rfl (evm_cons rfl (evm_cons rfl (evm_cons rfl (evm_cons rfl (evm_cons rfl evm_nil))))) (.cons (Sub.own rfl rfl) (.cons (Sub.imm (Imm.con _)) (.cons (Sub.imm (Imm.con _)) (.cons (Sub.imm (Imm.con _)) (.cons (Sub.imm (Imm.fn .nil .nil)) .nil))))) (.cons rfl (ObSub.rows (rows_imm imms_encTPublished)) .nil) (W186 F (w64 (a2 - n31)) a2 n31 l32 y51 hx52) rfl rfl rfl rfl rfl (Sub.immT (Imm.tup .nil)) (.cons rfl (ObSub.rowsT (rows_imm imms_encTPublished)) .nil) ?_
  refine aops_ghost (ghost_tell 0 (V.own 0 y51.length) rfl (Sub.ownI hc53)) ?_
  refine aops_ghost (ghost_tell 50 (V.own 0 y51.length) rfl (Sub.ownI hc53)) ?_
  refine an ?_
  replace h := Option.some.inj h
  subst h
  exact ⟨.inr rfl, [], (ghost_ren 1 (fun i => ([0] : List Nat).getD i 0) _ _ (by decide) (EnvSub.get .nil) (HpSub.get (.cons rfl (ObSub.rows (rows_imm imms_encTPublished)) .nil)) rfl), .nil⟩
theorem W174_B (R174 : Int → Int → Int → (List TPublished) → Option (List TPublished)) (hR174 : ∀ (a1 : Int) (a2 : Int) (a3 : Int) (a4 : List TPublished) (r : (List TPublished)), R174 a1 a2 a3 a4 = some r → Mut Try.prog 174 [(V.own 0 a4.length), (iV a1), (iV a2), (iV a3), (V.fn (.func 137) [] [])] 1 [(0, (Ob.arr 137 3 (a4.map encTPublished)))] (resV []) 1 [(0, (Ob.arr 137 3 (r.map encTPublished)))]) (F : Nat) (a1 : Int) (a2 : Int) (a3 : Int) (a4 : List TPublished) (r : (List TPublished)) (h : M174_B R174 F a1 a2 a3 a4 = some r) : Mut Try.prog 174 [(V.own 0 a4.length), (iV a1), (iV a2), (iV a3), (V.fn (.func 137) [] [])] 1 [(0, (Ob.arr 137 3 (a4.map encTPublished)))] (resV []) 1 [(0, (Ob.arr 137 3 (r.map encTPublished)))] := by
  refine mut_enter Try.func174 rfl rfl (l := []) rfl rfl [(0, (V.own 0 a4.length)), (1, (iV a1)), (2, (iV a2)), (3, (iV a3)), (4, (V.fn (.func 137) [] []))] rfl (fun w0 m0 β0 => ?_)
  unfold M174_B at h
  refine sq ?_
  refine sr ?_
  refine am (iV a2) rfl rfl ?_
  refine am (iV a1) rfl rfl ?_
  refine aops_bin (.int .i64 (w64 (a2 - a1))) wants_none rfl rfl rfl rfl ?_
  refine aops_bin (.bool ((w64 (a2 - a1)) == 1)) wants_none rfl rfl rfl rfl ?_
  refine an ?_
  refine awp_cond ((w64 (a2 - a1)) == 1) rfl (fun hb112 => ?_) (fun hb112 => ?_)
  · replace h := ite_t hb112 h
    refine sr ?_
    refine am (iV a2) rfl rfl ?_
    refine aa (iV a2) rfl rfl ?_
    refine an ?_
    refine sr ?_
    refine am (iV a3) rfl rfl ?_
    refine aa (iV a3) rfl rfl ?_
    refine an ?_
    refine sq ?_
    replace h := jn_elim h
    obtain ⟨k113, hk113, h⟩ := h
    refine awp_cut (fun (p : Int) => (⟨[(0, (V.own 0 a4.length)), (1, (iV a1)), (10, (iV p))], [(0, (Ob.arr 137 3 (a4.map encTPublished)))], 1⟩ : St)) (fun (p : Int) => k113 p = some r) ?_ ?_
    · clear hk113
      refine awp_block ?_
      refine awp_loop_ind (fun (p : Int × Int) => (⟨[(0, (V.own 0 a4.length)), (1, (iV a1)), (4, (V.fn (.func 137) [] [])), (10, (iV (p.1))), (11, (iV (p.2)))], [(0, (Ob.arr 137 3 (a4.map encTPublished)))], 1⟩ : St)) (fun n (p : Int × Int) => M174_L1 F a1 a4 k113 n p.1 p.2 = some r) (fun p h => by simp [M174_L1] at h) (fun n ih1 p h => ?_) F (a2, a3) h (ghost_ren 1 (fun i => ([0] : List Nat).getD i 0) _ _ (by decide) (EnvSub.get (.cons (Sub.own rfl rfl) (.cons (Sub.imm (Imm.con _)) (.cons (Sub.imm (Imm.fn .nil .nil)) (.cons (Sub.imm (Imm.con _)) (.cons (Sub.imm (Imm.con _)) .nil)))))) (HpSub.get (.cons rfl (ObSub.rows (rows_imm imms_encTPublished)) .nil)) rfl)
      obtain ⟨n117, n118⟩ := p
      unfold M174_L1 at h
      refine awp_loop ?_
      refine sq ?_
      refine sr ?_
      refine am (iV n117) rfl rfl ?_
      refine am (iV n118) rfl rfl ?_
      refine aops_bin (.bool (decide (n117 < n118))) wants_none rfl rfl rfl rfl ?_
      refine an ?_
      refine awp_cond (decide (n117 < n118)) rfl (fun hb119 => ?_) (fun hb119 => ?_)
      · replace h := ite_t hb119 h
        refine awp_skip ?_
        refine awp_block ?_
        refine sr ?_
        refine am (iV n117) rfl rfl ?_
        refine am (iV n118) rfl rfl ?_
        refine aops_bin (.int .i64 (w64 (n117 + n118))) wants_none rfl rfl rfl rfl ?_
        refine aops_convInt tU150 ⟨_, tU3⟩ wants_none rfl rfl ?_
        refine aops_bin (.int .u64 (Int.fdiv (IntKind.wrap .u64 (w64 (n117 + n118))) (2 ^ (min (Int.toNat 1) (IntKind.bits .u64))))) wants_none rfl rfl rfl rfl ?_
        refine aops_convInt tU3 ⟨_, tU150⟩ wants_none rfl rfl ?_
        refine aa (iV (w64 (Int.fdiv (IntKind.wrap .u64 (w64 (n117 + n118))) (2 ^ (min (Int.toNat 1) (IntKind.bits .u64)))))) rfl rfl ?_
        refine an ?_
        refine sq ?_
        replace h := bind_some h
        obtain ⟨x120, hx121, h⟩ := h
        replace h := bind_some h
        obtain ⟨x122, hx123, h⟩ := h
        replace h := bind_some h
        obtain ⟨y124, hx125, h⟩ := h
        refine awp_any [OD.mk [(4, (V.fn (.func 137) [] []))] [] [(40, (V.fn (.func 137) [] []))] [],
              OD.mk [(0, (V.own 0 a4.length))] [] [(41, (V.own 0 a4.length))] [],
              OD.mk [(12, (iV (w64 (Int.fdiv (IntKind.wrap .u64 (w64 (n117 + n118))) (2 ^ (min (Int.toNat 1) (IntKind.bits .u64)))))))] [] [(42, (iV (w64 (Int.fdiv (IntKind.wrap .u64 (w64 (n117 + n118))) (2 ^ (min (Int.toNat 1) (IntKind.bits .u64)))))))] [],
              OD.mk [(41, (V.own 0 a4.length)), (42, (iV (w64 (Int.fdiv (IntKind.wrap .u64 (w64 (n117 + n118))) (2 ^ (min (Int.toNat 1) (IntKind.bits .u64)))))))] [] [(43, (V.ptr 0 3 (w64 (Int.fdiv (IntKind.wrap .u64 (w64 (n117 + n118))) (2 ^ (min (Int.toNat 1) (IntKind.bits .u64))))).toNat 0))] [],
              OD.mk [(43, (V.ptr 0 3 (w64 (Int.fdiv (IntKind.wrap .u64 (w64 (n117 + n118))) (2 ^ (min (Int.toNat 1) (IntKind.bits .u64))))).toNat 0))] [(0, (Ob.arr 137 3 (a4.map encTPublished)))] [(44, (V.agg (encTPublished x120)))] [],
              OD.mk [(0, (V.own 0 a4.length))] [] [(45, (V.own 0 a4.length))] [],
              OD.mk [(1, (iV a1))] [] [(46, (iV a1))] [],
              OD.mk [(45, (V.own 0 a4.length)), (46, (iV a1))] [] [(47, (V.ptr 0 3 a1.toNat 0))] [],
              OD.mk [(47, (V.ptr 0 3 a1.toNat 0))] [(0, (Ob.arr 137 3 (a4.map encTPublished)))] [(48, (V.agg (encTPublished x122)))] [],
              OD.mk [(40, (V.fn (.func 137) [] [])), (44, (V.agg (encTPublished x120))), (48, (V.agg (encTPublished x122)))] [] [(49, (iV y124))] [],
              OD.mk [(49, (iV y124))] [] [(50, (bV (decide (y124 < 0))))] []] mixed ⟨⟨rfl, trivial⟩, trivial, ⟨⟨rfl, trivial⟩, trivial, ⟨⟨rfl, trivial⟩, trivial, ⟨⟨rfl, rfl, trivial⟩, trivial, ⟨⟨rfl, trivial⟩, ⟨rfl, trivial⟩, ⟨⟨rfl, trivial⟩, trivial, ⟨⟨rfl, trivial⟩, trivial, ⟨⟨rfl, rfl, trivial⟩, trivial, ⟨⟨rfl, trivial⟩, ⟨rfl, trivial⟩, ⟨⟨rfl, rfl, rfl, trivial⟩, trivial, ⟨⟨rfl, trivial⟩, trivial, trivial⟩⟩⟩⟩⟩⟩⟩⟩⟩⟩⟩ (by kernel_rfl) (.cons (fun S hn h hh => aops_move (V.fn (.func 137) [] []) wants_none h.1 rfl (an ⟨rfl, rfl⟩)) (.cons (fun S hn h hh => aops_move (V.own 0 a4.length) wants_none h.1 rfl (an ⟨rfl, rfl⟩)) (.cons (fun S hn h hh => aops_move (iV (w64 (Int.fdiv (IntKind.wrap .u64 (w64 (n117 + n118))) (2 ^ (min (Int.toNat 1) (IntKind.bits .u64)))))) wants_none h.1 rfl (an ⟨rfl, rfl⟩)) (.cons (fun S hn h hh => aops_index_own tSl50 wants_none h.1 h.2.1 (idx_some hx121).1 (by simpa using idx_lt hx121) rfl (an ⟨rfl, rfl⟩)) (.cons (fun S hn h hh => aops_load_agg (cs := (encTPublished x120)) tA137 wants_none h.1 hh.1 (idx_map encTPublished hx121) rfl rfl rfl (an ⟨rfl, rfl⟩)) (.cons (fun S hn h hh => aops_move (V.own 0 a4.length) wants_none h.1 rfl (an ⟨rfl, rfl⟩)) (.cons (fun S hn h hh => aops_move (iV a1) wants_none h.1 rfl (an ⟨rfl, rfl⟩)) (.cons (fun S hn h hh => aops_index_own tSl50 wants_none h.1 h.2.1 (idx_some hx123).1 (by simpa using idx_lt hx123) rfl (an ⟨rfl, rfl⟩)) (.cons (fun S hn h hh => aops_load_agg (cs := (encTPublished x122)) tA137 wants_none h.1 hh.1 (idx_map encTPublished hx123) rfl rfl rfl (an ⟨rfl, rfl⟩)) (.cons (fun S hn h hh => aops_callv (iV y124) [(V.agg (encTPublished x120)), (V.agg (encTPublished x122))] fOk137 wants_none h.1 (evmc (S := S) (first := []) (captured := []) (vs := [(V.agg (encTPublished x120)), (V.agg (encTPublished x122))]) (evm_cons h.2.1 (evm_cons h.2.2.1 evm_nil))) (.cons (Imm.agg (imms_encTPublished _)) (.cons (Imm.agg (imms_encTPublished _)) .nil)) (W137 F x120 x122 y124 hx125) rfl (an ⟨rfl, rfl⟩)) (.cons (fun S hn h hh => aops_bin (.bool (decide (y124 < 0))) wants_none h.1 rfl rfl rfl (an ⟨rfl, rfl⟩)) .nil))))))))))) ?_
        replace h := jn_elim h
        obtain ⟨k126, hk126, h⟩ := h
        refine awp_cut (fun (p : Int × Int) => (⟨[(0, (V.own 0 a4.length)), (1, (iV a1)), (4, (V.fn (.func 137) [] [])), (10, (iV (p.1))), (11, (iV (p.2)))], [(0, (Ob.arr 137 3 (a4.map encTPublished)))], 1⟩ : St)) (fun (p : Int × Int) => k126 p.1 p.2 = some r) ?_ ?_
        · clear hk126
          refine awp_cond (decide (y124 < 0)) rfl (fun hb129 => ?_) (fun hb129 => ?_)
          · replace h := ite_t hb129 h
            refine rg ?_
            refine am (iV (w64 (Int.fdiv (IntKind.wrap .u64 (w64 (n117 + n118))) (2 ^ (min (Int.toNat 1) (IntKind.bits .u64)))))) rfl rfl ?_
            refine aops_bin (.int .i64 (w64 ((w64 (Int.fdiv (IntKind.wrap .u64 (w64 (n117 + n118))) (2 ^ (min (Int.toNat 1) (IntKind.bits .u64))))) + 1))) wants_none rfl rfl rfl rfl ?_
            refine aa (iV (w64 ((w64 (Int.fdiv (IntKind.wrap .u64 (w64 (n117 + n118))) (2 ^ (min (Int.toNat 1) (IntKind.bits .u64))))) + 1))) rfl rfl ?_
            refine an ?_
            exact ⟨((w64 ((w64 (Int.fdiv (IntKind.wrap .u64 (w64 (n117 + n118))) (2 ^ (min (Int.toNat 1) (IntKind.bits .u64))))) + 1)), n118), h, (ghost_ren 1 (fun i => ([0] : List Nat).getD i 0) _ _ (by decide) (EnvSub.get (.cons (Sub.own rfl rfl) (.cons (Sub.imm (Imm.con _)) (.cons (Sub.imm (Imm.fn .nil .nil)) (.cons (Sub.imm (Imm.con _)) (.cons (Sub.imm (Imm.con _)) .nil)))))) (HpSub.get (.cons rfl (ObSub.rows (rows_imm imms_encTPublished)) .nil)) rfl)⟩
          replace h := ite_f hb129 h
          refine rg ?_
          refine am (iV (w64 (Int.fdiv (IntKind.wrap .u64 (w64 (n117 + n118))) (2 ^ (min (Int.toNat 1) (IntKind.bits .u64)))))) rfl rfl ?_
          refine aa (iV (w64 (Int.fdiv (IntKind.wrap .u64 (w64 (n117 + n118))) (2 ^ (min (Int.toNat 1) (IntKind.bits .u64)))))) rfl rfl ?_
          refine an ?_
          exact ⟨(n117, (w64 (Int.fdiv (IntKind.wrap .u64 (w64 (n117 + n118))) (2 ^ (min (Int.toNat 1) (IntKind.bits .u64)))))), h, (ghost_ren 1 (fun i => ([0] : List Nat).getD i 0) _ _ (by decide) (EnvSub.get (.cons (Sub.own rfl rfl) (.cons (Sub.imm (Imm.con _)) (.cons (Sub.imm (Imm.fn .nil .nil)) (.cons (Sub.imm (Imm.con _)) (.cons (Sub.imm (Imm.con _)) .nil)))))) (HpSub.get (.cons rfl (ObSub.rows (rows_imm imms_encTPublished)) .nil)) rfl)⟩
        clear h
        rintro ⟨n127, n128⟩ h
        subst hk126
        exact awp_back (ih1 (n127, n128) h) (ghost_ren 1 (fun i => ([0] : List Nat).getD i 0) _ _ (by decide) (EnvSub.get (.cons (Sub.own rfl rfl) (.cons (Sub.imm (Imm.con _)) (.cons (Sub.imm (Imm.fn .nil .nil)) (.cons (Sub.imm (Imm.con _)) (.cons (Sub.imm (Imm.con _)) .nil)))))) (HpSub.get (.cons rfl (ObSub.rows (rows_imm imms_encTPublished)) .nil)) rfl)
      replace h := ite_f hb119 h
      refine awp_exit ?_
      exact ⟨n117, h, (ghost_ren 1 (fun i => ([0] : List Nat).getD i 0) _ _ (by decide) (EnvSub.get (.cons (Sub.own rfl rfl) (.cons (Sub.imm (Imm.con _)) (.cons (Sub.imm (Imm.con _)) .nil)))) (HpSub.get (.cons rfl (ObSub.rows (rows_imm imms_encTPublished)) .nil)) rfl)⟩
    clear h
    intro n114 h
    subst hk113
    refine sq ?_
    refine sr ?_
    refine am (iV a1) rfl rfl ?_
    refine aa (iV a1) rfl rfl ?_
    refine an ?_
    replace h := jn_elim h
    obtain ⟨k130, hk130, h⟩ := h
    refine awp_cut (fun (p : (List TPublished)) => (⟨[], [(0, (Ob.arr 137 3 (p.map encTPublished)))], 1⟩ : St)) (fun (p : (List TPublished)) => k130 p = some r) ?_ ?_
    · clear hk130
      refine awp_block ?_
      refine awp_loop_ind (fun (p : Int × (List TPublished)) => (⟨[(0, (V.own 0 (p.2).length)), (10, (iV n114)), (13, (iV (p.1)))], [(0, (Ob.arr 137 3 ((p.2).map encTPublished)))], 1⟩ : St)) (fun n (p : Int × (List TPublished)) => M174_L2 F n114 k130 n p.1 p.2 = some r) (fun p h => by simp [M174_L2] at h) (fun n ih2 p h => ?_) F (a1, a4) h (ghost_ren 1 (fun i => ([0] : List Nat).getD i 0) _ _ (by decide) (EnvSub.get (.cons (Sub.own rfl rfl) (.cons (Sub.imm (Imm.con _)) (.cons (Sub.imm (Imm.con _)) .nil)))) (HpSub.get (.cons rfl (ObSub.rows (rows_imm imms_encTPublished)) .nil)) rfl)
      obtain ⟨n134, l135⟩ := p
      unfold M174_L2 at h
      refine awp_loop ?_
      refine sq ?_
      refine sr ?_
      refine am (iV n134) rfl rfl ?_
      refine am (iV n114) rfl rfl ?_
      refine aops_bin (.int .i64 (w64 (n114 - 1))) wants_none rfl rfl rfl rfl ?_
      refine aops_bin (.bool (decide (n134 < (w64 (n114 - 1))))) wants_none rfl rfl rfl rfl ?_
      refine an ?_
      refine awp_cond (decide (n134 < (w64 (n114 - 1)))) rfl (fun hb136 => ?_) (fun hb136 => ?_)
      · replace h := ite_t hb136 h
        refine awp_skip ?_
        refine sq ?_
        refine awp_block ?_
        replace h := bind_some h
        obtain ⟨x137, hx138, h⟩ := h
        replace h := bind_some h
        obtain ⟨x139, hx140, h⟩ := h
        replace h := bind_some h
        obtain ⟨x141, hx142, h⟩ := h
        replace h := bind_some h
        obtain ⟨x143, hx144, h⟩ := h
        refine awp_any [OD.mk [(0, (V.own 0 l135.length))] [] [(61, (V.own 0 l135.length))] [],
              OD.mk [(13, (iV n134))] [] [(62, (iV n134))] [],
              OD.mk [(0, (V.own 0 l135.length))] [] [(63, (V.own 0 l135.length))] [],
              OD.mk [(13, (iV n134))] [] [(64, (iV n134))] [],
              OD.mk [(64, (iV n134))] [] [(65, (iV (w64 (n134 + 1))))] [],
              OD.mk [(0, (V.own 0 l135.length))] [] [(66, (V.own 0 l135.length))] [],
              OD.mk [(13, (iV n134))] [] [(67, (iV n134))] [],
              OD.mk [(67, (iV n134))] [] [(68, (iV (w64 (n134 + 1))))] [],
              OD.mk [(66, (V.own 0 l135.length)), (68, (iV (w64 (n134 + 1))))] [] [(69, (V.ptr 0 3 (w64 (n134 + 1)).toNat 0))] [],
              OD.mk [(69, (V.ptr 0 3 (w64 (n134 + 1)).toNat 0))] [(0, (Ob.arr 137 3 (l135.map encTPublished)))] [(70, (V.agg (encTPublished x137)))] [],
              OD.mk [(0, (V.own 0 l135.length))] [] [(71, (V.own 0 l135.length))] [],
              OD.mk [(13, (iV n134))] [] [(72, (iV n134))] [],
              OD.mk [(71, (V.own 0 l135.length)), (72, (iV n134))] [] [(73, (V.ptr 0 3 n134.toNat 0))] [],
              OD.mk [(73, (V.ptr 0 3 n134.toNat 0))] [(0, (Ob.arr 137 3 (l135.map encTPublished)))] [(74, (V.agg (encTPublished x139)))] [],
              OD.mk [(61, (V.own 0 l135.length)), (62, (iV n134))] [] [(75, (V.ptr 0 3 n134.toNat 0))] [],
              OD.mk [(75, (V.ptr 0 3 n134.toNat 0)), (70, (V.agg (encTPublished x137)))] [(0, (Ob.arr 137 3 (l135.map encTPublished)))] [] [(0, (Ob.arr 137 3 ((l135.set n134.toNat x137).map encTPublished)))],
              OD.mk [(63, (V.own 0 l135.length)), (65, (iV (w64 (n134 + 1))))] [] [(76, (V.ptr 0 3 (w64 (n134 + 1)).toNat 0))] [],
              OD.mk [(76, (V.ptr 0 3 (w64 (n134 + 1)).toNat 0)), (74, (V.agg (encTPublished x139)))] [(0, (Ob.arr 137 3 ((l135.set n134.toNat x137).map encTPublished)))] [] [(0, (Ob.arr 137 3 (((l135.set n134.toNat x137).set (w64 (n134 + 1)).toNat x139).map encTPublished)))]] mixed ⟨⟨rfl, trivial⟩, trivial, ⟨⟨rfl, trivial⟩, trivial, ⟨⟨rfl, trivial⟩, trivial, ⟨⟨rfl, trivial⟩, trivial, ⟨⟨rfl, trivial⟩, trivial, ⟨⟨rfl, trivial⟩, trivial, ⟨⟨rfl, trivial⟩, trivial, ⟨⟨rfl, trivial⟩, trivial, ⟨⟨rfl, rfl, trivial⟩, trivial, ⟨⟨rfl, trivial⟩, ⟨rfl, trivial⟩, ⟨⟨rfl, trivial⟩, trivial, ⟨⟨rfl, trivial⟩, trivial, ⟨⟨rfl, rfl, trivial⟩, trivial, ⟨⟨rfl, trivial⟩, ⟨rfl, trivial⟩, ⟨⟨rfl, rfl, trivial⟩, trivial, ⟨⟨rfl, rfl, trivial⟩, ⟨rfl, trivial⟩, ⟨⟨rfl, rfl, trivial⟩, trivial, ⟨⟨rfl, rfl, trivial⟩, ⟨rfl, trivial⟩, trivial⟩⟩⟩⟩⟩⟩⟩⟩⟩⟩⟩⟩⟩⟩⟩⟩⟩⟩ (by kernel_rfl) (.cons (fun S hn h hh => aops_move (V.own 0 l135.length) wants_none h.1 rfl (an ⟨rfl, rfl⟩)) (.cons (fun S hn h hh => aops_move (iV n134) wants_none h.1 rfl (an ⟨rfl, rfl⟩)) (.cons (fun S hn h hh => aops_move (V.own 0 l135.length) wants_none h.1 rfl (an ⟨rfl, rfl⟩)) (.cons (fun S hn h hh => aops_move (iV n134) wants_none h.1 rfl (an ⟨rfl, rfl⟩)) (.cons (fun S hn h hh => aops_bin (.int .i64 (w64 (n134 + 1))) wants_none h.1 rfl rfl rfl (an ⟨rfl, rfl⟩)) (.cons (fun S hn h hh => aops_move (V.own 0 l135.length) wants_none h.1 rfl (an ⟨rfl, rfl⟩)) (.cons (fun S hn h hh => aops_move (iV n134) wants_none h.1 rfl (an ⟨rfl, rfl⟩)) (.cons (fun S hn h hh => aops_bin (.int .i64 (w64 (n134 + 1))) wants_none h.1 rfl rfl rfl (an ⟨rfl, rfl⟩)) (.cons (fun S hn h hh => aops_index_own tSl50 wants_none h.1 h.2.1 (idx_some hx138).1 (by simpa using idx_lt hx138) rfl (an ⟨rfl, rfl⟩)) (.cons (fun S hn h hh => aops_load_agg (cs := (encTPublished x137)) tA137 wants_none h.1 hh.1 (idx_map encTPublished hx138) rfl rfl rfl (an ⟨rfl, rfl⟩)) (.cons (fun S hn h hh => aops_move (V.own 0 l135.length) wants_none h.1 rfl (an ⟨rfl, rfl⟩)) (.cons (fun S hn h hh => aops_move (iV n134) wants_none h.1 rfl (an ⟨rfl, rfl⟩)) (.cons (fun S hn h hh => aops_index_own tSl50 wants_none h.1 h.2.1 (idx_some hx140).1 (by simpa using idx_lt hx140) rfl (an ⟨rfl, rfl⟩)) (.cons (fun S hn h hh => aops_load_agg (cs := (encTPublished x139)) tA137 wants_none h.1 hh.1 (idx_map encTPublished hx140) rfl rfl rfl (an ⟨rfl, rfl⟩)) (.cons (fun S hn h hh => aops_index_own tSl50 wants_none h.1 h.2.1 (idx_some hx142).1 (by simpa using idx_lt hx142) rfl (an ⟨rfl, rfl⟩)) (.cons (fun S hn h hh => aops_store (encTPublished x137) ((l135.set n134.toNat x137).map encTPublished) tS137 wants_none h.1 h.2.1 rfl rfl hh.1 (idx_map encTPublished hx142) rfl (map_set encTPublished l135 _ x137) (an ⟨rfl, rfl⟩)) (.cons (fun S hn h hh => aops_index_own tSl50 wants_none h.1 h.2.1 (idx_some hx144).1 (by simpa using idx_lt hx144) rfl (an ⟨rfl, rfl⟩)) (.cons (fun S hn h hh => aops_store (encTPublished x139) (((l135.set n134.toNat x137).set (w64 (n134 + 1)).toNat x139).map encTPublished) tS137 wants_none h.1 h.2.1 rfl rfl hh.1 (idx_map encTPublished hx144) rfl (map_set encTPublished (l135.set n134.toNat x137) _ x139) (an ⟨rfl, rfl⟩)) .nil)))))))))))))))))) ?_
        refine rg ?_
        refine am (iV n134) rfl rfl ?_
        refine aops_bin (.int .i64 (w64 (n134 + 1))) wants_none rfl rfl rfl rfl ?_
        refine aa (iV (w64 (n134 + 1))) rfl rfl ?_
        refine an ?_
        exact awp_back (ih2 ((w64 (n134 + 1)), ((l135.set n134.toNat x137).set (w64 (n134 + 1)).toNat x139)) h) (ghost_ren 1 (fun i => ([0] : List Nat).getD i 0) _ _ (by decide) (EnvSub.get (.cons (Sub.ownE rfl rfl (by simp)) (.cons (Sub.imm (Imm.con _)) (.cons (Sub.imm (Imm.con _)) .nil)))) (HpSub.get (.cons rfl (ObSub.rows (rows_imm imms_encTPublished)) .nil)) rfl)
      replace h := ite_f hb136 h
      refine awp_exit ?_
      exact ⟨l135, h, (ghost_ren 1 (fun i => ([0] : List Nat).getD i 0) _ _ (by decide) (EnvSub.get .nil) (HpSub.get (.cons rfl (ObSub.rows (rows_imm imms_encTPublished)) .nil)) rfl)⟩
    clear h
    intro l131 h
    subst hk130
    refine awp_ret ?_
    replace h := Option.some.inj h
    subst h
    exact ⟨.inl rfl, [], (ghost_ren 1 (fun i => ([0] : List Nat).getD i 0) _ _ (by decide) (EnvSub.get .nil) (HpSub.get (.cons rfl (ObSub.rows (rows_imm imms_encTPublished)) .nil)) rfl), .nil⟩
  replace h := ite_f hb112 h
  refine awp_skip ?_
  refine sq ?_
  refine sr ?_
  refine am (iV a3) rfl rfl ?_
  refine am (iV a2) rfl rfl ?_
  refine aops_bin (.int .i64 (w64 (a3 - a2))) wants_none rfl rfl rfl rfl ?_
  refine aops_bin (.bool ((w64 (a3 - a2)) == 1)) wants_none rfl rfl rfl rfl ?_
  refine an ?_
  refine awp_cond ((w64 (a3 - a2)) == 1) rfl (fun hb145 => ?_) (fun hb145 => ?_)
  · replace h := ite_t hb145 h
    refine sr ?_
    refine am (iV a1) rfl rfl ?_
    refine aa (iV a1) rfl rfl ?_
    refine an ?_
    refine sr ?_
    refine am (iV a2) rfl rfl ?_
    refine aa (iV a2) rfl rfl ?_
    refine an ?_
    refine sq ?_
    replace h := jn_elim h
    obtain ⟨k146, hk146, h⟩ := h
    refine awp_cut (fun (p : Int) => (⟨[(0, (V.own 0 a4.length)), (2, (iV a2)), (14, (iV p))], [(0, (Ob.arr 137 3 (a4.map encTPublished)))], 1⟩ : St)) (fun (p : Int) => k146 p = some r) ?_ ?_
    · clear hk146
      refine awp_block ?_
      refine awp_loop_ind (fun (p : Int × Int) => (⟨[(0, (V.own 0 a4.length)), (2, (iV a2)), (4, (V.fn (.func 137) [] [])), (14, (iV (p.1))), (15, (iV (p.2)))], [(0, (Ob.arr 137 3 (a4.map encTPublished)))], 1⟩ : St)) (fun n (p : Int × Int) => M174_L3 F a2 a4 k146 n p.1 p.2 = some r) (fun p h => by simp [M174_L3] at h) (fun n ih3 p h => ?_) F (a1, a2) h (ghost_ren 1 (fun i => ([0] : List Nat).getD i 0) _ _ (by decide) (EnvSub.get (.cons (Sub.own rfl rfl) (.cons (Sub.imm (Imm.con _)) (.cons (Sub.imm (Imm.fn .nil .nil)) (.cons (Sub.imm (Imm.con _)) (.cons (Sub.imm (Imm.con _)) .nil)))))) (HpSub.get (.cons rfl (ObSub.rows (rows_imm imms_encTPublished)) .nil)) rfl)
      obtain ⟨n150, n151⟩ := p
      unfold M174_L3 at h
      refine awp_loop ?_
      refine sq ?_
      refine sr ?_
      refine am (iV n150) rfl rfl ?_
      refine am (iV n151) rfl rfl ?_
      refine aops_bin (.bool (decide (n150 < n151))) wants_none rfl rfl rfl rfl ?_
      refine an ?_
      refine awp_cond (decide (n150 < n151)) rfl (fun hb152 => ?_) (fun hb152 => ?_)
      · replace h := ite_t hb152 h
        refine awp_skip ?_
        refine awp_block ?_
        refine sr ?_
        refine am (iV n150) rfl rfl ?_
        refine am (iV n151) rfl rfl ?_
        refine aops_bin (.int .i64 (w64 (n150 + n151))) wants_none rfl rfl rfl rfl ?_
        refine aops_convInt tU150 ⟨_, tU3⟩ wants_none rfl rfl ?_
        refine aops_bin (.int .u64 (Int.fdiv (IntKind.wrap .u64 (w64 (n150 + n151))) (2 ^ (min (Int.toNat 1) (IntKind.bits .u64))))) wants_none rfl rfl rfl rfl ?_
        refine aops_convInt tU3 ⟨_, tU150⟩ wants_none rfl rfl ?_
        refine aa (iV (w64 (Int.fdiv (IntKind.wrap .u64 (w64 (n150 + n151))) (2 ^ (min (Int.toNat 1) (IntKind.bits .u64)))))) rfl rfl ?_
        refine an ?_
        refine sq ?_
        replace h := bind_some h
        obtain ⟨x153, hx154, h⟩ := h
        replace h := bind_some h
        obtain ⟨x155, hx156, h⟩ := h
        replace h := bind_some h
        obtain ⟨y157, hx158, h⟩ := h
        refine awp_any [OD.mk [(4, (V.fn (.func 137) [] []))] [] [(92, (V.fn (.func 137) [] []))] [],
              OD.mk [(0, (V.own 0 a4.length))] [] [(93, (V.own 0 a4.length))] [],
              OD.mk [(2, (iV a2))] [] [(94, (iV a2))] [],
              OD.mk [(93, (V.own 0 a4.length)), (94, (iV a2))] [] [(95, (V.ptr 0 3 a2.toNat 0))] [],
              OD.mk [(95, (V.ptr 0 3 a2.toNat 0))] [(0, (Ob.arr 137 3 (a4.map encTPublished)))] [(96, (V.agg (encTPublished x153)))] [],
              OD.mk [(0, (V.own 0 a4.length))] [] [(97, (V.own 0 a4.length))] [],
              OD.mk [(16, (iV (w64 (Int.fdiv (IntKind.wrap .u64 (w64 (n150 + n151))) (2 ^ (min (Int.toNat 1) (IntKind.bits .u64)))))))] [] [(98, (iV (w64 (Int.fdiv (IntKind.wrap .u64 (w64 (n150 + n151))) (2 ^ (min (Int.toNat 1) (IntKind.bits .u64)))))))] [],
              OD.mk [(97, (V.own 0 a4.length)), (98, (iV (w64 (Int.fdiv (IntKind.wrap .u64 (w64 (n150 + n151))) (2 ^ (min (Int.toNat 1) (IntKind.bits .u64)))))))] [] [(99, (V.ptr 0 3 (w64 (Int.fdiv (IntKind.wrap .u64 (w64 (n150 + n151))) (2 ^ (min (Int.toNat 1) (IntKind.bits .u64))))).toNat 0))] [],
              OD.mk [(99, (V.ptr 0 3 (w64 (Int.fdiv (IntKind.wrap .u64 (w64 (n150 + n151))) (2 ^ (min (Int.toNat 1) (IntKind.bits .u64))))).toNat 0))] [(0, (Ob.arr 137 3 (a4.map encTPublished)))] [(100, (V.agg (encTPublished x155)))] [],
              OD.mk [(92, (V.fn (.func 137) [] [])), (96, (V.agg (encTPublished x153))), (100, (V.agg (encTPublished x155)))] [] [(101, (iV y157))] [],
              OD.mk [(101, (iV y157))] [] [(102, (bV (decide (y157 < 0))))] [],
              OD.mk [(102, (bV (decide (y157 < 0))))] [] [(103, (bV (!(decide (y157 < 0)))))] []] mixed ⟨⟨rfl, trivial⟩, trivial, ⟨⟨rfl, trivial⟩, trivial, ⟨⟨rfl, trivial⟩, trivial, ⟨⟨rfl, rfl, trivial⟩, trivial, ⟨⟨rfl, trivial⟩, ⟨rfl, trivial⟩, ⟨⟨rfl, trivial⟩, trivial, ⟨⟨rfl, trivial⟩, trivial, ⟨⟨rfl, rfl, trivial⟩, trivial, ⟨⟨rfl, trivial⟩, ⟨rfl, trivial⟩, ⟨⟨rfl, rfl, rfl, trivial⟩, trivial, ⟨⟨rfl, trivial⟩, trivial, ⟨⟨rfl, trivial⟩, trivial, trivial⟩⟩⟩⟩⟩⟩⟩⟩⟩⟩⟩⟩ (by kernel_rfl) (.cons (fun S hn h hh => aops_move (V.fn (.func 137) [] []) wants_none h.1 rfl (an ⟨rfl, rfl⟩)) (.cons (fun S hn h hh => aops_move (V.own 0 a4.length) wants_none h.1 rfl (an ⟨rfl, rfl⟩)) (.cons (fun S hn h hh => aops_move (iV a2) wants_none h.1 rfl (an ⟨rfl, rfl⟩)) (.cons (fun S hn h hh => aops_index_own tSl50 wants_none h.1 h.2.1 (idx_some hx154).1 (by simpa using idx_lt hx154) rfl (an ⟨rfl, rfl⟩)) (.cons (fun S hn h hh => aops_load_agg (cs := (encTPublished x153)) tA137 wants_none h.1 hh.1 (idx_map encTPublished hx154) rfl rfl rfl (an ⟨rfl, rfl⟩)) (.cons (fun S hn h hh => aops_move (V.own 0 a4.length) wants_none h.1 rfl (an ⟨rfl, rfl⟩)) (.cons (fun S hn h hh => aops_move (iV (w64 (Int.fdiv (IntKind.wrap .u64 (w64 (n150 + n151))) (2 ^ (min (Int.toNat 1) (IntKind.bits .u64)))))) wants_none h.1 rfl (an ⟨rfl, rfl⟩)) (.cons (fun S hn h hh => aops_index_own tSl50 wants_none h.1 h.2.1 (idx_some hx156).1 (by simpa using idx_lt hx156) rfl (an ⟨rfl, rfl⟩)) (.cons (fun S hn h hh => aops_load_agg (cs := (encTPublished x155)) tA137 wants_none h.1 hh.1 (idx_map encTPublished hx156) rfl rfl rfl (an ⟨rfl, rfl⟩)) (.cons (fun S hn h hh => aops_callv (iV y157) [(V.agg (encTPublished x153)), (V.agg (encTPublished x155))] fOk137 wants_none h.1 (evmc (S := S) (first := []) (captured := []) (vs := [(V.agg (encTPublished x153)), (V.agg (encTPublished x155))]) (evm_cons h.2.1 (evm_cons h.2.2.1 evm_nil))) (.cons (Imm.agg (imms_encTPublished _)) (.cons (Imm.agg (imms_encTPublished _)) .nil)) (W137 F x153 x155 y157 hx158) rfl (an ⟨rfl, rfl⟩)) (.cons (fun S hn h hh => aops_bin (.bool (decide (y157 < 0))) wants_none h.1 rfl rfl rfl (an ⟨rfl, rfl⟩)) (.cons (fun S hn h hh => aops_not wants_none h.1 rfl (an ⟨rfl, rfl⟩)) .nil)))))))))))) ?_
        replace h := jn_elim h
        obtain ⟨k159, hk159, h⟩ := h
        refine awp_cut (fun (p : Int × Int) => (⟨[(0, (V.own 0 a4.length)), (2, (iV a2)), (4, (V.fn (.func 137) [] [])), (14, (iV (p.1))), (15, (iV (p.2)))], [(0, (Ob.arr 137 3 (a4.map encTPublished)))], 1⟩ : St)) (fun (p : Int × Int) => k159 p.1 p.2 = some r) ?_ ?_
        · clear hk159
          refine awp_cond (!(decide (y157 < 0))) rfl (fun hb162 => ?_) (fun hb162 => ?_)
          · replace h := ite_t hb162 h
            refine rg ?_
            refine am (iV (w64 (Int.fdiv (IntKind.wrap .u64 (w64 (n150 + n151))) (2 ^ (min (Int.toNat 1) (IntKind.bits .u64)))))) rfl rfl ?_
            refine aops_bin (.int .i64 (w64 ((w64 (Int.fdiv (IntKind.wrap .u64 (w64 (n150 + n151))) (2 ^ (min (Int.toNat 1) (IntKind.bits .u64))))) + 1))) wants_none rfl rfl rfl rfl ?_
            refine aa (iV (w64 ((w64 (Int.fdiv (IntKind.wrap .u64 (w64 (n150 + n151))) (2 ^ (min (Int.toNat 1) (IntKind.bits .u64))))) + 1))) rfl rfl ?_
            refine an ?_
            exact ⟨((w64 ((w64 (Int.fdiv (IntKind.wrap .u64 (w64 (n150 + n151))) (2 ^ (min (Int.toNat 1) (IntKind.bits .u64))))) + 1)), n151), h, (ghost_ren 1 (fun i => ([0] : List Nat).getD i 0) _ _ (by decide) (EnvSub.get (.cons (Sub.own rfl rfl) (.cons (Sub.imm (Imm.con _)) (.cons (Sub.imm (Imm.fn .nil .nil)) (.cons (Sub.imm (Imm.con _)) (.cons (Sub.imm (Imm.con _)) .nil)))))) (HpSub.get (.cons rfl (ObSub.rows (rows_imm imms_encTPublished)) .nil)) rfl)⟩
          replace h := ite_f hb162 h
          refine rg ?_
          refine am (iV (w64 (Int.fdiv (IntKind.wrap .u64 (w64 (n150 + n151))) (2 ^ (min (Int.toNat 1) (IntKind.bits .u64)))))) rfl rfl ?_
          refine aa (iV (w64 (Int.fdiv (IntKind.wrap .u64 (w64 (n150 + n151))) (2 ^ (min (Int.toNat 1) (IntKind.bits .u64)))))) rfl rfl ?_
          refine an ?_
          exact ⟨(n150, (w64 (Int.fdiv (IntKind.wrap .u64 (w64 (n150 + n151))) (2 ^ (min (Int.toNat 1) (IntKind.bits .u64)))))), h, (ghost_ren 1 (fun i => ([0] : List Nat).getD i 0) _ _ (by decide) (EnvSub.get (.cons (Sub.own rfl rfl) (.cons (Sub.imm (Imm.con _)) (.cons (Sub.imm (Imm.fn .nil .nil)) (.cons (Sub.imm (Imm.con _)) (.cons (Sub.imm (Imm.con _)) .nil)))))) (HpSub.get (.cons rfl (ObSub.rows (rows_imm imms_encTPublished)) .nil)) rfl)⟩
        clear h
        rintro ⟨n160, n161⟩ h
        subst hk159
        exact awp_back (ih3 (n160, n161) h) (ghost_ren 1 (fun i => ([0] : List Nat).getD i 0) _ _ (by decide) (EnvSub.get (.cons (Sub.own rfl rfl) (.cons (Sub.imm (Imm.con _)) (.cons (Sub.imm (Imm.fn .nil .nil)) (.cons (Sub.imm (Imm.con _)) (.cons (Sub.imm (Imm.con _)) .nil)))))) (HpSub.get (.cons rfl (ObSub.rows (rows_imm imms_encTPublished)) .nil)) rfl)
      replace h := ite_f hb152 h
      refine awp_exit ?_
      exact ⟨n150, h, (ghost_ren 1 (fun i => ([0] : List Nat).getD i 0) _ _ (by decide) (EnvSub.get (.cons (Sub.own rfl rfl) (.cons (Sub.imm (Imm.con _)) (.cons (Sub.imm (Imm.con _)) .nil)))) (HpSub.get (.cons rfl (ObSub.rows (rows_imm imms_encTPublished)) .nil)) rfl)⟩
    clear h
    intro n147 h
    subst hk146
    refine sq ?_
    refine sr ?_
    refine am (iV a2) rfl rfl ?_
    refine aa (iV a2) rfl rfl ?_
    refine an ?_
    replace h := jn_elim h
    obtain ⟨k163, hk163, h⟩ := h
    refine awp_cut (fun (p : (List TPublished)) => (⟨[], [(0, (Ob.arr 137 3 (p.map encTPublished)))], 1⟩ : St)) (fun (p : (List TPublished)) => k163 p = some r) ?_ ?_
    · clear hk163
      refine awp_block ?_
      refine awp_loop_ind (fun (p : Int × (List TPublished)) => (⟨[(0, (V.own 0 (p.2).length)), (14, (iV n147)), (17, (iV (p.1)))], [(0, (Ob.arr 137 3 ((p.2).map encTPublished)))], 1⟩ : St)) (fun n (p : Int × (List TPublished)) => M174_L4 F n147 k163 n p.1 p.2 = some r) (fun p h => by simp [M174_L4] at h) (fun n ih4 p h => ?_) F (a2, a4) h (ghost_ren 1 (fun i => ([0] : List Nat).getD i 0) _ _ (by decide) (EnvSub.get (.cons (Sub.own rfl rfl) (.cons (Sub.imm (Imm.con _)) (.cons (Sub.imm (Imm.con _)) .nil)))) (HpSub.get (.cons rfl (ObSub.rows (rows_imm imms_encTPublished)) .nil)) rfl)
      obtain ⟨n167, l168⟩ := p
      unfold M174_L4 at h
      refine awp_loop ?_
      refine sq ?_
      refine sr ?_
      refine am (iV n167) rfl rfl ?_
      refine am (iV n147) rfl rfl ?_
      refine aops_bin (.bool (decide (n167 > n147))) wants_none rfl rfl rfl rfl ?_
      refine an ?_
      refine awp_cond (decide (n167 > n147)) rfl (fun hb169 => ?_) (fun hb169 => ?_)
      · replace h := ite_t hb169 h
        refine awp_skip ?_
        refine sq ?_
        refine awp_block ?_
        replace h := bind_some h
        obtain ⟨x170, hx171, h⟩ := h
        replace h := bind_some h
        obtain ⟨x172, hx173, h⟩ := h
        replace h := bind_some h
        obtain ⟨x174, hx175, h⟩ := h
        replace h := bind_some h
        obtain ⟨x176, hx177, h⟩ := h
        refine awp_any [OD.mk [(0, (V.own 0 l168.length))] [] [(113, (V.own 0 l168.length))] [],
              OD.mk [(17, (iV n167))] [] [(114, (iV n167))] [],
              OD.mk [(0, (V.own 0 l168.length))] [] [(115, (V.own 0 l168.length))] [],
              OD.mk [(17, (iV n167))] [] [(116, (iV n167))] [],
              OD.mk [(116, (iV n167))] [] [(117, (iV (w64 (n167 - 1))))] [],
              OD.mk [(0, (V.own 0 l168.length))] [] [(118, (V.own 0 l168.length))] [],
              OD.mk [(17, (iV n167))] [] [(119, (iV n167))] [],
              OD.mk [(119, (iV n167))] [] [(120, (iV (w64 (n167 - 1))))] [],
              OD.mk [(118, (V.own 0 l168.length)), (120, (iV (w64 (n167 - 1))))] [] [(121, (V.ptr 0 3 (w64 (n167 - 1)).toNat 0))] [],
              OD.mk [(121, (V.ptr 0 3 (w64 (n167 - 1)).toNat 0))] [(0, (Ob.arr 137 3 (l168.map encTPublished)))] [(122, (V.agg (encTPublished x170)))] [],
              OD.mk [(0, (V.own 0 l168.length))] [] [(123, (V.own 0 l168.length))] [],
              OD.mk [(17, (iV n167))] [] [(124, (iV n167))] [],
              OD.mk [(123, (V.own 0 l168.length)), (124, (iV n167))] [] [(125, (V.ptr 0 3 n167.toNat 0))] [],
              OD.mk [(125, (V.ptr 0 3 n167.toNat 0))] [(0, (Ob.arr 137 3 (l168.map encTPublished)))] [(126, (V.agg (encTPublished x172)))] [],
              OD.mk [(113, (V.own 0 l168.length)), (114, (iV n167))] [] [(127, (V.ptr 0 3 n167.toNat 0))] [],
              OD.mk [(127, (V.ptr 0 3 n167.toNat 0)), (122, (V.agg (encTPublished x170)))] [(0, (Ob.arr 137 3 (l168.map encTPublished)))] [] [(0, (Ob.arr 137 3 ((l168.set n167.toNat x170).map encTPublished)))],
              OD.mk [(115, (V.own 0 l168.length)), (117, (iV (w64 (n167 - 1))))] [] [(128, (V.ptr 0 3 (w64 (n167 - 1)).toNat 0))] [],
              OD.mk [(128, (V.ptr 0 3 (w64 (n167 - 1)).toNat 0)), (126, (V.agg (encTPublished x172)))] [(0, (Ob.arr 137 3 ((l168.set n167.toNat x170).map encTPublished)))] [] [(0, (Ob.arr 137 3 (((l168.set n167.toNat x170).set (w64 (n167 - 1)).toNat x172).map encTPublished)))]] mixed ⟨⟨rfl, trivial⟩, trivial, ⟨⟨rfl, trivial⟩, trivial, ⟨⟨rfl, trivial⟩, trivial, ⟨⟨rfl, trivial⟩, trivial, ⟨⟨rfl, trivial⟩, trivial, ⟨⟨rfl, trivial⟩, trivial, ⟨⟨rfl, trivial⟩, trivial, ⟨⟨rfl, trivial⟩, trivial, ⟨⟨rfl, rfl, trivial⟩, trivial, ⟨⟨rfl, trivial⟩, ⟨rfl, trivial⟩, ⟨⟨rfl, trivial⟩, trivial, ⟨⟨rfl, trivial⟩, trivial, ⟨⟨rfl, rfl, trivial⟩, trivial, ⟨⟨rfl, trivial⟩, ⟨rfl, trivial⟩, ⟨⟨rfl, rfl, trivial⟩, trivial, ⟨⟨rfl, rfl, trivial⟩, ⟨rfl, trivial⟩, ⟨⟨rfl, rfl, trivial⟩, trivial, ⟨⟨rfl, rfl, trivial⟩, ⟨rfl, trivial⟩, trivial⟩⟩⟩⟩⟩⟩⟩⟩⟩⟩⟩⟩⟩⟩⟩⟩⟩⟩ (by kernel_rfl) (.cons (fun S hn h hh => aops_move (V.own 0 l168.length) wants_none h.1 rfl (an ⟨rfl, rfl⟩)) (.cons (fun S hn h hh => aops_move (iV n167) wants_none h.1 rfl (an ⟨rfl, rfl⟩)) (.cons (fun S hn h hh => aops_move (V.own 0 l168.length) wants_none h.1 rfl (an ⟨rfl, rfl⟩)) (.cons (fun S hn h hh => aops_move (iV n167) wants_none h.1 rfl (an ⟨rfl, rfl⟩)) (.cons (fun S hn h hh => aops_bin (.int .i64 (w64 (n167 - 1))) wants_none h.1 rfl rfl rfl (an ⟨rfl, rfl⟩)) (.cons (fun S hn h hh => aops_move (V.own 0 l168.length) wants_none h.1 rfl (an ⟨rfl, rfl⟩)) (.cons (fun S hn h hh => aops_move (iV n167) wants_none h.1 rfl (an ⟨rfl, rfl⟩)) (.cons (fun S hn h hh => aops_bin (.int .i64 (w64 (n167 - 1))) wants_none h.1 rfl rfl rfl (an ⟨rfl, rfl⟩)) (.cons (fun S hn h hh => aops_index_own tSl50 wants_none h.1 h.2.1 (idx_some hx171).1 (by simpa using idx_lt hx171) rfl (an ⟨rfl, rfl⟩)) (.cons (fun S hn h hh => aops_load_agg (cs := (encTPublished x170)) tA137 wants_none h.1 hh.1 (idx_map encTPublished hx171) rfl rfl rfl (an ⟨rfl, rfl⟩)) (.cons (fun S hn h hh => aops_move (V.own 0 l168.length) wants_none h.1 rfl (an ⟨rfl, rfl⟩)) (.cons (fun S hn h hh => aops_move (iV n167) wants_none h.1 rfl (an ⟨rfl, rfl⟩)) (.cons (fun S hn h hh => aops_index_own tSl50 wants_none h.1 h.2.1 (idx_some hx173).1 (by simpa using idx_lt hx173) rfl (an ⟨rfl, rfl⟩)) (.cons (fun S hn h hh => aops_load_agg (cs := (encTPublished x172)) tA137 wants_none h.1 hh.1 (idx_map encTPublished hx173) rfl rfl rfl (an ⟨rfl, rfl⟩)) (.cons (fun S hn h hh => aops_index_own tSl50 wants_none h.1 h.2.1 (idx_some hx175).1 (by simpa using idx_lt hx175) rfl (an ⟨rfl, rfl⟩)) (.cons (fun S hn h hh => aops_store (encTPublished x170) ((l168.set n167.toNat x170).map encTPublished) tS137 wants_none h.1 h.2.1 rfl rfl hh.1 (idx_map encTPublished hx175) rfl (map_set encTPublished l168 _ x170) (an ⟨rfl, rfl⟩)) (.cons (fun S hn h hh => aops_index_own tSl50 wants_none h.1 h.2.1 (idx_some hx177).1 (by simpa using idx_lt hx177) rfl (an ⟨rfl, rfl⟩)) (.cons (fun S hn h hh => aops_store (encTPublished x172) (((l168.set n167.toNat x170).set (w64 (n167 - 1)).toNat x172).map encTPublished) tS137 wants_none h.1 h.2.1 rfl rfl hh.1 (idx_map encTPublished hx177) rfl (map_set encTPublished (l168.set n167.toNat x170) _ x172) (an ⟨rfl, rfl⟩)) .nil)))))))))))))))))) ?_
        refine rg ?_
        refine am (iV n167) rfl rfl ?_
        refine aops_bin (.int .i64 (w64 (n167 - 1))) wants_none rfl rfl rfl rfl ?_
        refine aa (iV (w64 (n167 - 1))) rfl rfl ?_
        refine an ?_
        exact awp_back (ih4 ((w64 (n167 - 1)), ((l168.set n167.toNat x170).set (w64 (n167 - 1)).toNat x172)) h) (ghost_ren 1 (fun i => ([0] : List Nat).getD i 0) _ _ (by decide) (EnvSub.get (.cons (Sub.ownE rfl rfl (by simp)) (.cons (Sub.imm (Imm.con _)) (.cons (Sub.imm (Imm.con _)) .nil)))) (HpSub.get (.cons rfl (ObSub.rows (rows_imm imms_encTPublished)) .nil)) rfl)
      replace h := ite_f hb169 h
      refine awp_exit ?_
      exact ⟨l168, h, (ghost_ren 1 (fun i => ([0] : List Nat).getD i 0) _ _ (by decide) (EnvSub.get .nil) (HpSub.get (.cons rfl (ObSub.rows (rows_imm imms_encTPublished)) .nil)) rfl)⟩
    clear h
    intro l164 h
    subst hk163
    refine awp_ret ?_
    replace h := Option.some.inj h
    subst h
    exact ⟨.inl rfl, [], (ghost_ren 1 (fun i => ([0] : List Nat).getD i 0) _ _ (by decide) (EnvSub.get .nil) (HpSub.get (.cons rfl (ObSub.rows (rows_imm imms_encTPublished)) .nil)) rfl), .nil⟩
  replace h := ite_f hb145 h
  refine awp_skip ?_
  refine sr ?_
  refine am (iV a1) rfl rfl ?_
  refine am (iV a3) rfl rfl ?_
  refine aops_bin (.int .i64 (w64 (a1 + a3))) wants_none rfl rfl rfl rfl ?_
  refine aops_convInt tU150 ⟨_, tU3⟩ wants_none rfl rfl ?_
  refine aops_bin (.int .u64 (Int.fdiv (IntKind.wrap .u64 (w64 (a1 + a3))) (2 ^ (min (Int.toNat 1) (IntKind.bits .u64))))) wants_none rfl rfl rfl rfl ?_
  refine aops_convInt tU3 ⟨_, tU150⟩ wants_none rfl rfl ?_
  refine aa (iV (w64 (Int.fdiv (IntKind.wrap .u64 (w64 (a1 + a3))) (2 ^ (min (Int.toNat 1) (IntKind.bits .u64)))))) rfl rfl ?_
  refine an ?_
  refine sr ?_
  refine am (iV (w64 (Int.fdiv (IntKind.wrap .u64 (w64 (a1 + a3))) (2 ^ (min (Int.toNat 1) (IntKind.bits .u64)))))) rfl rfl ?_
  refine am (iV a2) rfl rfl ?_
  refine aops_bin (.int .i64 (w64 ((w64 (Int.fdiv (IntKind.wrap .u64 (w64 (a1 + a3))) (2 ^ (min (Int.toNat 1) (IntKind.bits .u64))))) + a2))) wants_none rfl rfl rfl rfl ?_
  refine aa (iV (w64 ((w64 (Int.fdiv (IntKind.wrap .u64 (w64 (a1 + a3))) (2 ^ (min (Int.toNat 1) (IntKind.bits .u64))))) + a2))) rfl rfl ?_
  refine an ?_
  refine sr ?_
  refine aa (iV 0) rfl rfl ?_
  refine aa (iV 0) rfl rfl ?_
  refine an ?_
  refine sq ?_
  refine sr ?_
  refine am (iV a2) rfl rfl ?_
  refine am (iV (w64 (Int.fdiv (IntKind.wrap .u64 (w64 (a1 + a3))) (2 ^ (min (Int.toNat 1) (IntKind.bits .u64)))))) rfl rfl ?_
  refine aops_bin (.bool (decide (a2 > (w64 (Int.fdiv (IntKind.wrap .u64 (w64 (a1 + a3))) (2 ^ (min (Int.toNat 1) (IntKind.bits .u64)))))))) wants_none rfl rfl rfl rfl ?_
  refine an ?_
  replace h := jn_elim h
  obtain ⟨k178, hk178, h⟩ := h
  refine awp_cut (fun (p : Int × Int) => (⟨[(0, (V.own 0 a4.length)), (1, (iV a1)), (2, (iV a2)), (3, (iV a3)), (4, (V.fn (.func 137) [] [])), (18, (iV (w64 (Int.fdiv (IntKind.wrap .u64 (w64 (a1 + a3))) (2 ^ (min (Int.toNat 1) (IntKind.bits .u64))))))), (19, (iV (w64 ((w64 (Int.fdiv (IntKind.wrap .u64 (w64 (a1 + a3))) (2 ^ (min (Int.toNat 1) (IntKind.bits .u64))))) + a2)))), (20, (iV (p.1))), (21, (iV (p.2)))], [(0, (Ob.arr 137 3 (a4.map encTPublished)))], 1⟩ : St)) (fun (p : Int × Int) => k178 p.1 p.2 = some r) ?_ ?_
  · clear hk178
    refine awp_cond (decide (a2 > (w64 (Int.fdiv (IntKind.wrap .u64 (w64 (a1 + a3))) (2 ^ (min (Int.toNat 1) (IntKind.bits .u64))))))) rfl (fun hb181 => ?_) (fun hb181 => ?_)
    · replace h := ite_t hb181 h
      refine sr ?_
      refine am (iV (w64 ((w64 (Int.fdiv (IntKind.wrap .u64 (w64 (a1 + a3))) (2 ^ (min (Int.toNat 1) (IntKind.bits .u64))))) + a2))) rfl rfl ?_
      refine am (iV a3) rfl rfl ?_
      refine aops_bin (.int .i64 (w64 ((w64 ((w64 (Int.fdiv (IntKind.wrap .u64 (w64 (a1 + a3))) (2 ^ (min (Int.toNat 1) (IntKind.bits .u64))))) + a2)) - a3))) wants_none rfl rfl rfl rfl ?_
      refine aa (iV (w64 ((w64 ((w64 (Int.fdiv (IntKind.wrap .u64 (w64 (a1 + a3))) (2 ^ (min (Int.toNat 1) (IntKind.bits .u64))))) + a2)) - a3))) rfl rfl ?_
      refine an ?_
      refine rg ?_
      refine am (iV (w64 (Int.fdiv (IntKind.wrap .u64 (w64 (a1 + a3))) (2 ^ (min (Int.toNat 1) (IntKind.bits .u64)))))) rfl rfl ?_
      refine aa (iV (w64 (Int.fdiv (IntKind.wrap .u64 (w64 (a1 + a3))) (2 ^ (min (Int.toNat 1) (IntKind.bits .u64)))))) rfl rfl ?_
      refine an ?_
      exact ⟨((w64 ((w64 ((w64 (Int.fdiv (IntKind.wrap .u64 (w64 (a1 + a3))) (2 ^ (min (Int.toNat 1) (IntKind.bits .u64))))) + a2)) - a3)), (w64 (Int.fdiv (IntKind.wrap .u64 (w64 (a1 + a3))) (2 ^ (min (Int.toNat 1) (IntKind.bits .u64)))))), h, (ghost_ren 1 (fun i => ([0] : List Nat).getD i 0) _ _ (by decide) (EnvSub.get (.cons (Sub.own rfl rfl) (.cons (Sub.imm (Imm.con _)) (.cons (Sub.imm (Imm.con _)) (.cons (Sub.imm (Imm.con _)) (.cons (Sub.imm (Imm.fn .nil .nil)) (.cons (Sub.imm (Imm.con _)) (.cons (Sub.imm (Imm.con _)) (.cons (Sub.imm (Imm.con _)) (.cons (Sub.imm (Imm.con _)) .nil)))))))))) (HpSub.get (.cons rfl (ObSub.rows (rows_imm imms_encTPublished)) .nil)) rfl)⟩
    replace h := ite_f hb181 h
    refine sr ?_
    refine am (iV a1) rfl rfl ?_
    refine aa (iV a1) rfl rfl ?_
    refine an ?_
    refine rg ?_
    refine am (iV a2) rfl rfl ?_
    refine aa (iV a2) rfl rfl ?_
    refine an ?_
    exact ⟨(a1, a2), h, (ghost_ren 1 (fun i => ([0] : List Nat).getD i 0) _ _ (by decide) (EnvSub.get (.cons (Sub.own rfl rfl) (.cons (Sub.imm (Imm.con _)) (.cons (Sub.imm (Imm.con _)) (.cons (Sub.imm (Imm.con _)) (.cons (Sub.imm (Imm.fn .nil .nil)) (.cons (Sub.imm (Imm.con _)) (.cons (Sub.imm (Imm.con _)) (.cons (Sub.imm (Imm.con _)) (.cons (Sub.imm (Imm.con _)) .nil)))))))))) (HpSub.get (.cons rfl (ObSub.rows (rows_imm imms_encTPublished)) .nil)) rfl)⟩
  clear h
  rintro ⟨n179, n180⟩ h
  subst hk178
  refine sr ?_
  refine am (iV (w64 ((w64 (Int.fdiv (IntKind.wrap .u64 (w64 (a1 + a3))) (2 ^ (min (Int.toNat 1) (IntKind.bits .u64))))) + a2))) rfl rfl ?_
  refine aops_bin (.int .i64 (w64 ((w64 ((w64 (Int.fdiv (IntKind.wrap .u64 (w64 (a1 + a3))) (2 ^ (min (Int.toNat 1) (IntKind.bits .u64))))) + a2)) - 1))) wants_none rfl rfl rfl rfl ?_
  refine aa (iV (w64 ((w64 ((w64 (Int.fdiv (IntKind.wrap .u64 (w64 (a1 + a3))) (2 ^ (min (Int.toNat 1) (IntKind.bits .u64))))) + a2)) - 1))) rfl rfl ?_
  refine an ?_
  refine sq ?_
  replace h := jn_elim h
  obtain ⟨k182, hk182, h⟩ := h
  refine awp_cut (fun (p : Int) => (⟨[(0, (V.own 0 a4.length)), (1, (iV a1)), (2, (iV a2)), (3, (iV a3)), (4, (V.fn (.func 137) [] [])), (18, (iV (w64 (Int.fdiv (IntKind.wrap .u64 (w64 (a1 + a3))) (2 ^ (min (Int.toNat 1) (IntKind.bits .u64))))))), (19, (iV (w64 ((w64 (Int.fdiv (IntKind.wrap .u64 (w64 (a1 + a3))) (2 ^ (min (Int.toNat 1) (IntKind.bits .u64))))) + a2)))), (20, (iV p))], [(0, (Ob.arr 137 3 (a4.map encTPublished)))], 1⟩ : St)) (fun (p : Int) => k182 p = some r) ?_ ?_
  · clear hk182
    refine awp_block ?_
    refine awp_loop_ind (fun (p : Int × Int) => (⟨[(0, (V.own 0 a4.length)), (1, (iV a1)), (2, (iV a2)), (3, (iV a3)), (4, (V.fn (.func 137) [] [])), (18, (iV (w64 (Int.fdiv (IntKind.wrap .u64 (w64 (a1 + a3))) (2 ^ (min (Int.toNat 1) (IntKind.bits .u64))))))), (19, (iV (w64 ((w64 (Int.fdiv (IntKind.wrap .u64 (w64 (a1 + a3))) (2 ^ (min (Int.toNat 1) (IntKind.bits .u64))))) + a2)))), (20, (iV (p.1))), (21, (iV (p.2))), (22, (iV (w64 ((w64 ((w64 (Int.fdiv (IntKind.wrap .u64 (w64 (a1 + a3))) (2 ^ (min (Int.toNat 1) (IntKind.bits .u64))))) + a2)) - 1))))], [(0, (Ob.arr 137 3 (a4.map encTPublished)))], 1⟩ : St)) (fun n (p : Int × Int) => M174_L5 F a1 a2 a3 a4 k182 n p.1 p.2 = some r) (fun p h => by simp [M174_L5] at h) (fun n ih5 p h => ?_) F (n179, n180) h (ghost_ren 1 (fun i => ([0] : List Nat).getD i 0) _ _ (by decide) (EnvSub.get (.cons (Sub.own rfl rfl) (.cons (Sub.imm (Imm.con _)) (.cons (Sub.imm (Imm.con _)) (.cons (Sub.imm (Imm.con _)) (.cons (Sub.imm (Imm.fn .nil .nil)) (.cons (Sub.imm (Imm.con _)) (.cons (Sub.imm (Imm.con _)) (.cons (Sub.imm (Imm.con _)) (.cons (Sub.imm (Imm.con _)) (.cons (Sub.imm (Imm.con _)) .nil))))))))))) (HpSub.get (.cons rfl (ObSub.rows (rows_imm imms_encTPublished)) .nil)) rfl)
    obtain ⟨n186, n187⟩ := p
    unfold M174_L5 at h
    refine awp_loop ?_
    refine sq ?_
    refine sr ?_
    refine am (iV n186) rfl rfl ?_
    refine am (iV n187) rfl rfl ?_
    refine aops_bin (.bool (decide (n186 < n187))) wants_none rfl rfl rfl rfl ?_
    refine an ?_
    refine awp_cond (decide (n186 < n187)) rfl (fun hb188 => ?_) (fun hb188 => ?_)
    · replace h := ite_t hb188 h
      refine awp_skip ?_
      refine awp_block ?_
      refine sr ?_
      refine am (iV n186) rfl rfl ?_
      refine am (iV n187) rfl rfl ?_
      refine aops_bin (.int .i64 (w64 (n186 + n187))) wants_none rfl rfl rfl rfl ?_
      refine aops_convInt tU150 ⟨_, tU3⟩ wants_none rfl rfl ?_
      refine aops_bin (.int .u64 (Int.fdiv (IntKind.wrap .u64 (w64 (n186 + n187))) (2 ^ (min (Int.toNat 1) (IntKind.bits .u64))))) wants_none rfl rfl rfl rfl ?_
      refine aops_convInt tU3 ⟨_, tU150⟩ wants_none rfl rfl ?_
      refine aa (iV (w64 (Int.fdiv (IntKind.wrap .u64 (w64 (n186 + n187))) (2 ^ (min (Int.toNat 1) (IntKind.bits .u64)))))) rfl rfl ?_
      refine an ?_
      refine sq ?_
      replace h := bind_some h
      obtain ⟨x189, hx190, h⟩ := h
      replace h := bind_some h
      obtain ⟨x191, hx192, h⟩ := h
      replace h := bind_some h
      obtain ⟨y193, hx194, h⟩ := h
      refine awp_any [OD.mk [(4, (V.fn (.func 137) [] []))] [] [(158, (V.fn (.func 137) [] []))] [],
            OD.mk [(0, (V.own 0 a4.length))] [] [(159, (V.own 0 a4.length))] [],
            OD.mk [(22, (iV (w64 ((w64 ((w64 (Int.fdiv (IntKind.wrap .u64 (w64 (a1 + a3))) (2 ^ (min (Int.toNat 1) (IntKind.bits .u64))))) + a2)) - 1))))] [] [(160, (iV (w64 ((w64 ((w64 (Int.fdiv (IntKind.wrap .u64 (w64 (a1 + a3))) (2 ^ (min (Int.toNat 1) (IntKind.bits .u64))))) + a2)) - 1))))] [],
            OD.mk [(23, (iV (w64 (Int.fdiv (IntKind.wrap .u64 (w64 (n186 + n187))) (2 ^ (min (Int.toNat 1) (IntKind.bits .u64)))))))] [] [(161, (iV (w64 (Int.fdiv (IntKind.wrap .u64 (w64 (n186 + n187))) (2 ^ (min (Int.toNat 1) (IntKind.bits .u64)))))))] [],
            OD.mk [(160, (iV (w64 ((w64 ((w64 (Int.fdiv (IntKind.wrap .u64 (w64 (a1 + a3))) (2 ^ (min (Int.toNat 1) (IntKind.bits .u64))))) + a2)) - 1)))), (161, (iV (w64 (Int.fdiv (IntKind.wrap .u64 (w64 (n186 + n187))) (2 ^ (min (Int.toNat 1) (IntKind.bits .u64)))))))] [] [(162, (iV (w64 ((w64 ((w64 ((w64 (Int.fdiv (IntKind.wrap .u64 (w64 (a1 + a3))) (2 ^ (min (Int.toNat 1) (IntKind.bits .u64))))) + a2)) - 1)) - (w64 (Int.fdiv (IntKind.wrap .u64 (w64 (n186 + n187))) (2 ^ (min (Int.toNat 1) (IntKind.bits .u64)))))))))] [],
            OD.mk [(159, (V.own 0 a4.length)), (162, (iV (w64 ((w64 ((w64 ((w64 (Int.fdiv (IntKind.wrap .u64 (w64 (a1 + a3))) (2 ^ (min (Int.toNat 1) (IntKind.bits .u64))))) + a2)) - 1)) - (w64 (Int.fdiv (IntKind.wrap .u64 (w64 (n186 + n187))) (2 ^ (min (Int.toNat 1) (IntKind.bits .u64)))))))))] [] [(163, (V.ptr 0 3 (w64 ((w64 ((w64 ((w64 (Int.fdiv (IntKind.wrap .u64 (w64 (a1 + a3))) (2 ^ (min (Int.toNat 1) (IntKind.bits .u64))))) + a2)) - 1)) - (w64 (Int.fdiv (IntKind.wrap .u64 (w64 (n186 + n187))) (2 ^ (min (Int.toNat 1) (IntKind.bits .u64))))))).toNat 0))] [],
            OD.mk [(163, (V.ptr 0 3 (w64 ((w64 ((w64 ((w64 (Int.fdiv (IntKind.wrap .u64 (w64 (a1 + a3))) (2 ^ (min (Int.toNat 1) (IntKind.bits .u64))))) + a2)) - 1)) - (w64 (Int.fdiv (IntKind.wrap .u64 (w64 (n186 + n187))) (2 ^ (min (Int.toNat 1) (IntKind.bits .u64))))))).toNat 0))] [(0, (Ob.arr 137 3 (a4.map encTPublished)))] [(164, (V.agg (encTPublished x189)))] [],
            OD.mk [(0, (V.own 0 a4.length))] [] [(165, (V.own 0 a4.length))] [],
            OD.mk [(23, (iV (w64 (Int.fdiv (IntKind.wrap .u64 (w64 (n186 + n187))) (2 ^ (min (Int.toNat 1) (IntKind.bits .u64)))))))] [] [(166, (iV (w64 (Int.fdiv (IntKind.wrap .u64 (w64 (n186 + n187))) (2 ^ (min (Int.toNat 1) (IntKind.bits .u64)))))))] [],
            OD.mk [(165, (V.own 0 a4.length)), (166, (iV (w64 (Int.fdiv (IntKind.wrap .u64 (w64 (n186 + n187))) (2 ^ (min (Int.toNat 1) (IntKind.bits .u64)))))))] [] [(167, (V.ptr 0 3 (w64 (Int.fdiv (IntKind.wrap .u64 (w64 (n186 + n187))) (2 ^ (min (Int.toNat 1) (IntKind.bits .u64))))).toNat 0))] [],
            OD.mk [(167, (V.ptr 0 3 (w64 (Int.fdiv (IntKind.wrap .u64 (w64 (n186 + n187))) (2 ^ (min (Int.toNat 1) (IntKind.bits .u64))))).toNat 0))] [(0, (Ob.arr 137 3 (a4.map encTPublished)))] [(168, (V.agg (encTPublished x191)))] [],
            OD.mk [(158, (V.fn (.func 137) [] [])), (164, (V.agg (encTPublished x189))), (168, (V.agg (encTPublished x191)))] [] [(169, (iV y193))] [],
            OD.mk [(169, (iV y193))] [] [(170, (bV (decide (y193 < 0))))] [],
            OD.mk [(170, (bV (decide (y193 < 0))))] [] [(171, (bV (!(decide (y193 < 0)))))] []] mixed ⟨⟨rfl, trivial⟩, trivial, ⟨⟨rfl, trivial⟩, trivial, ⟨⟨rfl, trivial⟩, trivial, ⟨⟨rfl, trivial⟩, trivial, ⟨⟨rfl, rfl, trivial⟩, trivial, ⟨⟨rfl, rfl, trivial⟩, trivial, ⟨⟨rfl, trivial⟩, ⟨rfl, trivial⟩, ⟨⟨rfl, trivial⟩, trivial, ⟨⟨rfl, trivial⟩, trivial, ⟨⟨rfl, rfl, trivial⟩, trivial, ⟨⟨rfl, trivial⟩, ⟨rfl, trivial⟩, ⟨⟨rfl, rfl, rfl, trivial⟩, trivial, ⟨⟨rfl, trivial⟩, trivial, ⟨⟨rfl, trivial⟩, trivial, trivial⟩⟩⟩⟩⟩⟩⟩⟩⟩⟩⟩⟩⟩⟩ (by kernel_rfl) (.cons (fun S hn h hh => aops_move (V.fn (.func 137) [] []) wants_none h.1 rfl (an ⟨rfl, rfl⟩)) (.cons (fun S hn h hh => aops_move (V.own 0 a4.length) wants_none h.1 rfl (an ⟨rfl, rfl⟩)) (.cons (fun S hn h hh => aops_move (iV (w64 ((w64 ((w64 (Int.fdiv (IntKind.wrap .u64 (w64 (a1 + a3))) (2 ^ (min (Int.toNat 1) (IntKind.bits .u64))))) + a2)) - 1))) wants_none h.1 rfl (an ⟨rfl, rfl⟩)) (.cons (fun S hn h hh => aops_move (iV (w64 (Int.fdiv (IntKind.wrap .u64 (w64 (n186 + n187))) (2 ^ (min (Int.toNat 1) (IntKind.bits .u64)))))) wants_none h.1 rfl (an ⟨rfl, rfl⟩)) (.cons (fun S hn h hh => aops_bin (.int .i64 (w64 ((w64 ((w64 ((w64 (Int.fdiv (IntKind.wrap .u64 (w64 (a1 + a3))) (2 ^ (min (Int.toNat 1) (IntKind.bits .u64))))) + a2)) - 1)) - (w64 (Int.fdiv (IntKind.wrap .u64 (w64 (n186 + n187))) (2 ^ (min (Int.toNat 1) (IntKind.bits .u64)))))))) wants_none h.1 h.2.1 rfl rfl (an ⟨rfl, rfl⟩)) (.cons (fun S hn h hh => aops_index_own tSl50 wants_none h.1 h.2.1 (idx_some hx190).1 (by simpa using idx_lt hx190) rfl (an ⟨rfl, rfl⟩)) (.cons (fun S hn h hh => aops_load_agg (cs := (encTPublished x189)) tA137 wants_none h.1 hh.1 (idx_map encTPublished hx190) rfl rfl rfl (an ⟨rfl, rfl⟩)) (.cons (fun S hn h hh => aops_move (V.own 0 a4.length) wants_none h.1 rfl (an ⟨rfl, rfl⟩)) (.cons (fun S hn h hh => aops_move (iV (w64 (Int.fdiv (IntKind.wrap .u64 (w64 (n186 + n187))) (2 ^ (min (Int.toNat 1) (IntKind.bits .u64)))))) wants_none h.1 rfl (an ⟨rfl, rfl⟩)) (.cons (fun S hn h hh => aops_index_own tSl50 wants_none h.1 h.2.1 (idx_some hx192).1 (by simpa using idx_lt hx192) rfl (an ⟨rfl, rfl⟩)) (.cons (fun S hn h hh => aops_load_agg (cs := (encTPublished x191)) tA137 wants_none h.1 hh.1 (idx_map encTPublished hx192) rfl rfl rfl (an ⟨rfl, rfl⟩)) (.cons (fun S hn h hh => aops_callv (iV y193) [(V.agg (encTPublished x189)), (V.agg (encTPublished x191))] fOk137 wants_none h.1 (evmc (S := S) (first := []) (captured := []) (vs := [(V.agg (encTPublished x189)), (V.agg (encTPublished x191))]) (evm_cons h.2.1 (evm_cons h.2.2.1 evm_nil))) (.cons (Imm.agg (imms_encTPublished _)) (.cons (Imm.agg (imms_encTPublished _)) .nil)) (W137 F x189 x191 y193 hx194) rfl (an ⟨rfl, rfl⟩)) (.cons (fun S hn h hh => aops_bin (.bool (decide (y193 < 0))) wants_none h.1 rfl rfl rfl (an ⟨rfl, rfl⟩)) (.cons (fun S hn h hh => aops_not wants_none h.1 rfl (an ⟨rfl, rfl⟩)) .nil)))))))))))))) ?_
      replace h := jn_elim h
      obtain ⟨k195, hk195, h⟩ := h
      refine awp_cut (fun (p : Int × Int) => (⟨[(0, (V.own 0 a4.length)), (1, (iV a1)), (2, (iV a2)), (3, (iV a3)), (4, (V.fn (.func 137) [] [])), (18, (iV (w64 (Int.fdiv (IntKind.wrap .u64 (w64 (a1 + a3))) (2 ^ (min (Int.toNat 1) (IntKind.bits .u64))))))), (19, (iV (w64 ((w64 (Int.fdiv (IntKind.wrap .u64 (w64 (a1 + a3))) (2 ^ (min (Int.toNat 1) (IntKind.bits .u64))))) + a2)))), (20, (iV (p.1))), (21, (iV (p.2))), (22, (iV (w64 ((w64 ((w64 (Int.fdiv (IntKind.wrap .u64 (w64 (a1 + a3))) (2 ^ (min (Int.toNat 1) (IntKind.bits .u64))))) + a2)) - 1))))], [(0, (Ob.arr 137 3 (a4.map encTPublished)))], 1⟩ : St)) (fun (p : Int × Int) => k195 p.1 p.2 = some r) ?_ ?_
      · clear hk195
        refine awp_cond (!(decide (y193 < 0))) rfl (fun hb198 => ?_) (fun hb198 => ?_)
        · replace h := ite_t hb198 h
          refine rg ?_
          refine am (iV (w64 (Int.fdiv (IntKind.wrap .u64 (w64 (n186 + n187))) (2 ^ (min (Int.toNat 1) (IntKind.bits .u64)))))) rfl rfl ?_
          refine aops_bin (.int .i64 (w64 ((w64 (Int.fdiv (IntKind.wrap .u64 (w64 (n186 + n187))) (2 ^ (min (Int.toNat 1) (IntKind.bits .u64))))) + 1))) wants_none rfl rfl rfl rfl ?_
          refine aa (iV (w64 ((w64 (Int.fdiv (IntKind.wrap .u64 (w64 (n186 + n187))) (2 ^ (min (Int.toNat 1) (IntKind.bits .u64))))) + 1))) rfl rfl ?_
          refine an ?_
          exact ⟨((w64 ((w64 (Int.fdiv (IntKind.wrap .u64 (w64 (n186 + n187))) (2 ^ (min (Int.toNat 1) (IntKind.bits .u64))))) + 1)), n187), h, (ghost_ren 1 (fun i => ([0] : List Nat).getD i 0) _ _ (by decide) (EnvSub.get (.cons (Sub.own rfl rfl) (.cons (Sub.imm (Imm.con _)) (.cons (Sub.imm (Imm.con _)) (.cons (Sub.imm (Imm.con _)) (.cons (Sub.imm (Imm.fn .nil .nil)) (.cons (Sub.imm (Imm.con _)) (.cons (Sub.imm (Imm.con _)) (.cons (Sub.imm (Imm.con _)) (.cons (Sub.imm (Imm.con _)) (.cons (Sub.imm (Imm.con _)) .nil))))))))))) (HpSub.get (.cons rfl (ObSub.rows (rows_imm imms_encTPublished)) .nil)) rfl)⟩
        replace h := ite_f hb198 h
        refine rg ?_
        refine am (iV (w64 (Int.fdiv (IntKind.wrap .u64 (w64 (n186 + n187))) (2 ^ (min (Int.toNat 1) (IntKind.bits .u64)))))) rfl rfl ?_
        refine aa (iV (w64 (Int.fdiv (IntKind.wrap .u64 (w64 (n186 + n187))) (2 ^ (min (Int.toNat 1) (IntKind.bits .u64)))))) rfl rfl ?_
        refine an ?_
        exact ⟨(n186, (w64 (Int.fdiv (IntKind.wrap .u64 (w64 (n186 + n187))) (2 ^ (min (Int.toNat 1) (IntKind.bits .u64)))))), h, (ghost_ren 1 (fun i => ([0] : List Nat).getD i 0) _ _ (by decide) (EnvSub.get (.cons (Sub.own rfl rfl) (.cons (Sub.imm (Imm.con _)) (.cons (Sub.imm (Imm.con _)) (.cons (Sub.imm (Imm.con _)) (.cons (Sub.imm (Imm.fn .nil .nil)) (.cons (Sub.imm (Imm.con _)) (.cons (Sub.imm (Imm.con _)) (.cons (Sub.imm (Imm.con _)) (.cons (Sub.imm (Imm.con _)) (.cons (Sub.imm (Imm.con _)) .nil))))))))))) (HpSub.get (.cons rfl (ObSub.rows (rows_imm imms_encTPublished)) .nil)) rfl)⟩
      clear h
      rintro ⟨n196, n197⟩ h
      subst hk195
      exact awp_back (ih5 (n196, n197) h) (ghost_ren 1 (fun i => ([0] : List Nat).getD i 0) _ _ (by decide) (EnvSub.get (.cons (Sub.own rfl rfl) (.cons (Sub.imm (Imm.con _)) (.cons (Sub.imm (Imm.con _)) (.cons (Sub.imm (Imm.con _)) (.cons (Sub.imm (Imm.fn .nil .nil)) (.cons (Sub.imm (Imm.con _)) (.cons (Sub.imm (Imm.con _)) (.cons (Sub.imm (Imm.con _)) (.cons (Sub.imm (Imm.con _)) (.cons (Sub.imm (Imm.con _)) .nil))))))))))) (HpSub.get (.cons rfl (ObSub.rows (rows_imm imms_encTPublished)) .nil)) rfl)
    replace h := ite_f hb188 h
    refine awp_exit ?_
    exact ⟨n186, h, (ghost_ren 1 (fun i => ([0] : List Nat).getD i 0) _ _ (by decide) (EnvSub.get (.cons (Sub.own rfl rfl) (.cons (Sub.imm (Imm.con _)) (.cons (Sub.imm (Imm.con _)) (.cons (Sub.imm (Imm.con _)) (.cons (Sub.imm (Imm.fn .nil .nil)) (.cons (Sub.imm (Imm.con _)) (.cons (Sub.imm (Imm.con _)) (.cons (Sub.imm (Imm.con _)) .nil))))))))) (HpSub.get (.cons rfl (ObSub.rows (rows_imm imms_encTPublished)) .nil)) rfl)⟩
  clear h
  intro n183 h
  subst hk182
  refine sr ?_
  refine am (iV (w64 ((w64 (Int.fdiv (IntKind.wrap .u64 (w64 (a1 + a3))) (2 ^ (min (Int.toNat 1) (IntKind.bits .u64))))) + a2))) rfl rfl ?_
  refine am (iV n183) rfl rfl ?_
  refine aops_bin (.int .i64 (w64 ((w64 ((w64 (Int.fdiv (IntKind.wrap .u64 (w64 (a1 + a3))) (2 ^ (min (Int.toNat 1) (IntKind.bits .u64))))) + a2)) - n183))) wants_none rfl rfl rfl rfl ?_
  refine aa (iV (w64 ((w64 ((w64 (Int.fdiv (IntKind.wrap .u64 (w64 (a1 + a3))) (2 ^ (min (Int.toNat 1) (IntKind.bits .u64))))) + a2)) - n183))) rfl rfl ?_
  refine an ?_
  refine sq ?_
  refine sr ?_
  refine am (iV n183) rfl rfl ?_
  refine am (iV a2) rfl rfl ?_
  refine aops_bin (.bool (decide (n183 < a2))) wants_none rfl rfl rfl rfl ?_
  refine am (bV (decide (n183 < a2))) rfl rfl ?_
  refine bsp (decide (n183 < a2)) (fun hb199 => ?_) (fun hb199 => ?_)
  · replace h := ite_t hb199 h
    refine aops_move (iV a2) (wants_some (c := (decide (n183 < a2))) (b := true) 181 rfl rfl hb199) rfl rfl ?_
    refine aops_move (iV (w64 ((w64 ((w64 (Int.fdiv (IntKind.wrap .u64 (w64 (a1 + a3))) (2 ^ (min (Int.toNat 1) (IntKind.bits .u64))))) + a2)) - n183))) (wants_some (c := (decide (n183 < a2))) (b := true) 181 rfl rfl hb199) rfl rfl ?_
    refine aops_bin (.bool (decide (a2 < (w64 ((w64 ((w64 (Int.fdiv (IntKind.wrap .u64 (w64 (a1 + a3))) (2 ^ (min (Int.toNat 1) (IntKind.bits .u64))))) + a2)) - n183))))) (wants_some (c := (decide (n183 < a2))) (b := true) 181 rfl rfl hb199) rfl rfl rfl rfl ?_
    refine aops_pick true (cb := (decide (n183 < a2))) (bV (decide (a2 < (w64 ((w64 ((w64 (Int.fdiv (IntKind.wrap .u64 (w64 (a1 + a3))) (2 ^ (min (Int.toNat 1) (IntKind.bits .u64))))) + a2)) - n183))))) wants_none rfl hb199 rfl rfl ?_
    refine an ?_
    replace h := jn_elim h
    obtain ⟨k200, hk200, h⟩ := h
    refine awp_cut (fun (p : (List TPublished)) => (⟨[(0, (V.own 0 p.length)), (1, (iV a1)), (3, (iV a3)), (4, (V.fn (.func 137) [] [])), (18, (iV (w64 (Int.fdiv (IntKind.wrap .u64 (w64 (a1 + a3))) (2 ^ (min (Int.toNat 1) (IntKind.bits .u64))))))), (20, (iV n183)), (24, (iV (w64 ((w64 ((w64 (Int.fdiv (IntKind.wrap .u64 (w64 (a1 + a3))) (2 ^ (min (Int.toNat 1) (IntKind.bits .u64))))) + a2)) - n183))))], [(0, (Ob.arr 137 3 (p.map encTPublished)))], 1⟩ : St)) (fun (p : (List TPublished)) => k200 p = some r) ?_ ?_
    · clear hk200
      refine awp_cond (decide (a2 < (w64 ((w64 ((w64 (Int.fdiv (IntKind.wrap .u64 (w64 (a1 + a3))) (2 ^ (min (Int.toNat 1) (IntKind.bits .u64))))) + a2)) - n183)))) rfl (fun hb202 => ?_) (fun hb202 => ?_)
      · replace h := ite_t hb202 h
        refine rg ?_
        refine am (V.own 0 a4.length) rfl rfl ?_
        refine am (iV n183) rfl rfl ?_
        refine am (iV a2) rfl rfl ?_
        refine am (iV (w64 ((w64 ((w64 (Int.fdiv (IntKind.wrap .u64 (w64 (a1 + a3))) (2 ^ (min (Int.toNat 1) (IntKind.bits .u64))))) + a2)) - n183))) rfl rfl ?_
        refine am (V.fn (.func 137) [] []) rfl rfl ?_
        replace h := bind_some h
        obtain ⟨y203, hx204, h⟩ := h
        replace h := chk_some h
        obtain ⟨hc205, h⟩ := h
        refine aops_mcall (V.tup []) [(V.own 0 a4.length), (iV n183), (iV a2), (iV (w64 ((w64 ((w64 (Int.fdiv (IntKind.wrap .u64 (w64 (a1 + a3))) (2 ^ (min (Int.toNat 1) (IntKind.bits .u64))))) + a2)) - n183))), (V.fn (.func 137) [] [])] (fun i => ([0] : List Nat).getD i 0) (fun i => ([0] : List Nat).getD i 0) 1 1 [(0, (Ob.arr 137 3 (y203.map encTPublished)))] fOk182 wants_none rfl (evm_cons rfl (evm_cons rfl (evm_cons rfl (evm_cons rfl (evm_cons rfl evm_nil))))) (.cons (Sub.own rfl rfl) (.cons (Sub.imm (Imm.con _)) (.cons (Sub.imm (Imm.con _)) (.cons (Sub.imm (Imm.con _)) (.cons (Sub.imm (Imm.fn .nil .nil)) .nil))))) (.cons rfl (ObSub.rows (rows_imm imms_encTPublished)) .nil) (W182 F n183 a2 (w64 ((w64 ((w64 (Int.fdiv (IntKind.wrap .u64 (w64 (a1 + a3))) (2 ^ (min (Int.toNat 1) (IntKind.bits .u64))))) + a2)) - n183)) a4 y203 hx204) rfl rfl rfl rfl rfl (Sub.immT (Imm.tup .nil)) (.cons rfl (ObSub.rowsT (rows_imm imms_encTPublished)) .nil) ?_
        refine aops_ghost (ghost_tell 0 (V.own 0 y203.length) rfl (Sub.ownI hc205)) ?_
        refine aops_ghost (ghost_tell 186 (V.own 0 y203.length) rfl (Sub.ownI hc205)) ?_
        refine an ?_
        exact ⟨y203, h, (ghost_ren 1 (fun i => ([0] : List Nat).getD i 0) _ _ (by decide) (EnvSub.get (.cons (Sub.own rfl rfl) (.cons (Sub.imm (Imm.con _)) (.cons (Sub.imm (Imm.con _)) (.cons (Sub.imm (Imm.fn .nil .nil)) (.cons (Sub.imm (Imm.con _)) (.cons (Sub.imm (Imm.con _)) (.cons (Sub.imm (Imm.con _)) .nil)))))))) (HpSub.get (.cons rfl (ObSub.rows (rows_imm imms_encTPublished)) .nil)) rfl)⟩
      replace h := ite_f hb202 h
      refine awp_skip ?_
      exact ⟨a4, h, (ghost_ren 1 (fun i => ([0] : List Nat).getD i 0) _ _ (by decide) (EnvSub.get (.cons (Sub.own rfl rfl) (.cons (Sub.imm (Imm.con _)) (.cons (Sub.imm (Imm.con _)) (.cons (Sub.imm (Imm.fn .nil .nil)) (.cons (Sub.imm (Imm.con _)) (.cons (Sub.imm (Imm.con _)) (.cons (Sub.imm (Imm.con _)) .nil)))))))) (HpSub.get (.cons rfl (ObSub.rows (rows_imm imms_encTPublished)) .nil)) rfl)⟩
    clear h
    intro l201 h
    subst hk200
    refine sq ?_
    refine sr ?_
    refine am (iV a1) rfl rfl ?_
    refine am (iV n183) rfl rfl ?_
    refine aops_bin (.bool (decide (a1 < n183))) wants_none rfl rfl rfl rfl ?_
    refine am (bV (decide (a1 < n183))) rfl rfl ?_
    refine bsp (decide (a1 < n183)) (fun hb206 => ?_) (fun hb206 => ?_)
    · replace h := ite_t hb206 h
      refine aops_move (iV n183) (wants_some (c := (decide (a1 < n183))) (b := true) 195 rfl rfl hb206) rfl rfl ?_
      refine aops_move (iV (w64 (Int.fdiv (IntKind.wrap .u64 (w64 (a1 + a3))) (2 ^ (min (Int.toNat 1) (IntKind.bits .u64)))))) (wants_some (c := (decide (a1 < n183))) (b := true) 195 rfl rfl hb206) rfl rfl ?_
      refine aops_bin (.bool (decide (n183 < (w64 (Int.fdiv (IntKind.wrap .u64 (w64 (a1 + a3))) (2 ^ (min (Int.toNat 1) (IntKind.bits .u64)))))))) (wants_some (c := (decide (a1 < n183))) (b := true) 195 rfl rfl hb206) rfl rfl rfl rfl ?_
      refine aops_pick true (cb := (decide (a1 < n183))) (bV (decide (n183 < (w64 (Int.fdiv (IntKind.wrap .u64 (w64 (a1 + a3))) (2 ^ (min (Int.toNat 1) (IntKind.bits .u64)))))))) wants_none rfl hb206 rfl rfl ?_
      refine an ?_
      replace h := jn_elim h
      obtain ⟨k207, hk207, h⟩ := h
      refine awp_cut (fun (p : (List TPublished)) => (⟨[(0, (V.own 0 p.length)), (3, (iV a3)), (4, (V.fn (.func 137) [] [])), (18, (iV (w64 (Int.fdiv (IntKind.wrap .u64 (w64 (a1 + a3))) (2 ^ (min (Int.toNat 1) (IntKind.bits .u64))))))), (24, (iV (w64 ((w64 ((w64 (Int.fdiv (IntKind.wrap .u64 (w64 (a1 + a3))) (2 ^ (min (Int.toNat 1) (IntKind.bits .u64))))) + a2)) - n183))))], [(0, (Ob.arr 137 3 (p.map encTPublished)))], 1⟩ : St)) (fun (p : (List TPublished)) => k207 p = some r) ?_ ?_
      · clear hk207
        refine awp_cond (decide (n183 < (w64 (Int.fdiv (IntKind.wrap .u64 (w64 (a1 + a3))) (2 ^ (min (Int.toNat 1) (IntKind.bits .u64))))))) rfl (fun hb209 => ?_) (fun hb209 => ?_)
        · replace h := ite_t hb209 h
          refine rg ?_
          refine am (V.own 0 l201.length) rfl rfl ?_
          refine am (iV a1) rfl rfl ?_
          refine am (iV n183) rfl rfl ?_
          refine am (iV (w64 (Int.fdiv (IntKind.wrap .u64 (w64 (a1 + a3))) (2 ^ (min (Int.toNat 1) (IntKind.bits .u64)))))) rfl rfl ?_
          refine am (V.fn (.func 137) [] []) rfl rfl ?_
          replace h := bind_some h
          obtain ⟨y210, hx211, h⟩ := h
          replace h := chk_some h
          obtain ⟨hc212, h⟩ := h
          refine aops_mcall (V.tup []) [(V.own 0 l201.length), (iV a1), (iV n183), (iV (w64 (Int.fdiv (IntKind.wrap .u64 (w64 (a1 + a3))) (2 ^ (min (Int.toNat 1) (IntKind.bits .u64)))))), (V.fn (.func 137) [] [])] (fun i => ([0] : List Nat).getD i 0) (fun i => ([0] : List Nat).getD i 0) 1 1 [(0, (Ob.arr 137 3 (y210.map encTPublished)))] fOk174 wants_none rfl (evm_cons rfl (evm_cons rfl (evm_cons rfl (evm_cons rfl (evm_cons rfl evm_nil))))) (.cons (Sub.own rfl rfl) (.cons (Sub.imm (Imm.con _)) (.cons (Sub.imm (Imm.con _)) (.cons (Sub.imm (Imm.con _)) (.cons (Sub.imm (Imm.fn .nil .nil)) .nil))))) (.cons rfl (ObSub.rows (rows_imm imms_encTPublished)) .nil) (hR174 a1 n183 (w64 (Int.fdiv (IntKind.wrap .u64 (w64 (a1 + a3))) (2 ^ (min (Int.toNat 1) (IntKind.bits .u64))))) l201 _ hx211) rfl rfl rfl rfl rfl (Sub.immT (Imm.tup .nil)) (.cons rfl (ObSub.rowsT (rows_imm imms_encTPublished)) .nil) ?_
          refine aops_ghost (ghost_tell 0 (V.own 0 y210.length) rfl (Sub.ownI hc212)) ?_
          refine aops_ghost (ghost_tell 200 (V.own 0 y210.length) rfl (Sub.ownI hc212)) ?_
          refine an ?_
          exact ⟨y210, h, (ghost_ren 1 (fun i => ([0] : List Nat).getD i 0) _ _ (by decide) (EnvSub.get (.cons (Sub.own rfl rfl) (.cons (Sub.imm (Imm.con _)) (.cons (Sub.imm (Imm.fn .nil .nil)) (.cons (Sub.imm (Imm.con _)) (.cons (Sub.imm (Imm.con _)) .nil)))))) (HpSub.get (.cons rfl (ObSub.rows (rows_imm imms_encTPublished)) .nil)) rfl)⟩
        replace h := ite_f hb209 h
        refine awp_skip ?_
        exact ⟨l201, h, (ghost_ren 1 (fun i => ([0] : List Nat).getD i 0) _ _ (by decide) (EnvSub.get (.cons (Sub.own rfl rfl) (.cons (Sub.imm (Imm.con _)) (.cons (Sub.imm (Imm.fn .nil .nil)) (.cons (Sub.imm (Imm.con _)) (.cons (Sub.imm (Imm.con _)) .nil)))))) (HpSub.get (.cons rfl (ObSub.rows (rows_imm imms_encTPublished)) .nil)) rfl)⟩
      clear h
      intro l208 h
      subst hk207
      refine sr ?_
      refine am (iV (w64 (Int.fdiv (IntKind.wrap .u64 (w64 (a1 + a3))) (2 ^ (min (Int.toNat 1) (IntKind.bits .u64)))))) rfl rfl ?_
      refine am (iV (w64 ((w64 ((w64 (Int.fdiv (IntKind.wrap .u64 (w64 (a1 + a3))) (2 ^ (min (Int.toNat 1) (IntKind.bits .u64))))) + a2)) - n183))) rfl rfl ?_
      refine aops_bin (.bool (decide ((w64 (Int.fdiv (IntKind.wrap .u64 (w64 (a1 + a3))) (2 ^ (min (Int.toNat 1) (IntKind.bits .u64))))) < (w64 ((w64 ((w64 (Int.fdiv (IntKind.wrap .u64 (w64 (a1 + a3))) (2 ^ (min (Int.toNat 1) (IntKind.bits .u64))))) + a2)) - n183))))) wants_none rfl rfl rfl rfl ?_
      refine am (bV (decide ((w64 (Int.fdiv (IntKind.wrap .u64 (w64 (a1 + a3))) (2 ^ (min (Int.toNat 1) (IntKind.bits .u64))))) < (w64 ((w64 ((w64 (Int.fdiv (IntKind.wrap .u64 (w64 (a1 + a3))) (2 ^ (min (Int.toNat 1) (IntKind.bits .u64))))) + a2)) - n183))))) rfl rfl ?_
      refine bsp (decide ((w64 (Int.fdiv (IntKind.wrap .u64 (w64 (a1 + a3))) (2 ^ (min (Int.toNat 1) (IntKind.bits .u64))))) < (w64 ((w64 ((w64 (Int.fdiv (IntKind.wrap .u64 (w64 (a1 + a3))) (2 ^ (min (Int.toNat 1) (IntKind.bits .u64))))) + a2)) - n183)))) (fun hb213 => ?_) (fun hb213 => ?_)
      · replace h := ite_t hb213 h
        refine aops_move (iV (w64 ((w64 ((w64 (Int.fdiv (IntKind.wrap .u64 (w64 (a1 + a3))) (2 ^ (min (Int.toNat 1) (IntKind.bits .u64))))) + a2)) - n183))) (wants_some (c := (decide ((w64 (Int.fdiv (IntKind.wrap .u64 (w64 (a1 + a3))) (2 ^ (min (Int.toNat 1) (IntKind.bits .u64))))) < (w64 ((w64 ((w64 (Int.fdiv (IntKind.wrap .u64 (w64 (a1 + a3))) (2 ^ (min (Int.toNat 1) (IntKind.bits .u64))))) + a2)) - n183))))) (b := true) 209 rfl rfl hb213) rfl rfl ?_
        refine aops_move (iV a3) (wants_some (c := (decide ((w64 (Int.fdiv (IntKind.wrap .u64 (w64 (a1 + a3))) (2 ^ (min (Int.toNat 1) (IntKind.bits .u64))))) < (w64 ((w64 ((w64 (Int.fdiv (IntKind.wrap .u64 (w64 (a1 + a3))) (2 ^ (min (Int.toNat 1) (IntKind.bits .u64))))) + a2)) - n183))))) (b := true) 209 rfl rfl hb213) rfl rfl ?_
        refine aops_bin (.bool (decide ((w64 ((w64 ((w64 (Int.fdiv (IntKind.wrap .u64 (w64 (a1 + a3))) (2 ^ (min (Int.toNat 1) (IntKind.bits .u64))))) + a2)) - n183)) < a3))) (wants_some (c := (decide ((w64 (Int.fdiv (IntKind.wrap .u64 (w64 (a1 + a3))) (2 ^ (min (Int.toNat 1) (IntKind.bits .u64))))) < (w64 ((w64 ((w64 (Int.fdiv (IntKind.wrap .u64 (w64 (a1 + a3))) (2 ^ (min (Int.toNat 1) (IntKind.bits .u64))))) + a2)) - n183))))) (b := true) 209 rfl rfl hb213) rfl rfl rfl rfl ?_
        refine aops_pick true (cb := (decide ((w64 (Int.fdiv (IntKind.wrap .u64 (w64 (a1 + a3))) (2 ^ (min (Int.toNat 1) (IntKind.bits .u64))))) < (w64 ((w64 ((w64 (Int.fdiv (IntKind.wrap .u64 (w64 (a1 + a3))) (2 ^ (min (Int.toNat 1) (IntKind.bits .u64))))) + a2)) - n183))))) (bV (decide ((w64 ((w64 ((w64 (Int.fdiv (IntKind.wrap .u64 (w64 (a1 + a3))) (2 ^ (min (Int.toNat 1) (IntKind.bits .u64))))) + a2)) - n183)) < a3))) wants_none rfl hb213 rfl rfl ?_
        refine an ?_
        refine awp_cond (decide ((w64 ((w64 ((w64 (Int.fdiv (IntKind.wrap .u64 (w64 (a1 + a3))) (2 ^ (min (Int.toNat 1) (IntKind.bits .u64))))) + a2)) - n183)) < a3)) rfl (fun hb214 => ?_) (fun hb214 => ?_)
        · replace h := ite_t hb214 h
          refine rg ?_
          refine am (V.own 0 l208.length) rfl rfl ?_
          refine am (iV (w64 (Int.fdiv (IntKind.wrap .u64 (w64 (a1 + a3))) (2 ^ (min (Int.toNat 1) (IntKind.bits .u64)))))) rfl rfl ?_
          refine am (iV (w64 ((w64 ((w64 (Int.fdiv (IntKind.wrap .u64 (w64 (a1 + a3))) (2 ^ (min (Int.toNat 1) (IntKind.bits .u64))))) + a2)) - n183))) rfl rfl ?_
          refine am (iV a3) rfl rfl ?_
          refine am (V.fn (.func 137) [] []) rfl rfl ?_
          replace h := bind_some h
          obtain ⟨y215, hx216, h⟩ := h
          replace h := chk_some h
          obtain ⟨hc217, h⟩ := h
          refine aops_mcall (V.tup []) [(V.own 0 l208.length), (iV (w64 (Int.fdiv (IntKind.wrap .u64 (w64 (a1 + a3))) (2 ^ (min (Int.toNat 1) (IntKind.bits .u64)))))), (iV (w64 ((w64 ((w64 (Int.fdiv (IntKind.wrap .u64 (w64 (a1 + a3))) (2 ^ (min (Int.toNat 1) (IntKind.bits .u64))))) + a2)) - n183))), (iV a3), (V.fn (.func 137) [] [])] (fun i => ([0] : List Nat).getD i 0) (fun i => ([0] : List Nat).getD i 0) 1 1 [(0, (Ob.arr 137 3 (y215.map encTPublished)))] fOk174 wants_none rfl (evm_cons rfl (evm_cons rfl (evm_cons rfl (evm_cons rfl (evm_cons rfl evm_nil))))) (.cons (Sub.own rfl rfl) (.cons (Sub.imm (Imm.con _)) (.cons (Sub.imm (Imm.con _)) (.cons (Sub.imm (Imm.con _)) (.cons (Sub.imm (Imm.fn .nil .nil)) .nil))))) (.cons rfl (ObSub.rows (rows_imm imms_encTPublished)) .nil) (hR174 (w64 (Int.fdiv (IntKind.wrap .u64 (w64 (a1 + a3))) (2 ^ (min (Int.toNat 1) (IntKind.bits .u64))))) (w64 ((w64 ((w64 (Int.fdiv (IntKind.wrap .u64 (w64 (a1 + a3))) (2 ^ (min (Int.toNat 1) (IntKind.bits .u64))))) + a2)) - n183)) a3 l208 _ hx216) rfl rfl rfl rfl rfl (Sub.immT (Imm.tup .nil)) (.cons rfl (ObSub.rowsT (rows_imm imms_encTPublished)) .nil) ?_
          refine aops_ghost (ghost_tell 0 (V.own 0 y215.length) rfl (Sub.ownI hc217)) ?_
          refine aops_ghost (ghost_tell 214 (V.own 0 y215.length) rfl (Sub.ownI hc217)) ?_
          refine an ?_
          replace h := Option.some.inj h
          subst h
          exact ⟨.inr rfl, [], (ghost_ren 1 (fun i => ([0] : List Nat).getD i 0) _ _ (by decide) (EnvSub.get .nil) (HpSub.get (.cons rfl (ObSub.rows (rows_imm imms_encTPublished)) .nil)) rfl), .nil⟩
        replace h := ite_f hb214 h
        refine awp_skip ?_
        replace h := Option.some.inj h
        subst h
        exact ⟨.inr rfl, [], (ghost_ren 1 (fun i => ([0] : List Nat).getD i 0) _ _ (by decide) (EnvSub.get .nil) (HpSub.get (.cons rfl (ObSub.rows (rows_imm imms_encTPublished)) .nil)) rfl), .nil⟩
      replace h := ite_f hb213 h
      refine aops_skips 3 3 209 true (c := (decide ((w64 (Int.fdiv (IntKind.wrap .u64 (w64 (a1 + a3))) (2 ^ (min (Int.toNat 1) (IntKind.bits .u64))))) < (w64 ((w64 ((w64 (Int.fdiv (IntKind.wrap .u64 (w64 (a1 + a3))) (2 ^ (min (Int.toNat 1) (IntKind.bits .u64))))) + a2)) - n183))))) (b := false) rfl rfl hb213 rfl rfl ?_
      refine aops_pick false (cb := (decide ((w64 (Int.fdiv (IntKind.wrap .u64 (w64 (a1 + a3))) (2 ^ (min (Int.toNat 1) (IntKind.bits .u64))))) < (w64 ((w64 ((w64 (Int.fdiv (IntKind.wrap .u64 (w64 (a1 + a3))) (2 ^ (min (Int.toNat 1) (IntKind.bits .u64))))) + a2)) - n183))))) (bV false) wants_none rfl hb213 rfl rfl ?_
      refine an ?_
      refine awp_cond_f rfl rfl ?_
      refine awp_skip ?_
      replace h := Option.some.inj h
      subst h
      exact ⟨.inr rfl, [], (ghost_ren 1 (fun i => ([0] : List Nat).getD i 0) _ _ (by decide) (EnvSub.get .nil) (HpSub.get (.cons rfl (ObSub.rows (rows_imm imms_encTPublished)) .nil)) rfl), .nil⟩
    replace h := ite_f hb206 h
    refine aops_skips 3 3 195 true (c := (decide (a1 < n183))) (b := false) rfl rfl hb206 rfl rfl ?_
    refine aops_pick false (cb := (decide (a1 < n183))) (bV false) wants_none rfl hb206 rfl rfl ?_
    refine an ?_
    refine awp_cond_f rfl rfl ?_
    refine awp_skip ?_
    refine sr ?_
    refine am (iV (w64 (Int.fdiv (IntKind.wrap .u64 (w64 (a1 + a3))) (2 ^ (min (Int.toNat 1) (IntKind.bits .u64)))))) rfl rfl ?_
    refine am (iV (w64 ((w64 ((w64 (Int.fdiv (IntKind.wrap .u64 (w64 (a1 + a3))) (2 ^ (min (Int.toNat 1) (IntKind.bits .u64))))) + a2)) - n183))) rfl rfl ?_
    refine aops_bin (.bool (decide ((w64 (Int.fdiv (IntKind.wrap .u64 (w64 (a1 + a3))) (2 ^ (min (Int.toNat 1) (IntKind.bits .u64))))) < (w64 ((w64 ((w64 (Int.fdiv (IntKind.wrap .u64 (w64 (a1 + a3))) (2 ^ (min (Int.toNat 1) (IntKind.bits .u64))))) + a2)) - n183))))) wants_none rfl rfl rfl rfl ?_
    refine am (bV (decide ((w64 (Int.fdiv (IntKind.wrap .u64 (w64 (a1 + a3))) (2 ^ (min (Int.toNat 1) (IntKind.bits .u64))))) < (w64 ((w64 ((w64 (Int.fdiv (IntKind.wrap .u64 (w64 (a1 + a3))) (2 ^ (min (Int.toNat 1) (IntKind.bits .u64))))) + a2)) - n183))))) rfl rfl ?_
    refine bsp (decide ((w64 (Int.fdiv (IntKind.wrap .u64 (w64 (a1 + a3))) (2 ^ (min (Int.toNat 1) (IntKind.bits .u64))))) < (w64 ((w64 ((w64 (Int.fdiv (IntKind.wrap .u64 (w64 (a1 + a3))) (2 ^ (min (Int.toNat 1) (IntKind.bits .u64))))) + a2)) - n183)))) (fun hb218 => ?_) (fun hb218 => ?_)
    · replace h := ite_t hb218 h
      refine aops_move (iV (w64 ((w64 ((w64 (Int.fdiv (IntKind.wrap .u64 (w64 (a1 + a3))) (2 ^ (min (Int.toNat 1) (IntKind.bits .u64))))) + a2)) - n183))) (wants_some (c := (decide ((w64 (Int.fdiv (IntKind.wrap .u64 (w64 (a1 + a3))) (2 ^ (min (Int.toNat 1) (IntKind.bits .u64))))) < (w64 ((w64 ((w64 (Int.fdiv (IntKind.wrap .u64 (w64 (a1 + a3))) (2 ^ (min (Int.toNat 1) (IntKind.bits .u64))))) + a2)) - n183))))) (b := true) 209 rfl rfl hb218) rfl rfl ?_
      refine aops_move (iV a3) (wants_some (c := (decide ((w64 (Int.fdiv (IntKind.wrap .u64 (w64 (a1 + a3))) (2 ^ (min (Int.toNat 1) (IntKind.bits .u64))))) < (w64 ((w64 ((w64 (Int.fdiv (IntKind.wrap .u64 (w64 (a1 + a3))) (2 ^ (min (Int.toNat 1) (IntKind.bits .u64))))) + a2)) - n183))))) (b := true) 209 rfl rfl hb218) rfl rfl ?_
      refine aops_bin (.bool (decide ((w64 ((w64 ((w64 (Int.fdiv (IntKind.wrap .u64 (w64 (a1 + a3))) (2 ^ (min (Int.toNat 1) (IntKind.bits .u64))))) + a2)) - n183)) < a3))) (wants_some (c := (decide ((w64 (Int.fdiv (IntKind.wrap .u64 (w64 (a1 + a3))) (2 ^ (min (Int.toNat 1) (IntKind.bits .u64))))) < (w64 ((w64 ((w64 (Int.fdiv (IntKind.wrap .u64 (w64 (a1 + a3))) (2 ^ (min (Int.toNat 1) (IntKind.bits .u64))))) + a2)) - n183))))) (b := true) 209 rfl rfl hb218) rfl rfl rfl rfl ?_
      refine aops_pick true (cb := (decide ((w64 (Int.fdiv (IntKind.wrap .u64 (w64 (a1 + a3))) (2 ^ (min (Int.toNat 1) (IntKind.bits .u64))))) < (w64 ((w64 ((w64 (Int.fdiv (IntKind.wrap .u64 (w64 (a1 + a3))) (2 ^ (min (Int.toNat 1) (IntKind.bits .u64))))) + a2)) - n183))))) (bV (decide ((w64 ((w64 ((w64 (Int.fdiv (IntKind.wrap .u64 (w64 (a1 + a3))) (2 ^ (min (Int.toNat 1) (IntKind.bits .u64))))) + a2)) - n183)) < a3))) wants_none rfl hb218 rfl rfl ?_
      refine an ?_
      refine awp_cond (decide ((w64 ((w64 ((w64 (Int.fdiv (IntKind.wrap .u64 (w64 (a1 + a3))) (2 ^ (min (Int.toNat 1) (IntKind.bits .u64))))) + a2)) - n183)) < a3)) rfl (fun hb219 => ?_) (fun hb219 => ?_)
      · replace h := ite_t hb219 h
        refine rg ?_
        refine am (V.own 0 l201.length) rfl rfl ?_
        refine am (iV (w64 (Int.fdiv (IntKind.wrap .u64 (w64 (a1 + a3))) (2 ^ (min (Int.toNat 1) (IntKind.bits .u64)))))) rfl rfl ?_
        refine am (iV (w64 ((w64 ((w64 (Int.fdiv (IntKind.wrap .u64 (w64 (a1 + a3))) (2 ^ (min (Int.toNat 1) (IntKind.bits .u64))))) + a2)) - n183))) rfl rfl ?_
        refine am (iV a3) rfl rfl ?_
        refine am (V.fn (.func 137) [] []) rfl rfl ?_
        replace h := bind_some h
        obtain ⟨y220, hx221, h⟩ := h
        replace h := chk_some h
        obtain ⟨hc222, h⟩ := h
        refine aops_mcall (V.tup []) [(V.own 0 l201.length), (iV (w64 (Int.fdiv (IntKind.wrap .u64 (w64 (a1 + a3))) (2 ^ (min (Int.toNat 1) (IntKind.bits .u64)))))), (iV (w64 ((w64 ((w64 (Int.fdiv (IntKind.wrap .u64 (w64 (a1 + a3))) (2 ^ (min (Int.toNat 1) (IntKind.bits .u64))))) + a2)) - n183))), (iV a3), (V.fn (.func 137) [] [])] (fun i => ([0] : List Nat).getD i 0) (fun i => ([0] : List Nat).getD i 0) 1 1 [(0, (Ob.arr 137 3 (y220.map encTPublished)))] fOk174 wants_none rfl (evm_cons rfl (evm_cons rfl (evm_cons rfl (evm_cons rfl (evm_cons rfl evm_nil))))) (.cons (Sub.own rfl rfl) (.cons (Sub.imm (Imm.con _)) (.cons (Sub.imm (Imm.con _)) (.cons (Sub.imm (Imm.con _)) (.cons (Sub.imm (Imm.fn .nil .nil)) .nil))))) (.cons rfl (ObSub.rows (rows_imm imms_encTPublished)) .nil) (hR174 (w64 (Int.fdiv (IntKind.wrap .u64 (w64 (a1 + a3))) (2 ^ (min (Int.toNat 1) (IntKind.bits .u64))))) (w64 ((w64 ((w64 (Int.fdiv (IntKind.wrap .u64 (w64 (a1 + a3))) (2 ^ (min (Int.toNat 1) (IntKind.bits .u64))))) + a2)) - n183)) a3 l201 _ hx221) rfl rfl rfl rfl rfl (Sub.immT (Imm.tup .nil)) (.cons rfl (ObSub.rowsT (rows_imm imms_encTPublished)) .nil) ?_
        refine aops_ghost (ghost_tell 0 (V.own 0 y220.length) rfl (Sub.ownI hc222)) ?_
        refine aops_ghost (ghost_tell 214 (V.own 0 y220.length) rfl (Sub.ownI hc222)) ?_
        refine an ?_
        replace h := Option.some.inj h
        subst h
        exact ⟨.inr rfl, [], (ghost_ren 1 (fun i => ([0] : List Nat).getD i 0) _ _ (by decide) (EnvSub.get .nil) (HpSub.get (.cons rfl (ObSub.rows (rows_imm imms_encTPublished)) .nil)) rfl), .nil⟩
      replace h := ite_f hb219 h
      refine awp_skip ?_
      replace h := Option.some.inj h
      subst h
      exact ⟨.inr rfl, [], (ghost_ren 1 (fun i => ([0] : List Nat).getD i 0) _ _ (by decide) (EnvSub.get .nil) (HpSub.get (.cons rfl (ObSub.rows (rows_imm imms_encTPublished)) .nil)) rfl), .nil⟩
    replace h := ite_f hb218 h
    refine aops_skips 3 3 209 true (c := (decide ((w64 (Int.fdiv (IntKind.wrap .u64 (w64 (a1 + a3))) (2 ^ (min (Int.toNat 1) (IntKind.bits .u64))))) < (w64 ((w64 ((w64 (Int.fdiv (IntKind.wrap .u64 (w64 (a1 + a3))) (2 ^ (min (Int.toNat 1) (IntKind.bits .u64))))) + a2)) - n183))))) (b := false) rfl rfl hb218 rfl rfl ?_
    refine aops_pick false (cb := (decide ((w64 (Int.fdiv (IntKind.wrap .u64 (w64 (a1 + a3))) (2 ^ (min (Int.toNat 1) (IntKind.bits .u64))))) < (w64 ((w64 ((w64 (Int.fdiv (IntKind.wrap .u64 (w64 (a1 + a3))) (2 ^ (min (Int.toNat 1) (IntKind.bits .u64))))) + a2)) - n183))))) (bV false) wants_none rfl hb218 rfl rfl ?_
    refine an ?_
    refine awp_cond_f rfl rfl ?_
    refine awp_skip ?_
    replace h := Option.some.inj h
    subst h
    exact ⟨.inr rfl, [], (ghost_ren 1 (fun i => ([0] : List Nat).getD i 0) _ _ (by decide) (EnvSub.get .nil) (HpSub.get (.cons rfl (ObSub.rows (rows_imm imms_encTPublished)) .nil)) rfl), .nil⟩
  replace h := ite_f hb199 h
  refine aops_skips 3 3 181 true (c := (decide (n183 < a2))) (b := false) rfl rfl hb199 rfl rfl ?_
  refine aops_pick false (cb := (decide (n183 < a2))) (bV false) wants_none rfl hb199 rfl rfl ?_
  refine an ?_
  refine awp_cond_f rfl rfl ?_
  refine awp_skip ?_
  refine sq ?_
  refine sr ?_
  refine am (iV a1) rfl rfl ?_
  refine am (iV n183) rfl rfl ?_
  refine aops_bin (.bool (decide (a1 < n183))) wants_none rfl rfl rfl rfl ?_
  refine am (bV (decide (a1 < n183))) rfl rfl ?_
  refine bsp (decide (a1 < n183)) (fun hb223 => ?_) (fun hb223 => ?_)
  · replace h := ite_t hb223 h
    refine aops_move (iV n183) (wants_some (c := (decide (a1 < n183))) (b := true) 195 rfl rfl hb223) rfl rfl ?_
    refine aops_move (iV (w64 (Int.fdiv (IntKind.wrap .u64 (w64 (a1 + a3))) (2 ^ (min (Int.toNat 1) (IntKind.bits .u64)))))) (wants_some (c := (decide (a1 < n183))) (b := true) 195 rfl rfl hb223) rfl rfl ?_
    refine aops_bin (.bool (decide (n183 < (w64 (Int.fdiv (IntKind.wrap .u64 (w64 (a1 + a3))) (2 ^ (min (Int.toNat 1) (IntKind.bits .u64)))))))) (wants_some (c := (decide (a1 < n183))) (b := true) 195 rfl rfl hb223) rfl rfl rfl rfl ?_
    refine aops_pick true (cb := (decide (a1 < n183))) (bV (decide (n183 < (w64 (Int.fdiv (IntKind.wrap .u64 (w64 (a1 + a3))) (2 ^ (min (Int.toNat 1) (IntKind.bits .u64)))))))) wants_none rfl hb223 rfl rfl ?_
    refine an ?_
    replace h := jn_elim h
    obtain ⟨k224, hk224, h⟩ := h
    refine awp_cut (fun (p : (List TPublished)) => (⟨[(0, (V.own 0 p.length)), (3, (iV a3)), (4, (V.fn (.func 137) [] [])), (18, (iV (w64 (Int.fdiv (IntKind.wrap .u64 (w64 (a1 + a3))) (2 ^ (min (Int.toNat 1) (IntKind.bits .u64))))))), (24, (iV (w64 ((w64 ((w64 (Int.fdiv (IntKind.wrap .u64 (w64 (a1 + a3))) (2 ^ (min (Int.toNat 1) (IntKind.bits .u64))))) + a2)) - n183))))], [(0, (Ob.arr 137 3 (p.map encTPublished)))], 1⟩ : St)) (fun (p : (List TPublished)) => k224 p = some r) ?_ ?_
    · clear hk224
      refine awp_cond (decide (n183 < (w64 (Int.fdiv (IntKind.wrap .u64 (w64 (a1 + a3))) (2 ^ (min (Int.toNat 1) (IntKind.bits .u64))))))) rfl (fun hb226 => ?_) (fun hb226 => ?_)
      · replace h := ite_t hb226 h
        refine rg ?_
        refine am (V.own 0 a4.length) rfl rfl ?_
        refine am (iV a1) rfl rfl ?_
        refine am (iV n183) rfl rfl ?_
        refine am (iV (w64 (Int.fdiv (IntKind.wrap .u64 (w64 (a1 + a3))) (2 ^ (min (Int.toNat 1) (IntKind.bits .u64)))))) rfl rfl ?_
        refine am (V.fn (.func 137) [] []) rfl rfl ?_
        replace h := bind_some h
        obtain ⟨y227, hx228, h⟩ := h
        replace h := chk_some h
        obtain ⟨hc229, h⟩ := h
        refine aops_mcall (V.tup []) [(V.own 0 a4.length), (iV a1), (iV n183), (iV (w64 (Int.fdiv (IntKind.wrap .u64 (w64 (a1 + a3))) (2 ^ (min (Int.toNat 1) (IntKind.bits .u64)))))), (V.fn (.func 137) [] [])] (fun i => ([0] : List Nat).getD i 0) (fun i => ([0] : List Nat).getD i 0) 1 1 [(0, (Ob.arr 137 3 (y227.map encTPublished)))] fOk174 wants_none rfl (evm_cons rfl (evm_cons rfl (evm_cons rfl (evm_cons rfl (evm_cons rfl evm_nil))))) (.cons (Sub.own rfl rfl) (.cons (Sub.imm (Imm.con _)) (.cons (Sub.imm (Imm.con _)) (.cons (Sub.imm (Imm.con _)) (.cons (Sub.imm (Imm.fn .nil .nil)) .nil))))) (.cons rfl (ObSub.rows (rows_imm imms_encTPublished)) .nil) (hR174 a1 n183 (w64 (Int.fdiv (IntKind.wrap .u64 (w64 (a1 + a3))) (2 ^ (min (Int.toNat 1) (IntKind.bits .u64))))) a4 _ hx228) rfl rfl rfl rfl rfl (Sub.immT (Imm.tup .nil)) (.cons rfl (ObSub.rowsT (rows_imm imms_encTPublished)) .nil) ?_
        refine aops_ghost (ghost_tell 0 (V.own 0 y227.length) rfl (Sub.ownI hc229)) ?_
        refine aops_ghost (ghost_tell 200 (V.own 0 y227.length) rfl (Sub.ownI hc229)) ?_
        refine an ?_
        exact ⟨y227, h, (ghost_ren 1 (fun i => ([0] : List Nat).getD i 0) _ _ (by decide) (EnvSub.get (.cons (Sub.own rfl rfl) (.cons (Sub.imm (Imm.con _)) (.cons (Sub.imm (Imm.fn .nil .nil)) (.cons (Sub.imm (Imm.con _)) (.cons (Sub.imm (Imm.con _)) .nil)))))) (HpSub.get (.cons rfl (ObSub.rows (rows_imm imms_encTPublished)) .nil)) rfl)⟩
      replace h := ite_f hb226 h
      refine awp_skip ?_
      exact ⟨a4, h, (ghost_ren 1 (fun i => ([0] : List Nat).getD i 0) _ _ (by decide) (EnvSub.get (.cons (Sub.own rfl rfl) (.cons (Sub.imm (Imm.con _)) (.cons (Sub.imm (Imm.fn .nil .nil)) (.cons (Sub.imm (Imm.con _)) (.cons (Sub.imm (Imm.con _)) .nil)))))) (HpSub.get (.cons rfl (ObSub.rows (rows_imm imms_encTPublished)) .nil)) rfl)⟩
    clear h
    intro l225 h
    subst hk224
    refine sr ?_
    refine am (iV (w64 (Int.fdiv (IntKind.wrap .u64 (w64 (a1 + a3))) (2 ^ (min (Int.toNat 1) (IntKind.bits .u64)))))) rfl rfl ?_
    refine am (iV (w64 ((w64 ((w64 (Int.fdiv (IntKind.wrap .u64 (w64 (a1 + a3))) (2 ^ (min (Int.toNat 1) (IntKind.bits .u64))))) + a2)) - n183))) rfl rfl ?_
    refine aops_bin (.bool (decide ((w64 (Int.fdiv (IntKind.wrap .u64 (w64 (a1 + a3))) (2 ^ (min (Int.toNat 1) (IntKind.bits .u64))))) < (w64 ((w64 ((w64 (Int.fdiv (IntKind.wrap .u64 (w64 (a1 + a3))) (2 ^ (min (Int.toNat 1) (IntKind.bits .u64))))) + a2)) - n183))))) wants_none rfl rfl rfl rfl ?_
    refine am (bV (decide ((w64 (Int.fdiv (IntKind.wrap .u64 (w64 (a1 + a3))) (2 ^ (min (Int.toNat 1) (IntKind.bits .u64))))) < (w64 ((w64 ((w64 (Int.fdiv (IntKind.wrap .u64 (w64 (a1 + a3))) (2 ^ (min (Int.toNat 1) (IntKind.bits .u64))))) + a2)) - n183))))) rfl rfl ?_
    refine bsp (decide ((w64 (Int.fdiv (IntKind.wrap .u64 (w64 (a1 + a3))) (2 ^ (min (Int.toNat 1) (IntKind.bits .u64))))) < (w64 ((w64 ((w64 (Int.fdiv (IntKind.wrap .u64 (w64 (a1 + a3))) (2 ^ (min (Int.toNat 1) (IntKind.bits .u64))))) + a2)) - n183)))) (fun hb230 => ?_) (fun hb230 => ?_)
    · replace h := ite_t hb230 h
      refine aops_move (iV (w64 ((w64 ((w64 (Int.fdiv (IntKind.wrap .u64 (w64 (a1 + a3))) (2 ^ (min (Int.toNat 1) (IntKind.bits .u64))))) + a2)) - n183))) (wants_some (c := (decide ((w64 (Int.fdiv (IntKind.wrap .u64 (w64 (a1 + a3))) (2 ^ (min (Int.toNat 1) (IntKind.bits .u64))))) < (w64 ((w64 ((w64 (Int.fdiv (IntKind.wrap .u64 (w64 (a1 + a3))) (2 ^ (min (Int.toNat 1) (IntKind.bits .u64))))) + a2)) - n183))))) (b := true) 209 rfl rfl hb230) rfl rfl ?_
      refine aops_move (iV a3) (wants_some (c := (decide ((w64 (Int.fdiv (IntKind.wrap .u64 (w64 (a1 + a3))) (2 ^ (min (Int.toNat 1) (IntKind.bits .u64))))) < (w64 ((w64 ((w64 (Int.fdiv (IntKind.wrap .u64 (w64 (a1 + a3))) (2 ^ (min (Int.toNat 1) (IntKind.bits .u64))))) + a2)) - n183))))) (b := true) 209 rfl rfl hb230) rfl rfl ?_
      refine aops_bin (.bool (decide ((w64 ((w64 ((w64 (Int.fdiv (IntKind.wrap .u64 (w64 (a1 + a3))) (2 ^ (min (Int.toNat 1) (IntKind.bits .u64))))) + a2)) - n183)) < a3))) (wants_some (c := (decide ((w64 (Int.fdiv (IntKind.wrap .u64 (w64 (a1 + a3))) (2 ^ (min (Int.toNat 1) (IntKind.bits .u64))))) < (w64 ((w64 ((w64 (Int.fdiv (IntKind.wrap .u64 (w64 (a1 + a3))) (2 ^ (min (Int.toNat 1) (IntKind.bits .u64))))) + a2)) - n183))))) (b := true) 209 rfl rfl hb230) rfl rfl rfl rfl ?_
      refine aops_pick true (cb := (decide ((w64 (Int.fdiv (IntKind.wrap .u64 (w64 (a1 + a3))) (2 ^ (min (Int.toNat 1) (IntKind.bits .u64))))) < (w64 ((w64 ((w64 (Int.fdiv (IntKind.wrap .u64 (w64 (a1 + a3))) (2 ^ (min (Int.toNat 1) (IntKind.bits .u64))))) + a2)) - n183))))) (bV (decide ((w64 ((w64 ((w64 (Int.fdiv (IntKind.wrap .u64 (w64 (a1 + a3))) (2 ^ (min (Int.toNat 1) (IntKind.bits .u64))))) + a2)) - n183)) < a3))) wants_none rfl hb230 rfl rfl ?_
      refine an ?_
      refine awp_cond (decide ((w64 ((w64 ((w64 (Int.fdiv (IntKind.wrap .u64 (w64 (a1 + a3))) (2 ^ (min (Int.toNat 1) (IntKind.bits .u64))))) + a2)) - n183)) < a3)) rfl (fun hb231 => ?_) (fun hb231 => ?_)
      · replace h := ite_t hb231 h
        refine rg ?_
        refine am (V.own 0 l225.length) rfl rfl ?_
        refine am (iV (w64 (Int.fdiv (IntKind.wrap .u64 (w64 (a1 + a3))) (2 ^ (min (Int.toNat 1) (IntKind.bits .u64)))))) rfl rfl ?_
        refine am (iV (w64 ((w64 ((w64 (Int.fdiv (IntKind.wrap .u64 (w64 (a1 + a3))) (2 ^ (min (Int.toNat 1) (IntKind.bits .u64))))) + a2)) - n183))) rfl rfl ?_
        refine am (iV a3) rfl rfl ?_
        refine am (V.fn (.func 137) [] []) rfl rfl ?_
        replace h := bind_some h
        obtain ⟨y232, hx233, h⟩ := h
        replace h := chk_some h
        obtain ⟨hc234, h⟩ := h
        refine aops_mcall (V.tup []) [(V.own 0 l225.length), (iV (w64 (Int.fdiv (IntKind.wrap .u64 (w64 (a1 + a3))) (2 ^ (min (Int.toNat 1) (IntKind.bits .u64)))))), (iV (w64 ((w64 ((w64 (Int.fdiv (IntKind.wrap .u64 (w64 (a1 + a3))) (2 ^ (min (Int.toNat 1) (IntKind.bits .u64))))) + a2)) - n183))), (iV a3), (V.fn (.func 137) [] [])] (fun i => ([0] : List Nat).getD i 0) (fun i => ([0] : List Nat).getD i 0) 1 1 [(0, (Ob.arr 137 3 (y232.map encTPublished)))] fOk174 wants_none rfl (evm_cons rfl (evm_cons rfl (evm_cons rfl (evm_cons rfl (evm_cons rfl evm_nil))))) (.cons (Sub.own rfl rfl) (.cons (Sub.imm (Imm.con _)) (.cons (Sub.imm (Imm.con _)) (.cons (Sub.imm (Imm.con _)) (.cons (Sub.imm (Imm.fn .nil .nil)) .nil))))) (.cons rfl (ObSub.rows (rows_imm imms_encTPublished)) .nil) (hR174 (w64 (Int.fdiv (IntKind.wrap .u64 (w64 (a1 + a3))) (2 ^ (min (Int.toNat 1) (IntKind.bits .u64))))) (w64 ((w64 ((w64 (Int.fdiv (IntKind.wrap .u64 (w64 (a1 + a3))) (2 ^ (min (Int.toNat 1) (IntKind.bits .u64))))) + a2)) - n183)) a3 l225 _ hx233) rfl rfl rfl rfl rfl (Sub.immT (Imm.tup .nil)) (.cons rfl (ObSub.rowsT (rows_imm imms_encTPublished)) .nil) ?_
        refine aops_ghost (ghost_tell 0 (V.own 0 y232.length) rfl (Sub.ownI hc234)) ?_
        refine aops_ghost (ghost_tell 214 (V.own 0 y232.length) rfl (Sub.ownI hc234)) ?_
        refine an ?_
        replace h := Option.some.inj h
        subst h
        exact ⟨.inr rfl, [], (ghost_ren 1 (fun i => ([0] : List Nat).getD i 0) _ _ (by decide) (EnvSub.get .nil) (HpSub.get (.cons rfl (ObSub.rows (rows_imm imms_encTPublished)) .nil)) rfl), .nil⟩
      replace h := ite_f hb231 h
      refine awp_skip ?_
      replace h := Option.some.inj h
      subst h
      exact ⟨.inr rfl, [], (ghost_ren 1 (fun i => ([0] : List Nat).getD i 0) _ _ (by decide) (EnvSub.get .nil) (HpSub.get (.cons rfl (ObSub.rows (rows_imm imms_encTPublished)) .nil)) rfl), .nil⟩
    replace h := ite_f hb230 h
    refine aops_skips 3 3 209 true (c := (decide ((w64 (Int.fdiv (IntKind.wrap .u64 (w64 (a1 + a3))) (2 ^ (min (Int.toNat 1) (IntKind.bits .u64))))) < (w64 ((w64 ((w64 (Int.fdiv (IntKind.wrap .u64 (w64 (a1 + a3))) (2 ^ (min (Int.toNat 1) (IntKind.bits .u64))))) + a2)) - n183))))) (b := false) rfl rfl hb230 rfl rfl ?_
    refine aops_pick false (cb := (decide ((w64 (Int.fdiv (IntKind.wrap .u64 (w64 (a1 + a3))) (2 ^ (min (Int.toNat 1) (IntKind.bits .u64))))) < (w64 ((w64 ((w64 (Int.fdiv (IntKind.wrap .u64 (w64 (a1 + a3))) (2 ^ (min (Int.toNat 1) (IntKind.bits .u64))))) + a2)) - n183))))) (bV false) wants_none rfl hb230 rfl rfl ?_
    refine an ?_
    refine awp_cond_f rfl rfl ?_
    refine awp_skip ?_
    replace h := Option.some.inj h
    subst h
    exact ⟨.inr rfl, [], (ghost_ren 1 (fun i => ([0] : List Nat).getD i 0) _ _ (by decide) (EnvSub.get .nil) (HpSub.get (.cons rfl (ObSub.rows (rows_imm imms_encTPublished)) .nil)) rfl), .nil⟩
  replace h := ite_f hb223 h
  refine aops_skips 3 3 195 true (c := (decide (a1 < n183))) (b := false) rfl rfl hb223 rfl rfl ?_
  refine aops_pick false (cb := (decide (a1 < n183))) (bV false) wants_none rfl hb223 rfl rfl ?_
  refine an ?_
  refine awp_cond_f rfl rfl ?_
  refine awp_skip ?_
  refine sr ?_
  refine am (iV (w64 (Int.fdiv (IntKind.wrap .u64 (w64 (a1 + a3))) (2 ^ (min (Int.toNat 1) (IntKind.bits .u64)))))) rfl rfl ?_
  refine am (iV (w64 ((w64 ((w64 (Int.fdiv (IntKind.wrap .u64 (w64 (a1 + a3))) (2 ^ (min (Int.toNat 1) (IntKind.bits .u64))))) + a2)) - n183))) rfl rfl ?_
  refine aops_bin (.bool (decide ((w64 (Int.fdiv (IntKind.wrap .u64 (w64 (a1 + a3))) (2 ^ (min (Int.toNat 1) (IntKind.bits .u64))))) < (w64 ((w64 ((w64 (Int.fdiv (IntKind.wrap .u64 (w64 (a1 + a3))) (2 ^ (min (Int.toNat 1) (IntKind.bits .u64))))) + a2)) - n183))))) wants_none rfl rfl rfl rfl ?_
  refine am (bV (decide ((w64 (Int.fdiv (IntKind.wrap .u64 (w64 (a1 + a3))) (2 ^ (min (Int.toNat 1) (IntKind.bits .u64))))) < (w64 ((w64 ((w64 (Int.fdiv (IntKind.wrap .u64 (w64 (a1 + a3))) (2 ^ (min (Int.toNat 1) (IntKind.bits .u64))))) + a2)) - n183))))) rfl rfl ?_
  refine bsp (decide ((w64 (Int.fdiv (IntKind.wrap .u64 (w64 (a1 + a3))) (2 ^ (min (Int.toNat 1) (IntKind.bits .u64))))) < (w64 ((w64 ((w64 (Int.fdiv (IntKind.wrap .u64 (w64 (a1 + a3))) (2 ^ (min (Int.toNat 1) (IntKind.bits .u64))))) + a2)) - n183)))) (fun hb235 => ?_) (fun hb235 => ?_)
  · replace h := ite_t hb235 h
    refine aops_move (iV (w64 ((w64 ((w64 (Int.fdiv (IntKind.wrap .u64 (w64 (a1 + a3))) (2 ^ (min (Int.toNat 1) (IntKind.bits .u64))))) + a2)) - n183))) (wants_some (c := (decide ((w64 (Int.fdiv (IntKind.wrap .u64 (w64 (a1 + a3))) (2 ^ (min (Int.toNat 1) (IntKind.bits .u64))))) < (w64 ((w64 ((w64 (Int.fdiv (IntKind.wrap .u64 (w64 (a1 + a3))) (2 ^ (min (Int.toNat 1) (IntKind.bits .u64))))) + a2)) - n183))))) (b := true) 209 rfl rfl hb235) rfl rfl ?_
    refine aops_move (iV a3) (wants_some (c := (decide ((w64 (Int.fdiv (IntKind.wrap .u64 (w64 (a1 + a3))) (2 ^ (min (Int.toNat 1) (IntKind.bits .u64))))) < (w64 ((w64 ((w64 (Int.fdiv (IntKind.wrap .u64 (w64 (a1 + a3))) (2 ^ (min (Int.toNat 1) (IntKind.bits .u64))))) + a2)) - n183))))) (b := true) 209 rfl rfl hb235) rfl rfl ?_
    refine aops_bin (.bool (decide ((w64 ((w64 ((w64 (Int.fdiv (IntKind.wrap .u64 (w64 (a1 + a3))) (2 ^ (min (Int.toNat 1) (IntKind.bits .u64))))) + a2)) - n183)) < a3))) (wants_some (c := (decide ((w64 (Int.fdiv (IntKind.wrap .u64 (w64 (a1 + a3))) (2 ^ (min (Int.toNat 1) (IntKind.bits .u64))))) < (w64 ((w64 ((w64 (Int.fdiv (IntKind.wrap .u64 (w64 (a1 + a3))) (2 ^ (min (Int.toNat 1) (IntKind.bits .u64))))) + a2)) - n183))))) (b := true) 209 rfl rfl hb235) rfl rfl rfl rfl ?_
    refine aops_pick true (cb := (decide ((w64 (Int.fdiv (IntKind.wrap .u64 (w64 (a1 + a3))) (2 ^ (min (Int.toNat 1) (IntKind.bits .u64))))) < (w64 ((w64 ((w64 (Int.fdiv (IntKind.wrap .u64 (w64 (a1 + a3))) (2 ^ (min (Int.toNat 1) (IntKind.bits .u64))))) + a2)) - n183))))) (bV (decide ((w64 ((w64 ((w64 (Int.fdiv (IntKind.wrap .u64 (w64 (a1 + a3))) (2 ^ (min (Int.toNat 1) (IntKind.bits .u64))))) + a2)) - n183)) < a3))) wants_none rfl hb235 rfl rfl ?_
    refine an ?_
    refine awp_cond (decide ((w64 ((w64 ((w64 (Int.fdiv (IntKind.wrap .u64 (w64 (a1 + a3))) (2 ^ (min (Int.toNat 1) (IntKind.bits .u64))))) + a2)) - n183)) < a3)) rfl (fun hb236 => ?_) (fun hb236 => ?_)
    · replace h := ite_t hb236 h
      refine rg ?_
      refine am (V.own 0 a4.length) rfl rfl ?_
      refine am (iV (w64 (Int.fdiv (IntKind.wrap .u64 (w64 (a1 + a3))) (2 ^ (min (Int.toNat 1) (IntKind.bits .u64)))))) rfl rfl ?_
      refine am (iV (w64 ((w64 ((w64 (Int.fdiv (IntKind.wrap .u64 (w64 (a1 + a3))) (2 ^ (min (Int.toNat 1) (IntKind.bits .u64))))) + a2)) - n183))) rfl rfl ?_
      refine am (iV a3) rfl rfl ?_
      refine am (V.fn (.func 137) [] []) rfl rfl ?_
      replace h := bind_some h
      obtain ⟨y237, hx238, h⟩ := h
      replace h := chk_some h
      obtain ⟨hc239, h⟩ := h
      refine aops_mcall (V.tup []) [(V.own 0 a4.length), (iV (w64 (Int.fdiv (IntKind.wrap .u64 (w64 (a1 + a3))) (2 ^ (min (Int.toNat 1) (IntKind.bits .u64)))))), (iV (w64 ((w64 ((w64 (Int.fdiv (IntKind.wrap .u64 (w64 (a1 + a3))) (2 ^ (min (Int.toNat 1) (IntKind.bits .u64))))) + a2)) - n183))), (iV a3), (V.fn (.func 137) [] [])] (fun i => ([0] : List Nat).getD i 0) (fun i => ([0] : List Nat).getD i 0) 1 1 [(0, (Ob.arr 137 3 (y237.map encTPublished)))] fOk174 wants_none rfl (evm_cons rfl (evm_cons rfl (evm_cons rfl (evm_cons rfl (evm_cons rfl evm_nil))))) (.cons (Sub.own rfl rfl) (.cons (Sub.imm (Imm.con _)) (.cons (Sub.imm (Imm.con _)) (.cons (Sub.imm (Imm.con _)) (.cons (Sub.imm (Imm.fn .nil .nil)) .nil))))) (.cons rfl (ObSub.rows (rows_imm imms_encTPublished)) .nil) (hR174 (w64 (Int.fdiv (IntKind.wrap .u64 (w64 (a1 + a3))) (2 ^ (min (Int.toNat 1) (IntKind.bits .u64))))) (w64 ((w64 ((w64 (Int.fdiv (IntKind.wrap .u64 (w64 (a1 + a3))) (2 ^ (min (Int.toNat 1) (IntKind.bits .u64))))) + a2)) - n183)) a3 a4 _ hx238) rfl rfl rfl rfl rfl (Sub.immT (Imm.tup .nil)) (.cons rfl (ObSub.rowsT (rows_imm imms_encTPublished)) .nil) ?_
      refine aops_ghost (ghost_tell 0 (V.own 0 y237.length) rfl (Sub.ownI hc239)) ?_
      refine aops_ghost (ghost_tell 214 (V.own 0 y237.length) rfl (Sub.ownI hc239)) ?_
      refine an ?_
      replace h := Option.some.inj h
      subst h
      exact ⟨.inr rfl, [], (ghost_ren 1 (fun i => ([0] : List Nat).getD i 0) _ _ (by decide) (EnvSub.get .nil) (HpSub.get (.cons rfl (ObSub.rows (rows_imm imms_encTPublished)) .nil)) rfl), .nil⟩
    replace h := ite_f hb236 h
    refine awp_skip ?_
    replace h := Option.some.inj h
    subst h
    exact ⟨.inr rfl, [], (ghost_ren 1 (fun i => ([0] : List Nat).getD i 0) _ _ (by decide) (EnvSub.get .nil) (HpSub.get (.cons rfl (ObSub.rows (rows_imm imms_encTPublished)) .nil)) rfl), .nil⟩
  replace h := ite_f hb235 h
  refine aops_skips 3 3 209 true (c := (decide ((w64 (Int.fdiv (IntKind.wrap .u64 (w64 (a1 + a3))) (2 ^ (min (Int.toNat 1) (IntKind.bits .u64))))) < (w64 ((w64 ((w64 (Int.fdiv (IntKind.wrap .u64 (w64 (a1 + a3))) (2 ^ (min (Int.toNat 1) (IntKind.bits .u64))))) + a2)) - n183))))) (b := false) rfl rfl hb235 rfl rfl ?_
  refine aops_pick false (cb := (decide ((w64 (Int.fdiv (IntKind.wrap .u64 (w64 (a1 + a3))) (2 ^ (min (Int.toNat 1) (IntKind.bits .u64))))) < (w64 ((w64 ((w64 (Int.fdiv (IntKind.wrap .u64 (w64 (a1 + a3))) (2 ^ (min (Int.toNat 1) (IntKind.bits .u64))))) + a2)) - n183))))) (bV false) wants_none rfl hb235 rfl rfl ?_
  refine an ?_
  refine awp_cond_f rfl rfl ?_
  refine awp_skip ?_
  replace h := Option.some.inj h
  subst h
  exact ⟨.inr rfl, [], (ghost_ren 1 (fun i => ([0] : List Nat).getD i 0) _ _ (by decide) (EnvSub.get .nil) (HpSub.get (.cons rfl (ObSub.rows (rows_imm imms_encTPublished)) .nil)) rfl), .nil⟩
theorem W174 : ∀ (F : Nat) (a1 : Int) (a2 : Int) (a3 : Int) (a4 : List TPublished) (r : (List TPublished)) (h : M174 F a1 a2 a3 a4 = some r), Mut Try.prog 174 [(V.own 0 a4.length), (iV a1), (iV a2), (iV a3), (V.fn (.func 137) [] [])] 1 [(0, (Ob.arr 137 3 (a4.map encTPublished)))] (resV []) 1 [(0, (Ob.arr 137 3 (r.map encTPublished)))] := by
  intro F
  induction F with
  | zero => intros; simp [M174] at *
  | succ F ih => exact fun a1 a2 a3 a4 r h => W174_B (M174 F) ih F a1 a2 a3 a4 r h
theorem W158 (F : Nat) (a1 : Int) (a2 : List TPublished) (r : (List TPublished)) (h : M158 F a1 a2 = some r) : Mut Try.prog 158 [(V.own 0 a2.length), (iV a1), (V.fn (.func 137) [] [])] 1 [(0, (Ob.arr 137 3 (a2.map encTPublished)))] (resV []) 1 [(0, (Ob.arr 137 3 (r.map encTPublished)))] := by
  refine mut_enter Try.func158 rfl rfl (l := []) rfl rfl [(0, (V.own 0 a2.length)), (1, (iV a1)), (2, (V.fn (.func 137) [] []))] rfl (fun w0 m0 β0 => ?_)
  unfold M158 at h
  refine sr ?_
  refine aa (iV 20) rfl rfl ?_
  refine an ?_
  refine sr ?_
  refine am (iV 20) rfl rfl ?_
  refine aa (iV 0) rfl rfl ?_
  refine aa (iV 20) rfl rfl ?_
  refine an ?_
  refine sq ?_
  replace h := jn_elim h
  obtain ⟨k46, hk46, h⟩ := h
  refine awp_cut (fun (p : Int × (List TPublished)) => (⟨[(0, (V.own 0 (p.2).length)), (1, (iV a1)), (2, (V.fn (.func 137) [] [])), (6, (iV 20)), (7, (iV (p.1)))], [(0, (Ob.arr 137 3 ((p.2).map encTPublished)))], 1⟩ : St)) (fun (p : Int × (List TPublished)) => k46 p.1 p.2 = some r) ?_ ?_
  · clear hk46
    refine awp_block ?_
    refine awp_loop_ind (fun (p : Int × Int × (List TPublished)) => (⟨[(0, (V.own 0 (p.2.2).length)), (1, (iV a1)), (2, (V.fn (.func 137) [] [])), (6, (iV 20)), (7, (iV (p.1))), (8, (iV (p.2.1)))], [(0, (Ob.arr 137 3 ((p.2.2).map encTPublished)))], 1⟩ : St)) (fun n (p : Int × Int × (List TPublished)) => M158_L1 F a1 k46 n p.1 p.2.1 p.2.2 = some r) (fun p h => by simp [M158_L1] at h) (fun n ih1 p h => ?_) F (0, 20, a2) h (ghost_ren 1 (fun i => ([0] : List Nat).getD i 0) _ _ (by decide) (EnvSub.get (.cons (Sub.own rfl rfl) (.cons (Sub.imm (Imm.con _)) (.cons (Sub.imm (Imm.fn .nil .nil)) (.cons (Sub.imm (Imm.con _)) (.cons (Sub.imm (Imm.con _)) (.cons (Sub.imm (Imm.con _)) .nil))))))) (HpSub.get (.cons rfl (ObSub.rows (rows_imm imms_encTPublished)) .nil)) rfl)
    obtain ⟨n52, n53, l54⟩ := p
    unfold M158_L1 at h
    refine awp_loop ?_
    refine sq ?_
    refine sr ?_
    refine am (iV n53) rfl rfl ?_
    refine am (iV a1) rfl rfl ?_
    refine aops_bin (.bool (decide (n53 ≤ a1))) wants_none rfl rfl rfl rfl ?_
    refine an ?_
    refine awp_cond (decide (n53 ≤ a1)) rfl (fun hb55 => ?_) (fun hb55 => ?_)
    · replace h := ite_t hb55 h
      refine awp_skip ?_
      refine awp_block ?_
      refine sr ?_
      refine am (V.own 0 l54.length) rfl rfl ?_
      refine am (iV n52) rfl rfl ?_
      refine am (iV n53) rfl rfl ?_
      refine am (V.fn (.func 137) [] []) rfl rfl ?_
      replace h := bind_some h
      obtain ⟨y56, hx57, h⟩ := h
      replace h := chk_some h
      obtain ⟨hc58, h⟩ := h
      refine aops_mcall (V.tup []) [(V.own 0 l54.length), (iV n52), (iV n53), (V.fn (.func 137) [] [])] (fun i => ([0] : List Nat).getD i 0) (fun i => ([0] : List Nat).getD i 0) 1 1 [(0, (Ob.arr 137 3 (y56.map encTPublished)))] fOk173 wants_none rfl (evm_cons rfl (evm_cons rfl (evm_cons rfl (evm_cons rfl evm_nil)))) (.cons (Sub.own rfl rfl) (.cons (Sub.imm (Imm.con _)) (.cons (Sub.imm (Imm.con _)) (.cons (Sub.imm (Imm.fn .nil .nil)) .nil)))) (.cons rfl (ObSub.rows (rows_imm imms_encTPublished)) .nil) (W173 F n52 n53 l54 y56 hx57) rfl rfl rfl rfl rfl (Sub.immT (Imm.tup .nil)) (.cons rfl (ObSub.rowsT (rows_imm imms_encTPublished)) .nil) ?_
      refine aops_ghost (ghost_tell 0 (V.own 0 y56.length) rfl (Sub.ownI hc58)) ?_
      refine aops_ghost (ghost_tell 14 (V.own 0 y56.length) rfl (Sub.ownI hc58)) ?_
      refine an ?_
      refine sr ?_
      refine am (iV n53) rfl rfl ?_
      refine aa (iV n53) rfl rfl ?_
      refine an ?_
      refine rg ?_
      refine am (iV n53) rfl rfl ?_
      refine am (iV 20) rfl rfl ?_
      refine aops_bin (.int .i64 (w64 (n53 + 20))) wants_none rfl rfl rfl rfl ?_
      refine aa (iV (w64 (n53 + 20))) rfl rfl ?_
      refine an ?_
      exact awp_back (ih1 (n53, (w64 (n53 + 20)), y56) h) (ghost_ren 1 (fun i => ([0] : List Nat).getD i 0) _ _ (by decide) (EnvSub.get (.cons (Sub.own rfl rfl) (.cons (Sub.imm (Imm.con _)) (.cons (Sub.imm (Imm.fn .nil .nil)) (.cons (Sub.imm (Imm.con _)) (.cons (Sub.imm (Imm.con _)) (.cons (Sub.imm (Imm.con _)) .nil))))))) (HpSub.get (.cons rfl (ObSub.rows (rows_imm imms_encTPublished)) .nil)) rfl)
    replace h := ite_f hb55 h
    refine awp_exit ?_
    exact ⟨(n52, l54), h, (ghost_ren 1 (fun i => ([0] : List Nat).getD i 0) _ _ (by decide) (EnvSub.get (.cons (Sub.own rfl rfl) (.cons (Sub.imm (Imm.con _)) (.cons (Sub.imm (Imm.fn .nil .nil)) (.cons (Sub.imm (Imm.con _)) (.cons (Sub.imm (Imm.con _)) .nil)))))) (HpSub.get (.cons rfl (ObSub.rows (rows_imm imms_encTPublished)) .nil)) rfl)⟩
  clear h
  rintro ⟨n47, l48⟩ h
  subst hk46
  refine sr ?_
  refine am (V.own 0 l48.length) rfl rfl ?_
  refine am (iV n47) rfl rfl ?_
  refine am (iV a1) rfl rfl ?_
  refine am (V.fn (.func 137) [] []) rfl rfl ?_
  replace h := bind_some h
  obtain ⟨y59, hx60, h⟩ := h
  replace h := chk_some h
  obtain ⟨hc61, h⟩ := h
  refine aops_mcall (V.tup []) [(V.own 0 l48.length), (iV n47), (iV a1), (V.fn (.func 137) [] [])] (fun i => ([0] : List Nat).getD i 0) (fun i => ([0] : List Nat).getD i 0) 1 1 [(0, (Ob.arr 137 3 (y59.map encTPublished)))] fOk173 wants_none rfl (evm_cons rfl (evm_cons rfl (evm_cons rfl (evm_cons rfl evm_nil)))) (.cons (Sub.own rfl rfl) (.cons (Sub.imm (Imm.con _)) (.cons (Sub.imm (Imm.con _)) (.cons (Sub.imm (Imm.fn .nil .nil)) .nil)))) (.cons rfl (ObSub.rows (rows_imm imms_encTPublished)) .nil) (W173 F n47 a1 l48 y59 hx60) rfl rfl rfl rfl rfl (Sub.immT (Imm.tup .nil)) (.cons rfl (ObSub.rowsT (rows_imm imms_encTPublished)) .nil) ?_
  refine aops_ghost (ghost_tell 0 (V.own 0 y59.length) rfl (Sub.ownI hc61)) ?_
  refine aops_ghost (ghost_tell 23 (V.own 0 y59.length) rfl (Sub.ownI hc61)) ?_
  refine an ?_
  refine awp_block ?_
  refine awp_loop_ind (fun (p : Int × (List TPublished)) => (⟨[(0, (V.own 0 (p.2).length)), (1, (iV a1)), (2, (V.fn (.func 137) [] [])), (6, (iV (p.1)))], [(0, (Ob.arr 137 3 ((p.2).map encTPublished)))], 1⟩ : St)) (fun n (p : Int × (List TPublished)) => M158_L2 F a1 n p.1 p.2 = some r) (fun p h => by simp [M158_L2] at h) (fun n ih2 p h => ?_) F (20, y59) h (ghost_ren 1 (fun i => ([0] : List Nat).getD i 0) _ _ (by decide) (EnvSub.get (.cons (Sub.own rfl rfl) (.cons (Sub.imm (Imm.con _)) (.cons (Sub.imm (Imm.fn .nil .nil)) (.cons (Sub.imm (Imm.con _)) .nil))))) (HpSub.get (.cons rfl (ObSub.rows (rows_imm imms_encTPublished)) .nil)) rfl)
  obtain ⟨n64, l65⟩ := p
  unfold M158_L2 at h
  refine awp_loop ?_
  refine sq ?_
  refine sr ?_
  refine am (iV n64) rfl rfl ?_
  refine am (iV a1) rfl rfl ?_
  refine aops_bin (.bool (decide (n64 < a1))) wants_none rfl rfl rfl rfl ?_
  refine an ?_
  refine awp_cond (decide (n64 < a1)) rfl (fun hb66 => ?_) (fun hb66 => ?_)
  · replace h := ite_t hb66 h
    refine awp_skip ?_
    replace h := jn_elim h
    obtain ⟨k67, hk67, h⟩ := h
    refine awp_cut (fun (p : (List TPublished)) => (⟨[(0, (V.own 0 p.length)), (1, (iV a1)), (2, (V.fn (.func 137) [] [])), (6, (iV (w64 (n64 * 2))))], [(0, (Ob.arr 137 3 (p.map encTPublished)))], 1⟩ : St)) (fun (p : (List TPublished)) => k67 p = some r) ?_ ?_
    · clear hk67
      refine awp_block ?_
      refine sr ?_
      refine am (iV n64) rfl rfl ?_
      refine aops_bin (.int .i64 (w64 (2 * n64))) wants_none rfl rfl rfl rfl ?_
      refine aa (iV 0) rfl rfl ?_
      refine aa (iV (w64 (2 * n64))) rfl rfl ?_
      refine an ?_
      refine sq ?_
      replace h := jn_elim h
      obtain ⟨k69, hk69, h⟩ := h
      refine awp_cut (fun (p : Int × (List TPublished)) => (⟨[(0, (V.own 0 (p.2).length)), (1, (iV a1)), (2, (V.fn (.func 137) [] [])), (6, (iV n64)), (7, (iV (p.1)))], [(0, (Ob.arr 137 3 ((p.2).map encTPublished)))], 1⟩ : St)) (fun (p : Int × (List TPublished)) => k69 p.1 p.2 = some r) ?_ ?_
      · clear hk69
        refine awp_block ?_
        refine awp_loop_ind (fun (p : Int × Int × (List TPublished)) => (⟨[(0, (V.own 0 (p.2.2).length)), (1, (iV a1)), (2, (V.fn (.func 137) [] [])), (6, (iV n64)), (7, (iV (p.1))), (8, (iV (p.2.1)))], [(0, (Ob.arr 137 3 ((p.2.2).map encTPublished)))], 1⟩ : St)) (fun n (p : Int × Int × (List TPublished)) => M158_L3 F a1 n64 k69 n p.1 p.2.1 p.2.2 = some r) (fun p h => by simp [M158_L3] at h) (fun n ih3 p h => ?_) F (0, (w64 (2 * n64)), l65) h (ghost_ren 1 (fun i => ([0] : List Nat).getD i 0) _ _ (by decide) (EnvSub.get (.cons (Sub.own rfl rfl) (.cons (Sub.imm (Imm.con _)) (.cons (Sub.imm (Imm.fn .nil .nil)) (.cons (Sub.imm (Imm.con _)) (.cons (Sub.imm (Imm.con _)) (.cons (Sub.imm (Imm.con _)) .nil))))))) (HpSub.get (.cons rfl (ObSub.rows (rows_imm imms_encTPublished)) .nil)) rfl)
        obtain ⟨n75, n76, l77⟩ := p
        unfold M158_L3 at h
        refine awp_loop ?_
        refine sq ?_
        refine sr ?_
        refine am (iV n76) rfl rfl ?_
        refine am (iV a1) rfl rfl ?_
        refine aops_bin (.bool (decide (n76 ≤ a1))) wants_none rfl rfl rfl rfl ?_
        refine an ?_
        refine awp_cond (decide (n76 ≤ a1)) rfl (fun hb78 => ?_) (fun hb78 => ?_)
        · replace h := ite_t hb78 h
          refine awp_skip ?_
          refine awp_block ?_
          refine sr ?_
          refine am (V.own 0 l77.length) rfl rfl ?_
          refine am (iV n75) rfl rfl ?_
          refine am (iV n75) rfl rfl ?_
          refine am (iV n64) rfl rfl ?_
          refine aops_bin (.int .i64 (w64 (n75 + n64))) wants_none rfl rfl rfl rfl ?_
          refine am (iV n76) rfl rfl ?_
          refine am (V.fn (.func 137) [] []) rfl rfl ?_
          replace h := bind_some h
          obtain ⟨y79, hx80, h⟩ := h
          replace h := chk_some h
          obtain ⟨hc81, h⟩ := h
          refine aops_mcall (V.tup []) [(V.own 0 l77.length), (iV n75), (iV (w64 (n75 + n64))), (iV n76), (V.fn (.func 137) [] [])] (fun i => ([0] : List Nat).getD i 0) (fun i => ([0] : List Nat).getD i 0) 1 1 [(0, (Ob.arr 137 3 (y79.map encTPublished)))] fOk174 wants_none rfl (evm_cons rfl (evm_cons rfl (evm_cons rfl (evm_cons rfl (evm_cons rfl evm_nil))))) (.cons (Sub.own rfl rfl) (.cons (Sub.imm (Imm.con _)) (.cons (Sub.imm (Imm.con _)) (.cons (Sub.imm (Imm.con _)) (.cons (Sub.imm (Imm.fn .nil .nil)) .nil))))) (.cons rfl (ObSub.rows (rows_imm imms_encTPublished)) .nil) (W174 F n75 (w64 (n75 + n64)) n76 l77 y79 hx80) rfl rfl rfl rfl rfl (Sub.immT (Imm.tup .nil)) (.cons rfl (ObSub.rowsT (rows_imm imms_encTPublished)) .nil) ?_
          refine aops_ghost (ghost_tell 0 (V.own 0 y79.length) rfl (Sub.ownI hc81)) ?_
          refine aops_ghost (ghost_tell 36 (V.own 0 y79.length) rfl (Sub.ownI hc81)) ?_
          refine an ?_
          refine sr ?_
          refine am (iV n76) rfl rfl ?_
          refine aa (iV n76) rfl rfl ?_
          refine an ?_
          refine rg ?_
          refine am (iV n76) rfl rfl ?_
          refine am (iV n64) rfl rfl ?_
          refine aops_bin (.int .i64 (w64 (2 * n64))) wants_none rfl rfl rfl rfl ?_
          refine aops_bin (.int .i64 (w64 (n76 + (w64 (2 * n64))))) wants_none rfl rfl rfl rfl ?_
          refine aa (iV (w64 (n76 + (w64 (2 * n64))))) rfl rfl ?_
          refine an ?_
          exact awp_back (ih3 (n76, (w64 (n76 + (w64 (2 * n64)))), y79) h) (ghost_ren 1 (fun i => ([0] : List Nat).getD i 0) _ _ (by decide) (EnvSub.get (.cons (Sub.own rfl rfl) (.cons (Sub.imm (Imm.con _)) (.cons (Sub.imm (Imm.fn .nil .nil)) (.cons (Sub.imm (Imm.con _)) (.cons (Sub.imm (Imm.con _)) (.cons (Sub.imm (Imm.con _)) .nil))))))) (HpSub.get (.cons rfl (ObSub.rows (rows_imm imms_encTPublished)) .nil)) rfl)
        replace h := ite_f hb78 h
        refine awp_exit ?_
        exact ⟨(n75, l77), h, (ghost_ren 1 (fun i => ([0] : List Nat).getD i 0) _ _ (by decide) (EnvSub.get (.cons (Sub.own rfl rfl) (.cons (Sub.imm (Imm.con _)) (.cons (Sub.imm (Imm.fn .nil .nil)) (.cons (Sub.imm (Imm.con _)) (.cons (Sub.imm (Imm.con _)) .nil)))))) (HpSub.get (.cons rfl (ObSub.rows (rows_imm imms_encTPublished)) .nil)) rfl)⟩
      clear h
      rintro ⟨n70, l71⟩ h
      subst hk69
      refine sq ?_
      refine sr ?_
      refine am (iV n70) rfl rfl ?_
      refine am (iV n64) rfl rfl ?_
      refine aops_bin (.int .i64 (w64 (n70 + n64))) wants_none rfl rfl rfl rfl ?_
      refine aa (iV (w64 (n70 + n64))) rfl rfl ?_
      refine an ?_
      refine sr ?_
      refine am (iV (w64 (n70 + n64))) rfl rfl ?_
      refine am (iV a1) rfl rfl ?_
      refine aops_bin (.bool (decide ((w64 (n70 + n64)) < a1))) wants_none rfl rfl rfl rfl ?_
      refine an ?_
      replace h := jn_elim h
      obtain ⟨k82, hk82, h⟩ := h
      refine awp_cut (fun (p : (List TPublished)) => (⟨[(0, (V.own 0 p.length)), (1, (iV a1)), (2, (V.fn (.func 137) [] [])), (6, (iV n64))], [(0, (Ob.arr 137 3 (p.map encTPublished)))], 1⟩ : St)) (fun (p : (List TPublished)) => k82 p = some r) ?_ ?_
      · clear hk82
        refine awp_cond (decide ((w64 (n70 + n64)) < a1)) rfl (fun hb84 => ?_) (fun hb84 => ?_)
        · replace h := ite_t hb84 h
          refine rg ?_
          refine am (V.own 0 l71.length) rfl rfl ?_
          refine am (iV n70) rfl rfl ?_
          refine am (iV (w64 (n70 + n64))) rfl rfl ?_
          refine am (iV a1) rfl rfl ?_
          refine am (V.fn (.func 137) [] []) rfl rfl ?_
          replace h := bind_some h
          obtain ⟨y85, hx86, h⟩ := h
          replace h := chk_some h
          obtain ⟨hc87, h⟩ := h
          refine aops_mcall (V.tup []) [(V.own 0 l71.length), (iV n70), (iV (w64 (n70 + n64))), (iV a1), (V.fn (.func 137) [] [])] (fun i => ([0] : List Nat).getD i 0) (fun i => ([0] : List Nat).getD i 0) 1 1 [(0, (Ob.arr 137 3 (y85.map encTPublished)))] fOk174 wants_none rfl (evm_cons rfl (evm_cons rfl (evm_cons rfl (evm_cons rfl (evm_cons rfl evm_nil))))) (.cons (Sub.own rfl rfl) (.cons (Sub.imm (Imm.con _)) (.cons (Sub.imm (Imm.con _)) (.cons (Sub.imm (Imm.con _)) (.cons (Sub.imm (Imm.fn .nil .nil)) .nil))))) (.cons rfl (ObSub.rows (rows_imm imms_encTPublished)) .nil) (W174 F n70 (w64 (n70 + n64)) a1 l71 y85 hx86) rfl rfl rfl rfl rfl (Sub.immT (Imm.tup .nil)) (.cons rfl (ObSub.rowsT (rows_imm imms_encTPublished)) .nil) ?_
          refine aops_ghost (ghost_tell 0 (V.own 0 y85.length) rfl (Sub.ownI hc87)) ?_
          refine aops_ghost (ghost_tell 55 (V.own 0 y85.length) rfl (Sub.ownI hc87)) ?_
          refine an ?_
          exact ⟨y85, h, (ghost_ren 1 (fun i => ([0] : List Nat).getD i 0) _ _ (by decide) (EnvSub.get (.cons (Sub.own rfl rfl) (.cons (Sub.imm (Imm.con _)) (.cons (Sub.imm (Imm.fn .nil .nil)) (.cons (Sub.imm (Imm.con _)) .nil))))) (HpSub.get (.cons rfl (ObSub.rows (rows_imm imms_encTPublished)) .nil)) rfl)⟩
        replace h := ite_f hb84 h
        refine awp_skip ?_
        exact ⟨l71, h, (ghost_ren 1 (fun i => ([0] : List Nat).getD i 0) _ _ (by decide) (EnvSub.get (.cons (Sub.own rfl rfl) (.cons (Sub.imm (Imm.con _)) (.cons (Sub.imm (Imm.fn .nil .nil)) (.cons (Sub.imm (Imm.con _)) .nil))))) (HpSub.get (.cons rfl (ObSub.rows (rows_imm imms_encTPublished)) .nil)) rfl)⟩
      clear h
      intro l83 h
      subst hk82
      refine rg ?_
      refine am (iV n64) rfl rfl ?_
      refine aops_bin (.int .i64 (w64 (n64 * 2))) wants_none rfl rfl rfl rfl ?_
      refine aa (iV (w64 (n64 * 2))) rfl rfl ?_
      refine an ?_
      exact ⟨l83, h, (ghost_ren 1 (fun i => ([0] : List Nat).getD i 0) _ _ (by decide) (EnvSub.get (.cons (Sub.own rfl rfl) (.cons (Sub.imm (Imm.con _)) (.cons (Sub.imm (Imm.fn .nil .nil)) (.cons (Sub.imm (Imm.con _)) .nil))))) (HpSub.get (.cons rfl (ObSub.rows (rows_imm imms_encTPublished)) .nil)) rfl)⟩
    clear h
    intro l68 h
    subst hk67
    exact awp_back (ih2 ((w64 (n64 * 2)), l68) h) (ghost_ren 1 (fun i => ([0] : List Nat).getD i 0) _ _ (by decide) (EnvSub.get (.cons (Sub.own rfl rfl) (.cons (Sub.imm (Imm.con _)) (.cons (Sub.imm (Imm.fn .nil .nil)) (.cons (Sub.imm (Imm.con _)) .nil))))) (HpSub.get (.cons rfl (ObSub.rows (rows_imm imms_encTPublished)) .nil)) rfl)
  replace h := ite_f hb66 h
  refine awp_exit ?_
  replace h := Option.some.inj h
  subst h
  exact ⟨.inr rfl, [], (ghost_ren 1 (fun i => ([0] : List Nat).getD i 0) _ _ (by decide) (EnvSub.get .nil) (HpSub.get (.cons rfl (ObSub.rows (rows_imm imms_encTPublished)) .nil)) rfl), .nil⟩
theorem W151 (F : Nat) (a1 : List TPublished) (r : (List TPublished)) (h : M151 F a1 = some r) : Mut Try.prog 151 [(V.own 0 a1.length), (V.fn (.func 137) [] [])] 1 [(0, (Ob.arr 137 3 (a1.map encTPublished)))] (resV []) 1 [(0, (Ob.arr 137 3 (r.map encTPublished)))] := by
  refine mut_enter Try.func151 rfl rfl (l := []) rfl rfl [(0, (V.own 0 a1.length)), (1, (V.fn (.func 137) [] []))] rfl (fun w0 m0 β0 => ?_)
  unfold M151 at h
  refine rg ?_
  refine am (V.own 0 a1.length) rfl rfl ?_
  refine am (V.own 0 a1.length) rfl rfl ?_
  refine aops_len (n := a1.length) tIsSl50 wants_none rfl rfl rfl ?_
  refine am (V.fn (.func 137) [] []) rfl rfl ?_
  replace h := bind_some h
  obtain ⟨y6, hx7, h⟩ := h
  replace h := chk_some h
  obtain ⟨hc8, h⟩ := h
  refine aops_mcall (V.tup []) [(V.own 0 a1.length), (iV ((a1.length : Nat) : Int)), (V.fn (.func 137) [] [])] (fun i => ([0] : List Nat).getD i 0) (fun i => ([0] : List Nat).getD i 0) 1 1 [(0, (Ob.arr 137 3 (y6.map encTPublished)))] fOk158 wants_none rfl (evm_cons rfl (evm_cons rfl (evm_cons rfl evm_nil))) (.cons (Sub.own rfl rfl) (.cons (Sub.imm (Imm.con _)) (.cons (Sub.imm (Imm.fn .nil .nil)) .nil))) (.cons rfl (ObSub.rows (rows_imm imms_encTPublished)) .nil) (W158 F ((a1.length : Nat) : Int) a1 y6 hx7) rfl rfl rfl rfl rfl (Sub.immT (Imm.tup .nil)) (.cons rfl (ObSub.rowsT (rows_imm imms_encTPublished)) .nil) ?_
  refine aops_ghost (ghost_tell 0 (V.own 0 y6.length) rfl (Sub.ownI hc8)) ?_
  refine aops_ghost (ghost_tell 4 (V.own 0 y6.length) rfl (Sub.ownI hc8)) ?_
  refine aops_ghost (ghost_tell 5 (V.own 0 y6.length) rfl (Sub.ownI hc8)) ?_
  refine an ?_
  replace h := Option.some.inj h
  subst h
  exact ⟨.inr rfl, [], (ghost_ren 1 (fun i => ([0] : List Nat).getD i 0) _ _ (by decide) (EnvSub.get .nil) (HpSub.get (.cons rfl (ObSub.rows (rows_imm imms_encTPublished)) .nil)) rfl), .nil⟩
theorem W136 (F : Nat) (a1 : (List TPublished)) (r : (List TPublished)) (h : M136 F a1 = some r) : Pure Try.prog 136 [(V.lst 3 (a1.map encTPublished)), (V.fn (.func 137) [] [])] (V.lst 3 (r.map encTPublished)) := by
  refine pure_enter Try.func136 rfl rfl (l := [.tmp 4]) rfl rfl [(0, (V.lst 3 (a1.map encTPublished))), (1, (V.fn (.func 137) [] []))] rfl (fun w0 m0 => ?_)
  unfold M136 at h
  refine sr ?_
  refine aa nV rfl rfl ?_
  refine an ?_
  refine sr ?_
  refine am (V.lst 3 (a1.map encTPublished)) rfl rfl ?_
  replace h := bind_some h
  obtain ⟨y2, hx3, h⟩ := h
  refine aops_mcall (V.own 0 y2.length) [(V.lst 3 (a1.map encTPublished))] (fun i => ([] : List Nat).getD i 0) (fun i => ([0] : List Nat).getD i 0) 0 1 [(0, (Ob.arr 137 3 (y2.map encTPublished)))] fOk101 wants_none rfl (evm_cons rfl evm_nil) (.cons (Sub.imm (Imm.lst _ _)) .nil) .nil (W101_1 F a1 y2 hx3) rfl rfl rfl rfl rfl (Sub.ownT rfl rfl) (.cons rfl (ObSub.rowsT (rows_imm imms_encTPublished)) .nil) ?_
  refine aa (V.own 0 y2.length) rfl rfl ?_
  refine an ?_
  refine sr ?_
  refine am (V.own 0 y2.length) rfl rfl ?_
  refine am (V.fn (.func 137) [] []) rfl rfl ?_
  replace h := bind_some h
  obtain ⟨y4, hx5, h⟩ := h
  replace h := chk_some h
  obtain ⟨hc6, h⟩ := h
  refine aops_mcall (V.tup []) [(V.own 0 y2.length), (V.fn (.func 137) [] [])] (fun i => ([0] : List Nat).getD i 0) (fun i => ([0] : List Nat).getD i 0) 1 1 [(0, (Ob.arr 137 3 (y4.map encTPublished)))] fOk151 wants_none rfl (evm_cons rfl (evm_cons rfl evm_nil)) (.cons (Sub.own rfl rfl) (.cons (Sub.imm (Imm.fn .nil .nil)) .nil)) (.cons rfl (ObSub.rows (rows_imm imms_encTPublished)) .nil) (W151 F y2 y4 hx5) rfl rfl rfl rfl rfl (Sub.immT (Imm.tup .nil)) (.cons rfl (ObSub.rowsT (rows_imm imms_encTPublished)) .nil) ?_
  refine aops_ghost (ghost_tell 7 (V.own 0 y4.length) rfl (Sub.ownI hc6)) ?_
  refine aops_ghost (ghost_tell 5 (V.own 0 y4.length) rfl (Sub.ownI hc6)) ?_
  refine aops_ghost (ghost_tell 8 (V.own 0 y4.length) rfl (Sub.ownI hc6)) ?_
  refine an ?_
  refine sr ?_
  refine am (V.own 0 y4.length) rfl rfl ?_
  refine aa (V.own 0 y4.length) rfl rfl ?_
  refine an ?_
  refine awp_ghost (ghost_frzE 0 4 rfl (rows_imm imms_encTPublished) rfl (List.length_map ..).symm) ?_
  refine awp_ret ?_
  replace h := Option.some.inj h
  subst h
  exact ⟨.inl rfl, .one (.tmp rfl (Imm.lst _ _))⟩
theorem W102 (F : Nat) (a1 : (List TPublished)) (a2 : (List TPublished)) (r : ((List TPublished) × Bool)) (h : M102 F a1 a2 = some r) : Pure Try.prog 102 [(V.lst 3 (a1.map encTPublished)), (V.lst 3 (a2.map encTPublished))] (V.tup [(V.lst 3 ((r.1).map encTPublished)), (bV (r.2))]) := by
  refine pure_enter Try.func102 rfl rfl (l := [.tmp 4, .tmp 5]) rfl rfl [(0, (V.lst 3 (a1.map encTPublished))), (1, (V.lst 3 (a2.map encTPublished)))] rfl (fun w0 m0 => ?_)
  unfold M102 at h
  refine sr ?_
  refine aa nV rfl rfl ?_
  refine aa (bV false) rfl rfl ?_
  refine an ?_
  refine sr ?_
  refine aops_makeMap wants_none rfl ?_
  refine aa (V.map 0) rfl rfl ?_
  refine an ?_
  refine sr ?_
  refine am (V.lst 3 (a1.map encTPublished)) rfl rfl ?_
  replace h := bind_some h
  obtain ⟨y3, hx4, h⟩ := h
  refine aops_mcall (V.own 1 y3.length) [(V.lst 3 (a1.map encTPublished))] (fun i => ([] : List Nat).getD i 0) (fun i => ([1] : List Nat).getD i 0) 1 2 [(1, (Ob.arr 137 3 (y3.map encTPublished)))] fOk101 wants_none rfl (evm_cons rfl evm_nil) (.cons (Sub.imm (Imm.lst _ _)) .nil) .nil (W101_1 F a1 y3 hx4) rfl rfl rfl rfl rfl (Sub.ownT rfl rfl) (.cons rfl (ObSub.rowsT (rows_imm imms_encTPublished)) .nil) ?_
  refine aa (V.own 1 y3.length) rfl rfl ?_
  refine an ?_
  refine sq ?_
  refine sr ?_
  refine am (V.lst 3 (a1.map encTPublished)) rfl rfl ?_
  refine aops_len (n := a1.length) tIsSl50 wants_none rfl (congrArg some (List.length_map ..)) rfl ?_
  refine am (iV 0) rfl rfl ?_
  refine an ?_
  replace h := jn_elim h
  obtain ⟨k5, hk5, h⟩ := h
  refine awp_cut (fun (p : (List ((List UInt8) × TPublished))) => (⟨[(1, (V.lst 3 (a2.map encTPublished))), (6, (V.map 0)), (7, (V.own 1 y3.length))], [(0, (Ob.map (p.map encM9_137))), (1, (Ob.arr 137 3 (y3.map encTPublished)))], 2⟩ : St)) (fun (p : (List ((List UInt8) × TPublished))) => k5 p = some r) ?_ ?_
  · clear hk5
    refine awp_block ?_
    refine awp_len (A := a1) 0 rfl (fun hA14 => ?_)
    refine awp_loop_ind (fun (p : Int × (List ((List UInt8) × TPublished))) => (⟨[(1, (V.lst 3 (a2.map encTPublished))), (6, (V.map 0)), (7, (V.own 1 y3.length)), (17, (V.lst 3 (a1.map encTPublished))), (18, (iV ((a1.length : Nat) : Int))), (19, (iV (p.1)))], [(0, (Ob.map ((p.2).map encM9_137))), (1, (Ob.arr 137 3 (y3.map encTPublished)))], 2⟩ : St)) (fun n (p : Int × (List ((List UInt8) × TPublished))) => RG a1 (fun tl nn => M102_L1 F k5 tl p.2 = some r) n p.1) (fun p h => RG.zero h) (fun n ih1 p h => ?_) (a1.length + 1) (0, ([] : List ((List UInt8) × TPublished))) (RG.start h) (ghost_ren 2 (fun i => ([0, 1] : List Nat).getD i 0) _ _ (by decide) (EnvSub.get (.cons (Sub.imm (Imm.lst _ _)) (.cons (Sub.map rfl rfl) (.cons (Sub.own rfl rfl) (.cons (Sub.imm (Imm.lst _ _)) (.cons (Sub.imm (Imm.con _)) (.cons (Sub.imm (Imm.con _)) .nil))))))) (HpSub.get (.cons rfl (ObSub.maps encM9_137_imm) (.cons rfl (ObSub.rows (rows_imm imms_encTPublished)) .nil))) rfl)
    obtain ⟨n9, m10⟩ := p
    refine awp_loop ?_
    refine sr ?_
    refine aops_bin (.bool (decide (n9 < ((a1.length : Nat) : Int)))) wants_none rfl rfl rfl rfl ?_
    refine an ?_
    refine sq ?_
    refine awp_cond (decide (n9 < ((a1.length : Nat) : Int))) rfl (fun hb11 => ?_) (fun hb11 => ?_)
    · obtain ⟨x12, tl, hx13, h, hk1⟩ := RG.t hA14 h hb11
      unfold M102_L1 at h
      refine awp_skip ?_
      refine sq ?_
      refine awp_block ?_
      refine sr ?_
      refine aops_index_lst (encTPublished x12) tSl50 wants_none rfl rfl (idx_some hx13).1 (idx_map encTPublished hx13) rfl ?_
      refine aops_iload_agg (cs := (encTPublished x12)) tA137 wants_none rfl rfl rfl rfl ?_
      refine aops_alloc tZ137 rfl rfl wants_none rfl ?_
      refine aops_store (encTPublished x12) [(encTPublished x12)] tS137 wants_none rfl rfl rfl rfl rfl rfl rfl rfl ?_
      refine an ?_
      refine rg ?_
      refine am (V.map 0) rfl rfl ?_
      refine aops_fieldAddr tF137_0 wants_none rfl rfl ?_
      refine aops_load_cell (sV x12.Advisory) tC9 wants_none rfl rfl rfl rfl rfl ?_
      refine aops_load_agg (cs := (encTPublished x12)) tA137 wants_none rfl rfl rfl rfl rfl rfl ?_
      refine aops_mapUpdate ((mput m10 x12.Advisory x12).map encM9_137) tMap129 tKey9 wants_none rfl rfl (.con rfl) ⟨_, rfl⟩ encM9_137_good rfl (encM9_137_puts m10 x12.Advisory x12) ?_
      refine an ?_
      refine rg ?_
      refine aops_bin (.int .i64 (w64 (n9 + 1))) wants_none rfl rfl rfl rfl ?_
      refine am (iV (w64 (n9 + 1))) rfl rfl ?_
      refine an ?_
      exact awp_back (ih1 ((w64 (n9 + 1)), (mput m10 x12.Advisory x12)) (hk1 _ h)) (ghost_ren 2 (fun i => ([0, 1] : List Nat).getD i 0) _ _ (by decide) (EnvSub.get (.cons (Sub.imm (Imm.lst _ _)) (.cons (Sub.map rfl rfl) (.cons (Sub.own rfl rfl) (.cons (Sub.imm (Imm.lst _ _)) (.cons (Sub.imm (Imm.con _)) (.cons (Sub.imm (Imm.con _)) .nil))))))) (HpSub.get (.cons rfl (ObSub.maps encM9_137_imm) (.cons rfl (ObSub.rows (rows_imm imms_encTPublished)) .nil))) rfl)
    replace h := RG.f h hb11
    unfold M102_L1 at h
    refine awp_exit ?_
    exact ⟨m10, h, (ghost_ren 2 (fun i => ([0, 1] : List Nat).getD i 0) _ _ (by decide) (EnvSub.get (.cons (Sub.imm (Imm.lst _ _)) (.cons (Sub.map rfl rfl) (.cons (Sub.own rfl rfl) .nil)))) (HpSub.get (.cons rfl (ObSub.maps encM9_137_imm) (.cons rfl (ObSub.rows (rows_imm imms_encTPublished)) .nil))) rfl)⟩
  clear h
  intro m6 h
  subst hk5
  refine sq ?_
  refine sr ?_
  refine am (V.lst 3 (a2.map encTPublished)) rfl rfl ?_
  refine aops_len (n := a2.length) tIsSl50 wants_none rfl (congrArg some (List.length_map ..)) rfl ?_
  refine am (iV 0) rfl rfl ?_
  refine an ?_
  replace h := jn_elim h
  obtain ⟨k15, hk15, h⟩ := h
  refine awp_cut (fun (p : (List TPublished)) => (⟨[(7, (V.own 0 p.length))], [(0, (Ob.arr 137 3 (p.map encTPublished)))], 1⟩ : St)) (fun (p : (List TPublished)) => k15 p = some r) ?_ ?_
  · clear hk15
    refine awp_block ?_
    refine awp_len (A := a2) 1 rfl (fun hA36 => ?_)
    refine awp_loop_ind (fun (p : Int × (List TPublished)) => (⟨[(6, (V.map 0)), (7, (V.own 1 (p.2).length)), (28, (V.lst 3 (a2.map encTPublished))), (29, (iV ((a2.length : Nat) : Int))), (30, (iV (p.1)))], [(0, (Ob.map (m6.map encM9_137))), (1, (Ob.arr 137 3 ((p.2).map encTPublished)))], 2⟩ : St)) (fun n (p : Int × (List TPublished)) => RG a2 (fun tl nn => M102_L2 F m6 k15 tl p.2 = some r) n p.1) (fun p h => RG.zero h) (fun n ih2 p h => ?_) (a2.length + 1) (0, y3) (RG.start h) (ghost_ren 2 (fun i => ([0, 1] : List Nat).getD i 0) _ _ (by decide) (EnvSub.get (.cons (Sub.map rfl rfl) (.cons (Sub.own rfl rfl) (.cons (Sub.imm (Imm.lst _ _)) (.cons (Sub.imm (Imm.con _)) (.cons (Sub.imm (Imm.con _)) .nil)))))) (HpSub.get (.cons rfl (ObSub.maps encM9_137_imm) (.cons rfl (ObSub.rows (rows_imm imms_encTPublished)) .nil))) rfl)
    obtain ⟨n19, l20⟩ := p
    refine awp_loop ?_
    refine sr ?_
    refine aops_bin (.bool (decide (n19 < ((a2.length : Nat) : Int)))) wants_none rfl rfl rfl rfl ?_
    refine an ?_
    refine sq ?_
    refine awp_cond (decide (n19 < ((a2.length : Nat) : Int))) rfl (fun hb21 => ?_) (fun hb21 => ?_)
    · obtain ⟨x24, tl, hx25, h, hk2⟩ := RG.t hA36 h hb21
      unfold M102_L2 at h
      refine awp_skip ?_
      refine sq ?_
      replace h := jn_elim h
      obtain ⟨k22, hk22, h⟩ := h
      refine awp_cut (fun (p : (List TPublished)) => (⟨[(6, (V.map 0)), (7, (V.own 1 p.length)), (28, (V.lst 3 (a2.map encTPublished))), (29, (iV ((a2.length : Nat) : Int))), (30, (iV n19))], [(0, (Ob.map (m6.map encM9_137))), (1, (Ob.arr 137 3 (p.map encTPublished)))], 2⟩ : St)) (fun (p : (List TPublished)) => k22 p = some r) ?_ ?_
      · clear hk22
        refine awp_block ?_
        refine sr ?_
        refine aops_index_lst (encTPublished x24) tSl50 wants_none rfl rfl (idx_some hx25).1 (idx_map encTPublished hx25) rfl ?_
        refine aops_iload_agg (cs := (encTPublished x24)) tA137 wants_none rfl rfl rfl rfl ?_
        refine aops_alloc tZ137 rfl rfl wants_none rfl ?_
        refine aops_store (encTPublished x24) [(encTPublished x24)] tS137 wants_none rfl rfl rfl rfl rfl rfl rfl rfl ?_
        refine an ?_
        refine sr ?_
        refine am (V.map 0) rfl rfl ?_
        refine aops_fieldAddr tF137_0 wants_none rfl rfl ?_
        refine aops_load_cell (sV x24.Advisory) tC9 wants_none rfl rfl rfl rfl rfl ?_
        refine aops_lookup_okB _ (V.agg [(sV ([] : List UInt8)), (iV 0), (iV 0)]) (V.agg (encTPublished ((mget m6 x24.Advisory).getD (TPublished.mk ([] : List UInt8) 0 0)))) tMap129 tKey9 tZo137 (irel_conAgg [str ([] : List UInt8), .int .i64 0, .int .i64 0]) wants_none rfl (.own rfl) (.con rfl) ⟨_, rfl⟩ encM9_137_good (encM9_137_look m6 x24.Advisory) (getD_map (encM9_137_val) (mget m6 x24.Advisory) (TPublished.mk ([] : List UInt8) 0 0)) (isSome_map ..) rfl ?_
        refine am (V.tup [(V.agg (encTPublished ((mget m6 x24.Advisory).getD (TPublished.mk ([] : List UInt8) 0 0)))), (bV ((mget m6 x24.Advisory).isSome))]) rfl rfl ?_
        refine aops_extract (V.agg (encTPublished ((mget m6 x24.Advisory).getD (TPublished.mk ([] : List UInt8) 0 0)))) wants_none rfl rfl rfl ?_
        refine aops_extract (bV ((mget m6 x24.Advisory).isSome)) wants_none rfl rfl rfl ?_
        refine aops_alloc tZ137 rfl rfl wants_none rfl ?_
        refine aops_store (encTPublished ((mget m6 x24.Advisory).getD (TPublished.mk ([] : List UInt8) 0 0))) [(encTPublished ((mget m6 x24.Advisory).getD (TPublished.mk ([] : List UInt8) 0 0)))] tS137 wants_none rfl rfl rfl rfl rfl rfl rfl rfl ?_
        refine aa (bV ((mget m6 x24.Advisory).isSome)) rfl rfl ?_
        refine an ?_
        refine sq ?_
        refine sr ?_
        refine am (bV ((mget m6 x24.Advisory).isSome)) rfl rfl ?_
        refine am (bV ((mget m6 x24.Advisory).isSome)) rfl rfl ?_
        refine bsp ((mget m6 x24.Advisory).isSome) (fun hb26 => ?_) (fun hb26 => ?_)
        · replace h := ite_t hb26 h
          refine aops_load_agg (cs := (encTPublished ((mget m6 x24.Advisory).getD (TPublished.mk ([] : List UInt8) 0 0)))) tA137 (wants_some (c := ((mget m6 x24.Advisory).isSome)) (b := true) 42 rfl rfl hb26) rfl rfl rfl rfl rfl rfl ?_
          refine aops_load_agg (cs := (encTPublished x24)) tA137 (wants_some (c := ((mget m6 x24.Advisory).isSome)) (b := true) 42 rfl rfl hb26) rfl rfl rfl rfl rfl rfl ?_
          refine aops_eqS true (xs := cv137 ((mget m6 x24.Advisory).getD (TPublished.mk ([] : List UInt8) 0 0))) (ys := cv137 x24) (b := (decide (((mget m6 x24.Advisory).getD (TPublished.mk ([] : List UInt8) 0 0)) = x24))) eqk137 ⟨_, rfl⟩ ⟨_, rfl⟩ (eq_b cv137 _ _ (inj_cv137 _ _)) tEqG137 (wants_some (c := ((mget m6 x24.Advisory).isSome)) (b := true) 42 rfl rfl hb26) rfl rfl rfl ?_
          refine aops_pick true (cb := ((mget m6 x24.Advisory).isSome)) (bV (!(decide (((mget m6 x24.Advisory).getD (TPublished.mk ([] : List UInt8) 0 0)) = x24)))) wants_none rfl hb26 rfl rfl ?_
          refine an ?_
          refine awp_cond (!(decide (((mget m6 x24.Advisory).getD (TPublished.mk ([] : List UInt8) 0 0)) = x24))) rfl (fun hb27 => ?_) (fun hb27 => ?_)
          · replace h := ite_t hb27 h
            refine sr ?_
            refine aa nV rfl rfl ?_
            refine aa (bV false) rfl rfl ?_
            refine an ?_
            refine awp_ghost (ghost_tell 4 (V.lst 3 (([] : List TPublished).map encTPublished)) rfl (Sub.nil _)) ?_
            refine awp_ret ?_
            replace h := Option.some.inj h
            subst h
            exact ⟨.inl rfl, .two (.tmp rfl (Imm.lst _ _)) (.tmp rfl (Imm.con _))⟩
          replace h := ite_f hb27 h
          refine awp_skip ?_
          refine sr ?_
          refine am (bV ((mget m6 x24.Advisory).isSome)) rfl rfl ?_
          refine aops_not wants_none rfl rfl ?_
          refine an ?_
          replace h := jn_elim h
          obtain ⟨k28, hk28, h⟩ := h
          refine awp_cut (fun (p : (List TPublished)) => (⟨[(6, (V.map 0)), (7, (V.own 1 p.length)), (28, (V.lst 3 (a2.map encTPublished))), (29, (iV ((a2.length : Nat) : Int))), (30, (iV n19)), (43, (V.agg (encTPublished ((mget m6 x24.Advisory).getD (TPublished.mk ([] : List UInt8) 0 0))))), (44, (V.agg (encTPublished x24))), (45, (bV (!(decide (((mget m6 x24.Advisory).getD (TPublished.mk ([] : List UInt8) 0 0)) = x24)))))], [(0, (Ob.map (m6.map encM9_137))), (1, (Ob.arr 137 3 (p.map encTPublished)))], 2⟩ : St)) (fun (p : (List TPublished)) => k28 p = some r) ?_ ?_
          · clear hk28
            refine awp_cond (!((mget m6 x24.Advisory).isSome)) rfl (fun hb30 => ?_) (fun hb30 => ?_)
            · replace h := ite_t hb30 h
              refine rg ?_
              refine am (V.own 1 l20.length) rfl rfl ?_
              refine aops_load_agg (cs := (encTPublished x24)) tA137 wants_none rfl rfl rfl rfl rfl rfl ?_
              refine aops_buildSlice [(0, (V.agg (encTPublished x24)))] [(encTPublished x24)] tEl50 tZ137 rfl rfl rfl rfl wants_none (evp_cons rfl evp_nil) rfl rfl (by simp) rfl ?_
              replace h := chk_some h
              obtain ⟨hc31, h⟩ := h
              refine aops_append [(encTPublished x24)] ((l20 ++ ([x24] : List TPublished)).map encTPublished) tEl50 tIsSl50 rfl rfl wants_none rfl rfl (by simp) rfl (.own rfl (by simp)) (map_snoc encTPublished l20 ([x24] : List TPublished)) (List.length_map ..) hc31 rfl ?_
              refine aa (V.own 5 (l20 ++ ([x24] : List TPublished)).length) rfl rfl ?_
              refine an ?_
              exact ⟨(l20 ++ ([x24] : List TPublished)), h, (ghost_ren 2 (fun i => ([0, 5] : List Nat).getD i 0) _ _ (by decide) (EnvSub.get (.cons (Sub.map rfl rfl) (.cons (Sub.own rfl rfl) (.cons (Sub.imm (Imm.lst _ _)) (.cons (Sub.imm (Imm.con _)) (.cons (Sub.imm (Imm.con _)) (.cons (Sub.imm (Imm.agg (imms_encTPublished _))) (.cons (Sub.imm (Imm.agg (imms_encTPublished _))) (.cons (Sub.imm (Imm.con _)) .nil))))))))) (HpSub.get (.cons rfl (ObSub.maps encM9_137_imm) (.cons rfl (ObSub.rows (rows_imm imms_encTPublished)) .nil))) rfl)⟩
            replace h := ite_f hb30 h
            refine awp_skip ?_
            exact ⟨l20, h, (ghost_ren 2 (fun i => ([0, 1] : List Nat).getD i 0) _ _ (by decide) (EnvSub.get (.cons (Sub.map rfl rfl) (.cons (Sub.own rfl rfl) (.cons (Sub.imm (Imm.lst _ _)) (.cons (Sub.imm (Imm.con _)) (.cons (Sub.imm (Imm.con _)) (.cons (Sub.imm (Imm.agg (imms_encTPublished _))) (.cons (Sub.imm (Imm.agg (imms_encTPublished _))) (.cons (Sub.imm (Imm.con _)) .nil))))))))) (HpSub.get (.cons rfl (ObSub.maps encM9_137_imm) (.cons rfl (ObSub.rows (rows_imm imms_encTPublished)) .nil))) rfl)⟩
          clear h
          intro l29 h
          subst hk28
          exact ⟨l29, h, (ghost_ren 2 (fun i => ([0, 1] : List Nat).getD i 0) _ _ (by decide) (EnvSub.get (.cons (Sub.map rfl rfl) (.cons (Sub.own rfl rfl) (.cons (Sub.imm (Imm.lst _ _)) (.cons (Sub.imm (Imm.con _)) (.cons (Sub.imm (Imm.con _)) .nil)))))) (HpSub.get (.cons rfl (ObSub.maps encM9_137_imm) (.cons rfl (ObSub.rows (rows_imm imms_encTPublished)) .nil))) rfl)⟩
        replace h := ite_f hb26 h
        refine aops_skips 3 1 42 true (c := ((mget m6 x24.Advisory).isSome)) (b := false) rfl rfl hb26 rfl rfl ?_
        refine aops_pick false (cb := ((mget m6 x24.Advisory).isSome)) (bV false) wants_none rfl hb26 rfl rfl ?_
        refine an ?_
        refine awp_cond_f rfl rfl ?_
        refine awp_skip ?_
        refine sr ?_
        refine am (bV ((mget m6 x24.Advisory).isSome)) rfl rfl ?_
        refine aops_not wants_none rfl rfl ?_
        refine an ?_
        replace h := jn_elim h
        obtain ⟨k32, hk32, h⟩ := h
        refine awp_cut (fun (p : (List TPublished)) => (⟨[(6, (V.map 0)), (7, (V.own 1 p.length)), (28, (V.lst 3 (a2.map encTPublished))), (29, (iV ((a2.length : Nat) : Int))), (30, (iV n19)), (43, (V.con undef)), (44, (V.con undef)), (45, (V.con undef))], [(0, (Ob.map (m6.map encM9_137))), (1, (Ob.arr 137 3 (p.map encTPublished)))], 2⟩ : St)) (fun (p : (List TPublished)) => k32 p = some r) ?_ ?_
        · clear hk32
          refine awp_cond (!((mget m6 x24.Advisory).isSome)) rfl (fun hb34 => ?_) (fun hb34 => ?_)
          · replace h := ite_t hb34 h
            refine rg ?_
            refine am (V.own 1 l20.length) rfl rfl ?_
            refine aops_load_agg (cs := (encTPublished x24)) tA137 wants_none rfl rfl rfl rfl rfl rfl ?_
            refine aops_buildSlice [(0, (V.agg (encTPublished x24)))] [(encTPublished x24)] tEl50 tZ137 rfl rfl rfl rfl wants_none (evp_cons rfl evp_nil) rfl rfl (by simp) rfl ?_
            replace h := chk_some h
            obtain ⟨hc35, h⟩ := h
            refine aops_append [(encTPublished x24)] ((l20 ++ ([x24] : List TPublished)).map encTPublished) tEl50 tIsSl50 rfl rfl wants_none rfl rfl (by simp) rfl (.own rfl (by simp)) (map_snoc encTPublished l20 ([x24] : List TPublished)) (List.length_map ..) hc35 rfl ?_
            refine aa (V.own 5 (l20 ++ ([x24] : List TPublished)).length) rfl rfl ?_
            refine an ?_
            exact ⟨(l20 ++ ([x24] : List TPublished)), h, (ghost_ren 2 (fun i => ([0, 5] : List Nat).getD i 0) _ _ (by decide) (EnvSub.get (.cons (Sub.map rfl rfl) (.cons (Sub.own rfl rfl) (.cons (Sub.imm (Imm.lst _ _)) (.cons (Sub.imm (Imm.con _)) (.cons (Sub.imm (Imm.con _)) (.cons (Sub.imm (Imm.con _)) (.cons (Sub.imm (Imm.con _)) (.cons (Sub.imm (Imm.con _)) .nil))))))))) (HpSub.get (.cons rfl (ObSub.maps encM9_137_imm) (.cons rfl (ObSub.rows (rows_imm imms_encTPublished)) .nil))) rfl)⟩
          replace h := ite_f hb34 h
          refine awp_skip ?_
          exact ⟨l20, h, (ghost_ren 2 (fun i => ([0, 1] : List Nat).getD i 0) _ _ (by decide) (EnvSub.get (.cons (Sub.map rfl rfl) (.cons (Sub.own rfl rfl) (.cons (Sub.imm (Imm.lst _ _)) (.cons (Sub.imm (Imm.con _)) (.cons (Sub.imm (Imm.con _)) (.cons (Sub.imm (Imm.con _)) (.cons (Sub.imm (Imm.con _)) (.cons (Sub.imm (Imm.con _)) .nil))))))))) (HpSub.get (.cons rfl (ObSub.maps encM9_137_imm) (.cons rfl (ObSub.rows (rows_imm imms_encTPublished)) .nil))) rfl)⟩
        clear h
        intro l33 h
        subst hk32
        exact ⟨l33, h, (ghost_ren 2 (fun i => ([0, 1] : List Nat).getD i 0) _ _ (by decide) (EnvSub.get (.cons (Sub.map rfl rfl) (.cons (Sub.own rfl rfl) (.cons (Sub.imm (Imm.lst _ _)) (.cons (Sub.imm (Imm.con _)) (.cons (Sub.imm (Imm.con _)) .nil)))))) (HpSub.get (.cons rfl (ObSub.maps encM9_137_imm) (.cons rfl (ObSub.rows (rows_imm imms_encTPublished)) .nil))) rfl)⟩
      clear h
      intro l23 h
      subst hk22
      refine rg ?_
      refine aops_bin (.int .i64 (w64 (n19 + 1))) wants_none rfl rfl rfl rfl ?_
      refine am (iV (w64 (n19 + 1))) rfl rfl ?_
      refine an ?_
      exact awp_back (ih2 ((w64 (n19 + 1)), l23) (hk2 _ h)) (ghost_ren 2 (fun i => ([0, 1] : List Nat).getD i 0) _ _ (by decide) (EnvSub.get (.cons (Sub.map rfl rfl) (.cons (Sub.own rfl rfl) (.cons (Sub.imm (Imm.lst _ _)) (.cons (Sub.imm (Imm.con _)) (.cons (Sub.imm (Imm.con _)) .nil)))))) (HpSub.get (.cons rfl (ObSub.maps encM9_137_imm) (.cons rfl (ObSub.rows (rows_imm imms_encTPublished)) .nil))) rfl)
    replace h := RG.f h hb21
    unfold M102_L2 at h
    refine awp_exit ?_
    exact ⟨l20, h, (ghost_ren 1 (fun i => ([1] : List Nat).getD i 0) _ _ (by decide) (EnvSub.get (.cons (Sub.own rfl rfl) .nil)) (HpSub.get (.cons rfl (ObSub.rows (rows_imm imms_encTPublished)) .nil)) rfl)⟩
  clear h
  intro l16 h
  subst hk15
  refine sr ?_
  refine am (V.own 0 l16.length) rfl rfl ?_
  replace h := bind_some h
  obtain ⟨y37, hx38, h⟩ := h
  refine aops_ghost (ghost_frzE 0 54 rfl (rows_imm imms_encTPublished) rfl (List.length_map ..).symm) ?_
  refine aops_call (V.lst 3 (y37.map encTPublished)) [(V.lst 3 (l16.map encTPublished)), (V.fn (.func 137) [] [])] fOk136 wants_none (evm_cons rfl (evm_cons rfl evm_nil)) (.cons (Imm.lst _ _) (.cons (Imm.fn .nil .nil) .nil)) (W136 F l16 y37 hx38) rfl ?_
  refine aa (V.lst 3 (y37.map encTPublished)) rfl rfl ?_
  refine aa (bV true) rfl rfl ?_
  refine an ?_
  refine awp_ret ?_
  replace h := Option.some.inj h
  subst h
  exact ⟨.inl rfl, .two (.tmp rfl (Imm.lst _ _)) (.tmp rfl (Imm.con _))⟩
theorem W104 (F : Nat) (a1 : TRelease) (a2 : List UInt8) (a3 : Int) (a4 : List TExposure) (r : Bool) (h : M104 F a1 a2 a3 a4 = some r) : Pure Try.prog 104 [(V.agg (encTRelease a1)), (V.iptr [(sV a2), (iV a3), (V.lst 3 (a4.map encTExposure))] 0)] (bV r) := by
  refine pure_enter Try.func104 rfl rfl (l := [.tmp 3]) rfl rfl [(0, (V.agg (encTRelease a1))), (1, (V.iptr [(sV a2), (iV a3), (V.lst 3 (a4.map encTExposure))] 0))] rfl (fun w0 m0 => ?_)
  unfold M104 at h
  refine sr ?_
  refine aops_box (encTRelease a1) wants_none rfl rfl rfl rfl ?_
  refine aa (bV false) rfl rfl ?_
  refine an ?_
  refine sr ?_
  refine aops_fieldAddr tF42_0 wants_none rfl rfl ?_
  refine aops_load_cell (sV a1.Version) tC9 wants_none rfl rfl rfl rfl rfl ?_
  refine aops_ifieldAddr tF42_0 wants_none rfl rfl ?_
  refine aops_iload_cell (sV a2) tC9 wants_none rfl rfl rfl ?_
  refine aops_binT (.bool (a1.Version == a2)) wants_none rfl rfl rfl rfl ?_
  refine aa (bV (a1.Version == a2)) rfl rfl ?_
  refine an ?_
  refine awp_ret ?_
  replace h := Option.some.inj h
  subst h
  exact ⟨.inl rfl, .one (.tmp rfl (Imm.con _))⟩
theorem W139 (F : Nat) (a1 : (List TRelease)) (a2 : List UInt8) (a3 : Int) (a4 : List TExposure) (r : Int) (h : M139 F a1 a2 a3 a4 = some r) : Pure Try.prog 139 [(V.lst 3 (a1.map encTRelease)), (V.fn (.func 104) [] [(V.iptr [(sV a2), (iV a3), (V.lst 3 (a4.map encTExposure))] 0)])] (iV r) := by
  refine pure_enter Try.func139 rfl rfl (l := [.tmp 4]) rfl rfl [(0, (V.lst 3 (a1.map encTRelease))), (1, (V.fn (.func 104) [] [(V.iptr [(sV a2), (iV a3), (V.lst 3 (a4.map encTExposure))] 0)]))] rfl (fun w0 m0 => ?_)
  unfold M139 at h
  refine sr ?_
  refine aa (iV 0) rfl rfl ?_
  refine an ?_
  refine sq ?_
  refine sr ?_
  refine am (V.lst 3 (a1.map encTRelease)) rfl rfl ?_
  refine aops_len (n := a1.length) tIsSl49 wants_none rfl (congrArg some (List.length_map ..)) rfl ?_
  refine am (iV 0) rfl rfl ?_
  refine an ?_
  replace h := jn_elim h
  obtain ⟨k5, hk5, h⟩ := h
  refine awp_cut (fun _ : Unit => (⟨[], [], 0⟩ : St)) (fun _ : Unit => k5 = some r) ?_ ?_
  · clear hk5
    refine awp_block ?_
    refine awp_len (A := a1) 0 rfl (fun hA14 => ?_)
    refine awp_loop_ind (fun (p : Int) => (⟨[(0, (V.lst 3 (a1.map encTRelease))), (1, (V.fn (.func 104) [] [(V.iptr [(sV a2), (iV a3), (V.lst 3 (a4.map encTExposure))] 0)])), (7, (iV ((a1.length : Nat) : Int))), (8, (iV p))], [], 0⟩ : St)) (fun n (p : Int) => RG a1 (fun tl nn => M139_L1 F a2 a3 a4 k5 tl nn = some r) n p) (fun p h => RG.zero h) (fun n ih1 p h => ?_) (a1.length + 1) 0 (RG.start h) (ghost_ren 0 (fun i => ([] : List Nat).getD i 0) _ _ (by decide) (EnvSub.get (.cons (Sub.imm (Imm.lst _ _)) (.cons (Sub.imm (Imm.fn .nil (.cons (Imm.iptr _ _) .nil))) (.cons (Sub.imm (Imm.con _)) (.cons (Sub.imm (Imm.con _)) .nil))))) (HpSub.get .nil) rfl)
    revert p
    intro n7 h
    refine awp_loop ?_
    refine sr ?_
    refine aops_bin (.bool (decide (n7 < ((a1.length : Nat) : Int)))) wants_none rfl rfl rfl rfl ?_
    refine an ?_
    refine sq ?_
    refine awp_cond (decide (n7 < ((a1.length : Nat) : Int))) rfl (fun hb8 => ?_) (fun hb8 => ?_)
    · obtain ⟨x9, tl, hx10, h, hk1⟩ := RG.t hA14 h hb8
      unfold M139_L1 at h
      refine awp_skip ?_
      refine sq ?_
      refine awp_block ?_
      refine sr ?_
      refine am (iV n7) rfl rfl ?_
      refine aa (iV n7) rfl rfl ?_
      refine an ?_
      refine sr ?_
      refine am (V.fn (.func 104) [] [(V.iptr [(sV a2), (iV a3), (V.lst 3 (a4.map encTExposure))] 0)]) rfl rfl ?_
      refine am (V.lst 3 (a1.map encTRelease)) rfl rfl ?_
      refine am (iV n7) rfl rfl ?_
      refine aops_index_lst (encTRelease x9) tSl49 wants_none rfl rfl (idx_some hx10).1 (idx_map encTRelease hx10) rfl ?_
      refine aops_iload_agg (cs := (encTRelease x9)) tA42 wants_none rfl rfl rfl rfl ?_
      replace h := bind_some h
      obtain ⟨y11, hx12, h⟩ := h
      refine aops_callv (bV y11) [(V.agg (encTRelease x9)), (V.iptr [(sV a2), (iV a3), (V.lst 3 (a4.map encTExposure))] 0)] fOk104 wants_none rfl rfl (.cons (Imm.agg (imms_encTRelease _)) (.cons (Imm.iptr _ _) .nil)) (W104 F x9 a2 a3 a4 y11 hx12) rfl ?_
      refine an ?_
      refine awp_cond y11 rfl (fun hb13 => ?_) (fun hb13 => ?_)
      · replace h := ite_t hb13 h
        refine sr ?_
        refine am (iV n7) rfl rfl ?_
        refine aa (iV n7) rfl rfl ?_
        refine an ?_
        refine awp_ret ?_
        replace h := Option.some.inj h
        subst h
        exact ⟨.inl rfl, .one (.tmp rfl (Imm.con _))⟩
      replace h := ite_f hb13 h
      refine awp_skip ?_
      refine rg ?_
      refine aops_bin (.int .i64 (w64 (n7 + 1))) wants_none rfl rfl rfl rfl ?_
      refine am (iV (w64 (n7 + 1))) rfl rfl ?_
      refine an ?_
      exact awp_back (ih1 (w64 (n7 + 1)) (hk1 _ h)) (ghost_ren 0 (fun i => ([] : List Nat).getD i 0) _ _ (by decide) (EnvSub.get (.cons (Sub.imm (Imm.lst _ _)) (.cons (Sub.imm (Imm.fn .nil (.cons (Imm.iptr _ _) .nil))) (.cons (Sub.imm (Imm.con _)) (.cons (Sub.imm (Imm.con _)) .nil))))) (HpSub.get .nil) rfl)
    replace h := RG.f h hb8
    unfold M139_L1 at h
    refine awp_exit ?_
    exact ⟨(), h, (ghost_ren 0 (fun i => ([] : List Nat).getD i 0) _ _ (by decide) (EnvSub.get .nil) (HpSub.get .nil) rfl)⟩
  clear h
  intro _ h
  subst hk5
  refine sr ?_
  refine aa (iV (-1)) rfl rfl ?_
  refine an ?_
  refine awp_ret ?_
  replace h := Option.some.inj h
  subst h
  exact ⟨.inl rfl, .one (.tmp rfl (Imm.con _))⟩
theorem W103 (F : Nat) (a1 : (List TRelease)) (a2 : List UInt8) (a3 : Int) (a4 : List TExposure) (r : Bool) (h : M103 F a1 a2 a3 a4 = some r) : Pure Try.prog 103 [(V.lst 3 (a1.map encTRelease)), (V.fn (.func 104) [] [(V.iptr [(sV a2), (iV a3), (V.lst 3 (a4.map encTExposure))] 0)])] (bV r) := by
  refine pure_enter Try.func103 rfl rfl (l := [.tmp 4]) rfl rfl [(0, (V.lst 3 (a1.map encTRelease))), (1, (V.fn (.func 104) [] [(V.iptr [(sV a2), (iV a3), (V.lst 3 (a4.map encTExposure))] 0)]))] rfl (fun w0 m0 => ?_)
  unfold M103 at h
  refine sr ?_
  refine aa (bV false) rfl rfl ?_
  refine an ?_
  refine sr ?_
  refine am (V.lst 3 (a1.map encTRelease)) rfl rfl ?_
  refine am (V.fn (.func 104) [] [(V.iptr [(sV a2), (iV a3), (V.lst 3 (a4.map encTExposure))] 0)]) rfl rfl ?_
  replace h := bind_some h
  obtain ⟨y5, hx6, h⟩ := h
  refine aops_call (iV y5) [(V.lst 3 (a1.map encTRelease)), (V.fn (.func 104) [] [(V.iptr [(sV a2), (iV a3), (V.lst 3 (a4.map encTExposure))] 0)])] fOk139 wants_none (evm_cons rfl (evm_cons rfl evm_nil)) (.cons (Imm.lst _ _) (.cons (Imm.fn .nil (.cons (Imm.iptr _ _) .nil)) .nil)) (W139 F a1 a2 a3 a4 y5 hx6) rfl ?_
  refine aops_bin (.bool (decide (y5 ≥ 0))) wants_none rfl rfl rfl rfl ?_
  refine aa (bV (decide (y5 ≥ 0))) rfl rfl ?_
  refine an ?_
  refine awp_ret ?_
  replace h := Option.some.inj h
  subst h
  exact ⟨.inl rfl, .one (.tmp rfl (Imm.con _))⟩
end Go.Proofs.Ytkciogeafbbggaa
