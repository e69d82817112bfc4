/- Part of the proof: Z4W4b. -/
import Derived.Test.YtpbkggamiipdmaaGreatJ4ZP4a
import Derived.Test.YtpbkggamiipdmaaGreatJ4Z4Sh
import Derived.Test.YtpbkggamiipdmaaGreatJ4Z4W4a
import Derived.KernelRfl
namespace Go.Proofs.YtpbkggamiipdmaaGreat
open Go Go.Pv
set_option linter.unusedVariables false
set_option maxRecDepth 100000
theorem W77 (F : Nat) (a1 : (List (List UInt8))) (a2 : (List (List UInt8))) (r : (List (List UInt8))) (h : M77 F a1 a2 = some r) : Pure Tryz.prog 77 [(V.lst 1 (a1.map encS)), (V.lst 1 (a2.map encS))] (V.lst 1 (r.map encS)) := by
 refine pin (fun r => (V.lst 1 (r.map encS))) r rfl Tryz.func77 rfl rfl rfl rfl rfl (fun w0 m0 hg => ?_)
 unfold M77 at h
 refine rn 9 rfl ?_
 refine jK h (fun (p : (List (List UInt8))) => (⟨[(5, (V.own 0 p.length))], [(0, (Ob.arr 9 1 (p.map encS)))], 1⟩ : St)) (fun k3 p => k3 p = some r) (fun k3 h => ?_) ?_
 ·refine rn 1 rfl ?_
  refine lC (fun (p : (List (List UInt8)) × (List (List UInt8)) × (List (List UInt8))) => (⟨[(0, (V.lst 1 ((p.1).map encS))), (1, (V.lst 1 ((p.2.1).map encS))), (5, (V.own 0 (p.2.2).length))], [(0, (Ob.arr 9 1 ((p.2.2).map encS)))], 1⟩ : St)) (fun n p => M77_L1 F k3 n p.1 p.2.1 p.2.2 = some r) (fun p h => by simp [M77_L1] at h) F (a1, a2, ([] : List (List UInt8))) h (Ghost.trans (ghost_nilE 5 9 1 rfl) (ghost_ren 1 (fun i => ([0] : List Nat).getD i 0) _ _ (by decide) (EnvSub.get (.cons (Sub.imm (Imm.lst _ _)) (.cons (Sub.imm (Imm.lst _ _)) (.cons (Sub.ownE rfl rfl (by simp)) .nil)))) (HpSub.get (.cons rfl (ObSub.rows (rows_imm imms_encS)) .nil)) rfl)) (fun n p h => ?_)
  obtain ⟨l8, l9, l10⟩ := p
  unfold M77_L1 at h
  refine rn 4 rfl ?_
  refine ln rfl rfl ?_
  refine rn 2 rfl ?_
  refine spO 9 h rfl (fun hb11 h => ?_) (fun hb11 h => ?_)
  ·refine rn 8 rfl ?_
   refine jK h (fun (p : (List (List UInt8)) × (List (List UInt8)) × (List (List UInt8))) => (⟨[(0, (V.lst 1 ((p.1).map encS))), (1, (V.lst 1 ((p.2.1).map encS))), (5, (V.own 0 (p.2.2).length)), (12, (V.con undef))], [(0, (Ob.arr 9 1 ((p.2.2).map encS)))], 1⟩ : St)) (fun k12 p => k12 p.1 p.2.1 p.2.2 = some r) (fun k12 h => ?_) ?_
   ·refine rn 2 rfl ?_
    refine bs h (fun hb16 h => ?_) (fun hb16 h => ?_)
    ·refine dr mixed (vs 1 rfl (nD rfl rfl rfl (vs 1 rfl (vb hb16 rfl (vs 14 rfl .nil))))) (by kernel_rfl) ?_
     obtain ⟨x17, hx18, h⟩ := bind_some h
     refine rn 1 rfl ?_
     refine ck h (fun hc19 h => ?_)
     refine ck h (fun hc20 h => ?_)
     refine awp_ghost ghost_res ?_
     refine fa ?_
     refine dr mixed (vs 2 rfl (iD hx18 rfl rfl rfl (vs 1 rfl (xD (OD.mk [(37, (sV x17))] [] [(38, (V.lst 1 (([x17] : List (List UInt8)).map encS)))] []) ⟨⟨rfl, trivial⟩, trivial⟩ (by exact fun S hn h hh => aops_buildSlice_imm [(0, (sV x17))] [[(sV x17)]] tEl25 tZ9 wants_none rfl rfl rfl rfl (evp_cons h.1 evp_nil) rfl rfl (by simp) (imms_rows (.cons (.cons (Imm.con _) .nil) .nil)) rfl (aops_nil ⟨rfl, rfl⟩)) rfl (xD (OD.mk [(34, (V.own 0 l10.length)), (38, (V.lst 1 (([x17] : List (List UInt8)).map encS)))] [(0, (Ob.arr 9 1 (l10.map encS))), (1, Ob.res)] [(39, (V.own 1 (l10 ++ ([x17] : List (List UInt8))).length))] [(1, (Ob.arr 9 1 ((l10 ++ ([x17] : List (List UInt8))).map encS))), (0, Ob.dead)]) ⟨⟨rfl, rfl, trivial⟩, ⟨rfl, rfl, trivial⟩⟩ (by exact fun S hn h hh => aops_append_at 1 rfl hn hh.2.1 (([x17] : List (List UInt8)).map encS) ((l10 ++ ([x17] : List (List UInt8))).map encS) tEl25 tIsSl25 rfl rfl wants_none h.1 hh.1 (by simp) h.2.1 (.lst (rows_one one_encS)) (map_snoc encS l10 ([x17] : List (List UInt8))) (List.length_map ..) hc19 rfl (aops_nil ⟨rfl, rfl⟩)) rfl (vs 1 rfl (xD (OD.mk [(40, (V.lst 1 (l8.map encS)))] [] [(41, (V.lst 1 ((l8.drop 1).map encS)))] []) ⟨⟨rfl, trivial⟩, trivial⟩ (by exact fun S hn h hh => aops_slice_lst (1) (l8.length) ((l8.drop 1).map encS) tSl25 wants_none h.1 ⟨_, rfl⟩ (List.length_map ..).symm hc20 (Nat.le_of_eq (List.length_map ..).symm) slL_hi rfl (aops_nil ⟨rfl, rfl⟩)) rfl (vs 2 rfl .nil)))))))) (by kernel_rfl) ?_
     refine rn 1 rfl ?_
     exact jX ((l8.drop 1), l9, (l10 ++ ([x17] : List (List UInt8)))) h (gr [1] rfl (hR rfl rfl .nil) rfl)
    obtain ⟨x21, hx22, h⟩ := bind_some h
    obtain ⟨x23, hx24, h⟩ := bind_some h
    refine dr mixed (vs 1 rfl (nD rfl rfl rfl (vs 1 rfl (vb hb16 rfl (vs 1 rfl (nD rfl rfl rfl (vs 1 rfl (vb hb11 rfl (vs 1 rfl (iD hx22 rfl rfl rfl (vs 2 rfl (iD hx24 rfl rfl rfl (vs 5 rfl .nil))))))))))))) (by kernel_rfl) ?_
    refine jK h (fun (p : (List (List UInt8)) × (List (List UInt8)) × (List (List UInt8))) => (⟨[(0, (V.lst 1 ((p.1).map encS))), (1, (V.lst 1 ((p.2.1).map encS))), (5, (V.own 0 (p.2.2).length)), (12, (V.con undef)), (31, (bV (Op.bytesLess x21 x23))), (32, (bV (Op.bytesLess x21 x23)))], [(0, (Ob.arr 9 1 ((p.2.2).map encS)))], 1⟩ : St)) (fun k25 p => k25 p.1 p.2.1 p.2.2 = some r) (fun k25 h => ?_) ?_
    ·refine spC h rfl (fun hb29 h => ?_) (fun hb29 h => ?_)
     ·obtain ⟨x30, hx31, h⟩ := bind_some h
      refine ck h (fun hc32 h => ?_)
      refine ck h (fun hc33 h => ?_)
      refine awp_ghost ghost_res ?_
      refine fa ?_
      refine dr mixed (vs 2 rfl (iD hx31 rfl rfl rfl (vs 1 rfl (xD (OD.mk [(37, (sV x30))] [] [(38, (V.lst 1 (([x30] : List (List UInt8)).map encS)))] []) ⟨⟨rfl, trivial⟩, trivial⟩ (by exact fun S hn h hh => aops_buildSlice_imm [(0, (sV x30))] [[(sV x30)]] tEl25 tZ9 wants_none rfl rfl rfl rfl (evp_cons h.1 evp_nil) rfl rfl (by simp) (imms_rows (.cons (.cons (Imm.con _) .nil) .nil)) rfl (aops_nil ⟨rfl, rfl⟩)) rfl (xD (OD.mk [(34, (V.own 0 l10.length)), (38, (V.lst 1 (([x30] : List (List UInt8)).map encS)))] [(0, (Ob.arr 9 1 (l10.map encS))), (1, Ob.res)] [(39, (V.own 1 (l10 ++ ([x30] : List (List UInt8))).length))] [(1, (Ob.arr 9 1 ((l10 ++ ([x30] : List (List UInt8))).map encS))), (0, Ob.dead)]) ⟨⟨rfl, rfl, trivial⟩, ⟨rfl, rfl, trivial⟩⟩ (by exact fun S hn h hh => aops_append_at 1 rfl hn hh.2.1 (([x30] : List (List UInt8)).map encS) ((l10 ++ ([x30] : List (List UInt8))).map encS) tEl25 tIsSl25 rfl rfl wants_none h.1 hh.1 (by simp) h.2.1 (.lst (rows_one one_encS)) (map_snoc encS l10 ([x30] : List (List UInt8))) (List.length_map ..) hc32 rfl (aops_nil ⟨rfl, rfl⟩)) rfl (vs 1 rfl (xD (OD.mk [(40, (V.lst 1 (l8.map encS)))] [] [(41, (V.lst 1 ((l8.drop 1).map encS)))] []) ⟨⟨rfl, trivial⟩, trivial⟩ (by exact fun S hn h hh => aops_slice_lst (1) (l8.length) ((l8.drop 1).map encS) tSl25 wants_none h.1 ⟨_, rfl⟩ (List.length_map ..).symm hc33 (Nat.le_of_eq (List.length_map ..).symm) slL_hi rfl (aops_nil ⟨rfl, rfl⟩)) rfl (vs 2 rfl .nil)))))))) (by kernel_rfl) ?_
      exact jX ((l8.drop 1), l9, (l10 ++ ([x30] : List (List UInt8)))) h (gr [1] rfl (hR rfl rfl .nil) rfl)
     refine rn 1 rfl ?_
     refine bs h (fun hb34 h => ?_) (fun hb34 h => ?_)
     ·refine dr mixed (vs 1 rfl (nD rfl rfl rfl (vs 1 rfl (vb hb34 rfl (vs 9 rfl .nil))))) (by kernel_rfl) ?_
      obtain ⟨x35, hx36, h⟩ := bind_some h
      refine rn 1 rfl ?_
      refine ck h (fun hc37 h => ?_)
      refine ck h (fun hc38 h => ?_)
      refine awp_ghost ghost_res ?_
      refine fa ?_
      refine dr mixed (vs 2 rfl (iD hx36 rfl rfl rfl (vs 1 rfl (xD (OD.mk [(58, (sV x35))] [] [(59, (V.lst 1 (([x35] : List (List UInt8)).map encS)))] []) ⟨⟨rfl, trivial⟩, trivial⟩ (by exact fun S hn h hh => aops_buildSlice_imm [(0, (sV x35))] [[(sV x35)]] tEl25 tZ9 wants_none rfl rfl rfl rfl (evp_cons h.1 evp_nil) rfl rfl (by simp) (imms_rows (.cons (.cons (Imm.con _) .nil) .nil)) rfl (aops_nil ⟨rfl, rfl⟩)) rfl (xD (OD.mk [(55, (V.own 0 l10.length)), (59, (V.lst 1 (([x35] : List (List UInt8)).map encS)))] [(0, (Ob.arr 9 1 (l10.map encS))), (1, Ob.res)] [(60, (V.own 1 (l10 ++ ([x35] : List (List UInt8))).length))] [(1, (Ob.arr 9 1 ((l10 ++ ([x35] : List (List UInt8))).map encS))), (0, Ob.dead)]) ⟨⟨rfl, rfl, trivial⟩, ⟨rfl, rfl, trivial⟩⟩ (by exact fun S hn h hh => aops_append_at 1 rfl hn hh.2.1 (([x35] : List (List UInt8)).map encS) ((l10 ++ ([x35] : List (List UInt8))).map encS) tEl25 tIsSl25 rfl rfl wants_none h.1 hh.1 (by simp) h.2.1 (.lst (rows_one one_encS)) (map_snoc encS l10 ([x35] : List (List UInt8))) (List.length_map ..) hc37 rfl (aops_nil ⟨rfl, rfl⟩)) rfl (vs 1 rfl (xD (OD.mk [(61, (V.lst 1 (l9.map encS)))] [] [(62, (V.lst 1 ((l9.drop 1).map encS)))] []) ⟨⟨rfl, trivial⟩, trivial⟩ (by exact fun S hn h hh => aops_slice_lst (1) (l9.length) ((l9.drop 1).map encS) tSl25 wants_none h.1 ⟨_, rfl⟩ (List.length_map ..).symm hc38 (Nat.le_of_eq (List.length_map ..).symm) slL_hi rfl (aops_nil ⟨rfl, rfl⟩)) rfl (vs 2 rfl .nil)))))))) (by kernel_rfl) ?_
      exact jX (l8, (l9.drop 1), (l10 ++ ([x35] : List (List UInt8)))) h (gr [1] rfl (hR rfl rfl .nil) rfl)
     obtain ⟨x39, hx40, h⟩ := bind_some h
     obtain ⟨x41, hx42, h⟩ := bind_some h
     refine dr mixed (vs 1 rfl (nD rfl rfl rfl (vs 1 rfl (vb hb34 rfl (vs 1 rfl (iD hx40 rfl rfl rfl (vs 2 rfl (iD hx42 rfl rfl rfl (vs 4 rfl .nil))))))))) (by kernel_rfl) ?_
     refine spC h rfl (fun hb43 h => ?_) (fun hb43 h => ?_)
     ·obtain ⟨x44, hx45, h⟩ := bind_some h
      refine ck h (fun hc46 h => ?_)
      refine ck h (fun hc47 h => ?_)
      refine awp_ghost ghost_res ?_
      refine fa ?_
      refine dr mixed (vs 2 rfl (iD hx45 rfl rfl rfl (vs 1 rfl (xD (OD.mk [(58, (sV x44))] [] [(59, (V.lst 1 (([x44] : List (List UInt8)).map encS)))] []) ⟨⟨rfl, trivial⟩, trivial⟩ (by exact fun S hn h hh => aops_buildSlice_imm [(0, (sV x44))] [[(sV x44)]] tEl25 tZ9 wants_none rfl rfl rfl rfl (evp_cons h.1 evp_nil) rfl rfl (by simp) (imms_rows (.cons (.cons (Imm.con _) .nil) .nil)) rfl (aops_nil ⟨rfl, rfl⟩)) rfl (xD (OD.mk [(55, (V.own 0 l10.length)), (59, (V.lst 1 (([x44] : List (List UInt8)).map encS)))] [(0, (Ob.arr 9 1 (l10.map encS))), (1, Ob.res)] [(60, (V.own 1 (l10 ++ ([x44] : List (List UInt8))).length))] [(1, (Ob.arr 9 1 ((l10 ++ ([x44] : List (List UInt8))).map encS))), (0, Ob.dead)]) ⟨⟨rfl, rfl, trivial⟩, ⟨rfl, rfl, trivial⟩⟩ (by exact fun S hn h hh => aops_append_at 1 rfl hn hh.2.1 (([x44] : List (List UInt8)).map encS) ((l10 ++ ([x44] : List (List UInt8))).map encS) tEl25 tIsSl25 rfl rfl wants_none h.1 hh.1 (by simp) h.2.1 (.lst (rows_one one_encS)) (map_snoc encS l10 ([x44] : List (List UInt8))) (List.length_map ..) hc46 rfl (aops_nil ⟨rfl, rfl⟩)) rfl (vs 1 rfl (xD (OD.mk [(61, (V.lst 1 (l9.map encS)))] [] [(62, (V.lst 1 ((l9.drop 1).map encS)))] []) ⟨⟨rfl, trivial⟩, trivial⟩ (by exact fun S hn h hh => aops_slice_lst (1) (l9.length) ((l9.drop 1).map encS) tSl25 wants_none h.1 ⟨_, rfl⟩ (List.length_map ..).symm hc47 (Nat.le_of_eq (List.length_map ..).symm) slL_hi rfl (aops_nil ⟨rfl, rfl⟩)) rfl (vs 2 rfl .nil)))))))) (by kernel_rfl) ?_
      exact jX (l8, (l9.drop 1), (l10 ++ ([x44] : List (List UInt8)))) h (gr [1] rfl (hR rfl rfl .nil) rfl)
     refine rn 2 rfl ?_
     refine ck h (fun hc48 h => ?_)
     refine aops_slice_lst (1) (l9.length) ((l9.drop 1).map encS) tSl25 wants_none rfl ⟨_, rfl⟩ (List.length_map ..).symm hc48 (Nat.le_of_eq (List.length_map ..).symm) slL_hi rfl ?_
     refine fo (rn 2 rfl ?_)
     exact jX (l8, (l9.drop 1), l10) h (gr [0] rfl (hR rfl rfl .nil) rfl)
    rintro ⟨l26, l27, l28⟩ h
    refine rn 1 rfl ?_
    exact jX (l26, l27, l28) h (gr [0] rfl (hR rfl rfl .nil) rfl)
   rintro ⟨l13, l14, l15⟩ h
   refine rn 1 rfl ?_
   exact jX (l13, l14, l15) h (gr [0] rfl (hR rfl rfl .nil) rfl)
  refine rn 1 rfl ?_
  refine ln rfl rfl ?_
  refine rn 3 rfl ?_
  refine spC h rfl (fun hb49 h => ?_) (fun hb49 h => ?_)
  ·refine rn 2 rfl ?_
   refine jK h (fun (p : (List (List UInt8)) × (List (List UInt8)) × (List (List UInt8))) => (⟨[(0, (V.lst 1 ((p.1).map encS))), (1, (V.lst 1 ((p.2.1).map encS))), (5, (V.own 0 (p.2.2).length)), (12, (bV (decide (((l9.length : Nat) : Int) > 0)))), (31, (V.con undef))], [(0, (Ob.arr 9 1 ((p.2.2).map encS)))], 1⟩ : St)) (fun k50 p => k50 p.1 p.2.1 p.2.2 = some r) (fun k50 h => ?_) ?_
   ·refine rn 2 rfl ?_
    refine bs h (fun hb54 h => ?_) (fun hb54 h => ?_)
    ·refine dr mixed (vs 1 rfl (nD rfl rfl rfl (vs 1 rfl (vb hb54 rfl (vs 14 rfl .nil))))) (by kernel_rfl) ?_
     obtain ⟨x55, hx56, h⟩ := bind_some h
     refine rn 1 rfl ?_
     refine ck h (fun hc57 h => ?_)
     refine ck h (fun hc58 h => ?_)
     refine awp_ghost ghost_res ?_
     refine fa ?_
     refine dr mixed (vs 2 rfl (iD hx56 rfl rfl rfl (vs 1 rfl (xD (OD.mk [(37, (sV x55))] [] [(38, (V.lst 1 (([x55] : List (List UInt8)).map encS)))] []) ⟨⟨rfl, trivial⟩, trivial⟩ (by exact fun S hn h hh => aops_buildSlice_imm [(0, (sV x55))] [[(sV x55)]] tEl25 tZ9 wants_none rfl rfl rfl rfl (evp_cons h.1 evp_nil) rfl rfl (by simp) (imms_rows (.cons (.cons (Imm.con _) .nil) .nil)) rfl (aops_nil ⟨rfl, rfl⟩)) rfl (xD (OD.mk [(34, (V.own 0 l10.length)), (38, (V.lst 1 (([x55] : List (List UInt8)).map encS)))] [(0, (Ob.arr 9 1 (l10.map encS))), (1, Ob.res)] [(39, (V.own 1 (l10 ++ ([x55] : List (List UInt8))).length))] [(1, (Ob.arr 9 1 ((l10 ++ ([x55] : List (List UInt8))).map encS))), (0, Ob.dead)]) ⟨⟨rfl, rfl, trivial⟩, ⟨rfl, rfl, trivial⟩⟩ (by exact fun S hn h hh => aops_append_at 1 rfl hn hh.2.1 (([x55] : List (List UInt8)).map encS) ((l10 ++ ([x55] : List (List UInt8))).map encS) tEl25 tIsSl25 rfl rfl wants_none h.1 hh.1 (by simp) h.2.1 (.lst (rows_one one_encS)) (map_snoc encS l10 ([x55] : List (List UInt8))) (List.length_map ..) hc57 rfl (aops_nil ⟨rfl, rfl⟩)) rfl (vs 1 rfl (xD (OD.mk [(40, (V.lst 1 (l8.map encS)))] [] [(41, (V.lst 1 ((l8.drop 1).map encS)))] []) ⟨⟨rfl, trivial⟩, trivial⟩ (by exact fun S hn h hh => aops_slice_lst (1) (l8.length) ((l8.drop 1).map encS) tSl25 wants_none h.1 ⟨_, rfl⟩ (List.length_map ..).symm hc58 (Nat.le_of_eq (List.length_map ..).symm) slL_hi rfl (aops_nil ⟨rfl, rfl⟩)) rfl (vs 2 rfl .nil)))))))) (by kernel_rfl) ?_
     refine rn 1 rfl ?_
     exact jX ((l8.drop 1), l9, (l10 ++ ([x55] : List (List UInt8)))) h (gr [1] rfl (hR rfl rfl .nil) rfl)
    refine dr mixed (vs 1 rfl (nD rfl rfl rfl (vs 1 rfl (vb hb54 rfl (vs 1 rfl (nD rfl rfl rfl (vs 1 rfl (vb hb11 rfl (vs 10 rfl .nil))))))))) (by kernel_rfl) ?_
    refine rn 2 rfl ?_
    refine bs h (fun hb59 h => ?_) (fun hb59 h => ?_)
    ·refine dr mixed (vs 1 rfl (nD rfl rfl rfl (vs 1 rfl (vb hb59 rfl (vs 9 rfl .nil))))) (by kernel_rfl) ?_
     obtain ⟨x60, hx61, h⟩ := bind_some h
     refine rn 1 rfl ?_
     refine ck h (fun hc62 h => ?_)
     refine ck h (fun hc63 h => ?_)
     refine awp_ghost ghost_res ?_
     refine fa ?_
     refine dr mixed (vs 2 rfl (iD hx61 rfl rfl rfl (vs 1 rfl (xD (OD.mk [(58, (sV x60))] [] [(59, (V.lst 1 (([x60] : List (List UInt8)).map encS)))] []) ⟨⟨rfl, trivial⟩, trivial⟩ (by exact fun S hn h hh => aops_buildSlice_imm [(0, (sV x60))] [[(sV x60)]] tEl25 tZ9 wants_none rfl rfl rfl rfl (evp_cons h.1 evp_nil) rfl rfl (by simp) (imms_rows (.cons (.cons (Imm.con _) .nil) .nil)) rfl (aops_nil ⟨rfl, rfl⟩)) rfl (xD (OD.mk [(55, (V.own 0 l10.length)), (59, (V.lst 1 (([x60] : List (List UInt8)).map encS)))] [(0, (Ob.arr 9 1 (l10.map encS))), (1, Ob.res)] [(60, (V.own 1 (l10 ++ ([x60] : List (List UInt8))).length))] [(1, (Ob.arr 9 1 ((l10 ++ ([x60] : List (List UInt8))).map encS))), (0, Ob.dead)]) ⟨⟨rfl, rfl, trivial⟩, ⟨rfl, rfl, trivial⟩⟩ (by exact fun S hn h hh => aops_append_at 1 rfl hn hh.2.1 (([x60] : List (List UInt8)).map encS) ((l10 ++ ([x60] : List (List UInt8))).map encS) tEl25 tIsSl25 rfl rfl wants_none h.1 hh.1 (by simp) h.2.1 (.lst (rows_one one_encS)) (map_snoc encS l10 ([x60] : List (List UInt8))) (List.length_map ..) hc62 rfl (aops_nil ⟨rfl, rfl⟩)) rfl (vs 1 rfl (xD (OD.mk [(61, (V.lst 1 (l9.map encS)))] [] [(62, (V.lst 1 ((l9.drop 1).map encS)))] []) ⟨⟨rfl, trivial⟩, trivial⟩ (by exact fun S hn h hh => aops_slice_lst (1) (l9.length) ((l9.drop 1).map encS) tSl25 wants_none h.1 ⟨_, rfl⟩ (List.length_map ..).symm hc63 (Nat.le_of_eq (List.length_map ..).symm) slL_hi rfl (aops_nil ⟨rfl, rfl⟩)) rfl (vs 2 rfl .nil)))))))) (by kernel_rfl) ?_
     refine rn 1 rfl ?_
     exact jX (l8, (l9.drop 1), (l10 ++ ([x60] : List (List UInt8)))) h (gr [1] rfl (hR rfl rfl .nil) rfl)
    obtain ⟨x64, hx65, h⟩ := bind_some h
    obtain ⟨x66, hx67, h⟩ := bind_some h
    refine dr mixed (vs 1 rfl (nD rfl rfl rfl (vs 1 rfl (vb hb59 rfl (vs 1 rfl (iD hx65 rfl rfl rfl (vs 2 rfl (iD hx67 rfl rfl rfl (vs 4 rfl .nil))))))))) (by kernel_rfl) ?_
    refine jK h (fun (p : (List (List UInt8))) => (⟨[(0, (V.lst 1 (l8.map encS))), (1, (V.lst 1 ((l9.drop 1).map encS))), (5, (V.own 0 p.length)), (12, (bV (decide (((l9.length : Nat) : Int) > 0)))), (31, (V.con undef)), (32, (bV false)), (53, (bV (!(Op.bytesLess x64 x66 || x64 == x66))))], [(0, (Ob.arr 9 1 (p.map encS)))], 1⟩ : St)) (fun k68 p => k68 p = some r) (fun k68 h => ?_) ?_
    ·refine spC h rfl (fun hb70 h => ?_) (fun hb70 h => ?_)
     ·obtain ⟨x71, hx72, h⟩ := bind_some h
      refine ck h (fun hc73 h => ?_)
      refine ck h (fun hc74 h => ?_)
      refine awp_ghost ghost_res ?_
      refine fa ?_
      refine dr mixed (vs 2 rfl (iD hx72 rfl rfl rfl (vs 1 rfl (xD (OD.mk [(58, (sV x71))] [] [(59, (V.lst 1 (([x71] : List (List UInt8)).map encS)))] []) ⟨⟨rfl, trivial⟩, trivial⟩ (by exact fun S hn h hh => aops_buildSlice_imm [(0, (sV x71))] [[(sV x71)]] tEl25 tZ9 wants_none rfl rfl rfl rfl (evp_cons h.1 evp_nil) rfl rfl (by simp) (imms_rows (.cons (.cons (Imm.con _) .nil) .nil)) rfl (aops_nil ⟨rfl, rfl⟩)) rfl (xD (OD.mk [(55, (V.own 0 l10.length)), (59, (V.lst 1 (([x71] : List (List UInt8)).map encS)))] [(0, (Ob.arr 9 1 (l10.map encS))), (1, Ob.res)] [(60, (V.own 1 (l10 ++ ([x71] : List (List UInt8))).length))] [(1, (Ob.arr 9 1 ((l10 ++ ([x71] : List (List UInt8))).map encS))), (0, Ob.dead)]) ⟨⟨rfl, rfl, trivial⟩, ⟨rfl, rfl, trivial⟩⟩ (by exact fun S hn h hh => aops_append_at 1 rfl hn hh.2.1 (([x71] : List (List UInt8)).map encS) ((l10 ++ ([x71] : List (List UInt8))).map encS) tEl25 tIsSl25 rfl rfl wants_none h.1 hh.1 (by simp) h.2.1 (.lst (rows_one one_encS)) (map_snoc encS l10 ([x71] : List (List UInt8))) (List.length_map ..) hc73 rfl (aops_nil ⟨rfl, rfl⟩)) rfl (vs 1 rfl (xD (OD.mk [(61, (V.lst 1 (l9.map encS)))] [] [(62, (V.lst 1 ((l9.drop 1).map encS)))] []) ⟨⟨rfl, trivial⟩, trivial⟩ (by exact fun S hn h hh => aops_slice_lst (1) (l9.length) ((l9.drop 1).map encS) tSl25 wants_none h.1 ⟨_, rfl⟩ (List.length_map ..).symm hc74 (Nat.le_of_eq (List.length_map ..).symm) slL_hi rfl (aops_nil ⟨rfl, rfl⟩)) rfl (vs 2 rfl .nil)))))))) (by kernel_rfl) ?_
      exact jX (l10 ++ ([x71] : List (List UInt8))) h (gr [1] rfl (hR rfl rfl .nil) rfl)
     refine rn 2 rfl ?_
     refine ck h (fun hc75 h => ?_)
     refine aops_slice_lst (1) (l9.length) ((l9.drop 1).map encS) tSl25 wants_none rfl ⟨_, rfl⟩ (List.length_map ..).symm hc75 (Nat.le_of_eq (List.length_map ..).symm) slL_hi rfl ?_
     refine fo (rn 2 rfl ?_)
     exact jX l10 h (gr [0] rfl (hR rfl rfl .nil) rfl)
    intro l69 h
    refine rn 1 rfl ?_
    exact jX (l8, (l9.drop 1), l69) h (gr [0] rfl (hR rfl rfl .nil) rfl)
   rintro ⟨l51, l52, l53⟩ h
   refine rn 1 rfl ?_
   exact jX (l51, l52, l53) h (gr [0] rfl (hR rfl rfl .nil) rfl)
  refine rn 1 rfl ?_
  exact jX l10 h (gr [0] rfl (hR rfl rfl .nil) rfl)
 intro l4 h
 refine rn 5 rfl ?_
 refine awp_ghost (ghost_frzEs 0 [4, 5, 63] rfl (rows_imm imms_encS) (List.forall_mem_cons.2 ⟨rfl, (List.forall_mem_cons.2 ⟨rfl, (List.forall_mem_cons.2 ⟨rfl, (fun _ hx => nomatch hx)⟩)⟩)⟩) (List.length_map ..).symm) ?_
 refine fa ?_
 exact rt h rfl
theorem W18 (F : Nat) (a1 : TGraph) (r : Int) (h : M18 F a1 = some r) : Pure Tryz.prog 18 [(V.agg (encTGraph a1))] (iV r) := by
 refine pin (fun r => (iV r)) r rfl Tryz.func18 rfl rfl rfl rfl rfl (fun w0 m0 hg => ?_)
 unfold M18 at h
 obtain ⟨y2, hx3, h⟩ := bind_some h
 obtain ⟨y4, hx5, h⟩ := bind_some h
 refine rn 6 rfl ?_
 refine dr mixed (vs 2 rfl (cD rfl rfl rfl rfl (W72 _ _ _ hx3) rfl (vs 1 rfl (cD rfl rfl rfl rfl (W73 _ _ _ hx5) rfl (vs 1 rfl .nil))))) (by kernel_rfl) ?_
 exact rt h rfl
theorem W16 (F : Nat) (a1 : (List TGraph)) (r : (TGraph × Int)) (h : M16 F a1 = some r) : Pure Tryz.prog 16 [(V.lst 4 (a1.map encTGraph))] (V.tup [(V.agg (encTGraph (r.1))), (iV (r.2))]) := by
 refine pin (fun r => (V.tup [(V.agg (encTGraph (r.1))), (iV (r.2))])) r rfl Tryz.func16 rfl rfl rfl rfl rfl (fun w0 m0 hg => ?_)
 unfold M16 at h
 refine rn 9 rfl ?_
 refine ln rfl rfl ?_
 refine rn 2 rfl ?_
 refine spC h rfl (fun hb2 h => ?_) (fun hb2 h => ?_)
 ·refine rn 6 rfl ?_
  exact rt h rfl
 refine rn 11 rfl ?_
 refine ln rfl rfl ?_
 refine rn 2 rfl ?_
 refine jK h (fun (p : (List TIface) × (List TType) × (List TFunc) × (List (List UInt8))) => (⟨[(2, (V.ptr 0 4 0 0)), (4, (V.ptr 1 4 0 0))], [(0, (Ob.arr 27 4 [[nV, nV, nV, nV]])), (1, (Ob.arr 27 4 [[(V.lst 2 ((p.1).map encTIface)), (V.lst 2 ((p.2.1).map encTType)), (V.lst 4 ((p.2.2.1).map encTFunc)), (V.lst 1 ((p.2.2.2).map encS))]]))], 2⟩ : St)) (fun k3 p => k3 p.1 p.2.1 p.2.2.1 p.2.2.2 = some r) (fun k3 h => ?_) ?_
 ·refine rn 1 rfl ?_
  refine wl (A := a1) 0 rfl (fun hA37 => ?_)
  refine lC (fun (p : Int × (List TIface) × (List TType) × (List TFunc) × (List (List UInt8))) => (⟨[(2, (V.ptr 0 4 0 0)), (4, (V.ptr 1 4 0 0)), (20, (V.lst 4 (a1.map encTGraph))), (21, (iV ((a1.length : Nat) : Int))), (22, (iV (p.1)))], [(0, (Ob.arr 27 4 [[nV, nV, nV, nV]])), (1, (Ob.arr 27 4 [[(V.lst 2 ((p.2.1).map encTIface)), (V.lst 2 ((p.2.2.1).map encTType)), (V.lst 4 ((p.2.2.2.1).map encTFunc)), (V.lst 1 ((p.2.2.2.2).map encS))]]))], 2⟩ : St)) (fun n p => RG a1 (fun tl nn => M16_L1 F k3 tl p.2.1 p.2.2.1 p.2.2.2.1 p.2.2.2.2 = some r) n p.1) (fun p h => RG.zero h) (a1.length + 1) (0, ([] : List TIface), ([] : List TType), ([] : List TFunc), ([] : List (List UInt8))) (RG.start h) (gr [0, 1] rfl (hB rfl rfl rfl (hB rfl rfl rfl .nil)) rfl) (fun n p h => ?_)
  obtain ⟨n13, l14, l15, l16, l17⟩ := p
  refine rn 5 rfl ?_
  refine spL rfl (fun hb18 => ?_) (fun hb18 => ?_)
  ·obtain ⟨x19, tl, hx20, h, hk1⟩ := RG.t hA37 h hb18
   unfold M16_L1 at h
   refine rn 5 rfl ?_
   refine ixh hx20 rfl rfl ?_
   obtain ⟨y21, hx22, h⟩ := bind_some h
   obtain ⟨y23, hx24, h⟩ := bind_some h
   refine rn 6 rfl ?_
   refine dr mixed (vs 2 rfl (cD rfl rfl rfl rfl (W72 _ _ _ hx22) rfl (vs 1 rfl (cD rfl rfl rfl rfl (W73 _ _ _ hx24) rfl (vs 1 rfl .nil))))) (by kernel_rfl) ?_
   refine rn 5 rfl ?_
   refine spC h rfl (fun hb25 h => ?_) (fun hb25 h => ?_)
   ·refine rn 7 rfl ?_
    exact rt h rfl
   refine rn 7 rfl ?_
   refine cl h rfl rfl rfl (W74 _ _ _) rfl (fun y26 hx27 h => ?_)
   refine rn 12 rfl ?_
   refine cl h rfl rfl rfl (W75 _ _ _) rfl (fun y28 hx29 h => ?_)
   refine rn 12 rfl ?_
   refine cl h rfl rfl rfl (W76 _ _ _) rfl (fun y30 hx31 h => ?_)
   refine rn 12 rfl ?_
   refine spO 61 h rfl (fun hb32 h => ?_) (fun hb32 h => ?_)
   ·refine rn 15 rfl ?_
    exact rt h rfl
   refine rn 4 rfl ?_
   refine spO 65 h rfl (fun hb33 h => ?_) (fun hb33 h => ?_)
   ·refine rn 11 rfl ?_
    exact rt h rfl
   refine rn 4 rfl ?_
   refine spC h rfl (fun hb34 h => ?_) (fun hb34 h => ?_)
   ·refine rn 6 rfl ?_
    exact rt h rfl
   refine rn 9 rfl ?_
   refine cl h rfl rfl rfl (W77 _ _ _) rfl (fun y35 hx36 h => ?_)
   refine rn 8 rfl ?_
   exact jX ((w64 (n13 + 1)), (y26.1), (y28.1), (y30.1), y35) (hk1 _ h) (gr [0, 1] rfl (hB rfl rfl rfl (hB rfl rfl rfl .nil)) rfl)
  replace h := RG.f h hb18
  unfold M16_L1 at h
  refine rn 1 rfl ?_
  exact jX (l14, l15, l16, l17) h (gr [0, 1] rfl (hB rfl rfl rfl (hB rfl rfl rfl .nil)) rfl)
 rintro ⟨l4, l5, l6, l7⟩ h
 refine rn 4 rfl ?_
 refine cl h rfl rfl rfl (W18 _ _) rfl (fun y38 hx39 h => ?_)
 refine rn 7 rfl ?_
 refine spC h rfl (fun hb40 h => ?_) (fun hb40 h => ?_)
 ·refine rn 7 rfl ?_
  exact rt h rfl
 refine rn 7 rfl ?_
 exact rt h rfl
theorem W52 (F : Nat) (a1 : TIface) (a2 : TIface) (r : Bool) (h : M52 F a1 a2 = some r) : Pure Tryz.prog 52 [(V.agg (encTIface a1)), (V.agg (encTIface a2))] (bV r) := by
 refine pin (fun r => (bV r)) r rfl Tryz.func52 rfl rfl rfl rfl rfl (fun w0 m0 hg => ?_)
 unfold M52 at h
 refine rn 14 rfl ?_
 refine spO 10 h rfl (fun hb3 h => ?_) (fun hb3 h => ?_)
 ·refine rn 4 rfl ?_
  refine cl h rfl rfl rfl (W26 _ _ _) rfl (fun y4 hx5 h => ?_)
  refine rn 3 rfl ?_
  exact rt h rfl
 refine rn 8 rfl ?_
 exact rt h rfl
theorem W55 (F : Nat) (a1 : (List TIface)) (a2 : (List TIface)) (r : Bool) (h : M55 F a1 a2 = some r) : Pure Tryz.prog 55 [(V.lst 2 (a1.map encTIface)), (V.lst 2 (a2.map encTIface)), (V.fn (.func 52) [] [])] (bV r) := by
 refine pin (fun r => (bV r)) r rfl Tryz.func55 rfl rfl rfl rfl rfl (fun w0 m0 hg => ?_)
 unfold M55 at h
 refine rn 8 rfl ?_
 refine ln rfl rfl ?_
 refine rn 1 rfl ?_
 refine ln rfl rfl ?_
 refine rn 2 rfl ?_
 refine spC h rfl (fun hb3 h => ?_) (fun hb3 h => ?_)
 ·refine rn 4 rfl ?_
  exact rt h rfl
 refine rn 5 rfl ?_
 refine ln rfl rfl ?_
 refine rn 2 rfl ?_
 refine jK h (fun _ : Unit => (⟨[], [], 0⟩ : St)) (fun k4 (_ : Unit) => k4 = some r) (fun k4 h => ?_) ?_
 ·refine rn 1 rfl ?_
  refine wl (A := a1) 0 rfl (fun hA15 => ?_)
  refine lC (fun (p : Int) => (⟨[(1, (V.lst 2 (a2.map encTIface))), (2, (V.fn (.func 52) [] [])), (15, (V.lst 2 (a1.map encTIface))), (16, (iV ((a1.length : Nat) : Int))), (17, (iV p))], [], 0⟩ : St)) (fun n p => RG a1 (fun tl nn => M55_L1 F a2 k4 tl nn = some r) n p) (fun p h => RG.zero h) (a1.length + 1) 0 (RG.start h) (g0 rfl rfl) (fun n n6 h => ?_)
  refine rn 5 rfl ?_
  refine spL rfl (fun hb7 => ?_) (fun hb7 => ?_)
  ·obtain ⟨x8, tl, hx9, h, hk1⟩ := RG.t hA15 h hb7
   unfold M55_L1 at h
   refine rn 6 rfl ?_
   refine ixh hx9 rfl rfl ?_
   refine rn 9 rfl ?_
   refine ixl h rfl rfl (fun x10 hx11 h => ?_)
   refine rn 9 rfl ?_
   refine cl h rfl rfl rfl (W52 _ _ _) rfl (fun y12 hx13 h => ?_)
   refine rn 2 rfl ?_
   refine spC h rfl (fun hb14 h => ?_) (fun hb14 h => ?_)
   ·refine rn 4 rfl ?_
    exact rt h rfl
   refine rn 6 rfl ?_
   exact jX (w64 (n6 + 1)) (hk1 _ h) (g0 rfl rfl)
  replace h := RG.f h hb7
  unfold M55_L1 at h
  refine rn 1 rfl ?_
  exact jX () h (g0 rfl rfl)
 intro _ h
 refine rn 4 rfl ?_
 exact rt h rfl
theorem W53 (F : Nat) (a1 : TType) (a2 : TType) (r : Bool) (h : M53 F a1 a2 = some r) : Pure Tryz.prog 53 [(V.agg (encTType a1)), (V.agg (encTType a2))] (bV r) := by
 refine pin (fun r => (bV r)) r rfl Tryz.func53 rfl rfl rfl rfl rfl (fun w0 m0 hg => ?_)
 unfold M53 at h
 refine rn 14 rfl ?_
 refine spO 10 h rfl (fun hb3 h => ?_) (fun hb3 h => ?_)
 ·refine rn 4 rfl ?_
  refine cl h rfl rfl rfl (W54 _ _ _) rfl (fun y4 hx5 h => ?_)
  refine rn 3 rfl ?_
  exact rt h rfl
 refine rn 8 rfl ?_
 exact rt h rfl
theorem W56 (F : Nat) (a1 : (List TType)) (a2 : (List TType)) (r : Bool) (h : M56 F a1 a2 = some r) : Pure Tryz.prog 56 [(V.lst 2 (a1.map encTType)), (V.lst 2 (a2.map encTType)), (V.fn (.func 53) [] [])] (bV r) := by
 refine pin (fun r => (bV r)) r rfl Tryz.func56 rfl rfl rfl rfl rfl (fun w0 m0 hg => ?_)
 unfold M56 at h
 refine rn 8 rfl ?_
 refine ln rfl rfl ?_
 refine rn 1 rfl ?_
 refine ln rfl rfl ?_
 refine rn 2 rfl ?_
 refine spC h rfl (fun hb3 h => ?_) (fun hb3 h => ?_)
 ·refine rn 4 rfl ?_
  exact rt h rfl
 refine rn 5 rfl ?_
 refine ln rfl rfl ?_
 refine rn 2 rfl ?_
 refine jK h (fun _ : Unit => (⟨[], [], 0⟩ : St)) (fun k4 (_ : Unit) => k4 = some r) (fun k4 h => ?_) ?_
 ·refine rn 1 rfl ?_
  refine wl (A := a1) 0 rfl (fun hA15 => ?_)
  refine lC (fun (p : Int) => (⟨[(1, (V.lst 2 (a2.map encTType))), (2, (V.fn (.func 53) [] [])), (15, (V.lst 2 (a1.map encTType))), (16, (iV ((a1.length : Nat) : Int))), (17, (iV p))], [], 0⟩ : St)) (fun n p => RG a1 (fun tl nn => M56_L1 F a2 k4 tl nn = some r) n p) (fun p h => RG.zero h) (a1.length + 1) 0 (RG.start h) (g0 rfl rfl) (fun n n6 h => ?_)
  refine rn 5 rfl ?_
  refine spL rfl (fun hb7 => ?_) (fun hb7 => ?_)
  ·obtain ⟨x8, tl, hx9, h, hk1⟩ := RG.t hA15 h hb7
   unfold M56_L1 at h
   refine rn 6 rfl ?_
   refine ixh hx9 rfl rfl ?_
   refine rn 9 rfl ?_
   refine ixl h rfl rfl (fun x10 hx11 h => ?_)
   refine rn 9 rfl ?_
   refine cl h rfl rfl rfl (W53 _ _ _) rfl (fun y12 hx13 h => ?_)
   refine rn 2 rfl ?_
   refine spC h rfl (fun hb14 h => ?_) (fun hb14 h => ?_)
   ·refine rn 4 rfl ?_
    exact rt h rfl
   refine rn 6 rfl ?_
   exact jX (w64 (n6 + 1)) (hk1 _ h) (g0 rfl rfl)
  replace h := RG.f h hb7
  unfold M56_L1 at h
  refine rn 1 rfl ?_
  exact jX () h (g0 rfl rfl)
 intro _ h
 refine rn 4 rfl ?_
 exact rt h rfl
theorem W58 (F : Nat) (a1 : TFunc) (a2 : TFunc) (r : Bool) (h : M58 F a1 a2 = some r) : Pure Tryz.prog 58 [(V.agg (encTFunc a1)), (V.agg (encTFunc a2))] (bV r) := by
 refine pin (fun r => (bV r)) r rfl Tryz.func58 rfl rfl rfl rfl rfl (fun w0 m0 hg => ?_)
 unfold M58 at h
 refine rn 14 rfl ?_
 refine spO 10 h rfl (fun hb3 h => ?_) (fun hb3 h => ?_)
 ·refine rn 7 rfl ?_
  refine spO 17 h rfl (fun hb4 h => ?_) (fun hb4 h => ?_)
  ·refine rn 4 rfl ?_
   refine cl h rfl rfl rfl (W126 _ _ _) rfl (fun y5 hx6 h => ?_)
   refine rn 2 rfl ?_
   refine spO 24 h rfl (fun hb7 h => ?_) (fun hb7 h => ?_)
   ·refine rn 4 rfl ?_
    refine cl h rfl rfl rfl (W26 _ _ _) rfl (fun y8 hx9 h => ?_)
    refine rn 3 rfl ?_
    exact rt h rfl
   refine rn 8 rfl ?_
   exact rt h rfl
  refine rn 15 rfl ?_
  exact rt h rfl
 refine rn 22 rfl ?_
 exact rt h rfl
theorem W57 (F : Nat) (a1 : (List TFunc)) (a2 : (List TFunc)) (r : Bool) (h : M57 F a1 a2 = some r) : Pure Tryz.prog 57 [(V.lst 4 (a1.map encTFunc)), (V.lst 4 (a2.map encTFunc)), (V.fn (.func 58) [] [])] (bV r) := by
 refine pin (fun r => (bV r)) r rfl Tryz.func57 rfl rfl rfl rfl rfl (fun w0 m0 hg => ?_)
 unfold M57 at h
 refine rn 8 rfl ?_
 refine ln rfl rfl ?_
 refine rn 1 rfl ?_
 refine ln rfl rfl ?_
 refine rn 2 rfl ?_
 refine spC h rfl (fun hb3 h => ?_) (fun hb3 h => ?_)
 ·refine rn 4 rfl ?_
  exact rt h rfl
 refine rn 5 rfl ?_
 refine ln rfl rfl ?_
 refine rn 2 rfl ?_
 refine jK h (fun _ : Unit => (⟨[], [], 0⟩ : St)) (fun k4 (_ : Unit) => k4 = some r) (fun k4 h => ?_) ?_
 ·refine rn 1 rfl ?_
  refine wl (A := a1) 0 rfl (fun hA15 => ?_)
  refine lC (fun (p : Int) => (⟨[(1, (V.lst 4 (a2.map encTFunc))), (2, (V.fn (.func 58) [] [])), (15, (V.lst 4 (a1.map encTFunc))), (16, (iV ((a1.length : Nat) : Int))), (17, (iV p))], [], 0⟩ : St)) (fun n p => RG a1 (fun tl nn => M57_L1 F a2 k4 tl nn = some r) n p) (fun p h => RG.zero h) (a1.length + 1) 0 (RG.start h) (g0 rfl rfl) (fun n n6 h => ?_)
  refine rn 5 rfl ?_
  refine spL rfl (fun hb7 => ?_) (fun hb7 => ?_)
  ·obtain ⟨x8, tl, hx9, h, hk1⟩ := RG.t hA15 h hb7
   unfold M57_L1 at h
   refine rn 6 rfl ?_
   refine ixh hx9 rfl rfl ?_
   refine rn 9 rfl ?_
   refine ixl h rfl rfl (fun x10 hx11 h => ?_)
   refine rn 9 rfl ?_
   refine cl h rfl rfl rfl (W58 _ _ _) rfl (fun y12 hx13 h => ?_)
   refine rn 2 rfl ?_
   refine spC h rfl (fun hb14 h => ?_) (fun hb14 h => ?_)
   ·refine rn 4 rfl ?_
    exact rt h rfl
   refine rn 6 rfl ?_
   exact jX (w64 (n6 + 1)) (hk1 _ h) (g0 rfl rfl)
  replace h := RG.f h hb7
  unfold M57_L1 at h
  refine rn 1 rfl ?_
  exact jX () h (g0 rfl rfl)
 intro _ h
 refine rn 4 rfl ?_
 exact rt h rfl
theorem W13 (F : Nat) (a1 : TGraph) (a2 : TGraph) (r : Bool) (h : M13 F a1 a2 = some r) : Pure Tryz.prog 13 [(V.agg (encTGraph a1)), (V.agg (encTGraph a2))] (bV r) := by
 refine pin (fun r => (bV r)) r rfl Tryz.func13 rfl rfl rfl rfl rfl (fun w0 m0 hg => ?_)
 unfold M13 at h
 refine rn 21 rfl ?_
 refine cl h rfl rfl rfl (W55 _ _ _) rfl (fun y3 hx4 h => ?_)
 refine rn 1 rfl ?_
 refine spO 13 h rfl (fun hb5 h => ?_) (fun hb5 h => ?_)
 ·refine rn 5 rfl ?_
  refine cl h rfl rfl rfl (W56 _ _ _) rfl (fun y6 hx7 h => ?_)
  refine rn 2 rfl ?_
  refine spO 21 h rfl (fun hb8 h => ?_) (fun hb8 h => ?_)
  ·refine rn 4 rfl ?_
   refine cl h rfl rfl rfl (W57 _ _ _) rfl (fun y9 hx10 h => ?_)
   refine rn 2 rfl ?_
   refine spO 28 h rfl (fun hb11 h => ?_) (fun hb11 h => ?_)
   ·refine rn 4 rfl ?_
    refine cl h rfl rfl rfl (W26 _ _ _) rfl (fun y12 hx13 h => ?_)
    refine rn 3 rfl ?_
    exact rt h rfl
   refine rn 8 rfl ?_
   exact rt h rfl
  refine rn 15 rfl ?_
  exact rt h rfl
 refine rn 23 rfl ?_
 exact rt h rfl
theorem W14 (F : Nat) (r : Bool) (h : M14 F = some r) : Pure Tryz.prog 14 [] (bV r) := by
 unfold M14 at h
 replace h := Option.some.inj h
 subst h
 exact told_pure
theorem W4 (F : Nat) (a1 : (List TGraph)) (r : Bool) (h : M4 F a1 = some r) : Pure Tryz.prog 4 [(V.lst 4 (a1.map encTGraph))] (bV r) := by
 refine pin (fun r => (bV r)) r rfl Tryz.func4 rfl rfl rfl rfl rfl (fun w0 m0 hg => ?_)
 unfold M4 at h
 refine rn 7 rfl ?_
 refine cl h rfl rfl rfl (W15 _ _) rfl (fun y2 hx3 h => ?_)
 refine rn 10 rfl ?_
 refine cl h rfl rfl rfl (W16 _ _) rfl (fun y4 hx5 h => ?_)
 refine rn 14 rfl ?_
 refine spO 24 h rfl (fun hb6 h => ?_) (fun hb6 h => ?_)
 ·refine rn 11 rfl ?_
  exact rt h rfl
 refine rn 2 rfl ?_
 refine cl h rfl rfl rfl (W13 _ _ _) rfl (fun y7 hx8 h => ?_)
 refine rn 3 rfl ?_
 refine spC h rfl (fun hb9 h => ?_) (fun hb9 h => ?_)
 ·refine rn 4 rfl ?_
  exact rt h rfl
 refine rn 5 rfl ?_
 refine ln rfl rfl ?_
 refine rn 2 rfl ?_
 refine jK h (fun _ : Unit => (⟨[(3, (V.ptr 0 4 0 0)), (4, (iV (y2.2)))], [(0, (Ob.arr 27 4 [(encTGraph (y2.1))]))], 1⟩ : St)) (fun k10 (_ : Unit) => k10 = some r) (fun k10 h => ?_) ?_
 ·refine rn 1 rfl ?_
  refine wl (A := a1) 0 rfl (fun hA21 => ?_)
  refine lC (fun (p : Int) => (⟨[(3, (V.ptr 0 4 0 0)), (4, (iV (y2.2))), (30, (V.lst 4 (a1.map encTGraph))), (31, (iV ((a1.length : Nat) : Int))), (32, (iV p))], [(0, (Ob.arr 27 4 [(encTGraph (y2.1))]))], 1⟩ : St)) (fun n p => RG a1 (fun tl nn => M4_L1 F k10 tl = some r) n p) (fun p h => RG.zero h) (a1.length + 1) 0 (RG.start h) (gr [0] rfl (hB rfl rfl rfl .nil) rfl) (fun n n12 h => ?_)
  refine rn 5 rfl ?_
  refine spL rfl (fun hb13 => ?_) (fun hb13 => ?_)
  ·obtain ⟨x14, tl, hx15, h, hk1⟩ := RG.t hA21 h hb13
   unfold M4_L1 at h
   refine rn 5 rfl ?_
   refine ixh hx15 rfl rfl ?_
   obtain ⟨y16, hx17, h⟩ := bind_some h
   obtain ⟨y18, hx19, h⟩ := bind_some h
   refine rn 5 rfl ?_
   refine dr mixed (vs 1 rfl (cD rfl rfl rfl rfl (W17 _ _ _ hx17) rfl (vs 1 rfl (cD rfl rfl rfl rfl (W18 _ _ _ hx19) rfl (vs 1 rfl .nil))))) (by kernel_rfl) ?_
   refine spC h rfl (fun hb20 h => ?_) (fun hb20 h => ?_)
   ·refine rn 4 rfl ?_
    exact rt h rfl
   refine rn 6 rfl ?_
   exact jX (w64 (n12 + 1)) (hk1 _ h) (gr [0] rfl (hB rfl rfl rfl .nil) rfl)
  replace h := RG.f h hb13
  unfold M4_L1 at h
  refine rn 1 rfl ?_
  exact jX () h (gr [0] rfl (hB rfl rfl rfl .nil) rfl)
 intro _ h
 refine rn 6 rfl ?_
 refine jK h (fun _ : Unit => (⟨[], [], 0⟩ : St)) (fun k22 (_ : Unit) => k22 = some r) (fun k22 h => ?_) ?_
 ·refine spC h rfl (fun hb23 h => ?_) (fun hb23 h => ?_)
  ·refine rn 4 rfl ?_
   refine aops_buildSlice [(0, (V.agg (encTGraph (y2.1)))), (1, (V.agg (encTGraph (y2.1))))] [(encTGraph (y2.1)), (encTGraph (y2.1))] tEl35 tZ27 rfl rfl rfl rfl wants_none (evp_cons rfl (evp_cons rfl evp_nil)) rfl rfl (by simp) rfl ?_
   obtain ⟨y24, hx25, h⟩ := bind_some h
   refine aops_ghost (ghost_frzE 1 47 rfl (imms_rows (.cons (imms_encTGraph _) (.cons (imms_encTGraph _) .nil))) rfl rfl) ?_
   refine aops_call (V.tup [(V.agg (encTGraph (y24.1))), (iV (y24.2))]) [(V.lst 4 (([(y2.1), (y2.1)] : List TGraph).map encTGraph))] fOk15 wants_none (evm_cons rfl evm_nil) (.cons (Imm.lst _ _) .nil) (W15 F ([(y2.1), (y2.1)] : List TGraph) y24 hx25) rfl ?_
   refine fo (rn 12 rfl ?_)
   refine spO 53 h rfl (fun hb26 h => ?_) (fun hb26 h => ?_)
   ·refine rn 11 rfl ?_
    exact rt h rfl
   refine rn 2 rfl ?_
   refine cl h rfl rfl rfl (W13 _ _ _) rfl (fun y27 hx28 h => ?_)
   refine rn 3 rfl ?_
   refine spC h rfl (fun hb29 h => ?_) (fun hb29 h => ?_)
   ·refine rn 4 rfl ?_
    exact rt h rfl
   refine rn 1 rfl ?_
   exact jX () h (g0 rfl rfl)
  refine rn 1 rfl ?_
  exact jX () h (g0 rfl rfl)
 intro _ h
 refine rn 2 rfl ?_
 refine cl h rfl rfl rfl (W14 _) rfl (fun y30 hx31 h => ?_)
 refine rn 2 rfl ?_
 exact rt h rfl
end Go.Proofs.YtpbkggamiipdmaaGreat
