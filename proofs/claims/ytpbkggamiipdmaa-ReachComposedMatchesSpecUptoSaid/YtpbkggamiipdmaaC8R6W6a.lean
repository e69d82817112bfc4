/- Part of the proof: R6W3b, R6W5a, R6W6a. -/
import Derived.Test.YtpbkggamiipdmaaC8R6Ord
import Derived.Test.YtpbkggamiipdmaaC8RE
import Derived.Test.YtpbkggamiipdmaaC8R6W3a
import Derived.KernelRfl
import Derived.Test.YtpbkggamiipdmaaC8EX
namespace Go.Proofs.Ytpbkggamiipdmaa
open Go Go.Pv
set_option linter.unusedVariables false
set_option maxRecDepth 100000
theorem W72_B (R72 : (List (List UInt8)) → Option (List (List UInt8))) (hR72 : ∀ (a1 : (List (List UInt8))) (r : (List (List UInt8))), R72 a1 = some r → Pure Try.prog 72 [(V.lst 1 (a1.map encS))] (V.lst 1 (r.map encS))) (F : Nat) (a1 : (List (List UInt8))) (r : (List (List UInt8))) (h : M72_B R72 F a1 = some r) : Pure Try.prog 72 [(V.lst 1 (a1.map encS))] (V.lst 1 (r.map encS)) := by
 refine pin (fun r => (V.lst 1 (r.map encS))) r rfl Try.func72 rfl rfl rfl rfl rfl (fun w0 m0 hg => ?_)
 unfold M72_B at h
 refine rn 8 rfl ?_
 refine ln rfl rfl ?_
 refine rn 2 rfl ?_
 refine spC h rfl (fun hb2 h => ?_) (fun hb2 h => ?_)
 ·refine rn 5 rfl ?_
  exact rt h rfl
 refine rn 2 rfl ?_
 refine ck h (fun hc3 h => ?_)
 obtain ⟨y4, hx5, h⟩ := bind_some h
 refine ck h (fun hc6 h => ?_)
 obtain ⟨y7, hx8, h⟩ := bind_some h
 refine dr mixed (vs 2 rfl (nD rfl rfl rfl (vs 1 rfl (xD (OD.mk [(10, (V.lst 1 (a1.map encS))), (13, (iV (w64 (Int.tdiv ((a1.length : Nat) : Int) 2))))] [] [(14, (V.lst 1 ((a1.take (w64 (Int.tdiv ((a1.length : Nat) : Int) 2)).toNat).map encS)))] []) ⟨⟨rfl, rfl, trivial⟩, trivial⟩ (by exact fun S hn h hh => aops_slice_lst (0) ((w64 (Int.tdiv ((a1.length : Nat) : Int) 2)).toNat) ((a1.take (w64 (Int.tdiv ((a1.length : Nat) : Int) 2)).toNat).map encS) tSl25 wants_none h.1 rfl ⟨_, (by rw [Int.toNat_of_nonneg hc3.1]; exact h.2.1)⟩ (Nat.zero_le _) (by simpa using hc3.2) slL_lo rfl (aops_nil ⟨rfl, rfl⟩)) rfl (cD rfl rfl rfl rfl (hR72 _ _ hx5) rfl (vs 2 rfl (nD rfl rfl rfl (vs 1 rfl (xD (OD.mk [(16, (V.lst 1 (a1.map encS))), (19, (iV (w64 (Int.tdiv ((a1.length : Nat) : Int) 2))))] [] [(20, (V.lst 1 ((a1.drop (w64 (Int.tdiv ((a1.length : Nat) : Int) 2)).toNat).map encS)))] []) ⟨⟨rfl, rfl, trivial⟩, trivial⟩ (by exact fun S hn h hh => aops_slice_lst ((w64 (Int.tdiv ((a1.length : Nat) : Int) 2)).toNat) (a1.length) ((a1.drop (w64 (Int.tdiv ((a1.length : Nat) : Int) 2)).toNat).map encS) tSl25 wants_none h.1 ⟨_, (by rw [Int.toNat_of_nonneg hc6.1]; exact h.2.1)⟩ (List.length_map ..).symm hc6.2 (Nat.le_of_eq (List.length_map ..).symm) slL_hi rfl (aops_nil ⟨rfl, rfl⟩)) rfl (cD rfl rfl rfl rfl (hR72 _ _ hx8) rfl (vs 2 rfl .nil))))))))))) (by kernel_rfl) ?_
 refine rn 5 rfl ?_
 refine jK h (fun (p : (List (List UInt8))) => (⟨[(5, (V.own 0 p.length))], [(0, (Ob.arr 9 1 (p.map encS)))], 1⟩ : St)) (fun k9 p => k9 p = some r) (fun k9 h => ?_) ?_
 ·refine rn 1 rfl ?_
  refine lC (fun (p : (List (List UInt8)) × (List (List UInt8)) × (List (List UInt8))) => (⟨[(3, (V.lst 1 ((p.1).map encS))), (4, (V.lst 1 ((p.2.1).map encS))), (5, (V.own 0 (p.2.2).length))], [(0, (Ob.arr 9 1 ((p.2.2).map encS)))], 1⟩ : St)) (fun n p => M72_L1 F k9 n p.1 p.2.1 p.2.2 = some r) (fun p h => by simp [M72_L1] at h) F (y4, y7, ([] : List (List UInt8))) h (Ghost.trans (ghost_nilE 5 9 1 rfl) (ghost_ren 1 (fun i => ([0] : List Nat).getD i 0) _ _ (by decide) (EnvSub.get (.cons (Sub.imm (Imm.lst _ _)) (.cons (Sub.imm (Imm.lst _ _)) (.cons (Sub.ownE rfl rfl (by simp)) .nil)))) (HpSub.get (.cons rfl (ObSub.rows (rows_imm imms_encS)) .nil)) rfl)) (fun n p h => ?_)
  obtain ⟨l14, l15, l16⟩ := p
  unfold M72_L1 at h
  refine rn 4 rfl ?_
  refine ln rfl rfl ?_
  refine rn 2 rfl ?_
  refine spO 25 h rfl (fun hb17 h => ?_) (fun hb17 h => ?_)
  ·refine rn 9 rfl ?_
   refine bs h (fun hb18 h => ?_) (fun hb18 h => ?_)
   ·refine dr mixed (vs 1 rfl (nD rfl rfl rfl (vs 1 rfl (vb hb18 rfl (vs 13 rfl .nil))))) (by kernel_rfl) ?_
    obtain ⟨x19, hx20, h⟩ := bind_some h
    refine rn 1 rfl ?_
    refine ck h (fun hc21 h => ?_)
    refine ck h (fun hc22 h => ?_)
    refine awp_ghost ghost_res ?_
    refine fa ?_
    refine dr mixed (vs 2 rfl (iD hx20 rfl rfl rfl (vs 1 rfl (xD (OD.mk [(50, (sV x19))] [] [(51, (V.lst 1 (([x19] : List (List UInt8)).map encS)))] []) ⟨⟨rfl, trivial⟩, trivial⟩ (by exact fun S hn h hh => aops_buildSlice_imm [(0, (sV x19))] [[(sV x19)]] tEl25 tZ9 wants_none rfl rfl rfl rfl (evp_cons h.1 evp_nil) rfl rfl (by simp) (imms_rows (.cons (.cons (Imm.con _) .nil) .nil)) rfl (aops_nil ⟨rfl, rfl⟩)) rfl (xD (OD.mk [(47, (V.own 0 l16.length)), (51, (V.lst 1 (([x19] : List (List UInt8)).map encS)))] [(0, (Ob.arr 9 1 (l16.map encS))), (1, Ob.res)] [(52, (V.own 1 (l16 ++ ([x19] : List (List UInt8))).length))] [(1, (Ob.arr 9 1 ((l16 ++ ([x19] : List (List UInt8))).map encS))), (0, Ob.dead)]) ⟨⟨rfl, rfl, trivial⟩, ⟨rfl, rfl, trivial⟩⟩ (by exact fun S hn h hh => aops_append_at 1 rfl hn hh.2.1 (([x19] : List (List UInt8)).map encS) ((l16 ++ ([x19] : List (List UInt8))).map encS) tEl25 tIsSl25 rfl rfl wants_none h.1 hh.1 (by simp) h.2.1 (.lst (rows_one one_encS)) (map_snoc encS l16 ([x19] : List (List UInt8))) (List.length_map ..) hc21 rfl (aops_nil ⟨rfl, rfl⟩)) rfl (vs 1 rfl (xD (OD.mk [(53, (V.lst 1 (l14.map encS)))] [] [(54, (V.lst 1 ((l14.drop 1).map encS)))] []) ⟨⟨rfl, trivial⟩, trivial⟩ (by exact fun S hn h hh => aops_slice_lst (1) (l14.length) ((l14.drop 1).map encS) tSl25 wants_none h.1 ⟨_, rfl⟩ (List.length_map ..).symm hc22 (Nat.le_of_eq (List.length_map ..).symm) slL_hi rfl (aops_nil ⟨rfl, rfl⟩)) rfl (vs 2 rfl .nil)))))))) (by kernel_rfl) ?_
    refine rn 1 rfl ?_
    exact jX ((l14.drop 1), l15, (l16 ++ ([x19] : List (List UInt8)))) h (gr [1] rfl (hR rfl rfl .nil) rfl)
   obtain ⟨x23, hx24, h⟩ := bind_some h
   obtain ⟨x25, hx26, h⟩ := bind_some h
   refine dr mixed (vs 1 rfl (nD rfl rfl rfl (vs 1 rfl (vb hb18 rfl (vs 1 rfl (nD rfl rfl rfl (vs 1 rfl (vb hb17 rfl (vs 1 rfl (iD hx24 rfl rfl rfl (vs 2 rfl (iD hx26 rfl rfl rfl (vs 4 rfl .nil))))))))))))) (by kernel_rfl) ?_
   refine jK h (fun (p : (List (List UInt8)) × (List (List UInt8)) × (List (List UInt8))) => (⟨[(3, (V.lst 1 ((p.1).map encS))), (4, (V.lst 1 ((p.2.1).map encS))), (5, (V.own 0 (p.2.2).length)), (26, (V.con undef)), (27, (V.con undef)), (28, (V.con undef)), (34, (V.lst 1 (l14.map encS))), (35, (iV ((l14.length : Nat) : Int))), (36, (bV (decide (((l14.length : Nat) : Int) > 0)))), (37, (bV true)), (38, (V.lst 1 (l14.map encS))), (39, (V.iptr [(sV x23)] 0)), (40, (sV x23)), (41, (V.lst 1 (l15.map encS))), (42, (V.iptr [(sV x25)] 0)), (43, (sV x25)), (44, (bV (Op.bytesLess x23 x25 || x23 == x25))), (45, (bV (Op.bytesLess x23 x25 || x23 == x25)))], [(0, (Ob.arr 9 1 ((p.2.2).map encS)))], 1⟩ : St)) (fun k27 p => k27 p.1 p.2.1 p.2.2 = some r) (fun k27 h => ?_) ?_
   ·refine spC h rfl (fun hb31 h => ?_) (fun hb31 h => ?_)
    ·obtain ⟨x32, hx33, h⟩ := bind_some h
     refine ck h (fun hc34 h => ?_)
     refine ck h (fun hc35 h => ?_)
     refine awp_ghost ghost_res ?_
     refine fa ?_
     refine dr mixed (vs 2 rfl (iD hx33 rfl rfl rfl (vs 1 rfl (xD (OD.mk [(50, (sV x32))] [] [(51, (V.lst 1 (([x32] : List (List UInt8)).map encS)))] []) ⟨⟨rfl, trivial⟩, trivial⟩ (by exact fun S hn h hh => aops_buildSlice_imm [(0, (sV x32))] [[(sV x32)]] tEl25 tZ9 wants_none rfl rfl rfl rfl (evp_cons h.1 evp_nil) rfl rfl (by simp) (imms_rows (.cons (.cons (Imm.con _) .nil) .nil)) rfl (aops_nil ⟨rfl, rfl⟩)) rfl (xD (OD.mk [(47, (V.own 0 l16.length)), (51, (V.lst 1 (([x32] : List (List UInt8)).map encS)))] [(0, (Ob.arr 9 1 (l16.map encS))), (1, Ob.res)] [(52, (V.own 1 (l16 ++ ([x32] : List (List UInt8))).length))] [(1, (Ob.arr 9 1 ((l16 ++ ([x32] : List (List UInt8))).map encS))), (0, Ob.dead)]) ⟨⟨rfl, rfl, trivial⟩, ⟨rfl, rfl, trivial⟩⟩ (by exact fun S hn h hh => aops_append_at 1 rfl hn hh.2.1 (([x32] : List (List UInt8)).map encS) ((l16 ++ ([x32] : List (List UInt8))).map encS) tEl25 tIsSl25 rfl rfl wants_none h.1 hh.1 (by simp) h.2.1 (.lst (rows_one one_encS)) (map_snoc encS l16 ([x32] : List (List UInt8))) (List.length_map ..) hc34 rfl (aops_nil ⟨rfl, rfl⟩)) rfl (vs 1 rfl (xD (OD.mk [(53, (V.lst 1 (l14.map encS)))] [] [(54, (V.lst 1 ((l14.drop 1).map encS)))] []) ⟨⟨rfl, trivial⟩, trivial⟩ (by exact fun S hn h hh => aops_slice_lst (1) (l14.length) ((l14.drop 1).map encS) tSl25 wants_none h.1 ⟨_, rfl⟩ (List.length_map ..).symm hc35 (Nat.le_of_eq (List.length_map ..).symm) slL_hi rfl (aops_nil ⟨rfl, rfl⟩)) rfl (vs 2 rfl .nil)))))))) (by kernel_rfl) ?_
     exact jX ((l14.drop 1), l15, (l16 ++ ([x32] : List (List UInt8)))) h (gr [1] rfl (hR rfl rfl .nil) rfl)
    obtain ⟨x36, hx37, h⟩ := bind_some h
    refine ck h (fun hc38 h => ?_)
    refine ck h (fun hc39 h => ?_)
    refine awp_ghost ghost_res ?_
    refine fa ?_
    refine dr mixed (vs 2 rfl (iD hx37 rfl rfl rfl (vs 1 rfl (xD (OD.mk [(58, (sV x36))] [] [(59, (V.lst 1 (([x36] : List (List UInt8)).map encS)))] []) ⟨⟨rfl, trivial⟩, trivial⟩ (by exact fun S hn h hh => aops_buildSlice_imm [(0, (sV x36))] [[(sV x36)]] tEl25 tZ9 wants_none rfl rfl rfl rfl (evp_cons h.1 evp_nil) rfl rfl (by simp) (imms_rows (.cons (.cons (Imm.con _) .nil) .nil)) rfl (aops_nil ⟨rfl, rfl⟩)) rfl (xD (OD.mk [(55, (V.own 0 l16.length)), (59, (V.lst 1 (([x36] : List (List UInt8)).map encS)))] [(0, (Ob.arr 9 1 (l16.map encS))), (1, Ob.res)] [(60, (V.own 1 (l16 ++ ([x36] : List (List UInt8))).length))] [(1, (Ob.arr 9 1 ((l16 ++ ([x36] : List (List UInt8))).map encS))), (0, Ob.dead)]) ⟨⟨rfl, rfl, trivial⟩, ⟨rfl, rfl, trivial⟩⟩ (by exact fun S hn h hh => aops_append_at 1 rfl hn hh.2.1 (([x36] : List (List UInt8)).map encS) ((l16 ++ ([x36] : List (List UInt8))).map encS) tEl25 tIsSl25 rfl rfl wants_none h.1 hh.1 (by simp) h.2.1 (.lst (rows_one one_encS)) (map_snoc encS l16 ([x36] : List (List UInt8))) (List.length_map ..) hc38 rfl (aops_nil ⟨rfl, rfl⟩)) rfl (vs 1 rfl (xD (OD.mk [(61, (V.lst 1 (l15.map encS)))] [] [(62, (V.lst 1 ((l15.drop 1).map encS)))] []) ⟨⟨rfl, trivial⟩, trivial⟩ (by exact fun S hn h hh => aops_slice_lst (1) (l15.length) ((l15.drop 1).map encS) tSl25 wants_none h.1 ⟨_, rfl⟩ (List.length_map ..).symm hc39 (Nat.le_of_eq (List.length_map ..).symm) slL_hi rfl (aops_nil ⟨rfl, rfl⟩)) rfl (vs 2 rfl .nil)))))))) (by kernel_rfl) ?_
    exact jX (l14, (l15.drop 1), (l16 ++ ([x36] : List (List UInt8)))) h (gr [1] rfl (hR rfl rfl .nil) rfl)
   rintro ⟨l28, l29, l30⟩ h
   refine rn 1 rfl ?_
   exact jX (l28, l29, l30) h (gr [0] rfl (hR rfl rfl .nil) rfl)
  refine rn 1 rfl ?_
  refine ln rfl rfl ?_
  refine rn 3 rfl ?_
  refine spC h rfl (fun hb40 h => ?_) (fun hb40 h => ?_)
  ·refine rn 3 rfl ?_
   refine bs h (fun hb41 h => ?_) (fun hb41 h => ?_)
   ·refine dr mixed (vs 1 rfl (nD rfl rfl rfl (vs 1 rfl (vb hb41 rfl (vs 13 rfl .nil))))) (by kernel_rfl) ?_
    obtain ⟨x42, hx43, h⟩ := bind_some h
    refine rn 1 rfl ?_
    refine ck h (fun hc44 h => ?_)
    refine ck h (fun hc45 h => ?_)
    refine awp_ghost ghost_res ?_
    refine fa ?_
    refine dr mixed (vs 2 rfl (iD hx43 rfl rfl rfl (vs 1 rfl (xD (OD.mk [(50, (sV x42))] [] [(51, (V.lst 1 (([x42] : List (List UInt8)).map encS)))] []) ⟨⟨rfl, trivial⟩, trivial⟩ (by exact fun S hn h hh => aops_buildSlice_imm [(0, (sV x42))] [[(sV x42)]] tEl25 tZ9 wants_none rfl rfl rfl rfl (evp_cons h.1 evp_nil) rfl rfl (by simp) (imms_rows (.cons (.cons (Imm.con _) .nil) .nil)) rfl (aops_nil ⟨rfl, rfl⟩)) rfl (xD (OD.mk [(47, (V.own 0 l16.length)), (51, (V.lst 1 (([x42] : List (List UInt8)).map encS)))] [(0, (Ob.arr 9 1 (l16.map encS))), (1, Ob.res)] [(52, (V.own 1 (l16 ++ ([x42] : List (List UInt8))).length))] [(1, (Ob.arr 9 1 ((l16 ++ ([x42] : List (List UInt8))).map encS))), (0, Ob.dead)]) ⟨⟨rfl, rfl, trivial⟩, ⟨rfl, rfl, trivial⟩⟩ (by exact fun S hn h hh => aops_append_at 1 rfl hn hh.2.1 (([x42] : List (List UInt8)).map encS) ((l16 ++ ([x42] : List (List UInt8))).map encS) tEl25 tIsSl25 rfl rfl wants_none h.1 hh.1 (by simp) h.2.1 (.lst (rows_one one_encS)) (map_snoc encS l16 ([x42] : List (List UInt8))) (List.length_map ..) hc44 rfl (aops_nil ⟨rfl, rfl⟩)) rfl (vs 1 rfl (xD (OD.mk [(53, (V.lst 1 (l14.map encS)))] [] [(54, (V.lst 1 ((l14.drop 1).map encS)))] []) ⟨⟨rfl, trivial⟩, trivial⟩ (by exact fun S hn h hh => aops_slice_lst (1) (l14.length) ((l14.drop 1).map encS) tSl25 wants_none h.1 ⟨_, rfl⟩ (List.length_map ..).symm hc45 (Nat.le_of_eq (List.length_map ..).symm) slL_hi rfl (aops_nil ⟨rfl, rfl⟩)) rfl (vs 2 rfl .nil)))))))) (by kernel_rfl) ?_
    refine rn 1 rfl ?_
    exact jX ((l14.drop 1), l15, (l16 ++ ([x42] : List (List UInt8)))) h (gr [1] rfl (hR rfl rfl .nil) rfl)
   refine dr mixed (vs 1 rfl (nD rfl rfl rfl (vs 1 rfl (vb hb41 rfl (vs 1 rfl (nD rfl rfl rfl (vs 1 rfl (vb hb17 rfl (vs 9 rfl .nil))))))))) (by kernel_rfl) ?_
   obtain ⟨x46, hx47, h⟩ := bind_some h
   refine rn 1 rfl ?_
   refine ck h (fun hc48 h => ?_)
   refine ck h (fun hc49 h => ?_)
   refine awp_ghost ghost_res ?_
   refine fa ?_
   refine dr mixed (vs 2 rfl (iD hx47 rfl rfl rfl (vs 1 rfl (xD (OD.mk [(58, (sV x46))] [] [(59, (V.lst 1 (([x46] : List (List UInt8)).map encS)))] []) ⟨⟨rfl, trivial⟩, trivial⟩ (by exact fun S hn h hh => aops_buildSlice_imm [(0, (sV x46))] [[(sV x46)]] tEl25 tZ9 wants_none rfl rfl rfl rfl (evp_cons h.1 evp_nil) rfl rfl (by simp) (imms_rows (.cons (.cons (Imm.con _) .nil) .nil)) rfl (aops_nil ⟨rfl, rfl⟩)) rfl (xD (OD.mk [(55, (V.own 0 l16.length)), (59, (V.lst 1 (([x46] : List (List UInt8)).map encS)))] [(0, (Ob.arr 9 1 (l16.map encS))), (1, Ob.res)] [(60, (V.own 1 (l16 ++ ([x46] : List (List UInt8))).length))] [(1, (Ob.arr 9 1 ((l16 ++ ([x46] : List (List UInt8))).map encS))), (0, Ob.dead)]) ⟨⟨rfl, rfl, trivial⟩, ⟨rfl, rfl, trivial⟩⟩ (by exact fun S hn h hh => aops_append_at 1 rfl hn hh.2.1 (([x46] : List (List UInt8)).map encS) ((l16 ++ ([x46] : List (List UInt8))).map encS) tEl25 tIsSl25 rfl rfl wants_none h.1 hh.1 (by simp) h.2.1 (.lst (rows_one one_encS)) (map_snoc encS l16 ([x46] : List (List UInt8))) (List.length_map ..) hc48 rfl (aops_nil ⟨rfl, rfl⟩)) rfl (vs 1 rfl (xD (OD.mk [(61, (V.lst 1 (l15.map encS)))] [] [(62, (V.lst 1 ((l15.drop 1).map encS)))] []) ⟨⟨rfl, trivial⟩, trivial⟩ (by exact fun S hn h hh => aops_slice_lst (1) (l15.length) ((l15.drop 1).map encS) tSl25 wants_none h.1 ⟨_, rfl⟩ (List.length_map ..).symm hc49 (Nat.le_of_eq (List.length_map ..).symm) slL_hi rfl (aops_nil ⟨rfl, rfl⟩)) rfl (vs 2 rfl .nil)))))))) (by kernel_rfl) ?_
   refine rn 1 rfl ?_
   exact jX (l14, (l15.drop 1), (l16 ++ ([x46] : List (List UInt8)))) h (gr [1] rfl (hR rfl rfl .nil) rfl)
  refine rn 1 rfl ?_
  exact jX l16 h (gr [0] rfl (hR rfl rfl .nil) rfl)
 intro l10 h
 refine rn 5 rfl ?_
 refine awp_ghost (ghost_frzEs 0 [2, 5, 63] rfl (rows_imm imms_encS) (List.forall_mem_cons.2 ⟨rfl, (List.forall_mem_cons.2 ⟨rfl, (List.forall_mem_cons.2 ⟨rfl, (fun _ hx => nomatch hx)⟩)⟩)⟩) (List.length_map ..).symm) ?_
 refine fa ?_
 exact rt h rfl
theorem W72 : ∀ (F : Nat) (a1 : (List (List UInt8))) (r : (List (List UInt8))) (h : M72 F a1 = some r), Pure Try.prog 72 [(V.lst 1 (a1.map encS))] (V.lst 1 (r.map encS)) := by
 intro F
 induction F with
 | zero => intros; simp [M72] at *
 | succ F ih => exact fun a1 r h => W72_B (M72 F) ih F a1 r h
theorem W34 (F : Nat) (a1 : (List ((List UInt8) × Bool))) (r : (List (List UInt8))) (h : M34 F a1 = some r) : Pure Try.prog 34 [(V.imap (a1.map encM9_4))] (V.lst 1 (r.map encS)) := by
 refine pin (fun r => (V.lst 1 (r.map encS))) r rfl Try.func34 rfl rfl rfl rfl rfl (fun w0 m0 hg => ?_)
 unfold M34 at h
 refine rn 12 rfl ?_
 refine aops_range tMap72 wants_none rfl rfl ?_
 refine fo (rn 2 rfl ?_)
 refine lC (fun (p : (List (List UInt8)) × (List ((List UInt8) × Bool))) => (⟨[(3, (V.own 0 (p.1).length)), (6, (V.ptr 1 1 0 0))], [(0, (Ob.arr 9 1 ((p.1).map encS))), (1, (Ob.iter [] ((p.2).map encM9_4)))], 2⟩ : St)) (fun n p => RM n p.2 (M34_L1 F p.2 p.1 = some r)) (fun p h => RM.zero h) (a1.length + 1) (([] : List (List UInt8)), a1) (RM.start h) (Ghost.trans (ghost_nilE 3 9 1 rfl) (ghost_ren 2 (fun i => ([1, 0] : List Nat).getD i 0) _ _ (by decide) (EnvSub.get (.cons (Sub.ownE rfl rfl (by simp)) (.cons (Sub.ptr rfl rfl) .nil))) (HpSub.get (.cons rfl (ObSub.rows (rows_imm imms_encS)) (.cons rfl ObSub.itr .nil))) rfl)) (fun n p h => ?_)
 obtain ⟨l4, l5⟩ := p
 refine rn 2 rfl ?_
 refine nxt rfl rfl wants_none rfl (fun hl1 => ?_) (fun e6 l7 hq1 hp1 => ?_)
 ·replace h := h.2
  subst hl1
  unfold M34_L1 at h
  obtain ⟨y9, hx10, h⟩ := bind_some h
  refine rn 8 rfl ?_
  refine aops_ghost (ghost_frzEs 0 [15, 3] rfl (rows_imm imms_encS) (List.forall_mem_cons.2 ⟨rfl, (List.forall_mem_cons.2 ⟨rfl, (fun _ hx => nomatch hx)⟩)⟩) (List.length_map ..).symm) ?_
  refine aops_call (V.lst 1 (y9.map encS)) [(V.lst 1 (l4.map encS))] fOk72 wants_none (evm_cons rfl evm_nil) (.cons (Imm.lst _ _) .nil) (W72 F l4 y9 hx10) rfl ?_
  refine fo (rn 2 rfl ?_)
  exact rt h rfl
 have hm1 := h
 replace h := ord_M34_L1 hp1 h.2
 unfold M34_L1 at h
 refine rn 8 rfl ?_
 refine aops_entry wants_none rfl rfl rfl ?_
 refine fo (rn 6 rfl ?_)
 refine aops_buildSlice [(0, (sV e6.1))] [[(sV e6.1)]] tEl25 tZ9 rfl rfl rfl rfl wants_none (evp_cons rfl evp_nil) rfl rfl (by simp) rfl ?_
 refine fo ?_
 refine apO encS h rfl rfl rfl rfl rfl rfl rfl rfl (fun h => ?_)
 refine rn 3 rfl ?_
 exact jX ((l4 ++ ([e6.1] : List (List UInt8))), l7) (RM.step hm1 hq1 h) (gr [3, 1] rfl (hR rfl rfl (hI rfl rfl .nil)) rfl)
theorem W11 (F : Nat) (r : Bool) (h : M11 F = some r) : Pure Try.prog 11 [] (bV r) := by
 unfold M11 at h
 replace h := Option.some.inj h
 subst h
 exact told_pure
theorem W15 (F : Nat) (a1 : (List (List UInt8))) (a2 : (List (List UInt8))) (r : Bool) (h : M15 F a1 a2 = some r) : Pure Try.prog 15 [(V.lst 1 (a1.map encS)), (V.lst 1 (a2.map encS))] (bV r) := by
 refine pin (fun r => (bV r)) r rfl Try.func15 rfl rfl rfl rfl rfl (fun w0 m0 hg => ?_)
 unfold M15 at h
 refine rn 8 rfl ?_
 refine ln rfl rfl ?_
 refine rn 1 rfl ?_
 refine ln rfl rfl ?_
 refine rn 2 rfl ?_
 refine spC h rfl (fun hb3 h => ?_) (fun hb3 h => ?_)
 ·refine rn 4 rfl ?_
  exact rt h rfl
 refine rn 5 rfl ?_
 refine ln rfl rfl ?_
 refine rn 2 rfl ?_
 refine jK h (fun _ : Unit => (⟨[], [], 0⟩ : St)) (fun k4 (_ : Unit) => k4 = some r) (fun k4 h => ?_) ?_
 ·refine rn 1 rfl ?_
  refine wl (A := a1) 0 rfl (fun hA13 => ?_)
  refine lC (fun (p : Int) => (⟨[(0, (V.lst 1 (a1.map encS))), (1, (V.lst 1 (a2.map encS))), (12, (iV ((a1.length : Nat) : Int))), (13, (iV p))], [], 0⟩ : St)) (fun n p => RG a1 (fun tl nn => M15_L1 F a2 k4 tl nn = some r) n p) (fun p h => RG.zero h) (a1.length + 1) 0 (RG.start h) (g0 rfl rfl) (fun n n6 h => ?_)
  refine rn 5 rfl ?_
  refine spL rfl (fun hb7 => ?_) (fun hb7 => ?_)
  ·obtain ⟨x8, tl, hx9, h, hk1⟩ := RG.t hA13 h hb7
   unfold M15_L1 at h
   obtain ⟨x10, hx11, h⟩ := bind_some h
   refine rn 9 rfl ?_
   refine dr mixed (vs 2 rfl (iD hx9 rfl rfl rfl (vs 3 rfl (iD hx11 rfl rfl rfl (vs 2 rfl .nil))))) (by kernel_rfl) ?_
   refine spC h rfl (fun hb12 h => ?_) (fun hb12 h => ?_)
   ·refine rn 4 rfl ?_
    exact rt h rfl
   refine rn 6 rfl ?_
   exact jX (w64 (n6 + 1)) (hk1 _ h) (g0 rfl rfl)
  replace h := RG.f h hb7
  unfold M15_L1 at h
  refine rn 1 rfl ?_
  exact jX () h (g0 rfl rfl)
 intro _ h
 refine rn 4 rfl ?_
 exact rt h rfl
theorem W83 (F : Nat) (a1 : List Int) (r : List Int) (h : M83 F a1 = some r) : Mut Try.prog 83 [(V.own 0 a1.length)] 1 [(0, (Ob.arr 3 1 (a1.map encI_i64)))] (resV []) 1 [(0, (Ob.arr 3 1 (r.map encI_i64)))] := by
 unfold M83 at h
 by_cases hc : a1.length < 4611686018427387904
 ·rw [if_pos hc] at h
  replace h := Option.some.inj h
  subst h
  refine (mut_sort a1 (isort a1) rfl (List.length_mergeSort _) (fun w b off cap hH hb => ?_) (fun w p h0 => ?_)).heap hget_one
  ·exact Go.Proofs.Try.slices_Sort_int b off cap a1 w hH hb hc
  ·refine (Go.Proofs.Try.slices_Sort_int_none p 0 w).mono ?_
   rintro e w' ⟨rfl, rfl⟩
   exact ⟨rfl, Go.RowKit.Below.refl _ _⟩
 ·rw [if_neg hc] at h; simp at h
theorem W84 (F : Nat) (a1 : List Int) (r : List Int) (h : M84 F a1 = some r) : Mut Try.prog 84 [(V.own 0 a1.length)] 1 [(0, (Ob.arr 3 1 (a1.map encI_i64)))] (resV [(V.own 0 r.length)]) 1 [(0, (Ob.arr 3 1 (r.map encI_i64)))] := by
 unfold M84 at h
 by_cases hc : a1.length ≤ 140737488355328
 ·rw [if_pos hc] at h
  replace h := Option.some.inj h
  subst h
  exact (mut_compactS (Value.int .i64) (fun _ => rfl) 0 a1 rfl (fun b off cap a w hH h1 h2 => Go.Proofs.Try.slices_Compact_int b off cap a w hH h1 h2) (fun p w => Go.Proofs.Try.slices_Compact_int_empty p 0 w) hc).heap hget_one
 ·rw [if_neg hc] at h; simp at h
theorem W56 (F : Nat) (a1 : Treach_world) (a2 : TCall) (r : (List Int)) (h : M56 F a1 a2 = some r) : Pure Try.prog 56 [(V.iptr (encTreach_world a1) 0), (V.agg (encTCall a2)), nV] (V.lst 1 (r.map encI_i64)) := by
 refine pin (fun r => (V.lst 1 (r.map encI_i64))) r rfl Try.func56 rfl rfl rfl rfl rfl (fun w0 m0 hg => ?_)
 unfold M56 at h
 refine rn 12 rfl ?_
 refine spC h rfl (fun hb3 h => ?_) (fun hb3 h => ?_)
 ·refine rn 1 rfl ?_
  refine dr mixed (vs 6 rfl (xD (OD.mk [(16, (V.imap (a1.funcs.map encM9_3))), (18, (sV a2.Target))] [] [(19, (iV ((mget a1.funcs a2.Target).getD 0)))] []) ⟨⟨rfl, rfl, trivial⟩, trivial⟩ (by exact fun S hn h hh => aops_lookup _ (iV 0) (iV ((mget a1.funcs a2.Target).getD 0)) tMap85 tKey9 tZo3 (irel_con _) wants_none h.1 .imm (.con h.2.1) ⟨_, rfl⟩ encM9_3_good (encM9_3_look a1.funcs a2.Target) (getD_map (encM9_3_val) (mget a1.funcs a2.Target) 0) rfl (aops_nil ⟨rfl, rfl⟩)) rfl (xD (OD.mk [(19, (iV ((mget a1.funcs a2.Target).getD 0)))] [] [(20, (V.lst 1 (([((mget a1.funcs a2.Target).getD 0)] : List Int).map encI_i64)))] []) ⟨⟨rfl, trivial⟩, trivial⟩ (by exact fun S hn h hh => aops_buildSlice_imm [(0, (iV ((mget a1.funcs a2.Target).getD 0)))] [[(iV ((mget a1.funcs a2.Target).getD 0))]] tEl62 tZ3 wants_none rfl rfl rfl rfl (evp_cons h.1 evp_nil) rfl rfl (by simp) (imms_rows (.cons (.cons (Imm.con _) .nil) .nil)) rfl (aops_nil ⟨rfl, rfl⟩)) rfl (vs 1 rfl .nil)))) (by kernel_rfl) ?_
  exact rt h rfl
 refine rn 7 rfl ?_
 refine dr mixed (vs 6 rfl (xD (OD.mk [(24, (V.imap (a1.fitting.map encM9_62))), (26, (sV a2.Target))] [] [(27, (V.lst 1 (((mget a1.fitting a2.Target).getD ([] : (List Int))).map encI_i64)))] []) ⟨⟨rfl, rfl, trivial⟩, trivial⟩ (by exact fun S hn h hh => aops_lookup _ (V.lst 1 (([] : (List Int)).map encI_i64)) (V.lst 1 (((mget a1.fitting a2.Target).getD ([] : (List Int))).map encI_i64)) tMap86 tKey9 tZo62 (fun _ => .nil _ _ _) wants_none h.1 .imm (.con h.2.1) ⟨_, rfl⟩ encM9_62_good (encM9_62_look a1.fitting a2.Target) (getD_map (encM9_62_val) (mget a1.fitting a2.Target) ([] : (List Int))) rfl (aops_nil ⟨rfl, rfl⟩)) rfl (nD rfl rfl rfl (vs 1 rfl .nil)))) (by kernel_rfl) ?_
 refine jK h (fun (p : (List Int)) => (⟨[(7, (V.own 0 p.length))], [(0, (Ob.arr 3 1 (p.map encI_i64)))], 1⟩ : St)) (fun k4 p => k4 p = some r) (fun k4 h => ?_) ?_
 ·refine rn 1 rfl ?_
  refine wl (A := ((mget a1.fitting a2.Target).getD ([] : (List Int)))) 27 rfl (fun hA16 => ?_)
  refine lC (fun (p : Int × (List Int)) => (⟨[(0, (V.iptr (encTreach_world a1) 0)), (2, nV), (4, (V.ptr 0 4 0 0)), (7, (V.own 1 (p.2).length)), (27, (V.lst 1 (((mget a1.fitting a2.Target).getD ([] : (List Int))).map encI_i64))), (28, (iV ((((mget a1.fitting a2.Target).getD ([] : (List Int))).length : Nat) : Int))), (29, (iV (p.1)))], [(0, (Ob.arr 82 4 [(encTCall a2)])), (1, (Ob.arr 3 1 ((p.2).map encI_i64)))], 2⟩ : St)) (fun n p => RG ((mget a1.fitting a2.Target).getD ([] : (List Int))) (fun tl nn => M56_L1 F a1 a2 k4 tl p.2 = some r) n p.1) (fun p h => RG.zero h) (((mget a1.fitting a2.Target).getD ([] : (List Int))).length + 1) (0, ([] : List Int)) (RG.start h) (Ghost.trans (ghost_nilE 7 3 1 rfl) (ghost_ren 2 (fun i => ([0, 1] : List Nat).getD i 0) _ _ (by decide) (EnvSub.get (.cons (Sub.imm (Imm.iptr _ _)) (.cons (Sub.imm (Imm.con _)) (.cons (Sub.ptr rfl rfl) (.cons (Sub.ownE rfl rfl (by simp)) (.cons (Sub.imm (Imm.lst _ _)) (.cons (Sub.imm (Imm.con _)) (.cons (Sub.imm (Imm.con _)) .nil)))))))) (HpSub.get (.cons rfl (ObSub.box (.cons (Sub.imm (Imm.con _)) (.cons (Sub.imm (Imm.con _)) (.cons (Sub.imm (Imm.con _)) (.cons (Sub.imm (Imm.con _)) .nil))))) (.cons rfl (ObSub.rows (rows_imm imms_encI_i64)) .nil))) rfl)) (fun n p h => ?_)
  obtain ⟨n8, l9⟩ := p
  refine rn 5 rfl ?_
  refine spL rfl (fun hb10 => ?_) (fun hb10 => ?_)
  ·obtain ⟨x11, tl, hx12, h, hk1⟩ := RG.t hA16 h hb10
   unfold M56_L1 at h
   refine rn 5 rfl ?_
   refine ixh hx12 rfl rfl ?_
   refine rn 20 rfl ?_
   refine cl h rfl rfl rfl (W82 _ _ _ _) rfl (fun y13 hx14 h => ?_)
   refine aops_buildSlice [(0, (iV y13))] [[(iV y13)]] tEl62 tZ3 rfl rfl rfl rfl wants_none (evp_cons rfl evp_nil) rfl rfl (by simp) rfl ?_
   refine fo ?_
   refine apO encI_i64 h rfl rfl rfl rfl rfl rfl rfl rfl (fun h => ?_)
   refine rn 7 rfl ?_
   exact jX ((w64 (n8 + 1)), (l9 ++ ([y13] : List Int))) (hk1 _ h) (gr [0, 3] rfl (hB rfl rfl rfl (hR rfl rfl .nil)) rfl)
  replace h := RG.f h hb10
  unfold M56_L1 at h
  refine rn 1 rfl ?_
  exact jX l9 h (gr [1] rfl (hR rfl rfl .nil) rfl)
 intro l5 h
 obtain ⟨y17, hx18, h⟩ := bind_some h
 refine rn 3 rfl ?_
 refine ck h (fun hc19 h => ?_)
 refine aops_mcallS (V.tup []) [(V.own 0 l5.length)] (fun i => ([0] : List Nat).getD i 0) (fun i => ([0] : List Nat).getD i 0) 1 1 [(0, (Ob.arr 3 1 (y17.map encI_i64)))] fOk83 wants_none rfl (evm_cons rfl evm_nil) (.cons (Sub.own rfl rfl) .nil) (.cons rfl (ObSub.rows (rows_imm imms_encI_i64)) .nil) (W83 F l5 y17 hx18) rfl rfl rfl rfl (Sub.immT (Imm.tup .nil)) (.cons rfl (ObSub.rowsT (rows_imm imms_encI_i64)) .nil) _ rfl ?_
 refine aops_ghost (ghost_tell 7 (V.own 0 y17.length) rfl (Sub.ownI hc19)) ?_
 refine aops_ghost (ghost_tell 49 (V.own 0 y17.length) rfl (Sub.ownI hc19)) ?_
 obtain ⟨y20, hx21, h⟩ := bind_some h
 refine fo (rn 4 rfl ?_)
 refine aops_mcallS (V.own 0 y20.length) [(V.own 0 y17.length)] (fun i => ([0] : List Nat).getD i 0) (fun i => ([0] : List Nat).getD i 0) 1 1 [(0, (Ob.arr 3 1 (y20.map encI_i64)))] fOk84 wants_none rfl (evm_cons rfl evm_nil) (.cons (Sub.own rfl rfl) .nil) (.cons rfl (ObSub.rows (rows_imm imms_encI_i64)) .nil) (W84 F y17 y20 hx21) rfl rfl rfl rfl (Sub.ownT rfl rfl) (.cons rfl (ObSub.rowsT (rows_imm imms_encI_i64)) .nil) _ rfl ?_
 refine fo (rn 2 rfl ?_)
 refine awp_ghost (ghost_frzEs 0 [6, 52] rfl (rows_imm imms_encI_i64) (List.forall_mem_cons.2 ⟨rfl, (List.forall_mem_cons.2 ⟨rfl, (fun _ hx => nomatch hx)⟩)⟩) (List.length_map ..).symm) ?_
 refine fa ?_
 exact rt h rfl
end Go.Proofs.Ytpbkggamiipdmaa
