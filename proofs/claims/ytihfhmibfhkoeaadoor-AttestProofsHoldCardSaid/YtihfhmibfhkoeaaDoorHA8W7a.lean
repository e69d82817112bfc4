/- Part of the proof: A8W7a. -/
import Derived.Test.YtihfhmibfhkoeaaDoorHA8M
import Derived.Test.YtihfhmibfhkoeaaDoorHA8W3a
import Derived.Test.YtihfhmibfhkoeaaDoorHA8W6a
import Derived.KernelRfl
namespace Go.Proofs.YtihfhmibfhkoeaaDoor
open Go Go.Pv
set_option linter.unusedVariables false
set_option maxRecDepth 100000
theorem W83_B (R83 : (List (List UInt8)) → Option (List UInt8)) (hR83 : ∀ (a1 : (List (List UInt8))) (r : (List UInt8)), R83 a1 = some r → PureG gl Tryd.prog 83 [(V.lst 1 (a1.map encS))] (sV r)) (F : Nat) (a1 : (List (List UInt8))) (r : (List UInt8)) (h : M83_B R83 F a1 = some r) : PureG gl Tryd.prog 83 [(V.lst 1 (a1.map encS))] (sV r) := by
  refine pin (fun r => (sV r)) r rfl Tryd.func83 rfl rfl rfl rfl rfl (fun w0 m0 hg => ?_)
  unfold M83_B at h
  refine rn 8 rfl ?_
  refine ln rfl rfl ?_
  refine rn 7 rfl ?_
  refine spC h rfl (fun hb2 h => ?_) (fun hb2 h => ?_)
  · refine rn 2 rfl ?_
    refine cl h rfl rfl rfl (W114 _ _) rfl (fun y3 hx4 h => ?_)
    refine rn 2 rfl ?_
    exact rt h rfl
  refine rn 5 rfl ?_
  refine spC h rfl (fun hb5 h => ?_) (fun hb5 h => ?_)
  · refine rn 3 rfl ?_
    refine ixl h rfl rfl (fun x6 hx7 h => ?_)
    refine rn 3 rfl ?_
    exact rt h rfl
  refine rn 5 rfl ?_
  refine ln rfl rfl ?_
  refine cl h rfl rfl rfl (W116 _ _) rfl (fun y8 hx9 h => ?_)
  refine rn 3 rfl ?_
  refine ck h (fun hc10 h => ?_)
  obtain ⟨y11, hx12, h⟩ := bind_some h
  refine ck h (fun hc13 h => ?_)
  obtain ⟨y14, hx15, h⟩ := bind_some h
  obtain ⟨y16, hx17, h⟩ := bind_some h
  refine dr mixed (vs 2 rfl (xD (OD.mk [(17, (V.lst 1 (a1.map encS))), (18, (iV y8))] [] [(19, (V.lst 1 ((a1.take y8.toNat).map encS)))] []) ⟨⟨rfl, rfl, trivial⟩, trivial⟩ (by exact fun S hn h hh => aops_slice_lst (0) (y8.toNat) ((a1.take y8.toNat).map encS) tSl42 wants_none h.1 rfl ⟨_, (by rw [Int.toNat_of_nonneg hc10.1]; exact h.2.1)⟩ (Nat.zero_le _) (by simpa using hc10.2) slL_lo rfl (aops_nil ⟨rfl, rfl⟩)) rfl (cD rfl rfl rfl rfl (hR83 _ _ hx12) rfl (vs 2 rfl (xD (OD.mk [(21, (V.lst 1 (a1.map encS))), (22, (iV y8))] [] [(23, (V.lst 1 ((a1.drop y8.toNat).map encS)))] []) ⟨⟨rfl, rfl, trivial⟩, trivial⟩ (by exact fun S hn h hh => aops_slice_lst (y8.toNat) (a1.length) ((a1.drop y8.toNat).map encS) tSl42 wants_none h.1 ⟨_, (by rw [Int.toNat_of_nonneg hc13.1]; exact h.2.1)⟩ (List.length_map ..).symm hc13.2 (Nat.le_of_eq (List.length_map ..).symm) slL_hi rfl (aops_nil ⟨rfl, rfl⟩)) rfl (cD rfl rfl rfl rfl (hR83 _ _ hx15) rfl (cD rfl rfl rfl rfl (W117 _ _ _ _ hx17) rfl (vs 1 rfl .nil)))))))) (by kernel_rfl) ?_
  exact rt h rfl
theorem W83 : ∀ (F : Nat) (a1 : (List (List UInt8))) (r : (List UInt8)) (h : M83 F a1 = some r), PureG gl Tryd.prog 83 [(V.lst 1 (a1.map encS))] (sV r) := by
  intro F
  induction F with
  | zero => intros; simp [M83] at *
  | succ F ih => exact fun a1 r h => W83_B (M83 F) ih F a1 r h
theorem W29 (F : Nat) (a1 : (List (List UInt8))) (r : ((List UInt8) × Int)) (h : M29 F a1 = some r) : PureG gl Tryd.prog 29 [(V.lst 1 (a1.map encS))] (V.tup [(sV (r.1)), (iV (r.2))]) := by
  refine pin (fun r => (V.tup [(sV (r.1)), (iV (r.2))])) r rfl Tryd.func29 rfl rfl rfl rfl rfl (fun w0 m0 hg => ?_)
  unfold M29 at h
  refine rn 9 rfl ?_
  refine cl h rfl rfl rfl (W74 _ _ _) rfl (fun y2 hx3 h => ?_)
  refine rn 7 rfl ?_
  refine spC h rfl (fun hb4 h => ?_) (fun hb4 h => ?_)
  · refine rn 6 rfl ?_
    exact rt h rfl
  refine rn 4 rfl ?_
  refine cl h rfl rfl rfl (W83 _ _) rfl (fun y5 hx6 h => ?_)
  refine rn 3 rfl ?_
  exact rt h rfl
theorem W84 (F : Nat) (a1 : (List (List UInt8))) (r : Int) (h : M84 F a1 = some r) : PureG gl Tryd.prog 84 [(V.lst 1 (a1.map encS))] (iV r) := by
  refine pin (fun r => (iV r)) r rfl Tryd.func84 rfl rfl rfl rfl rfl (fun w0 m0 hg => ?_)
  unfold M84 at h
  refine rn 8 rfl ?_
  refine ln rfl rfl ?_
  refine rn 2 rfl ?_
  refine spC h rfl (fun hb2 h => ?_) (fun hb2 h => ?_)
  · refine rn 4 rfl ?_
    exact rt h rfl
  refine rn 5 rfl ?_
  refine ln rfl rfl ?_
  refine rn 2 rfl ?_
  refine jK h (fun _ : Unit => (⟨[], [], 0⟩ : St)) (fun k3 (_ : Unit) => k3 = some r) (fun k3 h => ?_) ?_
  · refine rn 1 rfl ?_
    refine wl (A := a1) 0 rfl (fun hA12 => ?_)
    refine lC (fun (p : Int) => (⟨[(8, (V.lst 1 (a1.map encS))), (9, (iV ((a1.length : Nat) : Int))), (10, (iV p))], [], 0⟩ : St)) (fun n (p : Int) => RG a1 (fun tl nn => M84_L1 F k3 tl = some r) n p) (fun p h => RG.zero h) (a1.length + 1) 0 (RG.start h) (g0 rfl rfl) (fun n n5 h => ?_)
    refine rn 5 rfl ?_
    refine spL rfl (fun hb6 => ?_) (fun hb6 => ?_)
    · obtain ⟨x7, tl, hx8, h, hk1⟩ := RG.t hA12 h hb6
      unfold M84_L1 at h
      refine rn 5 rfl ?_
      refine ixh hx8 rfl rfl ?_
      refine rn 6 rfl ?_
      refine cl h rfl rfl rfl (W77 _ _) rfl (fun y9 hx10 h => ?_)
      refine rn 2 rfl ?_
      refine spC h rfl (fun hb11 h => ?_) (fun hb11 h => ?_)
      · refine rn 4 rfl ?_
        exact rt h rfl
      refine rn 6 rfl ?_
      exact jX (w64 (n5 + 1)) (hk1 _ h) (g0 rfl rfl)
    replace h := RG.f h hb6
    unfold M84_L1 at h
    refine rn 1 rfl ?_
    exact jX () h (g0 rfl rfl)
  intro _ h
  refine rn 4 rfl ?_
  exact rt h rfl
theorem W85_B (R85 : (List (List UInt8)) → Option (List UInt8)) (hR85 : ∀ (a1 : (List (List UInt8))) (r : (List UInt8)), R85 a1 = some r → PureG gl Tryd.prog 85 [(V.lst 1 (a1.map encS))] (sV r)) (F : Nat) (a1 : (List (List UInt8))) (r : (List UInt8)) (h : M85_B R85 F a1 = some r) : PureG gl Tryd.prog 85 [(V.lst 1 (a1.map encS))] (sV r) := by
  refine pin (fun r => (sV r)) r rfl Tryd.func85 rfl rfl rfl rfl rfl (fun w0 m0 hg => ?_)
  unfold M85_B at h
  refine rn 8 rfl ?_
  refine ln rfl rfl ?_
  refine rn 7 rfl ?_
  refine spC h rfl (fun hb2 h => ?_) (fun hb2 h => ?_)
  · refine rn 2 rfl ?_
    refine cl h rfl rfl rfl (W64 _ _) rfl (fun y3 hx4 h => ?_)
    refine rn 2 rfl ?_
    exact rt h rfl
  refine rn 5 rfl ?_
  refine spC h rfl (fun hb5 h => ?_) (fun hb5 h => ?_)
  · refine rn 3 rfl ?_
    refine ixl h rfl rfl (fun x6 hx7 h => ?_)
    refine rn 3 rfl ?_
    exact rt h rfl
  refine rn 5 rfl ?_
  refine ln rfl rfl ?_
  refine cl h rfl rfl rfl (W119 _ _) rfl (fun y8 hx9 h => ?_)
  refine rn 3 rfl ?_
  refine ck h (fun hc10 h => ?_)
  obtain ⟨y11, hx12, h⟩ := bind_some h
  refine ck h (fun hc13 h => ?_)
  obtain ⟨y14, hx15, h⟩ := bind_some h
  obtain ⟨y16, hx17, h⟩ := bind_some h
  refine dr mixed (vs 2 rfl (xD (OD.mk [(17, (V.lst 1 (a1.map encS))), (18, (iV y8))] [] [(19, (V.lst 1 ((a1.take y8.toNat).map encS)))] []) ⟨⟨rfl, rfl, trivial⟩, trivial⟩ (by exact fun S hn h hh => aops_slice_lst (0) (y8.toNat) ((a1.take y8.toNat).map encS) tSl42 wants_none h.1 rfl ⟨_, (by rw [Int.toNat_of_nonneg hc10.1]; exact h.2.1)⟩ (Nat.zero_le _) (by simpa using hc10.2) slL_lo rfl (aops_nil ⟨rfl, rfl⟩)) rfl (cD rfl rfl rfl rfl (hR85 _ _ hx12) rfl (vs 2 rfl (xD (OD.mk [(21, (V.lst 1 (a1.map encS))), (22, (iV y8))] [] [(23, (V.lst 1 ((a1.drop y8.toNat).map encS)))] []) ⟨⟨rfl, rfl, trivial⟩, trivial⟩ (by exact fun S hn h hh => aops_slice_lst (y8.toNat) (a1.length) ((a1.drop y8.toNat).map encS) tSl42 wants_none h.1 ⟨_, (by rw [Int.toNat_of_nonneg hc13.1]; exact h.2.1)⟩ (List.length_map ..).symm hc13.2 (Nat.le_of_eq (List.length_map ..).symm) slL_hi rfl (aops_nil ⟨rfl, rfl⟩)) rfl (cD rfl rfl rfl rfl (hR85 _ _ hx15) rfl (cD rfl rfl rfl rfl (W120 _ _ _ _ hx17) rfl (vs 1 rfl .nil)))))))) (by kernel_rfl) ?_
  exact rt h rfl
theorem W85 : ∀ (F : Nat) (a1 : (List (List UInt8))) (r : (List UInt8)) (h : M85 F a1 = some r), PureG gl Tryd.prog 85 [(V.lst 1 (a1.map encS))] (sV r) := by
  intro F
  induction F with
  | zero => intros; simp [M85] at *
  | succ F ih => exact fun a1 r h => W85_B (M85 F) ih F a1 r h
theorem W86_B (R86 : (List (List UInt8)) → Int → Option (List (List UInt8))) (hR86 : ∀ (a1 : (List (List UInt8))) (a2 : Int) (r : (List (List UInt8))), R86 a1 a2 = some r → MutG gl Tryd.prog 86 [(V.lst 1 (a1.map encS)), (iV a2)] 0 [] (resV [(V.own 0 r.length)]) 1 [(0, (Ob.arr 9 1 (r.map encS)))]) (F : Nat) (a1 : (List (List UInt8))) (a2 : Int) (r : (List (List UInt8))) (h : M86_B R86 F a1 a2 = some r) : MutG gl Tryd.prog 86 [(V.lst 1 (a1.map encS)), (iV a2)] 0 [] (resV [(V.own 0 r.length)]) 1 [(0, (Ob.arr 9 1 (r.map encS)))] := by
  refine mut_enter Tryd.func86 rfl rfl (l := [.tmp 4]) rfl rfl [(0, (V.lst 1 (a1.map encS))), (1, (iV a2))] rfl (fun w0 m0 β0 hg => en ?_)
  unfold M86_B at h
  refine rn 8 rfl ?_
  refine ln rfl rfl ?_
  refine rn 2 rfl ?_
  refine spC h rfl (fun hb22 h => ?_) (fun hb22 h => ?_)
  · refine rn 4 rfl ?_
    replace h := Option.some.inj h
    subst h
    exact wR ⟨.inl rfl, [(4, (V.own 0 ([] : List (List UInt8)).length))], (Ghost.trans (ghost_nilE 4 9 1 rfl) (ghost_ren 1 (fun i => ([0] : List Nat).getD i 0) _ _ (by decide) (EnvSub.get (.cons (Sub.ownE rfl rfl (by simp)) .nil)) (HpSub.get (.cons rfl (ObSub.rows (rows_imm imms_encS)) .nil)) rfl)), (.cons (.tmp rfl) .nil)⟩
  refine rn 4 rfl ?_
  refine ln rfl rfl ?_
  refine cl h rfl rfl rfl (W116 _ _) rfl (fun y23 hx24 h => ?_)
  refine rn 9 rfl ?_
  refine spC h rfl (fun hb25 h => ?_) (fun hb25 h => ?_)
  · refine rn 1 rfl ?_
    refine ck h (fun hc26 h => ?_)
    obtain ⟨y27, hx28, h⟩ := bind_some h
    refine ck h (fun hc29 h => ?_)
    obtain ⟨y30, hx31, h⟩ := bind_some h
    refine ck h (fun hc32 h => ?_)
    refine awp_ghost ghost_res ?_
    refine awp_ghost ghost_res ?_
    refine fa ?_
    refine dr mixed (vs 2 rfl (xD (OD.mk [(15, (V.lst 1 (a1.map encS))), (16, (iV y23))] [] [(17, (V.lst 1 ((a1.take y23.toNat).map encS)))] []) ⟨⟨rfl, rfl, trivial⟩, trivial⟩ (by exact fun S hn h hh => aops_slice_lst (0) (y23.toNat) ((a1.take y23.toNat).map encS) tSl42 wants_none h.1 rfl ⟨_, (by rw [Int.toNat_of_nonneg hc26.1]; exact h.2.1)⟩ (Nat.zero_le _) (by simpa using hc26.2) slL_lo rfl (aops_nil ⟨rfl, rfl⟩)) rfl (vs 1 rfl (xD (OD.mk [(17, (V.lst 1 ((a1.take y23.toNat).map encS))), (18, (iV a2))] [(0, Ob.res)] [(19, (V.own 0 y27.length))] [(0, (Ob.arr 9 1 (y27.map encS)))]) ⟨⟨rfl, rfl, trivial⟩, ⟨rfl, trivial⟩⟩ (by exact fun S hn h hh => aops_mcall_at [0] rfl hn (List.forall_mem_cons.2 ⟨hh.1, (fun _ hx => nomatch hx)⟩) (V.own 0 y27.length) [(V.lst 1 ((a1.take y23.toNat).map encS)), (iV a2)] [(0, (Ob.arr 9 1 (y27.map encS)))] fOk86 wants_none rfl (evm_cons h.1 (evm_cons h.2.1 evm_nil)) (.cons (Sub.imm (Imm.lst _ _)) (.cons (Sub.imm (Imm.con _)) .nil)) (hR86 (a1.take y23.toNat) a2 _ hx28) rfl rfl (Sub.ownT rfl rfl) (.cons rfl (ObSub.rowsT (rows_imm imms_encS)) .nil) (aops_nil ⟨rfl, rfl⟩)) rfl (vs 2 rfl (xD (OD.mk [(20, (V.lst 1 (a1.map encS))), (21, (iV y23))] [] [(22, (V.lst 1 ((a1.drop y23.toNat).map encS)))] []) ⟨⟨rfl, rfl, trivial⟩, trivial⟩ (by exact fun S hn h hh => aops_slice_lst (y23.toNat) (a1.length) ((a1.drop y23.toNat).map encS) tSl42 wants_none h.1 ⟨_, (by rw [Int.toNat_of_nonneg hc29.1]; exact h.2.1)⟩ (List.length_map ..).symm hc29.2 (Nat.le_of_eq (List.length_map ..).symm) slL_hi rfl (aops_nil ⟨rfl, rfl⟩)) rfl (cD rfl rfl rfl rfl (W83 _ _ _ hx31) rfl (xD (OD.mk [(23, (sV y30))] [] [(24, (V.lst 1 (([y30] : List (List UInt8)).map encS)))] []) ⟨⟨rfl, trivial⟩, trivial⟩ (by exact fun S hn h hh => aops_buildSlice_imm [(0, (sV y30))] [[(sV y30)]] tEl42 tZ9 wants_none rfl rfl rfl rfl (evp_cons h.1 evp_nil) rfl rfl (by simp) (imms_rows (.cons (.cons (Imm.con _) .nil) .nil)) rfl (aops_nil ⟨rfl, rfl⟩)) rfl (xD (OD.mk [(19, (V.own 0 y27.length)), (24, (V.lst 1 (([y30] : List (List UInt8)).map encS)))] [(0, (Ob.arr 9 1 (y27.map encS))), (1, Ob.res)] [(25, (V.own 1 (y27 ++ ([y30] : List (List UInt8))).length))] [(1, (Ob.arr 9 1 ((y27 ++ ([y30] : List (List UInt8))).map encS))), (0, Ob.dead)]) ⟨⟨rfl, rfl, trivial⟩, ⟨rfl, rfl, trivial⟩⟩ (by exact fun S hn h hh => aops_append_at 1 rfl hn hh.2.1 (([y30] : List (List UInt8)).map encS) ((y27 ++ ([y30] : List (List UInt8))).map encS) tEl42 tIsSl42 rfl rfl wants_none h.1 hh.1 (by simp) h.2.1 (.lst (rows_one one_encS)) (map_snoc encS y27 ([y30] : List (List UInt8))) (List.length_map ..) hc32 rfl (aops_nil ⟨rfl, rfl⟩)) rfl (vs 1 rfl .nil)))))))))) (by kernel_rfl) ?_
    replace h := Option.some.inj h
    subst h
    exact wR ⟨.inl rfl, [(4, (V.own 0 (y27 ++ ([y30] : List (List UInt8))).length))], (gr [1] rfl (hR rfl rfl .nil) rfl), (.cons (.tmp rfl) .nil)⟩
  refine rn 2 rfl ?_
  refine ck h (fun hc33 h => ?_)
  obtain ⟨y34, hx35, h⟩ := bind_some h
  refine ck h (fun hc36 h => ?_)
  obtain ⟨y37, hx38, h⟩ := bind_some h
  refine ck h (fun hc39 h => ?_)
  refine awp_ghost ghost_res ?_
  refine awp_ghost ghost_res ?_
  refine fa ?_
  refine dr mixed (vs 2 rfl (xD (OD.mk [(26, (V.lst 1 (a1.map encS))), (27, (iV y23))] [] [(28, (V.lst 1 ((a1.drop y23.toNat).map encS)))] []) ⟨⟨rfl, rfl, trivial⟩, trivial⟩ (by exact fun S hn h hh => aops_slice_lst (y23.toNat) (a1.length) ((a1.drop y23.toNat).map encS) tSl42 wants_none h.1 ⟨_, (by rw [Int.toNat_of_nonneg hc33.1]; exact h.2.1)⟩ (List.length_map ..).symm hc33.2 (Nat.le_of_eq (List.length_map ..).symm) slL_hi rfl (aops_nil ⟨rfl, rfl⟩)) rfl (vs 3 rfl (xD (OD.mk [(28, (V.lst 1 ((a1.drop y23.toNat).map encS))), (31, (iV (w64 (a2 - y23))))] [(0, Ob.res)] [(32, (V.own 0 y34.length))] [(0, (Ob.arr 9 1 (y34.map encS)))]) ⟨⟨rfl, rfl, trivial⟩, ⟨rfl, trivial⟩⟩ (by exact fun S hn h hh => aops_mcall_at [0] rfl hn (List.forall_mem_cons.2 ⟨hh.1, (fun _ hx => nomatch hx)⟩) (V.own 0 y34.length) [(V.lst 1 ((a1.drop y23.toNat).map encS)), (iV (w64 (a2 - y23)))] [(0, (Ob.arr 9 1 (y34.map encS)))] fOk86 wants_none rfl (evm_cons h.1 (evm_cons h.2.1 evm_nil)) (.cons (Sub.imm (Imm.lst _ _)) (.cons (Sub.imm (Imm.con _)) .nil)) (hR86 (a1.drop y23.toNat) (w64 (a2 - y23)) _ hx35) rfl rfl (Sub.ownT rfl rfl) (.cons rfl (ObSub.rowsT (rows_imm imms_encS)) .nil) (aops_nil ⟨rfl, rfl⟩)) rfl (vs 2 rfl (xD (OD.mk [(33, (V.lst 1 (a1.map encS))), (34, (iV y23))] [] [(35, (V.lst 1 ((a1.take y23.toNat).map encS)))] []) ⟨⟨rfl, rfl, trivial⟩, trivial⟩ (by exact fun S hn h hh => aops_slice_lst (0) (y23.toNat) ((a1.take y23.toNat).map encS) tSl42 wants_none h.1 rfl ⟨_, (by rw [Int.toNat_of_nonneg hc36.1]; exact h.2.1)⟩ (Nat.zero_le _) (by simpa using hc36.2) slL_lo rfl (aops_nil ⟨rfl, rfl⟩)) rfl (cD rfl rfl rfl rfl (W83 _ _ _ hx38) rfl (xD (OD.mk [(36, (sV y37))] [] [(37, (V.lst 1 (([y37] : List (List UInt8)).map encS)))] []) ⟨⟨rfl, trivial⟩, trivial⟩ (by exact fun S hn h hh => aops_buildSlice_imm [(0, (sV y37))] [[(sV y37)]] tEl42 tZ9 wants_none rfl rfl rfl rfl (evp_cons h.1 evp_nil) rfl rfl (by simp) (imms_rows (.cons (.cons (Imm.con _) .nil) .nil)) rfl (aops_nil ⟨rfl, rfl⟩)) rfl (xD (OD.mk [(32, (V.own 0 y34.length)), (37, (V.lst 1 (([y37] : List (List UInt8)).map encS)))] [(0, (Ob.arr 9 1 (y34.map encS))), (1, Ob.res)] [(38, (V.own 1 (y34 ++ ([y37] : List (List UInt8))).length))] [(1, (Ob.arr 9 1 ((y34 ++ ([y37] : List (List UInt8))).map encS))), (0, Ob.dead)]) ⟨⟨rfl, rfl, trivial⟩, ⟨rfl, rfl, trivial⟩⟩ (by exact fun S hn h hh => aops_append_at 1 rfl hn hh.2.1 (([y37] : List (List UInt8)).map encS) ((y34 ++ ([y37] : List (List UInt8))).map encS) tEl42 tIsSl42 rfl rfl wants_none h.1 hh.1 (by simp) h.2.1 (.lst (rows_one one_encS)) (map_snoc encS y34 ([y37] : List (List UInt8))) (List.length_map ..) hc39 rfl (aops_nil ⟨rfl, rfl⟩)) rfl (vs 1 rfl .nil)))))))))) (by kernel_rfl) ?_
  replace h := Option.some.inj h
  subst h
  exact wR ⟨.inl rfl, [(4, (V.own 0 (y34 ++ ([y37] : List (List UInt8))).length))], (gr [1] rfl (hR rfl rfl .nil) rfl), (.cons (.tmp rfl) .nil)⟩
theorem W86 : ∀ (F : Nat) (a1 : (List (List UInt8))) (a2 : Int) (r : (List (List UInt8))) (h : M86 F a1 a2 = some r), MutG gl Tryd.prog 86 [(V.lst 1 (a1.map encS)), (iV a2)] 0 [] (resV [(V.own 0 r.length)]) 1 [(0, (Ob.arr 9 1 (r.map encS)))] := by
  intro F
  induction F with
  | zero => intros; simp [M86] at *
  | succ F ih => exact fun a1 a2 r h => W86_B (M86 F) ih F a1 a2 r h
theorem W31 (F : Nat) (a1 : (List (List UInt8))) (a2 : Int) (a3 : Int) (r : ((List (List UInt8)) × Int)) (h : M31 F a1 a2 a3 = some r) : PureG gl Tryd.prog 31 [(V.lst 1 (a1.map encS)), (iV a2), (iV a3)] (V.tup [(V.lst 1 ((r.1).map encS)), (iV (r.2))]) := by
  refine pin (fun r => (V.tup [(V.lst 1 ((r.1).map encS)), (iV (r.2))])) r rfl Tryd.func31 rfl rfl rfl rfl rfl (fun w0 m0 hg => ?_)
  unfold M31 at h
  refine rn 9 rfl ?_
  refine cl h rfl rfl rfl (W74 _ _ _) rfl (fun y4 hx5 h => ?_)
  refine rn 7 rfl ?_
  refine spC h rfl (fun hb6 h => ?_) (fun hb6 h => ?_)
  · refine rn 6 rfl ?_
    exact rt h rfl
  refine rn 7 rfl ?_
  refine spO 16 h rfl (fun hb7 h => ?_) (fun hb7 h => ?_)
  · refine rn 21 rfl ?_
    exact rt h rfl
  refine rn 2 rfl ?_
  refine ln rfl rfl ?_
  refine rn 3 rfl ?_
  refine spO 22 h rfl (fun hb8 h => ?_) (fun hb8 h => ?_)
  · refine rn 15 rfl ?_
    exact rt h rfl
  refine rn 4 rfl ?_
  refine spO 26 h rfl (fun hb9 h => ?_) (fun hb9 h => ?_)
  · refine rn 11 rfl ?_
    exact rt h rfl
  refine rn 5 rfl ?_
  refine spC h rfl (fun hb10 h => ?_) (fun hb10 h => ?_)
  · refine rn 5 rfl ?_
    exact rt h rfl
  refine rn 5 rfl ?_
  refine ck h (fun hc11 h => ?_)
  refine aops_slice_lst (0) (a3.toNat) ((a1.take a3.toNat).map encS) tSl42 wants_none rfl rfl ⟨_, (by rw [Int.toNat_of_nonneg hc11.1]; exact rfl)⟩ (Nat.zero_le _) (by simpa using hc11.2) slL_lo rfl ?_
  obtain ⟨y12, hx13, h⟩ := bind_some h
  refine fo (rn 1 rfl ?_)
  refine aops_mcall (V.own 0 y12.length) [(V.lst 1 ((a1.take a3.toNat).map encS)), (iV a2)] (fun i => ([] : List Nat).getD i 0) (fun i => ([0] : List Nat).getD i 0) 0 1 [(0, (Ob.arr 9 1 (y12.map encS)))] fOk86 wants_none rfl (evm_cons rfl (evm_cons rfl evm_nil)) (.cons (Sub.imm (Imm.lst _ _)) (.cons (Sub.imm (Imm.con _)) .nil)) .nil (W86 F (a1.take a3.toNat) a2 y12 hx13) rfl rfl rfl rfl rfl (Sub.ownT rfl rfl) (.cons rfl (ObSub.rowsT (rows_imm imms_encS)) .nil) ?_
  refine fo (rn 3 rfl ?_)
  refine awp_ghost (ghost_frzE 0 6 rfl (rows_imm imms_encS) rfl (List.length_map ..).symm) ?_
  refine fa ?_
  exact rt h rfl
theorem W87_B (R87 : (List (List UInt8)) → Int → Option (List (List UInt8))) (hR87 : ∀ (a1 : (List (List UInt8))) (a2 : Int) (r : (List (List UInt8))), R87 a1 a2 = some r → MutG gl Tryd.prog 87 [(V.lst 1 (a1.map encS)), (iV a2)] 0 [] (resV [(V.own 0 r.length)]) 1 [(0, (Ob.arr 9 1 (r.map encS)))]) (F : Nat) (a1 : (List (List UInt8))) (a2 : Int) (r : (List (List UInt8))) (h : M87_B R87 F a1 a2 = some r) : MutG gl Tryd.prog 87 [(V.lst 1 (a1.map encS)), (iV a2)] 0 [] (resV [(V.own 0 r.length)]) 1 [(0, (Ob.arr 9 1 (r.map encS)))] := by
  refine mut_enter Tryd.func87 rfl rfl (l := [.tmp 4]) rfl rfl [(0, (V.lst 1 (a1.map encS))), (1, (iV a2))] rfl (fun w0 m0 β0 hg => en ?_)
  unfold M87_B at h
  refine rn 8 rfl ?_
  refine ln rfl rfl ?_
  refine rn 2 rfl ?_
  refine spC h rfl (fun hb22 h => ?_) (fun hb22 h => ?_)
  · refine rn 4 rfl ?_
    replace h := Option.some.inj h
    subst h
    exact wR ⟨.inl rfl, [(4, (V.own 0 ([] : List (List UInt8)).length))], (Ghost.trans (ghost_nilE 4 9 1 rfl) (ghost_ren 1 (fun i => ([0] : List Nat).getD i 0) _ _ (by decide) (EnvSub.get (.cons (Sub.ownE rfl rfl (by simp)) .nil)) (HpSub.get (.cons rfl (ObSub.rows (rows_imm imms_encS)) .nil)) rfl)), (.cons (.tmp rfl) .nil)⟩
  refine rn 4 rfl ?_
  refine ln rfl rfl ?_
  refine cl h rfl rfl rfl (W119 _ _) rfl (fun y23 hx24 h => ?_)
  refine rn 9 rfl ?_
  refine spC h rfl (fun hb25 h => ?_) (fun hb25 h => ?_)
  · refine rn 1 rfl ?_
    refine ck h (fun hc26 h => ?_)
    obtain ⟨y27, hx28, h⟩ := bind_some h
    refine ck h (fun hc29 h => ?_)
    obtain ⟨y30, hx31, h⟩ := bind_some h
    refine ck h (fun hc32 h => ?_)
    refine awp_ghost ghost_res ?_
    refine awp_ghost ghost_res ?_
    refine fa ?_
    refine dr mixed (vs 2 rfl (xD (OD.mk [(15, (V.lst 1 (a1.map encS))), (16, (iV y23))] [] [(17, (V.lst 1 ((a1.take y23.toNat).map encS)))] []) ⟨⟨rfl, rfl, trivial⟩, trivial⟩ (by exact fun S hn h hh => aops_slice_lst (0) (y23.toNat) ((a1.take y23.toNat).map encS) tSl42 wants_none h.1 rfl ⟨_, (by rw [Int.toNat_of_nonneg hc26.1]; exact h.2.1)⟩ (Nat.zero_le _) (by simpa using hc26.2) slL_lo rfl (aops_nil ⟨rfl, rfl⟩)) rfl (vs 1 rfl (xD (OD.mk [(17, (V.lst 1 ((a1.take y23.toNat).map encS))), (18, (iV a2))] [(0, Ob.res)] [(19, (V.own 0 y27.length))] [(0, (Ob.arr 9 1 (y27.map encS)))]) ⟨⟨rfl, rfl, trivial⟩, ⟨rfl, trivial⟩⟩ (by exact fun S hn h hh => aops_mcall_at [0] rfl hn (List.forall_mem_cons.2 ⟨hh.1, (fun _ hx => nomatch hx)⟩) (V.own 0 y27.length) [(V.lst 1 ((a1.take y23.toNat).map encS)), (iV a2)] [(0, (Ob.arr 9 1 (y27.map encS)))] fOk87 wants_none rfl (evm_cons h.1 (evm_cons h.2.1 evm_nil)) (.cons (Sub.imm (Imm.lst _ _)) (.cons (Sub.imm (Imm.con _)) .nil)) (hR87 (a1.take y23.toNat) a2 _ hx28) rfl rfl (Sub.ownT rfl rfl) (.cons rfl (ObSub.rowsT (rows_imm imms_encS)) .nil) (aops_nil ⟨rfl, rfl⟩)) rfl (vs 2 rfl (xD (OD.mk [(20, (V.lst 1 (a1.map encS))), (21, (iV y23))] [] [(22, (V.lst 1 ((a1.drop y23.toNat).map encS)))] []) ⟨⟨rfl, rfl, trivial⟩, trivial⟩ (by exact fun S hn h hh => aops_slice_lst (y23.toNat) (a1.length) ((a1.drop y23.toNat).map encS) tSl42 wants_none h.1 ⟨_, (by rw [Int.toNat_of_nonneg hc29.1]; exact h.2.1)⟩ (List.length_map ..).symm hc29.2 (Nat.le_of_eq (List.length_map ..).symm) slL_hi rfl (aops_nil ⟨rfl, rfl⟩)) rfl (cD rfl rfl rfl rfl (W85 _ _ _ hx31) rfl (xD (OD.mk [(23, (sV y30))] [] [(24, (V.lst 1 (([y30] : List (List UInt8)).map encS)))] []) ⟨⟨rfl, trivial⟩, trivial⟩ (by exact fun S hn h hh => aops_buildSlice_imm [(0, (sV y30))] [[(sV y30)]] tEl42 tZ9 wants_none rfl rfl rfl rfl (evp_cons h.1 evp_nil) rfl rfl (by simp) (imms_rows (.cons (.cons (Imm.con _) .nil) .nil)) rfl (aops_nil ⟨rfl, rfl⟩)) rfl (xD (OD.mk [(19, (V.own 0 y27.length)), (24, (V.lst 1 (([y30] : List (List UInt8)).map encS)))] [(0, (Ob.arr 9 1 (y27.map encS))), (1, Ob.res)] [(25, (V.own 1 (y27 ++ ([y30] : List (List UInt8))).length))] [(1, (Ob.arr 9 1 ((y27 ++ ([y30] : List (List UInt8))).map encS))), (0, Ob.dead)]) ⟨⟨rfl, rfl, trivial⟩, ⟨rfl, rfl, trivial⟩⟩ (by exact fun S hn h hh => aops_append_at 1 rfl hn hh.2.1 (([y30] : List (List UInt8)).map encS) ((y27 ++ ([y30] : List (List UInt8))).map encS) tEl42 tIsSl42 rfl rfl wants_none h.1 hh.1 (by simp) h.2.1 (.lst (rows_one one_encS)) (map_snoc encS y27 ([y30] : List (List UInt8))) (List.length_map ..) hc32 rfl (aops_nil ⟨rfl, rfl⟩)) rfl (vs 1 rfl .nil)))))))))) (by kernel_rfl) ?_
    replace h := Option.some.inj h
    subst h
    exact wR ⟨.inl rfl, [(4, (V.own 0 (y27 ++ ([y30] : List (List UInt8))).length))], (gr [1] rfl (hR rfl rfl .nil) rfl), (.cons (.tmp rfl) .nil)⟩
  refine rn 2 rfl ?_
  refine ck h (fun hc33 h => ?_)
  obtain ⟨y34, hx35, h⟩ := bind_some h
  refine ck h (fun hc36 h => ?_)
  obtain ⟨y37, hx38, h⟩ := bind_some h
  refine ck h (fun hc39 h => ?_)
  refine awp_ghost ghost_res ?_
  refine awp_ghost ghost_res ?_
  refine fa ?_
  refine dr mixed (vs 2 rfl (xD (OD.mk [(26, (V.lst 1 (a1.map encS))), (27, (iV y23))] [] [(28, (V.lst 1 ((a1.drop y23.toNat).map encS)))] []) ⟨⟨rfl, rfl, trivial⟩, trivial⟩ (by exact fun S hn h hh => aops_slice_lst (y23.toNat) (a1.length) ((a1.drop y23.toNat).map encS) tSl42 wants_none h.1 ⟨_, (by rw [Int.toNat_of_nonneg hc33.1]; exact h.2.1)⟩ (List.length_map ..).symm hc33.2 (Nat.le_of_eq (List.length_map ..).symm) slL_hi rfl (aops_nil ⟨rfl, rfl⟩)) rfl (vs 3 rfl (xD (OD.mk [(28, (V.lst 1 ((a1.drop y23.toNat).map encS))), (31, (iV (w64 (a2 - y23))))] [(0, Ob.res)] [(32, (V.own 0 y34.length))] [(0, (Ob.arr 9 1 (y34.map encS)))]) ⟨⟨rfl, rfl, trivial⟩, ⟨rfl, trivial⟩⟩ (by exact fun S hn h hh => aops_mcall_at [0] rfl hn (List.forall_mem_cons.2 ⟨hh.1, (fun _ hx => nomatch hx)⟩) (V.own 0 y34.length) [(V.lst 1 ((a1.drop y23.toNat).map encS)), (iV (w64 (a2 - y23)))] [(0, (Ob.arr 9 1 (y34.map encS)))] fOk87 wants_none rfl (evm_cons h.1 (evm_cons h.2.1 evm_nil)) (.cons (Sub.imm (Imm.lst _ _)) (.cons (Sub.imm (Imm.con _)) .nil)) (hR87 (a1.drop y23.toNat) (w64 (a2 - y23)) _ hx35) rfl rfl (Sub.ownT rfl rfl) (.cons rfl (ObSub.rowsT (rows_imm imms_encS)) .nil) (aops_nil ⟨rfl, rfl⟩)) rfl (vs 2 rfl (xD (OD.mk [(33, (V.lst 1 (a1.map encS))), (34, (iV y23))] [] [(35, (V.lst 1 ((a1.take y23.toNat).map encS)))] []) ⟨⟨rfl, rfl, trivial⟩, trivial⟩ (by exact fun S hn h hh => aops_slice_lst (0) (y23.toNat) ((a1.take y23.toNat).map encS) tSl42 wants_none h.1 rfl ⟨_, (by rw [Int.toNat_of_nonneg hc36.1]; exact h.2.1)⟩ (Nat.zero_le _) (by simpa using hc36.2) slL_lo rfl (aops_nil ⟨rfl, rfl⟩)) rfl (cD rfl rfl rfl rfl (W85 _ _ _ hx38) rfl (xD (OD.mk [(36, (sV y37))] [] [(37, (V.lst 1 (([y37] : List (List UInt8)).map encS)))] []) ⟨⟨rfl, trivial⟩, trivial⟩ (by exact fun S hn h hh => aops_buildSlice_imm [(0, (sV y37))] [[(sV y37)]] tEl42 tZ9 wants_none rfl rfl rfl rfl (evp_cons h.1 evp_nil) rfl rfl (by simp) (imms_rows (.cons (.cons (Imm.con _) .nil) .nil)) rfl (aops_nil ⟨rfl, rfl⟩)) rfl (xD (OD.mk [(32, (V.own 0 y34.length)), (37, (V.lst 1 (([y37] : List (List UInt8)).map encS)))] [(0, (Ob.arr 9 1 (y34.map encS))), (1, Ob.res)] [(38, (V.own 1 (y34 ++ ([y37] : List (List UInt8))).length))] [(1, (Ob.arr 9 1 ((y34 ++ ([y37] : List (List UInt8))).map encS))), (0, Ob.dead)]) ⟨⟨rfl, rfl, trivial⟩, ⟨rfl, rfl, trivial⟩⟩ (by exact fun S hn h hh => aops_append_at 1 rfl hn hh.2.1 (([y37] : List (List UInt8)).map encS) ((y34 ++ ([y37] : List (List UInt8))).map encS) tEl42 tIsSl42 rfl rfl wants_none h.1 hh.1 (by simp) h.2.1 (.lst (rows_one one_encS)) (map_snoc encS y34 ([y37] : List (List UInt8))) (List.length_map ..) hc39 rfl (aops_nil ⟨rfl, rfl⟩)) rfl (vs 1 rfl .nil)))))))))) (by kernel_rfl) ?_
  replace h := Option.some.inj h
  subst h
  exact wR ⟨.inl rfl, [(4, (V.own 0 (y34 ++ ([y37] : List (List UInt8))).length))], (gr [1] rfl (hR rfl rfl .nil) rfl), (.cons (.tmp rfl) .nil)⟩
theorem W87 : ∀ (F : Nat) (a1 : (List (List UInt8))) (a2 : Int) (r : (List (List UInt8))) (h : M87 F a1 a2 = some r), MutG gl Tryd.prog 87 [(V.lst 1 (a1.map encS)), (iV a2)] 0 [] (resV [(V.own 0 r.length)]) 1 [(0, (Ob.arr 9 1 (r.map encS)))] := by
  intro F
  induction F with
  | zero => intros; simp [M87] at *
  | succ F ih => exact fun a1 a2 r h => W87_B (M87 F) ih F a1 a2 r h
theorem W32 (F : Nat) (a1 : (List (List UInt8))) (a2 : Int) (a3 : Int) (r : ((List (List UInt8)) × Int)) (h : M32 F a1 a2 a3 = some r) : PureG gl Tryd.prog 32 [(V.lst 1 (a1.map encS)), (iV a2), (iV a3)] (V.tup [(V.lst 1 ((r.1).map encS)), (iV (r.2))]) := by
  refine pin (fun r => (V.tup [(V.lst 1 ((r.1).map encS)), (iV (r.2))])) r rfl Tryd.func32 rfl rfl rfl rfl rfl (fun w0 m0 hg => ?_)
  unfold M32 at h
  refine rn 9 rfl ?_
  refine cl h rfl rfl rfl (W84 _ _) rfl (fun y4 hx5 h => ?_)
  refine rn 7 rfl ?_
  refine spC h rfl (fun hb6 h => ?_) (fun hb6 h => ?_)
  · refine rn 6 rfl ?_
    exact rt h rfl
  refine rn 7 rfl ?_
  refine spO 16 h rfl (fun hb7 h => ?_) (fun hb7 h => ?_)
  · refine rn 21 rfl ?_
    exact rt h rfl
  refine rn 2 rfl ?_
  refine ln rfl rfl ?_
  refine rn 3 rfl ?_
  refine spO 22 h rfl (fun hb8 h => ?_) (fun hb8 h => ?_)
  · refine rn 15 rfl ?_
    exact rt h rfl
  refine rn 4 rfl ?_
  refine spO 26 h rfl (fun hb9 h => ?_) (fun hb9 h => ?_)
  · refine rn 11 rfl ?_
    exact rt h rfl
  refine rn 5 rfl ?_
  refine spC h rfl (fun hb10 h => ?_) (fun hb10 h => ?_)
  · refine rn 5 rfl ?_
    exact rt h rfl
  refine rn 5 rfl ?_
  refine ck h (fun hc11 h => ?_)
  refine aops_slice_lst (0) (a3.toNat) ((a1.take a3.toNat).map encS) tSl42 wants_none rfl rfl ⟨_, (by rw [Int.toNat_of_nonneg hc11.1]; exact rfl)⟩ (Nat.zero_le _) (by simpa using hc11.2) slL_lo rfl ?_
  obtain ⟨y12, hx13, h⟩ := bind_some h
  refine fo (rn 1 rfl ?_)
  refine aops_mcall (V.own 0 y12.length) [(V.lst 1 ((a1.take a3.toNat).map encS)), (iV a2)] (fun i => ([] : List Nat).getD i 0) (fun i => ([0] : List Nat).getD i 0) 0 1 [(0, (Ob.arr 9 1 (y12.map encS)))] fOk87 wants_none rfl (evm_cons rfl (evm_cons rfl evm_nil)) (.cons (Sub.imm (Imm.lst _ _)) (.cons (Sub.imm (Imm.con _)) .nil)) .nil (W87 F (a1.take a3.toNat) a2 y12 hx13) rfl rfl rfl rfl rfl (Sub.ownT rfl rfl) (.cons rfl (ObSub.rowsT (rows_imm imms_encS)) .nil) ?_
  refine fo (rn 3 rfl ?_)
  refine awp_ghost (ghost_frzE 0 6 rfl (rows_imm imms_encS) rfl (List.length_map ..).symm) ?_
  refine fa ?_
  exact rt h rfl
theorem W88_B (R88 : (List (List UInt8)) → Int → Bool → Option (List (List UInt8))) (hR88 : ∀ (a1 : (List (List UInt8))) (a2 : Int) (a3 : Bool) (r : (List (List UInt8))), R88 a1 a2 a3 = some r → MutG gl Tryd.prog 88 [(V.lst 1 (a1.map encS)), (iV a2), (bV a3)] 0 [] (resV [(V.own 0 r.length)]) 1 [(0, (Ob.arr 9 1 (r.map encS)))]) (F : Nat) (a1 : (List (List UInt8))) (a2 : Int) (a3 : Bool) (r : (List (List UInt8))) (h : M88_B R88 F a1 a2 a3 = some r) : MutG gl Tryd.prog 88 [(V.lst 1 (a1.map encS)), (iV a2), (bV a3)] 0 [] (resV [(V.own 0 r.length)]) 1 [(0, (Ob.arr 9 1 (r.map encS)))] := by
  refine mut_enter Tryd.func88 rfl rfl (l := [.tmp 6]) rfl rfl [(0, (V.lst 1 (a1.map encS))), (1, (iV a2)), (2, (bV a3))] rfl (fun w0 m0 β0 hg => en ?_)
  unfold M88_B at h
  refine rn 9 rfl ?_
  refine ln rfl rfl ?_
  refine rn 2 rfl ?_
  refine spC h rfl (fun hb26 h => ?_) (fun hb26 h => ?_)
  · refine rn 5 rfl ?_
    refine spC h rfl (fun hb27 h => ?_) (fun hb27 h => ?_)
    · refine rn 4 rfl ?_
      replace h := Option.some.inj h
      subst h
      exact wR ⟨.inl rfl, [(6, (V.own 0 ([] : List (List UInt8)).length))], (Ghost.trans (ghost_nilE 6 9 1 rfl) (ghost_ren 1 (fun i => ([0] : List Nat).getD i 0) _ _ (by decide) (EnvSub.get (.cons (Sub.ownE rfl rfl (by simp)) .nil)) (HpSub.get (.cons rfl (ObSub.rows (rows_imm imms_encS)) .nil)) rfl)), (.cons (.tmp rfl) .nil)⟩
    refine rn 4 rfl ?_
    refine cl h rfl rfl rfl (W83 _ _) rfl (fun y28 hx29 h => ?_)
    refine aops_buildSlice [(0, (sV y28))] [[(sV y28)]] tEl42 tZ9 rfl rfl rfl rfl wants_none (evp_cons rfl evp_nil) rfl rfl (by simp) rfl ?_
    refine fo (rn 2 rfl ?_)
    replace h := Option.some.inj h
    subst h
    exact wR ⟨.inl rfl, [(6, (V.own 0 ([y28] : List (List UInt8)).length))], (ghost_ren 1 (fun i => ([0] : List Nat).getD i 0) _ _ (by decide) (EnvSub.get (.cons (Sub.ownE rfl rfl (by simp)) .nil)) (HpSub.get (.cons rfl (ObSub.rows (rows_imm imms_encS)) .nil)) rfl), (.cons (.tmp rfl) .nil)⟩
  refine rn 4 rfl ?_
  refine ln rfl rfl ?_
  refine cl h rfl rfl rfl (W116 _ _) rfl (fun y30 hx31 h => ?_)
  refine rn 9 rfl ?_
  refine spC h rfl (fun hb32 h => ?_) (fun hb32 h => ?_)
  · refine rn 1 rfl ?_
    refine ck h (fun hc33 h => ?_)
    obtain ⟨y34, hx35, h⟩ := bind_some h
    refine ck h (fun hc36 h => ?_)
    obtain ⟨y37, hx38, h⟩ := bind_some h
    refine ck h (fun hc39 h => ?_)
    refine awp_ghost ghost_res ?_
    refine awp_ghost ghost_res ?_
    refine fa ?_
    refine dr mixed (vs 2 rfl (xD (OD.mk [(22, (V.lst 1 (a1.map encS))), (23, (iV y30))] [] [(24, (V.lst 1 ((a1.take y30.toNat).map encS)))] []) ⟨⟨rfl, rfl, trivial⟩, trivial⟩ (by exact fun S hn h hh => aops_slice_lst (0) (y30.toNat) ((a1.take y30.toNat).map encS) tSl42 wants_none h.1 rfl ⟨_, (by rw [Int.toNat_of_nonneg hc33.1]; exact h.2.1)⟩ (Nat.zero_le _) (by simpa using hc33.2) slL_lo rfl (aops_nil ⟨rfl, rfl⟩)) rfl (vs 2 rfl (xD (OD.mk [(24, (V.lst 1 ((a1.take y30.toNat).map encS))), (25, (iV a2)), (26, (bV a3))] [(0, Ob.res)] [(27, (V.own 0 y34.length))] [(0, (Ob.arr 9 1 (y34.map encS)))]) ⟨⟨rfl, rfl, rfl, trivial⟩, ⟨rfl, trivial⟩⟩ (by exact fun S hn h hh => aops_mcall_at [0] rfl hn (List.forall_mem_cons.2 ⟨hh.1, (fun _ hx => nomatch hx)⟩) (V.own 0 y34.length) [(V.lst 1 ((a1.take y30.toNat).map encS)), (iV a2), (bV a3)] [(0, (Ob.arr 9 1 (y34.map encS)))] fOk88 wants_none rfl (evm_cons h.1 (evm_cons h.2.1 (evm_cons h.2.2.1 evm_nil))) (.cons (Sub.imm (Imm.lst _ _)) (.cons (Sub.imm (Imm.con _)) (.cons (Sub.imm (Imm.con _)) .nil))) (hR88 (a1.take y30.toNat) a2 a3 _ hx35) rfl rfl (Sub.ownT rfl rfl) (.cons rfl (ObSub.rowsT (rows_imm imms_encS)) .nil) (aops_nil ⟨rfl, rfl⟩)) rfl (vs 2 rfl (xD (OD.mk [(28, (V.lst 1 (a1.map encS))), (29, (iV y30))] [] [(30, (V.lst 1 ((a1.drop y30.toNat).map encS)))] []) ⟨⟨rfl, rfl, trivial⟩, trivial⟩ (by exact fun S hn h hh => aops_slice_lst (y30.toNat) (a1.length) ((a1.drop y30.toNat).map encS) tSl42 wants_none h.1 ⟨_, (by rw [Int.toNat_of_nonneg hc36.1]; exact h.2.1)⟩ (List.length_map ..).symm hc36.2 (Nat.le_of_eq (List.length_map ..).symm) slL_hi rfl (aops_nil ⟨rfl, rfl⟩)) rfl (cD rfl rfl rfl rfl (W83 _ _ _ hx38) rfl (xD (OD.mk [(31, (sV y37))] [] [(32, (V.lst 1 (([y37] : List (List UInt8)).map encS)))] []) ⟨⟨rfl, trivial⟩, trivial⟩ (by exact fun S hn h hh => aops_buildSlice_imm [(0, (sV y37))] [[(sV y37)]] tEl42 tZ9 wants_none rfl rfl rfl rfl (evp_cons h.1 evp_nil) rfl rfl (by simp) (imms_rows (.cons (.cons (Imm.con _) .nil) .nil)) rfl (aops_nil ⟨rfl, rfl⟩)) rfl (xD (OD.mk [(27, (V.own 0 y34.length)), (32, (V.lst 1 (([y37] : List (List UInt8)).map encS)))] [(0, (Ob.arr 9 1 (y34.map encS))), (1, Ob.res)] [(33, (V.own 1 (y34 ++ ([y37] : List (List UInt8))).length))] [(1, (Ob.arr 9 1 ((y34 ++ ([y37] : List (List UInt8))).map encS))), (0, Ob.dead)]) ⟨⟨rfl, rfl, trivial⟩, ⟨rfl, rfl, trivial⟩⟩ (by exact fun S hn h hh => aops_append_at 1 rfl hn hh.2.1 (([y37] : List (List UInt8)).map encS) ((y34 ++ ([y37] : List (List UInt8))).map encS) tEl42 tIsSl42 rfl rfl wants_none h.1 hh.1 (by simp) h.2.1 (.lst (rows_one one_encS)) (map_snoc encS y34 ([y37] : List (List UInt8))) (List.length_map ..) hc39 rfl (aops_nil ⟨rfl, rfl⟩)) rfl (vs 1 rfl .nil)))))))))) (by kernel_rfl) ?_
    replace h := Option.some.inj h
    subst h
    exact wR ⟨.inl rfl, [(6, (V.own 0 (y34 ++ ([y37] : List (List UInt8))).length))], (gr [1] rfl (hR rfl rfl .nil) rfl), (.cons (.tmp rfl) .nil)⟩
  refine rn 2 rfl ?_
  refine ck h (fun hc40 h => ?_)
  obtain ⟨y41, hx42, h⟩ := bind_some h
  refine ck h (fun hc43 h => ?_)
  obtain ⟨y44, hx45, h⟩ := bind_some h
  refine ck h (fun hc46 h => ?_)
  refine awp_ghost ghost_res ?_
  refine awp_ghost ghost_res ?_
  refine fa ?_
  refine dr mixed (vs 2 rfl (xD (OD.mk [(34, (V.lst 1 (a1.map encS))), (35, (iV y30))] [] [(36, (V.lst 1 ((a1.drop y30.toNat).map encS)))] []) ⟨⟨rfl, rfl, trivial⟩, trivial⟩ (by exact fun S hn h hh => aops_slice_lst (y30.toNat) (a1.length) ((a1.drop y30.toNat).map encS) tSl42 wants_none h.1 ⟨_, (by rw [Int.toNat_of_nonneg hc40.1]; exact h.2.1)⟩ (List.length_map ..).symm hc40.2 (Nat.le_of_eq (List.length_map ..).symm) slL_hi rfl (aops_nil ⟨rfl, rfl⟩)) rfl (vs 3 rfl (xD (OD.mk [(36, (V.lst 1 ((a1.drop y30.toNat).map encS))), (39, (iV (w64 (a2 - y30))))] [(0, Ob.res)] [(40, (V.own 0 y41.length))] [(0, (Ob.arr 9 1 (y41.map encS)))]) ⟨⟨rfl, rfl, trivial⟩, ⟨rfl, trivial⟩⟩ (by exact fun S hn h hh => aops_mcall_at [0] rfl hn (List.forall_mem_cons.2 ⟨hh.1, (fun _ hx => nomatch hx)⟩) (V.own 0 y41.length) [(V.lst 1 ((a1.drop y30.toNat).map encS)), (iV (w64 (a2 - y30))), (bV false)] [(0, (Ob.arr 9 1 (y41.map encS)))] fOk88 wants_none rfl (evm_cons h.1 (evm_cons h.2.1 (evm_cons rfl evm_nil))) (.cons (Sub.imm (Imm.lst _ _)) (.cons (Sub.imm (Imm.con _)) (.cons (Sub.imm (Imm.con _)) .nil))) (hR88 (a1.drop y30.toNat) (w64 (a2 - y30)) false _ hx42) rfl rfl (Sub.ownT rfl rfl) (.cons rfl (ObSub.rowsT (rows_imm imms_encS)) .nil) (aops_nil ⟨rfl, rfl⟩)) rfl (vs 2 rfl (xD (OD.mk [(41, (V.lst 1 (a1.map encS))), (42, (iV y30))] [] [(43, (V.lst 1 ((a1.take y30.toNat).map encS)))] []) ⟨⟨rfl, rfl, trivial⟩, trivial⟩ (by exact fun S hn h hh => aops_slice_lst (0) (y30.toNat) ((a1.take y30.toNat).map encS) tSl42 wants_none h.1 rfl ⟨_, (by rw [Int.toNat_of_nonneg hc43.1]; exact h.2.1)⟩ (Nat.zero_le _) (by simpa using hc43.2) slL_lo rfl (aops_nil ⟨rfl, rfl⟩)) rfl (cD rfl rfl rfl rfl (W83 _ _ _ hx45) rfl (xD (OD.mk [(44, (sV y44))] [] [(45, (V.lst 1 (([y44] : List (List UInt8)).map encS)))] []) ⟨⟨rfl, trivial⟩, trivial⟩ (by exact fun S hn h hh => aops_buildSlice_imm [(0, (sV y44))] [[(sV y44)]] tEl42 tZ9 wants_none rfl rfl rfl rfl (evp_cons h.1 evp_nil) rfl rfl (by simp) (imms_rows (.cons (.cons (Imm.con _) .nil) .nil)) rfl (aops_nil ⟨rfl, rfl⟩)) rfl (xD (OD.mk [(40, (V.own 0 y41.length)), (45, (V.lst 1 (([y44] : List (List UInt8)).map encS)))] [(0, (Ob.arr 9 1 (y41.map encS))), (1, Ob.res)] [(46, (V.own 1 (y41 ++ ([y44] : List (List UInt8))).length))] [(1, (Ob.arr 9 1 ((y41 ++ ([y44] : List (List UInt8))).map encS))), (0, Ob.dead)]) ⟨⟨rfl, rfl, trivial⟩, ⟨rfl, rfl, trivial⟩⟩ (by exact fun S hn h hh => aops_append_at 1 rfl hn hh.2.1 (([y44] : List (List UInt8)).map encS) ((y41 ++ ([y44] : List (List UInt8))).map encS) tEl42 tIsSl42 rfl rfl wants_none h.1 hh.1 (by simp) h.2.1 (.lst (rows_one one_encS)) (map_snoc encS y41 ([y44] : List (List UInt8))) (List.length_map ..) hc46 rfl (aops_nil ⟨rfl, rfl⟩)) rfl (vs 1 rfl .nil)))))))))) (by kernel_rfl) ?_
  replace h := Option.some.inj h
  subst h
  exact wR ⟨.inl rfl, [(6, (V.own 0 (y41 ++ ([y44] : List (List UInt8))).length))], (gr [1] rfl (hR rfl rfl .nil) rfl), (.cons (.tmp rfl) .nil)⟩
theorem W88 : ∀ (F : Nat) (a1 : (List (List UInt8))) (a2 : Int) (a3 : Bool) (r : (List (List UInt8))) (h : M88 F a1 a2 a3 = some r), MutG gl Tryd.prog 88 [(V.lst 1 (a1.map encS)), (iV a2), (bV a3)] 0 [] (resV [(V.own 0 r.length)]) 1 [(0, (Ob.arr 9 1 (r.map encS)))] := by
  intro F
  induction F with
  | zero => intros; simp [M88] at *
  | succ F ih => exact fun a1 a2 a3 r h => W88_B (M88 F) ih F a1 a2 a3 r h
theorem W33 (F : Nat) (a1 : (List (List UInt8))) (a2 : Int) (a3 : Int) (r : ((List (List UInt8)) × Int)) (h : M33 F a1 a2 a3 = some r) : PureG gl Tryd.prog 33 [(V.lst 1 (a1.map encS)), (iV a2), (iV a3)] (V.tup [(V.lst 1 ((r.1).map encS)), (iV (r.2))]) := by
  refine pin (fun r => (V.tup [(V.lst 1 ((r.1).map encS)), (iV (r.2))])) r rfl Tryd.func33 rfl rfl rfl rfl rfl (fun w0 m0 hg => ?_)
  unfold M33 at h
  refine rn 9 rfl ?_
  refine cl h rfl rfl rfl (W74 _ _ _) rfl (fun y4 hx5 h => ?_)
  refine rn 7 rfl ?_
  refine spC h rfl (fun hb6 h => ?_) (fun hb6 h => ?_)
  · refine rn 6 rfl ?_
    exact rt h rfl
  refine rn 7 rfl ?_
  refine spO 16 h rfl (fun hb7 h => ?_) (fun hb7 h => ?_)
  · refine rn 21 rfl ?_
    exact rt h rfl
  refine rn 2 rfl ?_
  refine ln rfl rfl ?_
  refine rn 3 rfl ?_
  refine spO 22 h rfl (fun hb8 h => ?_) (fun hb8 h => ?_)
  · refine rn 15 rfl ?_
    exact rt h rfl
  refine rn 4 rfl ?_
  refine spO 26 h rfl (fun hb9 h => ?_) (fun hb9 h => ?_)
  · refine rn 11 rfl ?_
    exact rt h rfl
  refine rn 5 rfl ?_
  refine spC h rfl (fun hb10 h => ?_) (fun hb10 h => ?_)
  · refine rn 5 rfl ?_
    exact rt h rfl
  refine rn 5 rfl ?_
  refine ck h (fun hc11 h => ?_)
  refine aops_slice_lst (0) (a3.toNat) ((a1.take a3.toNat).map encS) tSl42 wants_none rfl rfl ⟨_, (by rw [Int.toNat_of_nonneg hc11.1]; exact rfl)⟩ (Nat.zero_le _) (by simpa using hc11.2) slL_lo rfl ?_
  obtain ⟨y12, hx13, h⟩ := bind_some h
  refine fo (rn 1 rfl ?_)
  refine aops_mcall (V.own 0 y12.length) [(V.lst 1 ((a1.take a3.toNat).map encS)), (iV a2), (bV true)] (fun i => ([] : List Nat).getD i 0) (fun i => ([0] : List Nat).getD i 0) 0 1 [(0, (Ob.arr 9 1 (y12.map encS)))] fOk88 wants_none rfl (evm_cons rfl (evm_cons rfl (evm_cons rfl evm_nil))) (.cons (Sub.imm (Imm.lst _ _)) (.cons (Sub.imm (Imm.con _)) (.cons (Sub.imm (Imm.con _)) .nil))) .nil (W88 F (a1.take a3.toNat) a2 true y12 hx13) rfl rfl rfl rfl rfl (Sub.ownT rfl rfl) (.cons rfl (ObSub.rowsT (rows_imm imms_encS)) .nil) ?_
  refine fo (rn 3 rfl ?_)
  refine awp_ghost (ghost_frzE 0 6 rfl (rows_imm imms_encS) rfl (List.length_map ..).symm) ?_
  refine fa ?_
  exact rt h rfl
theorem W89_B (R89 : (List (List UInt8)) → Int → Bool → Option (List (List UInt8))) (hR89 : ∀ (a1 : (List (List UInt8))) (a2 : Int) (a3 : Bool) (r : (List (List UInt8))), R89 a1 a2 a3 = some r → MutG gl Tryd.prog 89 [(V.lst 1 (a1.map encS)), (iV a2), (bV a3)] 0 [] (resV [(V.own 0 r.length)]) 1 [(0, (Ob.arr 9 1 (r.map encS)))]) (F : Nat) (a1 : (List (List UInt8))) (a2 : Int) (a3 : Bool) (r : (List (List UInt8))) (h : M89_B R89 F a1 a2 a3 = some r) : MutG gl Tryd.prog 89 [(V.lst 1 (a1.map encS)), (iV a2), (bV a3)] 0 [] (resV [(V.own 0 r.length)]) 1 [(0, (Ob.arr 9 1 (r.map encS)))] := by
  refine mut_enter Tryd.func89 rfl rfl (l := [.tmp 6]) rfl rfl [(0, (V.lst 1 (a1.map encS))), (1, (iV a2)), (2, (bV a3))] rfl (fun w0 m0 β0 hg => en ?_)
  unfold M89_B at h
  refine rn 9 rfl ?_
  refine ln rfl rfl ?_
  refine rn 2 rfl ?_
  refine spC h rfl (fun hb26 h => ?_) (fun hb26 h => ?_)
  · refine rn 5 rfl ?_
    refine spC h rfl (fun hb27 h => ?_) (fun hb27 h => ?_)
    · refine rn 4 rfl ?_
      replace h := Option.some.inj h
      subst h
      exact wR ⟨.inl rfl, [(6, (V.own 0 ([] : List (List UInt8)).length))], (Ghost.trans (ghost_nilE 6 9 1 rfl) (ghost_ren 1 (fun i => ([0] : List Nat).getD i 0) _ _ (by decide) (EnvSub.get (.cons (Sub.ownE rfl rfl (by simp)) .nil)) (HpSub.get (.cons rfl (ObSub.rows (rows_imm imms_encS)) .nil)) rfl)), (.cons (.tmp rfl) .nil)⟩
    refine rn 4 rfl ?_
    refine cl h rfl rfl rfl (W85 _ _) rfl (fun y28 hx29 h => ?_)
    refine aops_buildSlice [(0, (sV y28))] [[(sV y28)]] tEl42 tZ9 rfl rfl rfl rfl wants_none (evp_cons rfl evp_nil) rfl rfl (by simp) rfl ?_
    refine fo (rn 2 rfl ?_)
    replace h := Option.some.inj h
    subst h
    exact wR ⟨.inl rfl, [(6, (V.own 0 ([y28] : List (List UInt8)).length))], (ghost_ren 1 (fun i => ([0] : List Nat).getD i 0) _ _ (by decide) (EnvSub.get (.cons (Sub.ownE rfl rfl (by simp)) .nil)) (HpSub.get (.cons rfl (ObSub.rows (rows_imm imms_encS)) .nil)) rfl), (.cons (.tmp rfl) .nil)⟩
  refine rn 4 rfl ?_
  refine ln rfl rfl ?_
  refine cl h rfl rfl rfl (W119 _ _) rfl (fun y30 hx31 h => ?_)
  refine rn 9 rfl ?_
  refine spC h rfl (fun hb32 h => ?_) (fun hb32 h => ?_)
  · refine rn 1 rfl ?_
    refine ck h (fun hc33 h => ?_)
    obtain ⟨y34, hx35, h⟩ := bind_some h
    refine ck h (fun hc36 h => ?_)
    obtain ⟨y37, hx38, h⟩ := bind_some h
    refine ck h (fun hc39 h => ?_)
    refine awp_ghost ghost_res ?_
    refine awp_ghost ghost_res ?_
    refine fa ?_
    refine dr mixed (vs 2 rfl (xD (OD.mk [(22, (V.lst 1 (a1.map encS))), (23, (iV y30))] [] [(24, (V.lst 1 ((a1.take y30.toNat).map encS)))] []) ⟨⟨rfl, rfl, trivial⟩, trivial⟩ (by exact fun S hn h hh => aops_slice_lst (0) (y30.toNat) ((a1.take y30.toNat).map encS) tSl42 wants_none h.1 rfl ⟨_, (by rw [Int.toNat_of_nonneg hc33.1]; exact h.2.1)⟩ (Nat.zero_le _) (by simpa using hc33.2) slL_lo rfl (aops_nil ⟨rfl, rfl⟩)) rfl (vs 2 rfl (xD (OD.mk [(24, (V.lst 1 ((a1.take y30.toNat).map encS))), (25, (iV a2)), (26, (bV a3))] [(0, Ob.res)] [(27, (V.own 0 y34.length))] [(0, (Ob.arr 9 1 (y34.map encS)))]) ⟨⟨rfl, rfl, rfl, trivial⟩, ⟨rfl, trivial⟩⟩ (by exact fun S hn h hh => aops_mcall_at [0] rfl hn (List.forall_mem_cons.2 ⟨hh.1, (fun _ hx => nomatch hx)⟩) (V.own 0 y34.length) [(V.lst 1 ((a1.take y30.toNat).map encS)), (iV a2), (bV a3)] [(0, (Ob.arr 9 1 (y34.map encS)))] fOk89 wants_none rfl (evm_cons h.1 (evm_cons h.2.1 (evm_cons h.2.2.1 evm_nil))) (.cons (Sub.imm (Imm.lst _ _)) (.cons (Sub.imm (Imm.con _)) (.cons (Sub.imm (Imm.con _)) .nil))) (hR89 (a1.take y30.toNat) a2 a3 _ hx35) rfl rfl (Sub.ownT rfl rfl) (.cons rfl (ObSub.rowsT (rows_imm imms_encS)) .nil) (aops_nil ⟨rfl, rfl⟩)) rfl (vs 2 rfl (xD (OD.mk [(28, (V.lst 1 (a1.map encS))), (29, (iV y30))] [] [(30, (V.lst 1 ((a1.drop y30.toNat).map encS)))] []) ⟨⟨rfl, rfl, trivial⟩, trivial⟩ (by exact fun S hn h hh => aops_slice_lst (y30.toNat) (a1.length) ((a1.drop y30.toNat).map encS) tSl42 wants_none h.1 ⟨_, (by rw [Int.toNat_of_nonneg hc36.1]; exact h.2.1)⟩ (List.length_map ..).symm hc36.2 (Nat.le_of_eq (List.length_map ..).symm) slL_hi rfl (aops_nil ⟨rfl, rfl⟩)) rfl (cD rfl rfl rfl rfl (W85 _ _ _ hx38) rfl (xD (OD.mk [(31, (sV y37))] [] [(32, (V.lst 1 (([y37] : List (List UInt8)).map encS)))] []) ⟨⟨rfl, trivial⟩, trivial⟩ (by exact fun S hn h hh => aops_buildSlice_imm [(0, (sV y37))] [[(sV y37)]] tEl42 tZ9 wants_none rfl rfl rfl rfl (evp_cons h.1 evp_nil) rfl rfl (by simp) (imms_rows (.cons (.cons (Imm.con _) .nil) .nil)) rfl (aops_nil ⟨rfl, rfl⟩)) rfl (xD (OD.mk [(27, (V.own 0 y34.length)), (32, (V.lst 1 (([y37] : List (List UInt8)).map encS)))] [(0, (Ob.arr 9 1 (y34.map encS))), (1, Ob.res)] [(33, (V.own 1 (y34 ++ ([y37] : List (List UInt8))).length))] [(1, (Ob.arr 9 1 ((y34 ++ ([y37] : List (List UInt8))).map encS))), (0, Ob.dead)]) ⟨⟨rfl, rfl, trivial⟩, ⟨rfl, rfl, trivial⟩⟩ (by exact fun S hn h hh => aops_append_at 1 rfl hn hh.2.1 (([y37] : List (List UInt8)).map encS) ((y34 ++ ([y37] : List (List UInt8))).map encS) tEl42 tIsSl42 rfl rfl wants_none h.1 hh.1 (by simp) h.2.1 (.lst (rows_one one_encS)) (map_snoc encS y34 ([y37] : List (List UInt8))) (List.length_map ..) hc39 rfl (aops_nil ⟨rfl, rfl⟩)) rfl (vs 1 rfl .nil)))))))))) (by kernel_rfl) ?_
    replace h := Option.some.inj h
    subst h
    exact wR ⟨.inl rfl, [(6, (V.own 0 (y34 ++ ([y37] : List (List UInt8))).length))], (gr [1] rfl (hR rfl rfl .nil) rfl), (.cons (.tmp rfl) .nil)⟩
  refine rn 2 rfl ?_
  refine ck h (fun hc40 h => ?_)
  obtain ⟨y41, hx42, h⟩ := bind_some h
  refine ck h (fun hc43 h => ?_)
  obtain ⟨y44, hx45, h⟩ := bind_some h
  refine ck h (fun hc46 h => ?_)
  refine awp_ghost ghost_res ?_
  refine awp_ghost ghost_res ?_
  refine fa ?_
  refine dr mixed (vs 2 rfl (xD (OD.mk [(34, (V.lst 1 (a1.map encS))), (35, (iV y30))] [] [(36, (V.lst 1 ((a1.drop y30.toNat).map encS)))] []) ⟨⟨rfl, rfl, trivial⟩, trivial⟩ (by exact fun S hn h hh => aops_slice_lst (y30.toNat) (a1.length) ((a1.drop y30.toNat).map encS) tSl42 wants_none h.1 ⟨_, (by rw [Int.toNat_of_nonneg hc40.1]; exact h.2.1)⟩ (List.length_map ..).symm hc40.2 (Nat.le_of_eq (List.length_map ..).symm) slL_hi rfl (aops_nil ⟨rfl, rfl⟩)) rfl (vs 3 rfl (xD (OD.mk [(36, (V.lst 1 ((a1.drop y30.toNat).map encS))), (39, (iV (w64 (a2 - y30))))] [(0, Ob.res)] [(40, (V.own 0 y41.length))] [(0, (Ob.arr 9 1 (y41.map encS)))]) ⟨⟨rfl, rfl, trivial⟩, ⟨rfl, trivial⟩⟩ (by exact fun S hn h hh => aops_mcall_at [0] rfl hn (List.forall_mem_cons.2 ⟨hh.1, (fun _ hx => nomatch hx)⟩) (V.own 0 y41.length) [(V.lst 1 ((a1.drop y30.toNat).map encS)), (iV (w64 (a2 - y30))), (bV false)] [(0, (Ob.arr 9 1 (y41.map encS)))] fOk89 wants_none rfl (evm_cons h.1 (evm_cons h.2.1 (evm_cons rfl evm_nil))) (.cons (Sub.imm (Imm.lst _ _)) (.cons (Sub.imm (Imm.con _)) (.cons (Sub.imm (Imm.con _)) .nil))) (hR89 (a1.drop y30.toNat) (w64 (a2 - y30)) false _ hx42) rfl rfl (Sub.ownT rfl rfl) (.cons rfl (ObSub.rowsT (rows_imm imms_encS)) .nil) (aops_nil ⟨rfl, rfl⟩)) rfl (vs 2 rfl (xD (OD.mk [(41, (V.lst 1 (a1.map encS))), (42, (iV y30))] [] [(43, (V.lst 1 ((a1.take y30.toNat).map encS)))] []) ⟨⟨rfl, rfl, trivial⟩, trivial⟩ (by exact fun S hn h hh => aops_slice_lst (0) (y30.toNat) ((a1.take y30.toNat).map encS) tSl42 wants_none h.1 rfl ⟨_, (by rw [Int.toNat_of_nonneg hc43.1]; exact h.2.1)⟩ (Nat.zero_le _) (by simpa using hc43.2) slL_lo rfl (aops_nil ⟨rfl, rfl⟩)) rfl (cD rfl rfl rfl rfl (W85 _ _ _ hx45) rfl (xD (OD.mk [(44, (sV y44))] [] [(45, (V.lst 1 (([y44] : List (List UInt8)).map encS)))] []) ⟨⟨rfl, trivial⟩, trivial⟩ (by exact fun S hn h hh => aops_buildSlice_imm [(0, (sV y44))] [[(sV y44)]] tEl42 tZ9 wants_none rfl rfl rfl rfl (evp_cons h.1 evp_nil) rfl rfl (by simp) (imms_rows (.cons (.cons (Imm.con _) .nil) .nil)) rfl (aops_nil ⟨rfl, rfl⟩)) rfl (xD (OD.mk [(40, (V.own 0 y41.length)), (45, (V.lst 1 (([y44] : List (List UInt8)).map encS)))] [(0, (Ob.arr 9 1 (y41.map encS))), (1, Ob.res)] [(46, (V.own 1 (y41 ++ ([y44] : List (List UInt8))).length))] [(1, (Ob.arr 9 1 ((y41 ++ ([y44] : List (List UInt8))).map encS))), (0, Ob.dead)]) ⟨⟨rfl, rfl, trivial⟩, ⟨rfl, rfl, trivial⟩⟩ (by exact fun S hn h hh => aops_append_at 1 rfl hn hh.2.1 (([y44] : List (List UInt8)).map encS) ((y41 ++ ([y44] : List (List UInt8))).map encS) tEl42 tIsSl42 rfl rfl wants_none h.1 hh.1 (by simp) h.2.1 (.lst (rows_one one_encS)) (map_snoc encS y41 ([y44] : List (List UInt8))) (List.length_map ..) hc46 rfl (aops_nil ⟨rfl, rfl⟩)) rfl (vs 1 rfl .nil)))))))))) (by kernel_rfl) ?_
  replace h := Option.some.inj h
  subst h
  exact wR ⟨.inl rfl, [(6, (V.own 0 (y41 ++ ([y44] : List (List UInt8))).length))], (gr [1] rfl (hR rfl rfl .nil) rfl), (.cons (.tmp rfl) .nil)⟩
theorem W89 : ∀ (F : Nat) (a1 : (List (List UInt8))) (a2 : Int) (a3 : Bool) (r : (List (List UInt8))) (h : M89 F a1 a2 a3 = some r), MutG gl Tryd.prog 89 [(V.lst 1 (a1.map encS)), (iV a2), (bV a3)] 0 [] (resV [(V.own 0 r.length)]) 1 [(0, (Ob.arr 9 1 (r.map encS)))] := by
  intro F
  induction F with
  | zero => intros; simp [M89] at *
  | succ F ih => exact fun a1 a2 a3 r h => W89_B (M89 F) ih F a1 a2 a3 r h
theorem W34 (F : Nat) (a1 : (List (List UInt8))) (a2 : Int) (a3 : Int) (r : ((List (List UInt8)) × Int)) (h : M34 F a1 a2 a3 = some r) : PureG gl Tryd.prog 34 [(V.lst 1 (a1.map encS)), (iV a2), (iV a3)] (V.tup [(V.lst 1 ((r.1).map encS)), (iV (r.2))]) := by
  refine pin (fun r => (V.tup [(V.lst 1 ((r.1).map encS)), (iV (r.2))])) r rfl Tryd.func34 rfl rfl rfl rfl rfl (fun w0 m0 hg => ?_)
  unfold M34 at h
  refine rn 9 rfl ?_
  refine cl h rfl rfl rfl (W84 _ _) rfl (fun y4 hx5 h => ?_)
  refine rn 7 rfl ?_
  refine spC h rfl (fun hb6 h => ?_) (fun hb6 h => ?_)
  · refine rn 6 rfl ?_
    exact rt h rfl
  refine rn 7 rfl ?_
  refine spO 16 h rfl (fun hb7 h => ?_) (fun hb7 h => ?_)
  · refine rn 21 rfl ?_
    exact rt h rfl
  refine rn 2 rfl ?_
  refine ln rfl rfl ?_
  refine rn 3 rfl ?_
  refine spO 22 h rfl (fun hb8 h => ?_) (fun hb8 h => ?_)
  · refine rn 15 rfl ?_
    exact rt h rfl
  refine rn 4 rfl ?_
  refine spO 26 h rfl (fun hb9 h => ?_) (fun hb9 h => ?_)
  · refine rn 11 rfl ?_
    exact rt h rfl
  refine rn 5 rfl ?_
  refine spC h rfl (fun hb10 h => ?_) (fun hb10 h => ?_)
  · refine rn 5 rfl ?_
    exact rt h rfl
  refine rn 5 rfl ?_
  refine ck h (fun hc11 h => ?_)
  refine aops_slice_lst (0) (a3.toNat) ((a1.take a3.toNat).map encS) tSl42 wants_none rfl rfl ⟨_, (by rw [Int.toNat_of_nonneg hc11.1]; exact rfl)⟩ (Nat.zero_le _) (by simpa using hc11.2) slL_lo rfl ?_
  obtain ⟨y12, hx13, h⟩ := bind_some h
  refine fo (rn 1 rfl ?_)
  refine aops_mcall (V.own 0 y12.length) [(V.lst 1 ((a1.take a3.toNat).map encS)), (iV a2), (bV true)] (fun i => ([] : List Nat).getD i 0) (fun i => ([0] : List Nat).getD i 0) 0 1 [(0, (Ob.arr 9 1 (y12.map encS)))] fOk89 wants_none rfl (evm_cons rfl (evm_cons rfl (evm_cons rfl evm_nil))) (.cons (Sub.imm (Imm.lst _ _)) (.cons (Sub.imm (Imm.con _)) (.cons (Sub.imm (Imm.con _)) .nil))) .nil (W89 F (a1.take a3.toNat) a2 true y12 hx13) rfl rfl rfl rfl rfl (Sub.ownT rfl rfl) (.cons rfl (ObSub.rowsT (rows_imm imms_encS)) .nil) ?_
  refine fo (rn 3 rfl ?_)
  refine awp_ghost (ghost_frzE 0 6 rfl (rows_imm imms_encS) rfl (List.length_map ..).symm) ?_
  refine fa ?_
  exact rt h rfl
end Go.Proofs.YtihfhmibfhkoeaaDoor
