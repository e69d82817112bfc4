/- Part of the proof: C3W6a, KL. -/
import Derived.Test.YtkeeppclihjlhaaGreatDoorNC3M
import Derived.Test.YtkeeppclihjlhaaGreatDoorNEV
import Derived.Test.YtkeeppclihjlhaaGreatDoorNC3W5a
import Derived.Test.YtkeeppclihjlhaaGreatDoorNC3W3a
import Derived.KernelRfl
import Derived.Test.YtkeeppclihjlhaaGreatDoorNC3PA
import Derived.OpenShut
import Derived.MakeChecks
namespace Go.Proofs.YtkeeppclihjlhaaGreatDoor
open Go Go.Pv
set_option linter.unusedVariables false
set_option maxRecDepth 100000
theorem W56 (F : Nat) (a1 : List Int) (r : List Int) (h : M56 F a1 = some r) : Mut Tryz.prog 56 [(V.own 0 a1.length)] 1 [(0, (Ob.arr 3 1 (a1.map encI_i64)))] (resV []) 1 [(0, (Ob.arr 3 1 (r.map encI_i64)))] := by
 unfold M56 at h
 by_cases hc : a1.length < 4611686018427387904
 ·rw [if_pos hc] at h
  replace h := Option.some.inj h
  subst h
  refine (mut_sort a1 (isort a1) rfl (List.length_mergeSort _) (fun w b off cap hH hb => ?_) (fun w p h0 => ?_)).heap hget_one
  ·exact Go.Proofs.Tryz.slices_Sort_int b off cap a1 w hH hb hc
  ·refine (Go.Proofs.Tryz.slices_Sort_int_none p 0 w).mono ?_
   rintro e w' ⟨rfl, rfl⟩
   exact ⟨rfl, Go.RowKit.Below.refl _ _, Nat.le_refl _⟩
 ·rw [if_neg hc] at h; simp at h
theorem W57 (F : Nat) (a1 : List Int) (r : List Int) (h : M57 F a1 = some r) : Mut Tryz.prog 57 [(V.own 0 a1.length)] 1 [(0, (Ob.arr 3 1 (a1.map encI_i64)))] (resV [(V.own 0 r.length)]) 1 [(0, (Ob.arr 3 1 (r.map encI_i64)))] := by
 unfold M57 at h
 by_cases hc : a1.length ≤ 140737488355328
 ·rw [if_pos hc] at h
  replace h := Option.some.inj h
  subst h
  exact (mut_compactS (Value.int .i64) (fun _ => rfl) 0 a1 rfl (fun b off cap a w hH h1 h2 => Go.Proofs.Tryz.slices_Compact_int b off cap a w hH h1 h2) (fun p w => Go.Proofs.Tryz.slices_Compact_int_empty p 0 w) hc).heap hget_one
 ·rw [if_neg hc] at h; simp at h
theorem W25 (F : Nat) (a1 : TPolicy) (a2 : (List TFact)) (r : ((List Int) × Int)) (h : M25 F a1 a2 = some r) : Pure Tryz.prog 25 [(V.agg (encTPolicy a1)), (V.lst 4 (a2.map encTFact))] (V.tup [(V.lst 1 ((r.1).map encI_i64)), (iV (r.2))]) := by
 refine pin (fun r => (V.tup [(V.lst 1 ((r.1).map encI_i64)), (iV (r.2))])) r rfl Tryz.func25 rfl rfl rfl rfl rfl (fun w0 m0 hg => ?_)
 unfold M25 at h
 refine rn 11 rfl ?_
 refine cl h rfl rfl rfl (W49 _ _ _ _) rfl (fun y3 hx4 h => ?_)
 refine rn 7 rfl ?_
 refine spC h rfl (fun hb5 h => ?_) (fun hb5 h => ?_)
 ·refine rn 6 rfl ?_
  exact rt h rfl
 refine rn 10 rfl ?_
 refine ln rfl rfl ?_
 refine rn 2 rfl ?_
 refine jK h (fun (p : (List Int)) => (⟨[(1, (V.lst 4 (a2.map encTFact))), (2, (V.ptr 0 2 0 0)), (7, (V.own 1 p.length))], [(0, (Ob.arr 33 2 [(encTPolicy a1)])), (1, (Ob.arr 3 1 (p.map encI_i64)))], 2⟩ : St)) (fun k6 p => k6 p = some r) (fun k6 h => ?_) ?_
 ·refine rn 1 rfl ?_
  refine wl (A := a1.Waivers) 21 rfl (fun hA16 => ?_)
  refine lC (fun (p : Int × (List Int)) => (⟨[(1, (V.lst 4 (a2.map encTFact))), (2, (V.ptr 0 2 0 0)), (7, (V.own 1 (p.2).length)), (21, (V.lst 6 (a1.Waivers.map encTWaiver))), (22, (iV ((a1.Waivers.length : Nat) : Int))), (23, (iV (p.1)))], [(0, (Ob.arr 33 2 [(encTPolicy a1)])), (1, (Ob.arr 3 1 ((p.2).map encI_i64)))], 2⟩ : St)) (fun n p => RG a1.Waivers (fun tl nn => M25_L1 F k6 tl p.2 = some r) n p.1) (fun p h => RG.zero h) (a1.Waivers.length + 1) (0, ([] : List Int)) (RG.start h) (Ghost.trans (ghost_nilE 7 3 1 rfl) (ghost_ren 2 (fun i => ([0, 1] : List Nat).getD i 0) _ _ (by decide) (EnvSub.get (.cons (Sub.imm (Imm.lst _ _)) (.cons (Sub.ptr rfl rfl) (.cons (Sub.ownE rfl rfl (by simp)) (.cons (Sub.imm (Imm.lst _ _)) (.cons (Sub.imm (Imm.con _)) (.cons (Sub.imm (Imm.con _)) .nil))))))) (HpSub.get (.cons rfl (ObSub.box (.cons (Sub.imm (Imm.lst _ _)) (.cons (Sub.imm (Imm.lst _ _)) .nil))) (.cons rfl (ObSub.rows (rows_imm imms_encI_i64)) .nil))) rfl)) (fun n p h => ?_)
  obtain ⟨n10, l11⟩ := p
  refine rn 5 rfl ?_
  refine spL rfl (fun hb12 => ?_) (fun hb12 => ?_)
  ·obtain ⟨x13, tl, hx14, h, hk1⟩ := RG.t hA16 h hb12
   unfold M25_L1 at h
   refine rn 5 rfl ?_
   refine ixh hx14 rfl rfl ?_
   refine rn 11 rfl ?_
   refine aops_buildSlice [(0, (iV x13.From)), (1, (iV (w64 (x13.To + 1))))] [[(iV x13.From)], [(iV (w64 (x13.To + 1)))]] tEl57 tZ3 rfl rfl rfl rfl wants_none (evp_cons rfl (evp_cons rfl evp_nil)) rfl rfl (by simp) rfl ?_
   refine fo ?_
   refine apO encI_i64 h rfl rfl rfl rfl rfl rfl rfl rfl (fun h => ?_)
   refine rn 7 rfl ?_
   exact jX ((w64 (n10 + 1)), (l11 ++ ([x13.From, (w64 (x13.To + 1))] : List Int))) (hk1 _ h) (gr [0, 4] rfl (hB rfl rfl rfl (hR rfl rfl .nil)) rfl)
  replace h := RG.f h hb12
  unfold M25_L1 at h
  refine rn 1 rfl ?_
  exact jX l11 h (gr [0, 1] rfl (hB rfl rfl rfl (hR rfl rfl .nil)) rfl)
 intro l7 h
 obtain ⟨y17, hx18, h⟩ := bind_some h
 refine rn 3 rfl ?_
 refine ck h (fun hc19 h => ?_)
 refine aops_mcallS (V.tup []) [(V.own 1 l7.length)] (fun i => ([1] : List Nat).getD i 0) (fun i => ([1] : List Nat).getD i 0) 2 2 [(1, (Ob.arr 3 1 (y17.map encI_i64)))] fOk56 wants_none rfl (evm_cons rfl evm_nil) (.cons (Sub.own rfl rfl) .nil) (.cons rfl (ObSub.rows (rows_imm imms_encI_i64)) .nil) (W56 F l7 y17 hx18) rfl rfl rfl rfl (Sub.immT (Imm.tup .nil)) (.cons rfl (ObSub.rowsT (rows_imm imms_encI_i64)) .nil) _ rfl ?_
 refine aops_ghost (ghost_tell 7 (V.own 1 y17.length) rfl (Sub.ownI hc19)) ?_
 refine aops_ghost (ghost_tell 36 (V.own 1 y17.length) rfl (Sub.ownI hc19)) ?_
 refine fo (rn 5 rfl ?_)
 refine cl h rfl rfl rfl (W51 _ _ _) rfl (fun y20 hx21 h => ?_)
 obtain ⟨y22, hx23, h⟩ := bind_some h
 refine rn 10 rfl ?_
 refine aops_mcallS (V.own 1 y22.length) [(V.own 1 y17.length)] (fun i => ([1] : List Nat).getD i 0) (fun i => ([1] : List Nat).getD i 0) 2 2 [(1, (Ob.arr 3 1 (y22.map encI_i64)))] fOk57 wants_none rfl (evm_cons rfl evm_nil) (.cons (Sub.own rfl rfl) .nil) (.cons rfl (ObSub.rows (rows_imm imms_encI_i64)) .nil) (W57 F y17 y22 hx23) rfl rfl rfl rfl (Sub.ownT rfl rfl) (.cons rfl (ObSub.rowsT (rows_imm imms_encI_i64)) .nil) _ rfl ?_
 refine fo (rn 3 rfl ?_)
 refine jK h (fun (p : (List Int)) => (⟨[(11, (V.own 0 p.length))], [(0, (Ob.arr 3 1 (p.map encI_i64)))], 1⟩ : St)) (fun k24 p => k24 p = some r) (fun k24 h => ?_) ?_
 ·refine rn 1 rfl ?_
  refine wlO (A := y22) 1 rfl (fun hA47 => ?_)
  refine lC (fun (p : Int × (List Int)) => (⟨[(2, (V.ptr 0 2 0 0)), (10, (V.lst 3 (y20.map encTpolicy_ruling))), (11, (V.own 1 (p.2).length)), (42, (V.own 2 y22.length)), (43, (iV ((y22.length : Nat) : Int))), (44, (iV (p.1)))], [(0, (Ob.arr 33 2 [(encTPolicy a1)])), (1, (Ob.arr 3 1 ((p.2).map encI_i64))), (2, (Ob.arr 3 1 (y22.map encI_i64)))], 3⟩ : St)) (fun n p => RG y22 (fun tl nn => M25_L2 F a1 y20 k24 tl p.2 = some r) n p.1) (fun p h => RG.zero h) (y22.length + 1) (0, ([] : List Int)) (RG.start h) (Ghost.trans (ghost_nilE 11 3 1 rfl) (ghost_ren 3 (fun i => ([0, 2, 1] : List Nat).getD i 0) _ _ (by decide) (EnvSub.get (.cons (Sub.ptr rfl rfl) (.cons (Sub.imm (Imm.lst _ _)) (.cons (Sub.ownE rfl rfl (by simp)) (.cons (Sub.own rfl rfl) (.cons (Sub.imm (Imm.con _)) (.cons (Sub.imm (Imm.con _)) .nil))))))) (HpSub.get (.cons rfl (ObSub.box (.cons (Sub.imm (Imm.lst _ _)) (.cons (Sub.imm (Imm.lst _ _)) .nil))) (.cons rfl (ObSub.rows (rows_imm imms_encI_i64)) (.cons rfl (ObSub.rows (rows_imm imms_encI_i64)) .nil)))) rfl)) (fun n p h => ?_)
  obtain ⟨n28, l29⟩ := p
  refine rn 5 rfl ?_
  refine spL rfl (fun hb30 => ?_) (fun hb30 => ?_)
  ·obtain ⟨x33, tl, hx34, h, hk2⟩ := RG.t hA47 h hb30
   unfold M25_L2 at h
   refine rn 2 rfl ?_
   refine jK h (fun (p : (List Int)) => (⟨[(2, (V.ptr 0 2 0 0)), (10, (V.lst 3 (y20.map encTpolicy_ruling))), (11, (V.own 1 p.length)), (42, (V.own 2 y22.length)), (43, (iV ((y22.length : Nat) : Int))), (44, (iV n28))], [(0, (Ob.arr 33 2 [(encTPolicy a1)])), (1, (Ob.arr 3 1 (p.map encI_i64))), (2, (Ob.arr 3 1 (y22.map encI_i64)))], 3⟩ : St)) (fun k31 p => k31 p = some r) (fun k31 h => ?_) ?_
   ·refine rn 3 rfl ?_
    refine ixoh (a := y22) hx34 rfl rfl rfl ?_
    refine ldp hx34 rfl rfl rfl rfl ?_
    refine rn 3 rfl ?_
    refine bs h (fun hb35 h => ?_) (fun hb35 h => ?_)
    ·refine bs h (fun hb36 h => ?_) (fun hb36 h => ?_)
     ·obtain ⟨y37, hx38, h⟩ := bind_some h
      obtain ⟨y39, hx40, h⟩ := bind_some h
      obtain ⟨y41, hx42, h⟩ := bind_some h
      refine dr mixed (vs 2 rfl (vb hb35 rfl (vs 3 rfl (vb hb36 rfl (vs 4 rfl (cD rfl rfl rfl rfl (W50 _ _ _ _ _ hx38) rfl (vs 3 rfl (cD rfl rfl rfl rfl (W50 _ _ _ _ _ hx40) rfl (cD rfl rfl rfl rfl (W24 _ _ _ _ hx42) rfl (vs 2 rfl .nil)))))))))) (by kernel_rfl) ?_
      refine jK h (fun (p : (List Int)) => (⟨[(2, (V.ptr 0 2 0 0)), (10, (V.lst 3 (y20.map encTpolicy_ruling))), (11, (V.own 1 p.length)), (42, (V.own 2 y22.length)), (43, (iV ((y22.length : Nat) : Int))), (44, (iV n28)), (52, (bV (decide (x33 ≤ 1000000)))), (65, (bV (!y41)))], [(0, (Ob.arr 33 2 [(encTPolicy a1)])), (1, (Ob.arr 3 1 (p.map encI_i64))), (2, (Ob.arr 3 1 (y22.map encI_i64)))], 3⟩ : St)) (fun k43 p => k43 p = some r) (fun k43 h => ?_) ?_
      ·refine spC h rfl (fun hb45 h => ?_) (fun hb45 h => ?_)
       ·refine rn 3 rfl ?_
        refine aops_buildSlice [(0, (iV x33))] [[(iV x33)]] tEl57 tZ3 rfl rfl rfl rfl wants_none (evp_cons rfl evp_nil) rfl rfl (by simp) rfl ?_
        refine fo ?_
        refine apO encI_i64 h rfl rfl rfl rfl rfl rfl rfl rfl (fun h => ?_)
        refine rn 2 rfl ?_
        exact jX (l29 ++ ([x33] : List Int)) h (gr [0, 4, 2] rfl (hB rfl rfl rfl (hR rfl rfl (hR rfl rfl .nil))) rfl)
       refine rn 1 rfl ?_
       exact jX l29 h (gr [0, 1, 2] rfl (hB rfl rfl rfl (hR rfl rfl (hR rfl rfl .nil))) rfl)
      intro l44 h
      refine rn 1 rfl ?_
      exact jX l44 h (gr [0, 1, 2] rfl (hB rfl rfl rfl (hR rfl rfl (hR rfl rfl .nil))) rfl)
     refine dr mixed (vs 2 rfl (vb hb35 rfl (vs 3 rfl (vb hb36 rfl (vs 12 rfl .nil))))) (by kernel_rfl) ?_
     refine rn 3 rfl ?_
     exact jX l29 h (gr [0, 1, 2] rfl (hB rfl rfl rfl (hR rfl rfl (hR rfl rfl .nil))) rfl)
    refine dr mixed (vs 2 rfl (vb hb35 rfl (vs 16 rfl .nil))) (by kernel_rfl) ?_
    refine rn 3 rfl ?_
    exact jX l29 h (gr [0, 1, 2] rfl (hB rfl rfl rfl (hR rfl rfl (hR rfl rfl .nil))) rfl)
   intro l32 h
   refine rn 4 rfl ?_
   exact jX ((w64 (n28 + 1)), l32) (hk2 _ h) (gr [0, 1, 2] rfl (hB rfl rfl rfl (hR rfl rfl (hR rfl rfl .nil))) rfl)
  replace h := RG.f h hb30
  unfold M25_L2 at h
  refine rn 1 rfl ?_
  exact jX l29 h (gr [1] rfl (hR rfl rfl .nil) rfl)
 intro l25 h
 refine rn 6 rfl ?_
 refine awp_ghost (ghost_frzEs 0 [4, 11, 72] rfl (rows_imm imms_encI_i64) (List.forall_mem_cons.2 ⟨rfl, (List.forall_mem_cons.2 ⟨rfl, (List.forall_mem_cons.2 ⟨rfl, (fun _ hx => nomatch hx)⟩)⟩)⟩) (List.length_map ..).symm) ?_
 refine fa ?_
 exact rt h rfl
theorem W58 (F : Nat) (a1 : (List Int)) (a2 : Int) (r : (List Int)) (h : M58 F a1 a2 = some r) : Pure Tryz.prog 58 [(V.lst 1 (a1.map encI_i64)), (iV a2)] (V.lst 1 (r.map encI_i64)) := by
 refine pin (fun r => (V.lst 1 (r.map encI_i64))) r rfl Tryz.func58 rfl rfl rfl rfl rfl (fun w0 m0 hg => ?_)
 unfold M58 at h
 refine rn 13 rfl ?_
 refine jK h (fun (p : (List Int)) => (⟨[(1, (iV a2)), (5, (V.own 0 p.length))], [(0, (Ob.arr 3 1 (p.map encI_i64)))], 1⟩ : St)) (fun k3 p => k3 p = some r) (fun k3 h => ?_) ?_
 ·refine rn 1 rfl ?_
  refine wl (A := a1) 0 rfl (fun hA22 => ?_)
  refine lC (fun (p : Int × (List Int)) => (⟨[(0, (V.lst 1 (a1.map encI_i64))), (1, (iV a2)), (5, (V.own 0 (p.2).length)), (6, (iV (p.1)))], [(0, (Ob.arr 3 1 ((p.2).map encI_i64)))], 1⟩ : St)) (fun n p => RG a1 (fun tl nn => M58_L1 F a1 a2 k3 tl nn p.2 = some r) n p.1) (fun p h => RG.zero h) (a1.length + 1) (0, ([] : List Int)) (RG.start h) (Ghost.trans (ghost_nilE 5 3 1 rfl) (ghost_ren 1 (fun i => ([0] : List Nat).getD i 0) _ _ (by decide) (EnvSub.get (.cons (Sub.imm (Imm.lst _ _)) (.cons (Sub.imm (Imm.con _)) (.cons (Sub.ownE rfl rfl (by simp)) (.cons (Sub.imm (Imm.con _)) .nil))))) (HpSub.get (.cons rfl (ObSub.rows (rows_imm imms_encI_i64)) .nil)) rfl)) (fun n p h => ?_)
  obtain ⟨n7, l8⟩ := p
  refine rn 5 rfl ?_
  refine ln rfl rfl ?_
  refine rn 2 rfl ?_
  refine spL rfl (fun hb9 => ?_) (fun hb9 => ?_)
  ·obtain ⟨x10, tl, hx11, h, hk1⟩ := RG.t hA22 h hb9
   unfold M58_L1 at h
   refine rn 8 rfl ?_
   refine ixh hx11 rfl rfl ?_
   refine rn 4 rfl ?_
   refine spC h rfl (fun hb12 h => ?_) (fun hb12 h => ?_)
   ·refine rn 5 rfl ?_
    exact rt h rfl
   refine rn 6 rfl ?_
   refine ixl h rfl rfl (fun x13 hx14 h => ?_)
   refine rn 4 rfl ?_
   refine spC h rfl (fun hb15 h => ?_) (fun hb15 h => ?_)
   ·refine rn 1 rfl ?_
    refine ck h (fun hc16 h => ?_)
    refine ck h (fun hc17 h => ?_)
    refine ck h (fun hc18 h => ?_)
    refine awp_ghost ghost_res ?_
    refine awp_ghost ghost_res ?_
    refine fa ?_
    refine dr mixed (vs 2 rfl (xD (OD.mk [(27, (iV a2))] [] [(28, (V.lst 1 (([a2] : List Int).map encI_i64)))] []) ⟨⟨rfl, trivial⟩, trivial⟩ (by exact fun S hn h hh => aops_buildSlice_imm [(0, (iV a2))] [[(iV a2)]] tEl57 tZ3 wants_none rfl rfl rfl rfl (evp_cons h.1 evp_nil) rfl rfl (by simp) (imms_rows (.cons (.cons (Imm.con _) .nil) .nil)) rfl (aops_nil ⟨rfl, rfl⟩)) rfl (xD (OD.mk [(26, (V.own 0 l8.length)), (28, (V.lst 1 (([a2] : List Int).map encI_i64)))] [(0, (Ob.arr 3 1 (l8.map encI_i64))), (1, Ob.res)] [(29, (V.own 1 (l8 ++ ([a2] : List Int)).length))] [(1, (Ob.arr 3 1 ((l8 ++ ([a2] : List Int)).map encI_i64))), (0, Ob.dead)]) ⟨⟨rfl, rfl, trivial⟩, ⟨rfl, rfl, trivial⟩⟩ (by exact fun S hn h hh => aops_append_at 1 rfl hn hh.2.1 (([a2] : List Int).map encI_i64) ((l8 ++ ([a2] : List Int)).map encI_i64) tEl57 tIsSl57 rfl rfl wants_none h.1 hh.1 (by simp) h.2.1 (.lst (rows_one one_encI_i64)) (map_snoc encI_i64 l8 ([a2] : List Int)) (List.length_map ..) hc16 rfl (aops_nil ⟨rfl, rfl⟩)) rfl (vs 2 rfl (xD (OD.mk [(30, (V.lst 1 (a1.map encI_i64))), (31, (iV n7))] [] [(32, (V.lst 1 ((a1.drop n7.toNat).map encI_i64)))] []) ⟨⟨rfl, rfl, trivial⟩, trivial⟩ (by exact fun S hn h hh => aops_slice_lst (n7.toNat) (a1.length) ((a1.drop n7.toNat).map encI_i64) tSl57 wants_none h.1 ⟨_, (by rw [Int.toNat_of_nonneg hc17.1]; exact h.2.1)⟩ (List.length_map ..).symm hc17.2 (Nat.le_of_eq (List.length_map ..).symm) slL_hi rfl (aops_nil ⟨rfl, rfl⟩)) rfl (xD (OD.mk [(29, (V.own 1 (l8 ++ ([a2] : List Int)).length)), (32, (V.lst 1 ((a1.drop n7.toNat).map encI_i64)))] [(1, (Ob.arr 3 1 ((l8 ++ ([a2] : List Int)).map encI_i64))), (2, Ob.res)] [(33, (V.own 2 ((l8 ++ ([a2] : List Int)) ++ (a1.drop n7.toNat)).length))] [(2, (Ob.arr 3 1 (((l8 ++ ([a2] : List Int)) ++ (a1.drop n7.toNat)).map encI_i64))), (1, Ob.dead)]) ⟨⟨rfl, rfl, trivial⟩, ⟨rfl, rfl, trivial⟩⟩ (by exact fun S hn h hh => aops_append_at 2 rfl hn hh.2.1 ((a1.drop n7.toNat).map encI_i64) (((l8 ++ ([a2] : List Int)) ++ (a1.drop n7.toNat)).map encI_i64) tEl57 tIsSl57 rfl rfl wants_none h.1 hh.1 (by simp) h.2.1 (.lst (rows_one one_encI_i64)) (map_snoc encI_i64 (l8 ++ ([a2] : List Int)) (a1.drop n7.toNat)) (List.length_map ..) hc18 rfl (aops_nil ⟨rfl, rfl⟩)) rfl (vs 1 rfl .nil))))))) (by kernel_rfl) ?_
    refine awp_ghost (ghost_frzEs 2 [4, 33] rfl (rows_imm imms_encI_i64) (List.forall_mem_cons.2 ⟨rfl, (List.forall_mem_cons.2 ⟨rfl, (fun _ hx => nomatch hx)⟩)⟩) (List.length_map ..).symm) ?_
    refine fa ?_
    exact rt h rfl
   refine rn 5 rfl ?_
   refine ixl h rfl rfl (fun x19 hx20 h => ?_)
   refine rn 1 rfl ?_
   refine aops_buildSlice [(0, (iV x19))] [[(iV x19)]] tEl57 tZ3 rfl rfl rfl rfl wants_none (evp_cons rfl evp_nil) rfl rfl (by simp) rfl ?_
   refine fo ?_
   refine apO encI_i64 h rfl rfl rfl rfl rfl rfl rfl rfl (fun h => ?_)
   refine rn 8 rfl ?_
   exact jX ((w64 (n7 + 1)), (l8 ++ ([x19] : List Int))) (hk1 _ h) (gr [2] rfl (hR rfl rfl .nil) rfl)
  replace h := RG.f h hb9
  unfold M58_L1 at h
  refine rn 1 rfl ?_
  exact jX l8 h (gr [0] rfl (hR rfl rfl .nil) rfl)
 intro l4 h
 refine rn 4 rfl ?_
 refine aops_buildSlice [(0, (iV a2))] [[(iV a2)]] tEl57 tZ3 rfl rfl rfl rfl wants_none (evp_cons rfl evp_nil) rfl rfl (by simp) rfl ?_
 refine fo ?_
 refine apO encI_i64 h rfl rfl rfl rfl rfl rfl rfl rfl (fun h => ?_)
 refine rn 2 rfl ?_
 refine awp_ghost (ghost_frzEs 2 [4, 44] rfl (rows_imm imms_encI_i64) (List.forall_mem_cons.2 ⟨rfl, (List.forall_mem_cons.2 ⟨rfl, (fun _ hx => nomatch hx)⟩)⟩) (List.length_map ..).symm) ?_
 refine fa ?_
 exact rt h rfl
theorem W59 (F : Nat) (a1 : (List TDecision)) (a2 : (List TDecision)) (r : Bool) (h : M59 F a1 a2 = some r) : Pure Tryz.prog 59 [(V.lst 4 (a1.map encTDecision)), (V.lst 4 (a2.map encTDecision))] (bV r) := by
 refine pin (fun r => (bV r)) r rfl Tryz.func59 rfl rfl rfl rfl rfl (fun w0 m0 hg => ?_)
 unfold M59 at h
 refine rn 9 rfl ?_
 refine jK h (fun _ : Unit => (⟨[(0, (V.lst 4 (a1.map encTDecision))), (1, (V.lst 4 (a2.map encTDecision)))], [], 0⟩ : St)) (fun k3 (_ : Unit) => k3 = some r) (fun k3 h => ?_) ?_
 ·refine rn 1 rfl ?_
  refine wl (A := a1) 0 rfl (fun hA12 => ?_)
  refine lC (fun (p : Int) => (⟨[(0, (V.lst 4 (a1.map encTDecision))), (1, (V.lst 4 (a2.map encTDecision))), (5, (iV p))], [], 0⟩ : St)) (fun n p => RG a1 (fun tl nn => M59_L1 F a2 k3 tl nn = some r) n p) (fun p h => RG.zero h) (a1.length + 1) 0 (RG.start h) (g0 rfl rfl) (fun n n5 h => ?_)
  refine rn 5 rfl ?_
  refine ln rfl rfl ?_
  refine rn 2 rfl ?_
  refine spL rfl (fun hb6 => ?_) (fun hb6 => ?_)
  ·obtain ⟨x7, tl, hx8, h, hk1⟩ := RG.t hA12 h hb6
   unfold M59_L1 at h
   obtain ⟨x9, hx10, h⟩ := bind_some h
   refine rn 4 rfl ?_
   refine dr mixed (vs 2 rfl (iD hx8 rfl rfl rfl (vs 3 rfl (iD hx10 rfl rfl rfl (vs 1 rfl (xD (OD.mk [(15, (V.agg (encTDecision x7))), (19, (V.agg (encTDecision x9)))] [] [(20, (bV (!(decide (x7 = x9)))))] []) ⟨⟨rfl, rfl, trivial⟩, trivial⟩ (by exact fun S hn h hh => aops_eqS true (xs := cv50 x7) (ys := cv50 x9) (b := (decide (x7 = x9))) eqk50 ⟨_, rfl⟩ ⟨_, rfl⟩ (eq_b cv50 _ _ (inj_cv50 _ _)) tEqG50 wants_none h.1 h.2.1 rfl (aops_nil ⟨rfl, rfl⟩)) rfl .nil)))))) (by kernel_rfl) ?_
   refine spC h rfl (fun hb11 h => ?_) (fun hb11 h => ?_)
   ·refine rn 4 rfl ?_
    exact rt h rfl
   refine rn 7 rfl ?_
   exact jX (w64 (n5 + 1)) (hk1 _ h) (g0 rfl rfl)
  replace h := RG.f h hb6
  unfold M59_L1 at h
  refine rn 1 rfl ?_
  exact jX () h (g0 rfl rfl)
 intro _ h
 refine rn 3 rfl ?_
 refine ln rfl rfl ?_
 refine rn 1 rfl ?_
 refine ln rfl rfl ?_
 refine rn 3 rfl ?_
 exact rt h rfl
theorem W26 (F : Nat) (a1 : TPolicy) (a2 : (List TFact)) (r : ((List Int) × Int)) (h : M26 F a1 a2 = some r) : Pure Tryz.prog 26 [(V.agg (encTPolicy a1)), (V.lst 4 (a2.map encTFact))] (V.tup [(V.lst 1 ((r.1).map encI_i64)), (iV (r.2))]) := by
 refine pin (fun r => (V.tup [(V.lst 1 ((r.1).map encI_i64)), (iV (r.2))])) r rfl Tryz.func26 rfl rfl rfl rfl rfl (fun w0 m0 hg => ?_)
 unfold M26 at h
 refine rn 11 rfl ?_
 refine cl h rfl rfl rfl (W54 _ _ _) rfl (fun y3 hx4 h => ?_)
 refine rn 7 rfl ?_
 refine spC h rfl (fun hb5 h => ?_) (fun hb5 h => ?_)
 ·refine rn 6 rfl ?_
  exact rt h rfl
 refine rn 11 rfl ?_
 refine jK h (fun (p : (List Int)) => (⟨[(1, (V.lst 4 (a2.map encTFact))), (2, (V.ptr 0 2 0 0)), (7, (V.lst 1 (p.map encI_i64))), (8, nV)], [(0, (Ob.arr 33 2 [(encTPolicy a1)]))], 1⟩ : St)) (fun k6 p => k6 p = some r) (fun k6 h => ?_) ?_
 ·refine rn 1 rfl ?_
  refine ck h (fun hA21 h => ?_)
  refine lC (fun (p : (List Int) × Int) => (⟨[(1, (V.lst 4 (a2.map encTFact))), (2, (V.ptr 0 2 0 0)), (7, (V.lst 1 ((p.1).map encI_i64))), (8, nV), (9, (iV (p.2)))], [(0, (Ob.arr 33 2 [(encTPolicy a1)]))], 1⟩ : St)) (fun n p => RC ((a1.Waivers.length : Nat) : Int) (fun tl nn => M26_L1 F a1 k6 tl nn p.1 = some r) n p.2) (fun p h => RC.zero h) (Int.toNat ((a1.Waivers.length : Nat) : Int) + 1) (([] : List Int), 0) (RC.start h) (gr [0] rfl (hB rfl rfl rfl .nil) rfl) (fun n p h => ?_)
  obtain ⟨l10, n11⟩ := p
  refine rn 6 rfl ?_
  refine ln rfl rfl ?_
  refine rn 2 rfl ?_
  refine spL rfl (fun hb12 => ?_) (fun hb12 => ?_)
  ·obtain ⟨tl, h, hk1⟩ := RC.t hA21 h hb12
   unfold M26_L1 at h
   obtain ⟨x13, hx14, h⟩ := bind_some h
   obtain ⟨y15, hx16, h⟩ := bind_some h
   obtain ⟨x17, hx18, h⟩ := bind_some h
   obtain ⟨y19, hx20, h⟩ := bind_some h
   refine rn 3 rfl ?_
   refine dr mixed (vs 4 rfl (iD hx14 rfl rfl rfl (vs 2 rfl (cD rfl rfl rfl rfl (W58 _ _ _ _ hx16) rfl (vs 3 rfl (iD hx18 rfl rfl rfl (vs 3 rfl (cD rfl rfl rfl rfl (W58 _ _ _ _ hx20) rfl (vs 1 rfl .nil))))))))) (by kernel_rfl) ?_
   refine rn 6 rfl ?_
   exact jX (y19, (w64 (n11 + 1))) (hk1 _ h) (gr [0] rfl (hB rfl rfl rfl .nil) rfl)
  replace h := RC.f h hb12
  unfold M26_L1 at h
  refine rn 1 rfl ?_
  exact jX l10 h (gr [0] rfl (hB rfl rfl rfl .nil) rfl)
 intro l7 h
 refine rn 5 rfl ?_
 refine jK h (fun (p : (List Int)) => (⟨[(8, (V.own 0 p.length))], [(0, (Ob.arr 3 1 (p.map encI_i64)))], 1⟩ : St)) (fun k22 p => k22 p = some r) (fun k22 h => ?_) ?_
 ·refine rn 1 rfl ?_
  refine wl (A := l7) 7 rfl (fun hA46 => ?_)
  refine lC (fun (p : Int × (List Int)) => (⟨[(1, (V.lst 4 (a2.map encTFact))), (2, (V.ptr 0 2 0 0)), (7, (V.lst 1 (l7.map encI_i64))), (8, (V.own 1 (p.2).length)), (10, (iV (p.1)))], [(0, (Ob.arr 33 2 [(encTPolicy a1)])), (1, (Ob.arr 3 1 ((p.2).map encI_i64)))], 2⟩ : St)) (fun n p => RG l7 (fun tl nn => M26_L2 F a1 a2 k22 tl p.2 = some r) n p.1) (fun p h => RG.zero h) (l7.length + 1) (0, ([] : List Int)) (RG.start h) (Ghost.trans (ghost_nilE 8 3 1 rfl) (ghost_ren 2 (fun i => ([0, 1] : List Nat).getD i 0) _ _ (by decide) (EnvSub.get (.cons (Sub.imm (Imm.lst _ _)) (.cons (Sub.ptr rfl rfl) (.cons (Sub.imm (Imm.lst _ _)) (.cons (Sub.ownE rfl rfl (by simp)) (.cons (Sub.imm (Imm.con _)) .nil)))))) (HpSub.get (.cons rfl (ObSub.box (.cons (Sub.imm (Imm.lst _ _)) (.cons (Sub.imm (Imm.lst _ _)) .nil))) (.cons rfl (ObSub.rows (rows_imm imms_encI_i64)) .nil))) rfl)) (fun n p h => ?_)
  obtain ⟨n26, l27⟩ := p
  refine rn 5 rfl ?_
  refine ln rfl rfl ?_
  refine rn 2 rfl ?_
  refine spL rfl (fun hb28 => ?_) (fun hb28 => ?_)
  ·obtain ⟨x31, tl, hx32, h, hk2⟩ := RG.t hA46 h hb28
   unfold M26_L2 at h
   refine rn 2 rfl ?_
   refine jK h (fun (p : (List Int)) => (⟨[(1, (V.lst 4 (a2.map encTFact))), (2, (V.ptr 0 2 0 0)), (7, (V.lst 1 (l7.map encI_i64))), (8, (V.own 1 p.length)), (10, (iV n26))], [(0, (Ob.arr 33 2 [(encTPolicy a1)])), (1, (Ob.arr 3 1 (p.map encI_i64)))], 2⟩ : St)) (fun k29 p => k29 p = some r) (fun k29 h => ?_) ?_
   ·refine rn 5 rfl ?_
    refine ixh hx32 rfl rfl ?_
    obtain ⟨y33, hx34, h⟩ := bind_some h
    refine rn 4 rfl ?_
    refine bs h (fun hb35 h => ?_) (fun hb35 h => ?_)
    ·obtain ⟨y36, hx37, h⟩ := bind_some h
     obtain ⟨y38, hx39, h⟩ := bind_some h
     obtain ⟨y40, hx41, h⟩ := bind_some h
     refine dr mixed (vs 1 rfl (cD rfl rfl rfl rfl (W39 _ _ _ _ _ hx34) rfl (vs 1 rfl (vb hb35 rfl (vs 3 rfl (cD rfl rfl rfl rfl (W55 _ _ _ _ _ hx37) rfl (vs 4 rfl (cD rfl rfl rfl rfl (W55 _ _ _ _ _ hx39) rfl (cD rfl rfl rfl rfl (W59 _ _ _ _ hx41) rfl (vs 2 rfl .nil)))))))))) (by kernel_rfl) ?_
     refine jK h (fun (p : (List Int)) => (⟨[(1, (V.lst 4 (a2.map encTFact))), (2, (V.ptr 0 2 0 0)), (7, (V.lst 1 (l7.map encI_i64))), (8, (V.own 1 p.length)), (10, (iV n26)), (65, (bV (!y40)))], [(0, (Ob.arr 33 2 [(encTPolicy a1)])), (1, (Ob.arr 3 1 (p.map encI_i64)))], 2⟩ : St)) (fun k42 p => k42 p = some r) (fun k42 h => ?_) ?_
     ·refine spC h rfl (fun hb44 h => ?_) (fun hb44 h => ?_)
      ·refine rn 3 rfl ?_
       refine aops_buildSlice [(0, (iV x31))] [[(iV x31)]] tEl57 tZ3 rfl rfl rfl rfl wants_none (evp_cons rfl evp_nil) rfl rfl (by simp) rfl ?_
       refine fo ?_
       refine apO encI_i64 h rfl rfl rfl rfl rfl rfl rfl rfl (fun h => ?_)
       refine rn 2 rfl ?_
       exact jX (l27 ++ ([x31] : List Int)) h (gr [0, 3] rfl (hB rfl rfl rfl (hR rfl rfl .nil)) rfl)
      refine rn 1 rfl ?_
      exact jX l27 h (gr [0, 1] rfl (hB rfl rfl rfl (hR rfl rfl .nil)) rfl)
     intro l43 h
     refine rn 1 rfl ?_
     exact jX l43 h (gr [0, 1] rfl (hB rfl rfl rfl (hR rfl rfl .nil)) rfl)
    refine dr mixed (vs 1 rfl (cD rfl rfl rfl rfl (W39 _ _ _ _ _ hx34) rfl (vs 1 rfl (vb hb35 rfl (vs 12 rfl .nil))))) (by kernel_rfl) ?_
    refine rn 3 rfl ?_
    exact jX l27 h (gr [0, 1] rfl (hB rfl rfl rfl (hR rfl rfl .nil)) rfl)
   intro l30 h
   refine rn 5 rfl ?_
   exact jX ((w64 (n26 + 1)), l30) (hk2 _ h) (gr [0, 1] rfl (hB rfl rfl rfl (hR rfl rfl .nil)) rfl)
  replace h := RG.f h hb28
  unfold M26_L2 at h
  refine rn 1 rfl ?_
  exact jX l27 h (gr [1] rfl (hR rfl rfl .nil) rfl)
 intro l23 h
 refine rn 6 rfl ?_
 refine awp_ghost (ghost_frzEs 0 [4, 8, 71] rfl (rows_imm imms_encI_i64) (List.forall_mem_cons.2 ⟨rfl, (List.forall_mem_cons.2 ⟨rfl, (List.forall_mem_cons.2 ⟨rfl, (fun _ hx => nomatch hx)⟩)⟩)⟩) (List.length_map ..).symm) ?_
 refine fa ?_
 exact rt h rfl
theorem W27 (F : Nat) (a1 : TPolicy) (a2 : (List TFact)) (a3 : Int) (r : ((List Int) × Int)) (h : M27 F a1 a2 a3 = some r) : Pure Tryz.prog 27 [(V.agg (encTPolicy a1)), (V.lst 4 (a2.map encTFact)), (iV a3)] (V.tup [(V.lst 1 ((r.1).map encI_i64)), (iV (r.2))]) := by
 refine pin (fun r => (V.tup [(V.lst 1 ((r.1).map encI_i64)), (iV (r.2))])) r rfl Tryz.func27 rfl rfl rfl rfl rfl (fun w0 m0 hg => ?_)
 unfold M27 at h
 refine rn 12 rfl ?_
 refine cl h rfl rfl rfl (W49 _ _ _ _) rfl (fun y4 hx5 h => ?_)
 refine rn 7 rfl ?_
 refine spC h rfl (fun hb6 h => ?_) (fun hb6 h => ?_)
 ·refine rn 6 rfl ?_
  exact rt h rfl
 obtain ⟨y7, hx8, h⟩ := bind_some h
 obtain ⟨y9, hx10, h⟩ := bind_some h
 refine rn 8 rfl ?_
 refine dr mixed (vs 3 rfl (cD rfl rfl rfl rfl (W51 _ _ _ _ hx8) rfl (vs 1 rfl (cD rfl rfl rfl rfl (W50 _ _ _ _ _ hx10) rfl (nD rfl rfl rfl (vs 1 rfl .nil)))))) (by kernel_rfl) ?_
 refine jK h (fun (p : (List (Int × Bool))) => (⟨[(2, (iV a3)), (3, (V.ptr 0 2 0 0)), (9, (V.map 1))], [(0, (Ob.arr 33 2 [(encTPolicy a1)])), (1, (Ob.map (p.map encM3_4)))], 2⟩ : St)) (fun k11 p => k11 p = some r) (fun k11 h => ?_) ?_
 ·refine rn 1 rfl ?_
  refine wl (A := y9) 28 rfl (fun hA20 => ?_)
  refine lC (fun (p : Int × (List (Int × Bool))) => (⟨[(2, (iV a3)), (3, (V.ptr 0 2 0 0)), (9, (V.map 1)), (28, (V.lst 4 (y9.map encTDecision))), (29, (iV ((y9.length : Nat) : Int))), (30, (iV (p.1)))], [(0, (Ob.arr 33 2 [(encTPolicy a1)])), (1, (Ob.map ((p.2).map encM3_4)))], 2⟩ : St)) (fun n p => RG y9 (fun tl nn => M27_L1 F k11 tl p.2 = some r) n p.1) (fun p h => RG.zero h) (y9.length + 1) (0, ([] : List (Int × Bool))) (RG.start h) (gr [0, 1] rfl (hB rfl rfl rfl (hM rfl rfl .nil)) rfl) (fun n p h => ?_)
  obtain ⟨n15, m16⟩ := p
  refine rn 5 rfl ?_
  refine spL rfl (fun hb17 => ?_) (fun hb17 => ?_)
  ·obtain ⟨x18, tl, hx19, h, hk1⟩ := RG.t hA20 h hb17
   unfold M27_L1 at h
   refine rn 5 rfl ?_
   refine ixh hx19 rfl rfl ?_
   refine rn 8 rfl ?_
   refine aops_mapUpdate (es := m16.map encM3_4) ((mput m16 x18.Waiver true).map encM3_4) tMap102 tKey3 wants_none rfl rfl (.con rfl) ⟨_, rfl⟩ encM3_4_good rfl (encM3_4_puts m16 x18.Waiver true) ?_
   refine fo (rn 6 rfl ?_)
   exact jX ((w64 (n15 + 1)), (mput m16 x18.Waiver true)) (hk1 _ h) (gr [0, 1] rfl (hB rfl rfl rfl (hM rfl rfl .nil)) rfl)
  replace h := RG.f h hb17
  unfold M27_L1 at h
  refine rn 1 rfl ?_
  exact jX m16 h (gr [0, 1] rfl (hB rfl rfl rfl (hM rfl rfl .nil)) rfl)
 intro m12 h
 refine rn 9 rfl ?_
 refine ln rfl rfl ?_
 refine rn 2 rfl ?_
 refine jK h (fun (p : (List Int)) => (⟨[(12, (V.own 0 p.length))], [(0, (Ob.arr 3 1 (p.map encI_i64)))], 1⟩ : St)) (fun k21 p => k21 p = some r) (fun k21 h => ?_) ?_
 ·refine rn 1 rfl ?_
  refine wl (A := a1.Waivers) 39 rfl (fun hA38 => ?_)
  refine lC (fun (p : Int × (List Int)) => (⟨[(2, (iV a3)), (9, (V.map 0)), (12, (V.own 1 (p.2).length)), (39, (V.lst 6 (a1.Waivers.map encTWaiver))), (40, (iV ((a1.Waivers.length : Nat) : Int))), (41, (iV (p.1)))], [(0, (Ob.map (m12.map encM3_4))), (1, (Ob.arr 3 1 ((p.2).map encI_i64)))], 2⟩ : St)) (fun n p => RG a1.Waivers (fun tl nn => M27_L2 F a3 m12 k21 tl nn p.2 = some r) n p.1) (fun p h => RG.zero h) (a1.Waivers.length + 1) (0, ([] : List Int)) (RG.start h) (Ghost.trans (ghost_nilE 12 3 1 rfl) (ghost_ren 2 (fun i => ([1, 2] : List Nat).getD i 0) _ _ (by decide) (EnvSub.get (.cons (Sub.imm (Imm.con _)) (.cons (Sub.map rfl rfl) (.cons (Sub.ownE rfl rfl (by simp)) (.cons (Sub.imm (Imm.lst _ _)) (.cons (Sub.imm (Imm.con _)) (.cons (Sub.imm (Imm.con _)) .nil))))))) (HpSub.get (.cons rfl (ObSub.maps encM3_4_imm) (.cons rfl (ObSub.rows (rows_imm imms_encI_i64)) .nil))) rfl)) (fun n p h => ?_)
  obtain ⟨n25, l26⟩ := p
  refine rn 5 rfl ?_
  refine spL rfl (fun hb27 => ?_) (fun hb27 => ?_)
  ·obtain ⟨x30, tl, hx31, h, hk2⟩ := RG.t hA38 h hb27
   unfold M27_L2 at h
   refine rn 2 rfl ?_
   refine jK h (fun (p : (List Int)) => (⟨[(2, (iV a3)), (9, (V.map 0)), (12, (V.own 1 p.length)), (39, (V.lst 6 (a1.Waivers.map encTWaiver))), (40, (iV ((a1.Waivers.length : Nat) : Int))), (41, (iV n25))], [(0, (Ob.map (m12.map encM3_4))), (1, (Ob.arr 3 1 (p.map encI_i64)))], 2⟩ : St)) (fun k28 p => k28 p = some r) (fun k28 h => ?_) ?_
   ·refine rn 4 rfl ?_
    refine ixh hx31 rfl rfl ?_
    refine rn 9 rfl ?_
    refine aops_lookup _ (bV false) (bV ((mget m12 n25).getD false)) tMap102 tKey3 tZo4 (irel_con _) wants_none rfl (.own rfl) (.con rfl) ⟨_, rfl⟩ encM3_4_good (encM3_4_look m12 n25) (getD_map (encM3_4_val) (mget m12 n25) false) rfl ?_
    refine fo (rn 2 rfl ?_)
    refine spO 50 h rfl (fun hb32 h => ?_) (fun hb32 h => ?_)
    ·refine rn 6 rfl ?_
     refine spO 56 h rfl (fun hb33 h => ?_) (fun hb33 h => ?_)
     ·refine rn 6 rfl ?_
      refine jK h (fun (p : (List Int)) => (⟨[(2, (iV a3)), (9, (V.map 0)), (12, (V.own 1 p.length)), (39, (V.lst 6 (a1.Waivers.map encTWaiver))), (40, (iV ((a1.Waivers.length : Nat) : Int))), (41, (iV n25)), (54, (bV (decide (a3 ≥ x30.From)))), (60, (bV (decide (a3 ≤ x30.To))))], [(0, (Ob.map (m12.map encM3_4))), (1, (Ob.arr 3 1 (p.map encI_i64)))], 2⟩ : St)) (fun k34 p => k34 p = some r) (fun k34 h => ?_) ?_
      ·refine spC h rfl (fun hb36 h => ?_) (fun hb36 h => ?_)
       ·refine rn 3 rfl ?_
        refine aops_buildSlice [(0, (iV n25))] [[(iV n25)]] tEl57 tZ3 rfl rfl rfl rfl wants_none (evp_cons rfl evp_nil) rfl rfl (by simp) rfl ?_
        refine fo ?_
        refine apO encI_i64 h rfl rfl rfl rfl rfl rfl rfl rfl (fun h => ?_)
        refine rn 2 rfl ?_
        exact jX (l26 ++ ([n25] : List Int)) h (gr [0, 4] rfl (hM rfl rfl (hR rfl rfl .nil)) rfl)
       refine rn 1 rfl ?_
       exact jX l26 h (gr [0, 1] rfl (hM rfl rfl (hR rfl rfl .nil)) rfl)
      intro l35 h
      refine rn 1 rfl ?_
      exact jX l35 h (gr [0, 1] rfl (hM rfl rfl (hR rfl rfl .nil)) rfl)
     refine rn 9 rfl ?_
     exact jX l26 h (gr [0, 1] rfl (hM rfl rfl (hR rfl rfl .nil)) rfl)
    refine rn 15 rfl ?_
    exact jX l26 h (gr [0, 1] rfl (hM rfl rfl (hR rfl rfl .nil)) rfl)
   intro l29 h
   refine rn 4 rfl ?_
   exact jX ((w64 (n25 + 1)), l29) (hk2 _ h) (gr [0, 1] rfl (hM rfl rfl (hR rfl rfl .nil)) rfl)
  replace h := RG.f h hb27
  unfold M27_L2 at h
  refine rn 1 rfl ?_
  exact jX l26 h (gr [1] rfl (hR rfl rfl .nil) rfl)
 intro l22 h
 refine rn 6 rfl ?_
 refine awp_ghost (ghost_frzEs 0 [6, 12, 67] rfl (rows_imm imms_encI_i64) (List.forall_mem_cons.2 ⟨rfl, (List.forall_mem_cons.2 ⟨rfl, (List.forall_mem_cons.2 ⟨rfl, (fun _ hx => nomatch hx)⟩)⟩)⟩) (List.length_map ..).symm) ?_
 refine fa ?_
 exact rt h rfl
theorem W28 (F : Nat) (a1 : TPolicy) (a2 : (List TFact)) (a3 : Int) (r : ((List Int) × Int)) (h : M28 F a1 a2 a3 = some r) : Pure Tryz.prog 28 [(V.agg (encTPolicy a1)), (V.lst 4 (a2.map encTFact)), (iV a3)] (V.tup [(V.lst 1 ((r.1).map encI_i64)), (iV (r.2))]) := by
 refine pin (fun r => (V.tup [(V.lst 1 ((r.1).map encI_i64)), (iV (r.2))])) r rfl Tryz.func28 rfl rfl rfl rfl rfl (fun w0 m0 hg => ?_)
 unfold M28 at h
 refine rn 11 rfl ?_
 refine cl h rfl rfl rfl (W21 _ _ _ _) rfl (fun y4 hx5 h => ?_)
 refine rn 12 rfl ?_
 refine spC h rfl (fun hb6 h => ?_) (fun hb6 h => ?_)
 ·refine rn 6 rfl ?_
  exact rt h rfl
 refine rn 10 rfl ?_
 refine jK h (fun (p : (List Int)) => (⟨[(10, (V.own 0 p.length))], [(0, (Ob.arr 3 1 (p.map encI_i64)))], 1⟩ : St)) (fun k7 p => k7 p = some r) (fun k7 h => ?_) ?_
 ·refine rn 1 rfl ?_
  refine ck h (fun hA39 h => ?_)
  refine lC (fun (p : Int × (List Int)) => (⟨[(2, (iV a3)), (3, (V.ptr 0 2 0 0)), (8, (V.lst 4 ((y4.1).map encTDecision))), (10, (V.own 1 (p.2).length)), (11, (iV (p.1)))], [(0, (Ob.arr 33 2 [(encTPolicy a1)])), (1, (Ob.arr 3 1 ((p.2).map encI_i64)))], 2⟩ : St)) (fun n p => RC ((a1.Waivers.length : Nat) : Int) (fun tl nn => M28_L1 F a1 a3 y4 k7 tl nn p.2 = some r) n p.1) (fun p h => RC.zero h) (Int.toNat ((a1.Waivers.length : Nat) : Int) + 1) (0, ([] : List Int)) (RC.start h) (Ghost.trans (ghost_nilE 10 3 1 rfl) (ghost_ren 2 (fun i => ([0, 1] : List Nat).getD i 0) _ _ (by decide) (EnvSub.get (.cons (Sub.imm (Imm.con _)) (.cons (Sub.ptr rfl rfl) (.cons (Sub.imm (Imm.lst _ _)) (.cons (Sub.ownE rfl rfl (by simp)) (.cons (Sub.imm (Imm.con _)) .nil)))))) (HpSub.get (.cons rfl (ObSub.box (.cons (Sub.imm (Imm.lst _ _)) (.cons (Sub.imm (Imm.lst _ _)) .nil))) (.cons rfl (ObSub.rows (rows_imm imms_encI_i64)) .nil))) rfl)) (fun n p h => ?_)
  obtain ⟨n11, l12⟩ := p
  refine rn 6 rfl ?_
  refine ln rfl rfl ?_
  refine rn 2 rfl ?_
  refine spL rfl (fun hb13 => ?_) (fun hb13 => ?_)
  ·obtain ⟨tl, h, hk1⟩ := RC.t hA39 h hb13
   unfold M28_L1 at h
   refine rn 2 rfl ?_
   refine jK h (fun (p : (List Int)) => (⟨[(2, (iV a3)), (3, (V.ptr 0 2 0 0)), (8, (V.lst 4 ((y4.1).map encTDecision))), (10, (V.own 1 p.length)), (11, (iV n11))], [(0, (Ob.arr 33 2 [(encTPolicy a1)])), (1, (Ob.arr 3 1 (p.map encI_i64)))], 2⟩ : St)) (fun k14 p => k14 p = some r) (fun k14 h => ?_) ?_
   ·refine rn 10 rfl ?_
    refine jK h (fun (p : Bool) => (⟨[(2, (iV a3)), (3, (V.ptr 0 2 0 0)), (8, (V.lst 4 ((y4.1).map encTDecision))), (10, (V.own 1 l12.length)), (11, (iV n11)), (12, (bV p))], [(0, (Ob.arr 33 2 [(encTPolicy a1)])), (1, (Ob.arr 3 1 (l12.map encI_i64)))], 2⟩ : St)) (fun k16 p => k16 p = some r) (fun k16 h => ?_) ?_
    ·refine rn 1 rfl ?_
     refine wl (A := (y4.1)) 8 rfl (fun hA28 => ?_)
     refine lC (fun (p : Bool × Int) => (⟨[(2, (iV a3)), (3, (V.ptr 0 2 0 0)), (8, (V.lst 4 ((y4.1).map encTDecision))), (10, (V.own 1 l12.length)), (11, (iV n11)), (12, (bV (p.1))), (13, (iV (p.2)))], [(0, (Ob.arr 33 2 [(encTPolicy a1)])), (1, (Ob.arr 3 1 (l12.map encI_i64)))], 2⟩ : St)) (fun n p => RC (((y4.1).length : Nat) : Int) (fun tl nn => M28_L2 F y4 n11 k16 tl nn p.1 = some r) n p.2) (fun p h => RC.zero h) (Int.toNat (((y4.1).length : Nat) : Int) + 1) (false, 0) (RC.start h) (gr [0, 1] rfl (hB rfl rfl rfl (hR rfl rfl .nil)) rfl) (fun n p h => ?_)
     obtain ⟨b20, n21⟩ := p
     refine rn 5 rfl ?_
     refine ln rfl rfl ?_
     refine rn 2 rfl ?_
     refine spL rfl (fun hb22 => ?_) (fun hb22 => ?_)
     ·obtain ⟨tl, h, hk2⟩ := RC.t (by unfold maxLen at hA28; omega) h hb22
      unfold M28_L2 at h
      refine rn 2 rfl ?_
      refine jK h (fun (p : Bool) => (⟨[(2, (iV a3)), (3, (V.ptr 0 2 0 0)), (8, (V.lst 4 ((y4.1).map encTDecision))), (10, (V.own 1 l12.length)), (11, (iV n11)), (12, (bV p)), (13, (iV n21))], [(0, (Ob.arr 33 2 [(encTPolicy a1)])), (1, (Ob.arr 3 1 (l12.map encI_i64)))], 2⟩ : St)) (fun k23 p => k23 p = some r) (fun k23 h => ?_) ?_
      ·refine rn 4 rfl ?_
       refine spO 38 h rfl (fun hb25 h => ?_) (fun hb25 h => ?_)
       ·refine rn 11 rfl ?_
        exact jX true h (gr [0, 1] rfl (hB rfl rfl rfl (hR rfl rfl .nil)) rfl)
       refine rn 2 rfl ?_
       refine ixl h rfl rfl (fun x26 hx27 h => ?_)
       refine rn 8 rfl ?_
       exact jX (x26.Waiver == n11) h (gr [0, 1] rfl (hB rfl rfl rfl (hR rfl rfl .nil)) rfl)
      intro b24 h
      refine rn 5 rfl ?_
      exact jX (b24, (w64 (n21 + 1))) (hk2 _ h) (gr [0, 1] rfl (hB rfl rfl rfl (hR rfl rfl .nil)) rfl)
     replace h := RC.f h hb22
     unfold M28_L2 at h
     refine rn 1 rfl ?_
     exact jX b20 h (gr [0, 1] rfl (hB rfl rfl rfl (hR rfl rfl .nil)) rfl)
    intro b17 h
    refine rn 5 rfl ?_
    refine spO 49 h rfl (fun hb29 h => ?_) (fun hb29 h => ?_)
    ·refine rn 3 rfl ?_
     refine ixl h rfl rfl (fun x30 hx31 h => ?_)
     refine rn 6 rfl ?_
     refine spO 59 h rfl (fun hb32 h => ?_) (fun hb32 h => ?_)
     ·refine rn 4 rfl ?_
      refine ixl h rfl rfl (fun x33 hx34 h => ?_)
      refine rn 5 rfl ?_
      refine jK h (fun (p : (List Int)) => (⟨[(2, (iV a3)), (3, (V.ptr 0 2 0 0)), (8, (V.lst 4 ((y4.1).map encTDecision))), (10, (V.own 1 p.length)), (11, (iV n11)), (57, (bV (decide (x30.From ≤ a3)))), (67, (bV (decide (a3 ≤ x33.To))))], [(0, (Ob.arr 33 2 [(encTPolicy a1)])), (1, (Ob.arr 3 1 (p.map encI_i64)))], 2⟩ : St)) (fun k35 p => k35 p = some r) (fun k35 h => ?_) ?_
      ·refine spC h rfl (fun hb37 h => ?_) (fun hb37 h => ?_)
       ·refine rn 3 rfl ?_
        refine aops_buildSlice [(0, (iV n11))] [[(iV n11)]] tEl57 tZ3 rfl rfl rfl rfl wants_none (evp_cons rfl evp_nil) rfl rfl (by simp) rfl ?_
        refine fo ?_
        refine apO encI_i64 h rfl rfl rfl rfl rfl rfl rfl rfl (fun h => ?_)
        refine rn 2 rfl ?_
        exact jX (l12 ++ ([n11] : List Int)) h (gr [0, 3] rfl (hB rfl rfl rfl (hR rfl rfl .nil)) rfl)
       refine rn 1 rfl ?_
       exact jX l12 h (gr [0, 1] rfl (hB rfl rfl rfl (hR rfl rfl .nil)) rfl)
      intro l36 h
      refine rn 1 rfl ?_
      exact jX l36 h (gr [0, 1] rfl (hB rfl rfl rfl (hR rfl rfl .nil)) rfl)
     refine rn 13 rfl ?_
     exact jX l12 h (gr [0, 1] rfl (hB rfl rfl rfl (hR rfl rfl .nil)) rfl)
    refine rn 23 rfl ?_
    exact jX l12 h (gr [0, 1] rfl (hB rfl rfl rfl (hR rfl rfl .nil)) rfl)
   intro l15 h
   refine rn 5 rfl ?_
   exact jX ((w64 (n11 + 1)), l15) (hk1 _ h) (gr [0, 1] rfl (hB rfl rfl rfl (hR rfl rfl .nil)) rfl)
  replace h := RC.f h hb13
  unfold M28_L1 at h
  refine rn 1 rfl ?_
  exact jX l12 h (gr [1] rfl (hR rfl rfl .nil) rfl)
 intro l8 h
 refine rn 6 rfl ?_
 refine awp_ghost (ghost_frzEs 0 [6, 10, 73] rfl (rows_imm imms_encI_i64) (List.forall_mem_cons.2 ⟨rfl, (List.forall_mem_cons.2 ⟨rfl, (List.forall_mem_cons.2 ⟨rfl, (fun _ hx => nomatch hx)⟩)⟩)⟩) (List.length_map ..).symm) ?_
 refine fa ?_
 exact rt h rfl
theorem W29 (F : Nat) (a1 : (List Int)) (a2 : (List Int)) (r : Bool) (h : M29 F a1 a2 = some r) : Pure Tryz.prog 29 [(V.lst 1 (a1.map encI_i64)), (V.lst 1 (a2.map encI_i64))] (bV r) := by
 refine pin (fun r => (bV r)) r rfl Tryz.func29 rfl rfl rfl rfl rfl (fun w0 m0 hg => ?_)
 unfold M29 at h
 refine rn 8 rfl ?_
 refine ln rfl rfl ?_
 refine rn 1 rfl ?_
 refine ln rfl rfl ?_
 refine rn 2 rfl ?_
 refine spC h rfl (fun hb3 h => ?_) (fun hb3 h => ?_)
 ·refine rn 4 rfl ?_
  exact rt h rfl
 refine rn 5 rfl ?_
 refine ln rfl rfl ?_
 refine rn 2 rfl ?_
 refine jK h (fun _ : Unit => (⟨[], [], 0⟩ : St)) (fun k4 (_ : Unit) => k4 = some r) (fun k4 h => ?_) ?_
 ·refine rn 1 rfl ?_
  refine wl (A := a1) 0 rfl (fun hA13 => ?_)
  refine lC (fun (p : Int) => (⟨[(0, (V.lst 1 (a1.map encI_i64))), (1, (V.lst 1 (a2.map encI_i64))), (12, (iV ((a1.length : Nat) : Int))), (13, (iV p))], [], 0⟩ : St)) (fun n p => RG a1 (fun tl nn => M29_L1 F a2 k4 tl nn = some r) n p) (fun p h => RG.zero h) (a1.length + 1) 0 (RG.start h) (g0 rfl rfl) (fun n n6 h => ?_)
  refine rn 5 rfl ?_
  refine spL rfl (fun hb7 => ?_) (fun hb7 => ?_)
  ·obtain ⟨x8, tl, hx9, h, hk1⟩ := RG.t hA13 h hb7
   unfold M29_L1 at h
   obtain ⟨x10, hx11, h⟩ := bind_some h
   refine rn 9 rfl ?_
   refine dr mixed (vs 2 rfl (iD hx9 rfl rfl rfl (vs 3 rfl (iD hx11 rfl rfl rfl (vs 2 rfl .nil))))) (by kernel_rfl) ?_
   refine spC h rfl (fun hb12 h => ?_) (fun hb12 h => ?_)
   ·refine rn 4 rfl ?_
    exact rt h rfl
   refine rn 6 rfl ?_
   exact jX (w64 (n6 + 1)) (hk1 _ h) (g0 rfl rfl)
  replace h := RG.f h hb7
  unfold M29_L1 at h
  refine rn 1 rfl ?_
  exact jX () h (g0 rfl rfl)
 intro _ h
 refine rn 4 rfl ?_
 exact rt h rfl
theorem W6 (F : Nat) (a1 : TPolicy) (a2 : (List TFact)) (a3 : Int) (r : Bool) (h : M6 F a1 a2 a3 = some r) : Pure Tryz.prog 6 [(V.agg (encTPolicy a1)), (V.lst 4 (a2.map encTFact)), (iV a3)] (bV r) := by
 refine pin (fun r => (bV r)) r rfl Tryz.func6 rfl rfl rfl rfl rfl (fun w0 m0 hg => ?_)
 unfold M6 at h
 refine rn 9 rfl ?_
 refine cl h rfl rfl rfl (W25 _ _ _) rfl (fun y4 hx5 h => ?_)
 refine rn 10 rfl ?_
 refine cl h rfl rfl rfl (W26 _ _ _) rfl (fun y6 hx7 h => ?_)
 refine rn 11 rfl ?_
 refine cl h rfl rfl rfl (W27 _ _ _ _) rfl (fun y8 hx9 h => ?_)
 refine rn 11 rfl ?_
 refine cl h rfl rfl rfl (W28 _ _ _ _) rfl (fun y10 hx11 h => ?_)
 refine rn 10 rfl ?_
 refine cl h rfl rfl rfl (W29 _ _ _) rfl (fun y12 hx13 h => ?_)
 refine rn 1 rfl ?_
 refine spO 44 h rfl (fun hb14 h => ?_) (fun hb14 h => ?_)
 ·refine rn 5 rfl ?_
  refine spO 49 h rfl (fun hb15 h => ?_) (fun hb15 h => ?_)
  ·refine rn 2 rfl ?_
   refine cl h rfl rfl rfl (W29 _ _ _) rfl (fun y16 hx17 h => ?_)
   refine rn 2 rfl ?_
   refine spO 54 h rfl (fun hb18 h => ?_) (fun hb18 h => ?_)
   ·refine rn 5 rfl ?_
    refine spO 59 h rfl (fun hb19 h => ?_) (fun hb19 h => ?_)
    ·refine cl h rfl rfl rfl (W16 _) rfl (fun y20 hx21 h => ?_)
     refine rn 3 rfl ?_
     exact rt h rfl
    refine rn 4 rfl ?_
    exact rt h rfl
   refine rn 9 rfl ?_
   exact rt h rfl
  refine rn 14 rfl ?_
  exact rt h rfl
 refine rn 19 rfl ?_
 exact rt h rfl
end Go.Proofs.YtkeeppclihjlhaaGreatDoor
namespace Go.Pv
open Go
set_option linter.unusedVariables false
theorem GlOk.cons {m : Mem} {gl : Gl} {g : Nat} {row : List V} (h : GlAt m g row) (hr : GlOk gl m) : GlOk ((g, row) :: gl) m := by
 intro g' row' hg
 rw [glk] at hg
 cases hb : Nat.beq g g' with
 | true =>
  rw [hb] at hg
  have e := Nat.eq_of_beq_eq_true hb
  subst e
  simp only [cond_true, Option.some.injEq] at hg
  subst hg
  exact h
 | false =>
  rw [hb] at hg
  exact hr g' row' hg
end Go.Pv
