/- Part of the proof: AHW3a. -/
import Derived.Test.YtiphmdpaajjdeaaGreatDoorHAHM
import Derived.Test.YtiphmdpaajjdeaaGreatDoorHKE
import Derived.KernelRfl
namespace Go.Proofs.YtiphmdpaajjdeaaGreatDoor
open Go Go.Pv
set_option linter.unusedVariables false
set_option maxRecDepth 100000
theorem W77 (F : Nat) (a1 : (List UInt8)) (r : Bool) (h : M77 F a1 = some r) : PureG gl Tryz.prog 77 [(sV a1)] (bV r) := by
  refine pin (fun r => (bV r)) r rfl Tryz.func77 rfl rfl rfl rfl rfl (fun w0 m0 hg => ?_)
  unfold M77 at h
  refine rn 11 rfl ?_
  refine jK h (fun _ : Unit => (⟨[(0, (sV a1))], [], 0⟩ : St)) (fun k2 (_ : Unit) => k2 = some r) (fun k2 h => ?_) ?_
  · refine rn 1 rfl ?_
    refine ck h (fun hA12 h => ?_)
    refine lC (fun (p : Int) => (⟨[(0, (sV a1)), (5, (iV (a1.length : Int))), (6, (iV p))], [], 0⟩ : St)) (fun n (p : Int) => RC (a1.length : Int) (fun tl nn => M77_L1 F a1 k2 tl nn = some r) n p) (fun p h => RC.zero h) (Int.toNat (a1.length : Int) + 1) 0 (RC.start h) (g0 rfl rfl) (fun n n4 h => ?_)
    refine rn 5 rfl ?_
    refine spL rfl (fun hb5 => ?_) (fun hb5 => ?_)
    · obtain ⟨tl, h, hk1⟩ := RC.t hA12 h hb5
      unfold M77_L1 at h
      refine rn 12 rfl ?_
      refine ixs h rfl rfl (fun c6 hx7 h => ?_)
      refine rn 2 rfl ?_
      refine spO 13 h rfl (fun hb8 h => ?_) (fun hb8 h => ?_)
      · refine rn 11 rfl ?_
        exact rt h rfl
      refine rn 2 rfl ?_
      refine ixs h rfl rfl (fun c9 hx10 h => ?_)
      refine rn 3 rfl ?_
      refine spC h rfl (fun hb11 h => ?_) (fun hb11 h => ?_)
      · refine rn 4 rfl ?_
        exact rt h rfl
      refine rn 6 rfl ?_
      exact jX (w64 (n4 + 1)) (hk1 _ h) (g0 rfl rfl)
    replace h := RC.f h hb5
    unfold M77_L1 at h
    refine rn 1 rfl ?_
    exact jX () h (g0 rfl rfl)
  intro _ h
  refine rn 6 rfl ?_
  exact rt h rfl
theorem W52 (F : Nat) (a1 : (List UInt8)) (r : Bool) (h : M52 F a1 = some r) : PureG gl Tryz.prog 52 [(sV a1)] (bV r) := by
  refine pin (fun r => (bV r)) r rfl Tryz.func52 rfl rfl rfl rfl rfl (fun w0 m0 hg => ?_)
  unfold M52 at h
  refine rn 7 rfl ?_
  refine cl h rfl rfl rfl (W77 _ _) rfl (fun y2 hx3 h => ?_)
  refine rn 1 rfl ?_
  refine spO 5 h rfl (fun hb4 h => ?_) (fun hb4 h => ?_)
  · refine rn 6 rfl ?_
    exact rt h rfl
  refine rn 6 rfl ?_
  exact rt h rfl
theorem W27 (F : Nat) (a1 : Int) (r : Bool) (h : M27 F a1 = some r) : PureG gl Tryz.prog 27 [(iV a1)] (bV r) := by
  refine pin (fun r => (bV r)) r rfl Tryz.func27 rfl rfl rfl rfl rfl (fun w0 m0 hg => ?_)
  unfold M27 at h
  refine rn 9 rfl ?_
  refine spO 5 h rfl (fun hb2 h => ?_) (fun hb2 h => ?_)
  · refine rn 5 rfl ?_
    exact rt h rfl
  refine rn 5 rfl ?_
  exact rt h rfl
theorem W54 (F : Nat) (a1 : TExposure) (r : Thistory_key) (h : M54 F a1 = some r) : PureG gl Tryz.prog 54 [(V.agg (encTExposure a1))] (V.agg (encThistory_key r)) := by
  refine pin (fun r => (V.agg (encThistory_key r))) r rfl Tryz.func54 rfl rfl rfl rfl rfl (fun w0 m0 hg => ?_)
  unfold M54 at h
  refine rn 14 rfl ?_
  exact rt h rfl
theorem W93 (F : Nat) (a1 : (List UInt8)) (r : Bool) (h : M93 F a1 = some r) : PureG gl Tryz.prog 93 [(sV a1)] (bV r) := by
  refine pin (fun r => (bV r)) r rfl Tryz.func93 rfl rfl rfl rfl rfl (fun w0 m0 hg => ?_)
  unfold M93 at h
  refine rn 11 rfl ?_
  exact rt h rfl
theorem W82 (F : Nat) (a1 : (List UInt8)) (a2 : (List UInt8)) (r : Int) (h : M82 F a1 a2 = some r) : PureG gl Tryz.prog 82 [(sV a1), (sV a2)] (iV r) := by
  refine pin (fun r => (iV r)) r rfl Tryz.func82 rfl rfl rfl rfl rfl (fun w0 m0 hg => ?_)
  unfold M82 at h
  refine rn 7 rfl ?_
  refine cl h rfl rfl rfl (W93 _ _) rfl (fun y3 hx4 h => ?_)
  refine rn 5 rfl ?_
  refine cl h rfl rfl rfl (W93 _ _) rfl (fun y5 hx6 h => ?_)
  refine rn 7 rfl ?_
  refine spC h rfl (fun hb7 h => ?_) (fun hb7 h => ?_)
  · refine rn 5 rfl ?_
    refine spC h rfl (fun hb8 h => ?_) (fun hb8 h => ?_)
    · refine rn 4 rfl ?_
      exact rt h rfl
    refine rn 5 rfl ?_
    exact rt h rfl
  refine rn 6 rfl ?_
  refine spC h rfl (fun hb9 h => ?_) (fun hb9 h => ?_)
  · refine rn 4 rfl ?_
    exact rt h rfl
  refine rn 8 rfl ?_
  refine spC h rfl (fun hb10 h => ?_) (fun hb10 h => ?_)
  · refine rn 4 rfl ?_
    exact rt h rfl
  refine rn 8 rfl ?_
  refine spC h rfl (fun hb11 h => ?_) (fun hb11 h => ?_)
  · refine rn 4 rfl ?_
    exact rt h rfl
  refine rn 5 rfl ?_
  exact rt h rfl
theorem W81 (F : Nat) (a1 : (List Int)) (r : Int) (h : M81 F a1 = some r) : PureG gl Tryz.prog 81 [(V.lst 1 (a1.map encI_i64))] (iV r) := by
  refine pin (fun r => (iV r)) r rfl Tryz.func81 rfl rfl rfl rfl rfl (fun w0 m0 hg => ?_)
  unfold M81 at h
  refine rn 12 rfl ?_
  refine ln rfl rfl ?_
  refine rn 2 rfl ?_
  refine jK h (fun _ : Unit => (⟨[(3, (iV 0))], [], 0⟩ : St)) (fun k2 (_ : Unit) => k2 = some r) (fun k2 h => ?_) ?_
  · refine rn 1 rfl ?_
    refine wl (A := a1) 0 rfl (fun hA9 => ?_)
    refine lC (fun (p : Int) => (⟨[(3, (iV 0)), (6, (V.lst 1 (a1.map encI_i64))), (7, (iV ((a1.length : Nat) : Int))), (8, (iV p))], [], 0⟩ : St)) (fun n (p : Int) => RG a1 (fun tl nn => M81_L1 F k2 tl = some r) n p) (fun p h => RG.zero h) (a1.length + 1) 0 (RG.start h) (g0 rfl rfl) (fun n n4 h => ?_)
    refine rn 5 rfl ?_
    refine spL rfl (fun hb5 => ?_) (fun hb5 => ?_)
    · obtain ⟨x6, tl, hx7, h, hk1⟩ := RG.t hA9 h hb5
      unfold M81_L1 at h
      refine rn 5 rfl ?_
      refine ixh hx7 rfl rfl ?_
      refine rn 9 rfl ?_
      refine spC h rfl (fun hb8 h => ?_) (fun hb8 h => ?_)
      · refine rn 5 rfl ?_
        exact rt h rfl
      refine rn 6 rfl ?_
      exact jX (w64 (n4 + 1)) (hk1 _ h) (g0 rfl rfl)
    replace h := RG.f h hb5
    unfold M81_L1 at h
    refine rn 1 rfl ?_
    exact jX () h (g0 rfl rfl)
  intro _ h
  refine rn 5 rfl ?_
  exact rt h rfl
theorem W91 (F : Nat) (a1 : Thistory_key) (a2 : Thistory_key) (r : Int) (h : M91 F a1 a2 = some r) : PureG gl Tryz.prog 91 [(V.agg (encThistory_key a1)), (V.agg (encThistory_key a2))] (iV r) := by
  refine pin (fun r => (iV r)) r rfl Tryz.func91 rfl rfl rfl rfl rfl (fun w0 m0 hg => ?_)
  unfold M91 at h
  obtain ⟨y3, hx4, h⟩ := bind_some h
  obtain ⟨y5, hx6, h⟩ := bind_some h
  obtain ⟨y7, hx8, h⟩ := bind_some h
  refine rn 7 rfl ?_
  refine dr mixed (vs 4 rfl (cD rfl rfl rfl rfl (W82 _ _ _ _ hx4) rfl (vs 4 rfl (cD rfl rfl rfl rfl (W82 _ _ _ _ hx6) rfl (xD (OD.mk [(9, (iV y3)), (14, (iV y5))] [] [(15, (V.lst 1 (([y3, y5] : List Int).map encI_i64)))] []) ⟨⟨rfl, rfl, trivial⟩, trivial⟩ (by exact fun S hn h hh => aops_buildSlice_imm [(0, (iV y3)), (1, (iV y5))] [[(iV y3)], [(iV y5)]] tEl39 tZ3 wants_none rfl rfl rfl rfl (evp_cons h.1 (evp_cons h.2.1 evp_nil)) rfl rfl (by simp) (imms_rows (.cons (.cons (Imm.con _) .nil) (.cons (.cons (Imm.con _) .nil) .nil))) rfl (aops_nil ⟨rfl, rfl⟩)) rfl (cD rfl rfl rfl rfl (W81 _ _ _ hx8) rfl (vs 1 rfl .nil))))))) (by kernel_rfl) ?_
  exact rt h rfl
theorem W78 (F : Nat) (a1 : (List TExposure)) (r : Int) (h : M78 F a1 = some r) : PureG gl Tryz.prog 78 [(V.lst 3 (a1.map encTExposure))] (iV r) := by
  refine pin (fun r => (iV r)) r rfl Tryz.func78 rfl rfl rfl rfl rfl (fun w0 m0 hg => ?_)
  unfold M78 at h
  refine rn 8 rfl ?_
  refine ln rfl rfl ?_
  refine rn 2 rfl ?_
  refine spC h rfl (fun hb2 h => ?_) (fun hb2 h => ?_)
  · refine rn 4 rfl ?_
    exact rt h rfl
  refine rn 5 rfl ?_
  refine ln rfl rfl ?_
  refine rn 2 rfl ?_
  refine jK h (fun _ : Unit => (⟨[], [], 0⟩ : St)) (fun k3 (_ : Unit) => k3 = some r) (fun k3 h => ?_) ?_
  · refine rn 1 rfl ?_
    refine wl (A := a1) 0 rfl (fun hA28 => ?_)
    refine lC (fun (p : Int) => (⟨[(0, (V.lst 3 (a1.map encTExposure))), (8, (V.lst 3 (a1.map encTExposure))), (9, (iV ((a1.length : Nat) : Int))), (10, (iV p))], [], 0⟩ : St)) (fun n (p : Int) => RG a1 (fun tl nn => M78_L1 F a1 k3 tl nn = some r) n p) (fun p h => RG.zero h) (a1.length + 1) 0 (RG.start h) (g0 rfl rfl) (fun n n5 h => ?_)
    refine rn 5 rfl ?_
    refine spL rfl (fun hb6 => ?_) (fun hb6 => ?_)
    · obtain ⟨x7, tl, hx8, h, hk1⟩ := RG.t hA28 h hb6
      unfold M78_L1 at h
      refine rn 6 rfl ?_
      refine ixh hx8 rfl rfl ?_
      refine rn 10 rfl ?_
      refine cl h rfl rfl rfl (W52 _ _) rfl (fun y9 hx10 h => ?_)
      refine rn 2 rfl ?_
      refine spO 20 h rfl (fun hb11 h => ?_) (fun hb11 h => ?_)
      · refine rn 12 rfl ?_
        exact rt h rfl
      refine rn 2 rfl ?_
      refine cl h rfl rfl rfl (W52 _ _) rfl (fun y12 hx13 h => ?_)
      refine rn 4 rfl ?_
      refine jK h (fun _ : Unit => (⟨[(0, (V.lst 3 (a1.map encTExposure))), (8, (V.lst 3 (a1.map encTExposure))), (9, (iV ((a1.length : Nat) : Int))), (10, (iV n5)), (21, (V.ptr 0 3 0 1)), (22, (sV x7.Component)), (23, (bV y12)), (24, (bV (!y12))), (31, (V.ptr 0 3 0 2)), (32, (iV x7.Severity)), (33, (bV (decide (x7.Severity > 100))))], [(0, (Ob.arr 47 3 [(encTExposure x7)]))], 1⟩ : St)) (fun k14 (_ : Unit) => k14 = some r) (fun k14 h => ?_) ?_
      · refine spC h rfl (fun hb15 h => ?_) (fun hb15 h => ?_)
        · refine rn 4 rfl ?_
          exact rt h rfl
        refine rn 6 rfl ?_
        refine spO 30 h rfl (fun hb16 h => ?_) (fun hb16 h => ?_)
        · refine rn 11 rfl ?_
          exact rt h rfl
        refine rn 6 rfl ?_
        refine spC h rfl (fun hb17 h => ?_) (fun hb17 h => ?_)
        · refine rn 4 rfl ?_
          exact rt h rfl
        refine rn 1 rfl ?_
        refine bs h (fun hb18 h => ?_) (fun hb18 h => ?_)
        · obtain ⟨x19, hx20, h⟩ := bind_some h
          obtain ⟨y21, hx22, h⟩ := bind_some h
          obtain ⟨y23, hx24, h⟩ := bind_some h
          obtain ⟨y25, hx26, h⟩ := bind_some h
          refine dr mixed (vs 2 rfl (vb hb18 rfl (vs 3 rfl (iD hx20 rfl rfl rfl (vs 1 rfl (cD rfl rfl rfl rfl (W54 _ _ _ hx22) rfl (vs 1 rfl (cD rfl rfl rfl rfl (W54 _ _ _ hx24) rfl (cD rfl rfl rfl rfl (W91 _ _ _ _ hx26) rfl (vs 3 rfl .nil)))))))))) (by kernel_rfl) ?_
          refine spC h rfl (fun hb27 h => ?_) (fun hb27 h => ?_)
          · refine rn 4 rfl ?_
            exact rt h rfl
          refine rn 1 rfl ?_
          exact jX () h (gr [0] rfl (hB rfl rfl rfl .nil) rfl)
        refine dr mixed (vs 2 rfl (vb hb18 rfl (vs 12 rfl .nil))) (by kernel_rfl) ?_
        refine rn 2 rfl ?_
        exact jX () h (gr [0] rfl (hB rfl rfl rfl .nil) rfl)
      intro _ h
      refine rn 6 rfl ?_
      exact jX (w64 (n5 + 1)) (hk1 _ h) (g0 rfl rfl)
    replace h := RG.f h hb6
    unfold M78_L1 at h
    refine rn 1 rfl ?_
    exact jX () h (g0 rfl rfl)
  intro _ h
  refine rn 4 rfl ?_
  exact rt h rfl
theorem W53 (F : Nat) (a1 : TStory) (r : Int) (h : M53 F a1 = some r) : PureG gl Tryz.prog 53 [(V.agg (encTStory a1))] (iV r) := by
  refine pin (fun r => (iV r)) r rfl Tryz.func53 rfl rfl rfl rfl rfl (fun w0 m0 hg => ?_)
  unfold M53 at h
  refine rn 15 rfl ?_
  refine ln rfl rfl ?_
  refine rn 2 rfl ?_
  refine jK h (fun _ : Unit => (⟨[], [], 0⟩ : St)) (fun k2 (_ : Unit) => k2 = some r) (fun k2 h => ?_) ?_
  · refine rn 1 rfl ?_
    refine wl (A := a1.Releases) 9 rfl (fun hA24 => ?_)
    refine lC (fun (p : Int × (List ((List UInt8) × Bool))) => (⟨[(1, (V.ptr 0 4 0 0)), (3, (V.map 1)), (9, (V.lst 3 (a1.Releases.map encTRelease))), (10, (iV ((a1.Releases.length : Nat) : Int))), (11, (iV (p.1)))], [(0, (Ob.arr 25 4 [(encTStory a1)])), (1, (Ob.map ((p.2).map encM9_4)))], 2⟩ : St)) (fun n (p : Int × (List ((List UInt8) × Bool))) => RG a1.Releases (fun tl nn => M53_L1 F a1 k2 tl nn p.2 = some r) n p.1) (fun p h => RG.zero h) (a1.Releases.length + 1) (0, ([] : List ((List UInt8) × Bool))) (RG.start h) (gr [0, 1] rfl (hB rfl rfl rfl (hM rfl rfl .nil)) rfl) (fun n p h => ?_)
    obtain ⟨n5, m6⟩ := p
    refine rn 5 rfl ?_
    refine spL rfl (fun hb7 => ?_) (fun hb7 => ?_)
    · obtain ⟨x8, tl, hx9, h, hk1⟩ := RG.t hA24 h hb7
      unfold M53_L1 at h
      refine rn 6 rfl ?_
      refine ixh hx9 rfl rfl ?_
      refine rn 11 rfl ?_
      refine cl h rfl rfl rfl (W52 _ _) rfl (fun y10 hx11 h => ?_)
      refine rn 3 rfl ?_
      refine jK h (fun _ : Unit => (⟨[(1, (V.ptr 0 4 0 0)), (3, (V.map 1)), (5, (V.ptr 2 3 0 0)), (9, (V.lst 3 (a1.Releases.map encTRelease))), (10, (iV ((a1.Releases.length : Nat) : Int))), (11, (iV n5)), (31, (V.ptr 2 3 0 1)), (32, (iV x8.Day)), (33, (V.ptr 0 4 0 3)), (34, (iV a1.Until)), (35, (bV (decide (x8.Day > a1.Until))))], [(0, (Ob.arr 25 4 [(encTStory a1)])), (1, (Ob.map (m6.map encM9_4))), (2, (Ob.arr 42 3 [(encTRelease x8)]))], 3⟩ : St)) (fun k12 (_ : Unit) => k12 = some r) (fun k12 h => ?_) ?_
      · refine spC h rfl (fun hb13 h => ?_) (fun hb13 h => ?_)
        · refine rn 4 rfl ?_
          exact rt h rfl
        refine rn 5 rfl ?_
        refine aops_lookup _ (bV false) (bV ((mget m6 x8.Version).getD false)) tMap107 tKey9 tZo4 (irel_con _) wants_none rfl (.own rfl) (.con rfl) ⟨_, rfl⟩ encM9_4_good (encM9_4_look m6 x8.Version) (getD_map (encM9_4_val) (mget m6 x8.Version) false) rfl ?_
        refine fo (rn 2 rfl ?_)
        refine spC h rfl (fun hb14 h => ?_) (fun hb14 h => ?_)
        · refine rn 4 rfl ?_
          exact rt h rfl
        refine rn 6 rfl ?_
        refine spO 30 h rfl (fun hb15 h => ?_) (fun hb15 h => ?_)
        · refine rn 13 rfl ?_
          exact rt h rfl
        refine rn 8 rfl ?_
        refine spC h rfl (fun hb16 h => ?_) (fun hb16 h => ?_)
        · refine rn 4 rfl ?_
          exact rt h rfl
        refine rn 1 rfl ?_
        refine bs h (fun hb17 h => ?_) (fun hb17 h => ?_)
        · obtain ⟨x18, hx19, h⟩ := bind_some h
          refine dr mixed (vs 2 rfl (vb hb17 rfl (vs 6 rfl (iD hx19 rfl rfl rfl (vs 5 rfl .nil))))) (by kernel_rfl) ?_
          refine spC h rfl (fun hb20 h => ?_) (fun hb20 h => ?_)
          · refine rn 4 rfl ?_
            exact rt h rfl
          refine rn 1 rfl ?_
          exact jX () h (gr [0, 1, 2] rfl (hB rfl rfl rfl (hM rfl rfl (hB rfl rfl rfl .nil))) rfl)
        refine dr mixed (vs 2 rfl (vb hb17 rfl (vs 12 rfl .nil))) (by kernel_rfl) ?_
        refine rn 2 rfl ?_
        exact jX () h (gr [0, 1, 2] rfl (hB rfl rfl rfl (hM rfl rfl (hB rfl rfl rfl .nil))) rfl)
      intro _ h
      refine rn 6 rfl ?_
      refine aops_mapUpdate ((mput m6 x8.Version true).map encM9_4) tMap107 tKey9 wants_none rfl rfl (.con rfl) ⟨_, rfl⟩ encM9_4_good rfl (encM9_4_puts m6 x8.Version true) ?_
      refine fo (rn 5 rfl ?_)
      refine cl h rfl rfl rfl (W78 _ _) rfl (fun y21 hx22 h => ?_)
      refine rn 7 rfl ?_
      refine spC h rfl (fun hb23 h => ?_) (fun hb23 h => ?_)
      · refine rn 5 rfl ?_
        exact rt h rfl
      refine rn 6 rfl ?_
      exact jX ((w64 (n5 + 1)), (mput m6 x8.Version true)) (hk1 _ h) (gr [0, 1] rfl (hB rfl rfl rfl (hM rfl rfl .nil)) rfl)
    replace h := RG.f h hb7
    unfold M53_L1 at h
    refine rn 1 rfl ?_
    exact jX () h (g0 rfl rfl)
  intro _ h
  refine rn 4 rfl ?_
  exact rt h rfl
theorem W25 (F : Nat) (a1 : TStory) (r : Int) (h : M25 F a1 = some r) : PureG gl Tryz.prog 25 [(V.agg (encTStory a1))] (iV r) := by
  refine pin (fun r => (iV r)) r rfl Tryz.func25 rfl rfl rfl rfl rfl (fun w0 m0 hg => ?_)
  unfold M25 at h
  refine rn 11 rfl ?_
  refine cl h rfl rfl rfl (W52 _ _) rfl (fun y2 hx3 h => ?_)
  refine rn 3 rfl ?_
  refine spC h rfl (fun hb4 h => ?_) (fun hb4 h => ?_)
  · refine rn 4 rfl ?_
    exact rt h rfl
  refine rn 4 rfl ?_
  refine cl h rfl rfl rfl (W27 _ _) rfl (fun y5 hx6 h => ?_)
  refine rn 3 rfl ?_
  refine spC h rfl (fun hb7 h => ?_) (fun hb7 h => ?_)
  · refine rn 4 rfl ?_
    exact rt h rfl
  refine rn 4 rfl ?_
  refine ln rfl rfl ?_
  refine rn 2 rfl ?_
  refine spO 26 h rfl (fun hb8 h => ?_) (fun hb8 h => ?_)
  · refine rn 12 rfl ?_
    exact rt h rfl
  refine rn 2 rfl ?_
  refine ln rfl rfl ?_
  refine rn 4 rfl ?_
  refine spC h rfl (fun hb9 h => ?_) (fun hb9 h => ?_)
  · refine rn 4 rfl ?_
    exact rt h rfl
  refine rn 6 rfl ?_
  refine cl h rfl rfl rfl (W53 _ _) rfl (fun y10 hx11 h => ?_)
  refine rn 7 rfl ?_
  refine spC h rfl (fun hb12 h => ?_) (fun hb12 h => ?_)
  · refine rn 5 rfl ?_
    exact rt h rfl
  refine rn 11 rfl ?_
  refine ln rfl rfl ?_
  refine rn 2 rfl ?_
  refine jK h (fun (p : (List ((List UInt8) × Bool))) => (⟨[(1, (V.ptr 0 4 0 0)), (4, (V.map 1))], [(0, (Ob.arr 25 4 [(encTStory a1)])), (1, (Ob.map (p.map encM9_4)))], 2⟩ : St)) (fun k13 (p : (List ((List UInt8) × Bool))) => k13 p = some r) (fun k13 h => ?_) ?_
  · refine rn 1 rfl ?_
    refine wl (A := a1.Known) 28 rfl (fun hA44 => ?_)
    refine lC (fun (p : Int × (List ((List UInt8) × Bool))) => (⟨[(1, (V.ptr 0 4 0 0)), (4, (V.map 1)), (39, (V.lst 3 (a1.Known.map encTPublished))), (40, (iV ((a1.Known.length : Nat) : Int))), (41, (iV (p.1)))], [(0, (Ob.arr 25 4 [(encTStory a1)])), (1, (Ob.map ((p.2).map encM9_4)))], 2⟩ : St)) (fun n (p : Int × (List ((List UInt8) × Bool))) => RG a1.Known (fun tl nn => M25_L1 F a1 k13 tl nn p.2 = some r) n p.1) (fun p h => RG.zero h) (a1.Known.length + 1) (0, ([] : List ((List UInt8) × Bool))) (RG.start h) (gr [0, 1] rfl (hB rfl rfl rfl (hM rfl rfl .nil)) rfl) (fun n p h => ?_)
    obtain ⟨n17, m18⟩ := p
    refine rn 5 rfl ?_
    refine spL rfl (fun hb19 => ?_) (fun hb19 => ?_)
    · obtain ⟨x20, tl, hx21, h, hk1⟩ := RG.t hA44 h hb19
      unfold M25_L1 at h
      refine rn 6 rfl ?_
      refine ixh hx21 rfl rfl ?_
      refine rn 11 rfl ?_
      refine cl h rfl rfl rfl (W52 _ _) rfl (fun y22 hx23 h => ?_)
      refine rn 3 rfl ?_
      refine jK h (fun (p : Bool × Bool) => (⟨[(1, (V.ptr 0 4 0 0)), (4, (V.map 1)), (6, (V.ptr 2 3 0 0)), (39, (V.lst 3 (a1.Known.map encTPublished))), (40, (iV ((a1.Known.length : Nat) : Int))), (41, (iV n17)), (72, (V.ptr 2 3 0 2)), (73, (iV x20.Ended)), (74, (bV (x20.Ended != (-1)))), (75, (bV (p.1))), (86, (bV (p.2)))], [(0, (Ob.arr 25 4 [(encTStory a1)])), (1, (Ob.map (m18.map encM9_4))), (2, (Ob.arr 68 3 [(encTPublished x20)]))], 3⟩ : St)) (fun k24 (p : Bool × Bool) => k24 p.1 p.2 = some r) (fun k24 h => ?_) ?_
      · refine spC h rfl (fun hb27 h => ?_) (fun hb27 h => ?_)
        · refine rn 4 rfl ?_
          exact rt h rfl
        refine rn 1 rfl ?_
        refine bs h (fun hb28 h => ?_) (fun hb28 h => ?_)
        · obtain ⟨x29, hx30, h⟩ := bind_some h
          refine dr mixed (vs 2 rfl (vb hb28 rfl (vs 6 rfl (iD hx30 rfl rfl rfl (vs 5 rfl .nil))))) (by kernel_rfl) ?_
          refine spC h rfl (fun hb31 h => ?_) (fun hb31 h => ?_)
          · refine rn 4 rfl ?_
            exact rt h rfl
          refine rn 4 rfl ?_
          refine cl h rfl rfl rfl (W27 _ _) rfl (fun y32 hx33 h => ?_)
          refine rn 2 rfl ?_
          refine spO 71 h rfl (fun hb34 h => ?_) (fun hb34 h => ?_)
          · refine rn 23 rfl ?_
            exact rt h rfl
          refine rn 4 rfl ?_
          refine spO 75 h rfl (fun hb35 h => ?_) (fun hb35 h => ?_)
          · refine rn 6 rfl ?_
            refine spO 81 h rfl (fun hb36 h => ?_) (fun hb36 h => ?_)
            · refine rn 13 rfl ?_
              exact rt h rfl
            refine rn 8 rfl ?_
            refine spC h rfl (fun hb37 h => ?_) (fun hb37 h => ?_)
            · refine rn 4 rfl ?_
              exact rt h rfl
            refine rn 1 rfl ?_
            exact jX (true, (decide (x20.Ended > 1000000))) h (gr [0, 1, 2] rfl (hB rfl rfl rfl (hM rfl rfl (hB rfl rfl rfl .nil))) rfl)
          refine rn 16 rfl ?_
          exact jX (false, false) h (gr [0, 1, 2] rfl (hB rfl rfl rfl (hM rfl rfl (hB rfl rfl rfl .nil))) rfl)
        refine dr mixed (vs 2 rfl (vb hb28 rfl (vs 12 rfl .nil))) (by kernel_rfl) ?_
        refine rn 5 rfl ?_
        refine cl h rfl rfl rfl (W27 _ _) rfl (fun y38 hx39 h => ?_)
        refine rn 2 rfl ?_
        refine spO 71 h rfl (fun hb40 h => ?_) (fun hb40 h => ?_)
        · refine rn 23 rfl ?_
          exact rt h rfl
        refine rn 4 rfl ?_
        refine spO 75 h rfl (fun hb41 h => ?_) (fun hb41 h => ?_)
        · refine rn 6 rfl ?_
          refine spO 81 h rfl (fun hb42 h => ?_) (fun hb42 h => ?_)
          · refine rn 13 rfl ?_
            exact rt h rfl
          refine rn 8 rfl ?_
          refine spC h rfl (fun hb43 h => ?_) (fun hb43 h => ?_)
          · refine rn 4 rfl ?_
            exact rt h rfl
          refine rn 1 rfl ?_
          exact jX (true, (decide (x20.Ended > 1000000))) h (gr [0, 1, 2] rfl (hB rfl rfl rfl (hM rfl rfl (hB rfl rfl rfl .nil))) rfl)
        refine rn 16 rfl ?_
        exact jX (false, false) h (gr [0, 1, 2] rfl (hB rfl rfl rfl (hM rfl rfl (hB rfl rfl rfl .nil))) rfl)
      rintro ⟨b25, b26⟩ h
      refine rn 5 rfl ?_
      refine aops_mapUpdate ((mput m18 x20.Advisory true).map encM9_4) tMap107 tKey9 wants_none rfl rfl (.con rfl) ⟨_, rfl⟩ encM9_4_good rfl (encM9_4_puts m18 x20.Advisory true) ?_
      refine fo (rn 6 rfl ?_)
      exact jX ((w64 (n17 + 1)), (mput m18 x20.Advisory true)) (hk1 _ h) (gr [0, 1] rfl (hB rfl rfl rfl (hM rfl rfl .nil)) rfl)
    replace h := RG.f h hb19
    unfold M25_L1 at h
    refine rn 1 rfl ?_
    exact jX m18 h (gr [0, 1] rfl (hB rfl rfl rfl (hM rfl rfl .nil)) rfl)
  intro m14 h
  refine rn 5 rfl ?_
  refine ln rfl rfl ?_
  refine rn 2 rfl ?_
  refine jK h (fun _ : Unit => (⟨[], [], 0⟩ : St)) (fun k45 (_ : Unit) => k45 = some r) (fun k45 h => ?_) ?_
  · refine rn 1 rfl ?_
    refine wl (A := a1.Releases) 93 rfl (fun hA60 => ?_)
    refine lC (fun (p : Int) => (⟨[(4, (V.map 0)), (93, (V.lst 3 (a1.Releases.map encTRelease))), (94, (iV ((a1.Releases.length : Nat) : Int))), (95, (iV p))], [(0, (Ob.map (m14.map encM9_4)))], 1⟩ : St)) (fun n (p : Int) => RG a1.Releases (fun tl nn => M25_L2 F m14 k45 tl = some r) n p) (fun p h => RG.zero h) (a1.Releases.length + 1) 0 (RG.start h) (gr [1] rfl (hM rfl rfl .nil) rfl) (fun n n47 h => ?_)
    refine rn 5 rfl ?_
    refine spL rfl (fun hb48 => ?_) (fun hb48 => ?_)
    · obtain ⟨x50, tl, hx51, h, hk2⟩ := RG.t hA60 h hb48
      unfold M25_L2 at h
      refine rn 2 rfl ?_
      refine jK h (fun _ : Unit => (⟨[(4, (V.map 0)), (93, (V.lst 3 (a1.Releases.map encTRelease))), (94, (iV ((a1.Releases.length : Nat) : Int))), (95, (iV n47))], [(0, (Ob.map (m14.map encM9_4)))], 1⟩ : St)) (fun k49 (_ : Unit) => k49 = some r) (fun k49 h => ?_) ?_
      · refine rn 3 rfl ?_
        refine ixh hx51 rfl rfl ?_
        refine rn 8 rfl ?_
        refine ln rfl rfl ?_
        refine rn 2 rfl ?_
        refine jK h (fun _ : Unit => (⟨[(4, (V.map 0)), (93, (V.lst 3 (a1.Releases.map encTRelease))), (94, (iV ((a1.Releases.length : Nat) : Int))), (95, (iV n47))], [(0, (Ob.map (m14.map encM9_4)))], 1⟩ : St)) (fun k52 (_ : Unit) => k52 = some r) (fun k52 h => ?_) ?_
        · refine rn 1 rfl ?_
          refine wl (A := x50.Exposures) 100 rfl (fun hA59 => ?_)
          refine lC (fun (p : Int) => (⟨[(4, (V.map 0)), (93, (V.lst 3 (a1.Releases.map encTRelease))), (94, (iV ((a1.Releases.length : Nat) : Int))), (95, (iV n47)), (100, (V.lst 3 (x50.Exposures.map encTExposure))), (101, (iV ((x50.Exposures.length : Nat) : Int))), (102, (iV p))], [(0, (Ob.map (m14.map encM9_4)))], 1⟩ : St)) (fun n (p : Int) => RG x50.Exposures (fun tl nn => M25_L3 F m14 k52 tl = some r) n p) (fun p h => RG.zero h) (x50.Exposures.length + 1) 0 (RG.start h) (gr [0] rfl (hM rfl rfl .nil) rfl) (fun n n54 h => ?_)
          refine rn 5 rfl ?_
          refine spL rfl (fun hb55 => ?_) (fun hb55 => ?_)
          · obtain ⟨x56, tl, hx57, h, hk3⟩ := RG.t hA59 h hb55
            unfold M25_L3 at h
            refine rn 5 rfl ?_
            refine ixh hx57 rfl rfl ?_
            refine rn 9 rfl ?_
            refine aops_lookup _ (bV false) (bV ((mget m14 x56.Advisory).getD false)) tMap107 tKey9 tZo4 (irel_con _) wants_none rfl (.own rfl) (.con rfl) ⟨_, rfl⟩ encM9_4_good (encM9_4_look m14 x56.Advisory) (getD_map (encM9_4_val) (mget m14 x56.Advisory) false) rfl ?_
            refine fo (rn 2 rfl ?_)
            refine spC h rfl (fun hb58 h => ?_) (fun hb58 h => ?_)
            · refine rn 4 rfl ?_
              exact rt h rfl
            refine rn 6 rfl ?_
            exact jX (w64 (n54 + 1)) (hk3 _ h) (gr [0] rfl (hM rfl rfl .nil) rfl)
          replace h := RG.f h hb55
          unfold M25_L3 at h
          refine rn 1 rfl ?_
          exact jX () h (gr [0] rfl (hM rfl rfl .nil) rfl)
        intro _ h
        refine rn 1 rfl ?_
        exact jX () h (gr [0] rfl (hM rfl rfl .nil) rfl)
      intro _ h
      refine rn 4 rfl ?_
      exact jX (w64 (n47 + 1)) (hk2 _ h) (gr [0] rfl (hM rfl rfl .nil) rfl)
    replace h := RG.f h hb48
    unfold M25_L2 at h
    refine rn 1 rfl ?_
    exact jX () h (g0 rfl rfl)
  intro _ h
  refine rn 4 rfl ?_
  exact rt h rfl
theorem W34 (F : Nat) (a1 : TStory) (r : (List Thistory_piece)) (h : M34 F a1 = some r) : PureG gl Tryz.prog 34 [(V.agg (encTStory a1))] (V.lst 5 (r.map encThistory_piece)) := by
  refine pin (fun r => (V.lst 5 (r.map encThistory_piece))) r rfl Tryz.func34 rfl rfl rfl rfl rfl (fun w0 m0 hg => ?_)
  unfold M34 at h
  refine rn 15 rfl ?_
  refine ln rfl rfl ?_
  refine rn 2 rfl ?_
  refine jK h (fun (p : (List ((List UInt8) × TPublished))) => (⟨[(1, (V.ptr 0 4 0 0)), (3, (V.map 1))], [(0, (Ob.arr 25 4 [(encTStory a1)])), (1, (Ob.map (p.map encM9_68)))], 2⟩ : St)) (fun k2 (p : (List ((List UInt8) × TPublished))) => k2 p = some r) (fun k2 h => ?_) ?_
  · refine rn 1 rfl ?_
    refine wl (A := a1.Known) 16 rfl (fun hA11 => ?_)
    refine lC (fun (p : Int × (List ((List UInt8) × TPublished))) => (⟨[(1, (V.ptr 0 4 0 0)), (3, (V.map 1)), (16, (V.lst 3 (a1.Known.map encTPublished))), (17, (iV ((a1.Known.length : Nat) : Int))), (18, (iV (p.1)))], [(0, (Ob.arr 25 4 [(encTStory a1)])), (1, (Ob.map ((p.2).map encM9_68)))], 2⟩ : St)) (fun n (p : Int × (List ((List UInt8) × TPublished))) => RG a1.Known (fun tl nn => M34_L1 F k2 tl p.2 = some r) n p.1) (fun p h => RG.zero h) (a1.Known.length + 1) (0, ([] : List ((List UInt8) × TPublished))) (RG.start h) (gr [0, 1] rfl (hB rfl rfl rfl (hM rfl rfl .nil)) rfl) (fun n p h => ?_)
    obtain ⟨n6, m7⟩ := p
    refine rn 5 rfl ?_
    refine spL rfl (fun hb8 => ?_) (fun hb8 => ?_)
    · obtain ⟨x9, tl, hx10, h, hk1⟩ := RG.t hA11 h hb8
      unfold M34_L1 at h
      refine rn 5 rfl ?_
      refine ixh hx10 rfl rfl ?_
      refine rn 9 rfl ?_
      refine aops_mapUpdate ((mput m7 x9.Advisory x9).map encM9_68) tMap132 tKey9 wants_none rfl rfl (.con rfl) ⟨_, rfl⟩ encM9_68_good rfl (encM9_68_puts m7 x9.Advisory x9) ?_
      refine fo (rn 6 rfl ?_)
      exact jX ((w64 (n6 + 1)), (mput m7 x9.Advisory x9)) (hk1 _ h) (gr [0, 1] rfl (hB rfl rfl rfl (hM rfl rfl .nil)) rfl)
    replace h := RG.f h hb8
    unfold M34_L1 at h
    refine rn 1 rfl ?_
    exact jX m7 h (gr [0, 1] rfl (hB rfl rfl rfl (hM rfl rfl .nil)) rfl)
  intro m3 h
  refine rn 9 rfl ?_
  refine ln rfl rfl ?_
  refine rn 2 rfl ?_
  refine jK h (fun (p : (List Thistory_piece)) => (⟨[(6, (V.own 0 p.length))], [(0, (Ob.arr 88 5 (p.map encThistory_piece)))], 1⟩ : St)) (fun k12 (p : (List Thistory_piece)) => k12 p = some r) (fun k12 h => ?_) ?_
  · refine rn 1 rfl ?_
    refine wl (A := a1.Releases) 28 rfl (fun hA45 => ?_)
    refine lC (fun (p : Int × (List Thistory_piece)) => (⟨[(1, (V.ptr 0 4 0 0)), (3, (V.map 1)), (6, (V.own 2 (p.2).length)), (28, (V.lst 3 (a1.Releases.map encTRelease))), (29, (iV ((a1.Releases.length : Nat) : Int))), (30, (iV (p.1)))], [(0, (Ob.arr 25 4 [(encTStory a1)])), (1, (Ob.map (m3.map encM9_68))), (2, (Ob.arr 88 5 ((p.2).map encThistory_piece)))], 3⟩ : St)) (fun n (p : Int × (List Thistory_piece)) => RG a1.Releases (fun tl nn => M34_L2 F a1 m3 k12 tl nn p.2 = some r) n p.1) (fun p h => RG.zero h) (a1.Releases.length + 1) (0, ([] : List Thistory_piece)) (RG.start h) (Ghost.trans (ghost_nilE 6 88 5 rfl) (ghost_ren 3 (fun i => ([0, 1, 2] : List Nat).getD i 0) _ _ (by decide) (EnvSub.get (.cons (Sub.ptr rfl rfl) (.cons (Sub.map rfl rfl) (.cons (Sub.ownE rfl rfl (by simp)) (.cons (Sub.imm (Imm.lst _ _)) (.cons (Sub.imm (Imm.con _)) (.cons (Sub.imm (Imm.con _)) .nil))))))) (HpSub.get (.cons rfl (ObSub.box (.cons (Sub.imm (Imm.con _)) (.cons (Sub.imm (Imm.lst _ _)) (.cons (Sub.imm (Imm.lst _ _)) (.cons (Sub.imm (Imm.con _)) .nil))))) (.cons rfl (ObSub.maps encM9_68_imm) (.cons rfl (ObSub.rows (rows_imm imms_encThistory_piece)) .nil)))) rfl)) (fun n p h => ?_)
    obtain ⟨n16, l17⟩ := p
    refine rn 5 rfl ?_
    refine spL rfl (fun hb18 => ?_) (fun hb18 => ?_)
    · obtain ⟨x21, tl, hx22, h, hk2⟩ := RG.t hA45 h hb18
      unfold M34_L2 at h
      refine rn 2 rfl ?_
      refine jK h (fun (p : (List Thistory_piece)) => (⟨[(1, (V.ptr 0 4 0 0)), (3, (V.map 1)), (6, (V.own 2 p.length)), (28, (V.lst 3 (a1.Releases.map encTRelease))), (29, (iV ((a1.Releases.length : Nat) : Int))), (30, (iV n16))], [(0, (Ob.arr 25 4 [(encTStory a1)])), (1, (Ob.map (m3.map encM9_68))), (2, (Ob.arr 88 5 (p.map encThistory_piece)))], 3⟩ : St)) (fun k19 (p : (List Thistory_piece)) => k19 p = some r) (fun k19 h => ?_) ?_
      · refine rn 4 rfl ?_
        refine ixh hx22 rfl rfl ?_
        refine rn 18 rfl ?_
        refine ln rfl rfl ?_
        refine rn 2 rfl ?_
        refine jK h (fun (p : Int) => (⟨[(1, (V.ptr 0 4 0 0)), (3, (V.map 1)), (6, (V.own 2 l17.length)), (8, (V.ptr 3 3 0 0)), (9, (iV p)), (28, (V.lst 3 (a1.Releases.map encTRelease))), (29, (iV ((a1.Releases.length : Nat) : Int))), (30, (iV n16))], [(0, (Ob.arr 25 4 [(encTStory a1)])), (1, (Ob.map (m3.map encM9_68))), (2, (Ob.arr 88 5 (l17.map encThistory_piece))), (3, (Ob.arr 42 3 [(encTRelease x21)]))], 4⟩ : St)) (fun k23 (p : Int) => k23 p = some r) (fun k23 h => ?_) ?_
        · refine spC h rfl (fun hb25 h => ?_) (fun hb25 h => ?_)
          · refine rn 5 rfl ?_
            refine ixl h rfl rfl (fun x26 hx27 h => ?_)
            refine rn 4 rfl ?_
            exact jX x26.Day h (gr [0, 1, 2, 3] rfl (hB rfl rfl rfl (hM rfl rfl (hR rfl rfl (hB rfl rfl rfl .nil)))) rfl)
          refine rn 1 rfl ?_
          exact jX a1.Until h (gr [0, 1, 2, 3] rfl (hB rfl rfl rfl (hM rfl rfl (hR rfl rfl (hB rfl rfl rfl .nil)))) rfl)
        intro n24 h
        refine rn 4 rfl ?_
        refine ln rfl rfl ?_
        refine rn 2 rfl ?_
        refine jK h (fun (p : (List Thistory_piece)) => (⟨[(1, (V.ptr 0 4 0 0)), (3, (V.map 1)), (6, (V.own 2 p.length)), (28, (V.lst 3 (a1.Releases.map encTRelease))), (29, (iV ((a1.Releases.length : Nat) : Int))), (30, (iV n16))], [(0, (Ob.arr 25 4 [(encTStory a1)])), (1, (Ob.map (m3.map encM9_68))), (2, (Ob.arr 88 5 (p.map encThistory_piece)))], 3⟩ : St)) (fun k28 (p : (List Thistory_piece)) => k28 p = some r) (fun k28 h => ?_) ?_
        · refine rn 1 rfl ?_
          refine wl (A := x21.Exposures) 51 rfl (fun hA44 => ?_)
          refine lC (fun (p : Int × (List Thistory_piece)) => (⟨[(1, (V.ptr 0 4 0 0)), (3, (V.map 1)), (6, (V.own 2 (p.2).length)), (8, (V.ptr 3 3 0 0)), (9, (iV n24)), (28, (V.lst 3 (a1.Releases.map encTRelease))), (29, (iV ((a1.Releases.length : Nat) : Int))), (30, (iV n16)), (51, (V.lst 3 (x21.Exposures.map encTExposure))), (52, (iV ((x21.Exposures.length : Nat) : Int))), (53, (iV (p.1)))], [(0, (Ob.arr 25 4 [(encTStory a1)])), (1, (Ob.map (m3.map encM9_68))), (2, (Ob.arr 88 5 ((p.2).map encThistory_piece))), (3, (Ob.arr 42 3 [(encTRelease x21)]))], 4⟩ : St)) (fun n (p : Int × (List Thistory_piece)) => RG x21.Exposures (fun tl nn => M34_L3 F m3 x21 n24 k28 tl p.2 = some r) n p.1) (fun p h => RG.zero h) (x21.Exposures.length + 1) (0, l17) (RG.start h) (gr [0, 1, 2, 3] rfl (hB rfl rfl rfl (hM rfl rfl (hR rfl rfl (hB rfl rfl rfl .nil)))) rfl) (fun n p h => ?_)
          obtain ⟨n32, l33⟩ := p
          refine rn 5 rfl ?_
          refine spL rfl (fun hb34 => ?_) (fun hb34 => ?_)
          · obtain ⟨x35, tl, hx36, h, hk3⟩ := RG.t hA44 h hb34
            unfold M34_L3 at h
            refine rn 5 rfl ?_
            refine ixh hx36 rfl rfl ?_
            refine rn 9 rfl ?_
            refine aops_lookup _ (V.agg [(sV ([] : List UInt8)), (iV 0), (iV 0)]) (V.agg (encTPublished ((mget m3 x35.Advisory).getD (TPublished.mk ([] : List UInt8) 0 0)))) tMap132 tKey9 tZo68 (irel_conAgg [str ([] : List UInt8), .int .i64 0, .int .i64 0]) wants_none rfl (.own rfl) (.con rfl) ⟨_, rfl⟩ encM9_68_good (encM9_68_look m3 x35.Advisory) (getD_map (encM9_68_val) (mget m3 x35.Advisory) (TPublished.mk ([] : List UInt8) 0 0)) rfl ?_
            refine fo (rn 23 rfl ?_)
            refine jK h (fun (p : Int) => (⟨[(1, (V.ptr 0 4 0 0)), (3, (V.map 1)), (6, (V.own 2 l33.length)), (8, (V.ptr 3 3 0 0)), (9, (iV n24)), (13, (V.ptr 4 5 0 0)), (28, (V.lst 3 (a1.Releases.map encTRelease))), (29, (iV ((a1.Releases.length : Nat) : Int))), (30, (iV n16)), (51, (V.lst 3 (x21.Exposures.map encTExposure))), (52, (iV ((x21.Exposures.length : Nat) : Int))), (53, (iV n32))], [(0, (Ob.arr 25 4 [(encTStory a1)])), (1, (Ob.map (m3.map encM9_68))), (2, (Ob.arr 88 5 (l33.map encThistory_piece))), (3, (Ob.arr 42 3 [(encTRelease x21)])), (4, (Ob.arr 88 5 [[(sV x35.Advisory), (sV x35.Component), (iV x35.Severity), (iV (if ((mget m3 x35.Advisory).getD (TPublished.mk ([] : List UInt8) 0 0)).Day > x21.Day then ((mget m3 x35.Advisory).getD (TPublished.mk ([] : List UInt8) 0 0)).Day else x21.Day)), (iV p)]]))], 5⟩ : St)) (fun k37 (p : Int) => k37 p = some r) (fun k37 h => ?_) ?_
            · refine spC h rfl (fun hb39 h => ?_) (fun hb39 h => ?_)
              · refine rn 8 rfl ?_
                exact jX (if ((mget m3 x35.Advisory).getD (TPublished.mk ([] : List UInt8) 0 0)).Ended < n24 then ((mget m3 x35.Advisory).getD (TPublished.mk ([] : List UInt8) 0 0)).Ended else n24) h (gr [0, 1, 2, 3, 6] rfl (hB rfl rfl rfl (hM rfl rfl (hR rfl rfl (hB rfl rfl rfl (hB rfl rfl rfl .nil))))) rfl)
              refine rn 1 rfl ?_
              exact jX n24 h (gr [0, 1, 2, 3, 6] rfl (hB rfl rfl rfl (hM rfl rfl (hR rfl rfl (hB rfl rfl rfl (hB rfl rfl rfl .nil))))) rfl)
            intro n38 h
            refine rn 8 rfl ?_
            refine jK h (fun (p : (List Thistory_piece)) => (⟨[(1, (V.ptr 0 4 0 0)), (3, (V.map 1)), (6, (V.own 2 p.length)), (8, (V.ptr 3 3 0 0)), (9, (iV n24)), (28, (V.lst 3 (a1.Releases.map encTRelease))), (29, (iV ((a1.Releases.length : Nat) : Int))), (30, (iV n16)), (51, (V.lst 3 (x21.Exposures.map encTExposure))), (52, (iV ((x21.Exposures.length : Nat) : Int))), (53, (iV n32))], [(0, (Ob.arr 25 4 [(encTStory a1)])), (1, (Ob.map (m3.map encM9_68))), (2, (Ob.arr 88 5 (p.map encThistory_piece))), (3, (Ob.arr 42 3 [(encTRelease x21)]))], 4⟩ : St)) (fun k40 (p : (List Thistory_piece)) => k40 p = some r) (fun k40 h => ?_) ?_
            · refine spC h rfl (fun hb42 h => ?_) (fun hb42 h => ?_)
              · refine rn 3 rfl ?_
                refine aops_buildSlice [(0, (V.agg [(sV x35.Advisory), (sV x35.Component), (iV x35.Severity), (iV (if ((mget m3 x35.Advisory).getD (TPublished.mk ([] : List UInt8) 0 0)).Day > x21.Day then ((mget m3 x35.Advisory).getD (TPublished.mk ([] : List UInt8) 0 0)).Day else x21.Day)), (iV n38)]))] [[(sV x35.Advisory), (sV x35.Component), (iV x35.Severity), (iV (if ((mget m3 x35.Advisory).getD (TPublished.mk ([] : List UInt8) 0 0)).Day > x21.Day then ((mget m3 x35.Advisory).getD (TPublished.mk ([] : List UInt8) 0 0)).Day else x21.Day)), (iV n38)]] tEl85 tZ88 rfl rfl rfl rfl wants_none (evp_cons rfl evp_nil) rfl rfl (by simp) rfl ?_
                refine fo ?_
                refine apO encThistory_piece h rfl rfl rfl rfl rfl rfl rfl rfl (fun h => ?_)
                refine rn 2 rfl ?_
                exact jX (l33 ++ ([(Thistory_piece.mk x35 (if ((mget m3 x35.Advisory).getD (TPublished.mk ([] : List UInt8) 0 0)).Day > x21.Day then ((mget m3 x35.Advisory).getD (TPublished.mk ([] : List UInt8) 0 0)).Day else x21.Day) n38)] : List Thistory_piece)) h (gr [0, 1, 6, 3] rfl (hB rfl rfl rfl (hM rfl rfl (hR rfl rfl (hB rfl rfl rfl .nil)))) rfl)
              refine rn 1 rfl ?_
              exact jX l33 h (gr [0, 1, 2, 3] rfl (hB rfl rfl rfl (hM rfl rfl (hR rfl rfl (hB rfl rfl rfl .nil)))) rfl)
            intro l41 h
            refine rn 5 rfl ?_
            exact jX ((w64 (n32 + 1)), l41) (hk3 _ h) (gr [0, 1, 2, 3] rfl (hB rfl rfl rfl (hM rfl rfl (hR rfl rfl (hB rfl rfl rfl .nil)))) rfl)
          replace h := RG.f h hb34
          unfold M34_L3 at h
          refine rn 1 rfl ?_
          exact jX l33 h (gr [0, 1, 2] rfl (hB rfl rfl rfl (hM rfl rfl (hR rfl rfl .nil))) rfl)
        intro l29 h
        refine rn 1 rfl ?_
        exact jX l29 h (gr [0, 1, 2] rfl (hB rfl rfl rfl (hM rfl rfl (hR rfl rfl .nil))) rfl)
      intro l20 h
      refine rn 4 rfl ?_
      exact jX ((w64 (n16 + 1)), l20) (hk2 _ h) (gr [0, 1, 2] rfl (hB rfl rfl rfl (hM rfl rfl (hR rfl rfl .nil))) rfl)
    replace h := RG.f h hb18
    unfold M34_L2 at h
    refine rn 1 rfl ?_
    exact jX l17 h (gr [2] rfl (hR rfl rfl .nil) rfl)
  intro l13 h
  refine rn 5 rfl ?_
  refine awp_ghost (ghost_frzE 0 2 rfl (rows_imm imms_encThistory_piece) rfl (List.length_map ..).symm) ?_
  refine fa ?_
  exact rt h rfl
theorem W79 (F : Nat) (a1 : (List TWindow)) (r : (List TWindow)) (h : M79 F a1 = some r) : MutG gl Tryz.prog 79 [(V.lst 6 (a1.map encTWindow))] 0 [] (resV [(V.own 0 r.length)]) 1 [(0, (Ob.arr 34 6 (r.map encTWindow)))] := by
  refine mut_enter Tryz.func79 rfl rfl (l := [.tmp 2]) rfl rfl [(0, (V.lst 6 (a1.map encTWindow)))] rfl (fun w0 m0 β0 hg => en ?_)
  unfold M79 at h
  refine rn 8 rfl ?_
  refine aops_isNil (n := a1.length) false tIsSl26 wants_none rfl rfl (congrArg some (List.length_map ..)) rfl (fun b7 hn8 => ?_)
  replace h := nilq_elim h hn8
  refine fo (rn 1 rfl ?_)
  refine spC h rfl (fun hb9 h => ?_) (fun hb9 h => ?_)
  · refine rn 4 rfl ?_
    replace h := Option.some.inj h
    subst h
    exact wR ⟨.inl rfl, [(2, (V.own 0 ([] : List TWindow).length))], (Ghost.trans (ghost_nilE 2 34 6 rfl) (ghost_ren 1 (fun i => ([0] : List Nat).getD i 0) _ _ (by decide) (EnvSub.get (.cons (Sub.ownE rfl rfl (by simp)) .nil)) (HpSub.get (.cons rfl (ObSub.rows (rows_imm imms_encTWindow)) .nil)) rfl)), (.cons (.tmp rfl) .nil)⟩
  refine rn 3 rfl ?_
  refine aops_emptySlice tEl26 wants_none rfl ?_
  refine fo (rn 1 rfl ?_)
  refine apL encTWindow h rfl rfl rfl (by simp) rfl (fun h => ?_)
  refine rn 2 rfl ?_
  replace h := Option.some.inj h
  subst h
  exact wR ⟨.inl rfl, [(2, (V.own 0 (([] : List TWindow) ++ a1).length))], (gr [1] rfl (hR rfl rfl .nil) rfl), (.cons (.tmp rfl) .nil)⟩
theorem W67 (F : Nat) (a1 : Int) (r : Bool) (h : M67 F a1 = some r) : PureG gl Tryz.prog 67 [(iV a1)] (bV r) := by
  refine pin (fun r => (bV r)) r rfl Tryz.func67 rfl rfl rfl rfl rfl (fun w0 m0 hg => ?_)
  unfold M67 at h
  refine rn 11 rfl ?_
  exact rt h rfl
theorem W36 (F : Nat) (a1 : Int) (a2 : Int) (r : Int) (h : M36 F a1 a2 = some r) : PureG gl Tryz.prog 36 [(iV a1), (iV a2)] (iV r) := by
  refine pin (fun r => (iV r)) r rfl Tryz.func36 rfl rfl rfl rfl rfl (fun w0 m0 hg => ?_)
  unfold M36 at h
  refine rn 7 rfl ?_
  refine cl h rfl rfl rfl (W67 _ _) rfl (fun y3 hx4 h => ?_)
  refine rn 5 rfl ?_
  refine cl h rfl rfl rfl (W67 _ _) rfl (fun y5 hx6 h => ?_)
  refine rn 7 rfl ?_
  refine spC h rfl (fun hb7 h => ?_) (fun hb7 h => ?_)
  · refine rn 5 rfl ?_
    refine spC h rfl (fun hb8 h => ?_) (fun hb8 h => ?_)
    · refine rn 4 rfl ?_
      exact rt h rfl
    refine rn 5 rfl ?_
    exact rt h rfl
  refine rn 6 rfl ?_
  refine spC h rfl (fun hb9 h => ?_) (fun hb9 h => ?_)
  · refine rn 4 rfl ?_
    exact rt h rfl
  refine rn 8 rfl ?_
  refine spC h rfl (fun hb10 h => ?_) (fun hb10 h => ?_)
  · refine rn 4 rfl ?_
    exact rt h rfl
  refine rn 8 rfl ?_
  refine spC h rfl (fun hb11 h => ?_) (fun hb11 h => ?_)
  · refine rn 4 rfl ?_
    exact rt h rfl
  refine rn 5 rfl ?_
  exact rt h rfl
theorem W56 (F : Nat) (a1 : TWindow) (a2 : TWindow) (r : Int) (h : M56 F a1 a2 = some r) : PureG gl Tryz.prog 56 [(V.agg (encTWindow a1)), (V.agg (encTWindow a2))] (iV r) := by
  refine pin (fun r => (iV r)) r rfl Tryz.func56 rfl rfl rfl rfl rfl (fun w0 m0 hg => ?_)
  unfold M56 at h
  obtain ⟨y3, hx4, h⟩ := bind_some h
  obtain ⟨y5, hx6, h⟩ := bind_some h
  obtain ⟨y7, hx8, h⟩ := bind_some h
  obtain ⟨y9, hx10, h⟩ := bind_some h
  refine rn 7 rfl ?_
  refine dr mixed (vs 4 rfl (cD rfl rfl rfl rfl (W36 _ _ _ _ hx4) rfl (vs 4 rfl (cD rfl rfl rfl rfl (W82 _ _ _ _ hx6) rfl (vs 4 rfl (cD rfl rfl rfl rfl (W82 _ _ _ _ hx8) rfl (xD (OD.mk [(9, (iV y3)), (14, (iV y5)), (19, (iV y7))] [] [(20, (V.lst 1 (([y3, y5, y7] : List Int).map encI_i64)))] []) ⟨⟨rfl, rfl, rfl, trivial⟩, trivial⟩ (by exact fun S hn h hh => aops_buildSlice_imm [(0, (iV y3)), (1, (iV y5)), (2, (iV y7))] [[(iV y3)], [(iV y5)], [(iV y7)]] tEl39 tZ3 wants_none rfl rfl rfl rfl (evp_cons h.1 (evp_cons h.2.1 (evp_cons h.2.2.1 evp_nil))) rfl rfl (by simp) (imms_rows (.cons (.cons (Imm.con _) .nil) (.cons (.cons (Imm.con _) .nil) (.cons (.cons (Imm.con _) .nil) .nil)))) rfl (aops_nil ⟨rfl, rfl⟩)) rfl (cD rfl rfl rfl rfl (W81 _ _ _ hx10) rfl (vs 1 rfl .nil))))))))) (by kernel_rfl) ?_
  exact rt h rfl
theorem W107 (F : Nat) (a1 : Int) (a2 : Int) (a3 : List TWindow) (r : (List TWindow)) (h : M107 F a1 a2 a3 = some r) : MutG gl Tryz.prog 107 [(V.own 0 a3.length), (iV a1), (iV a2), (V.fn (.func 56) [] [])] 1 [(0, (Ob.arr 34 6 (a3.map encTWindow)))] (resV []) 1 [(0, (Ob.arr 34 6 (r.map encTWindow)))] := by
  refine mut_enter Tryz.func107 rfl rfl (l := []) rfl rfl [(0, (V.own 0 a3.length)), (1, (iV a1)), (2, (iV a2)), (3, (V.fn (.func 56) [] []))] rfl (fun w0 m0 β0 hg => en ?_)
  unfold M107 at h
  refine rn 7 rfl ?_
  refine lC (fun (p : Int × (List TWindow)) => (⟨[(0, (V.own 0 (p.2).length)), (1, (iV a1)), (2, (iV a2)), (3, (V.fn (.func 56) [] [])), (8, (iV (p.1)))], [(0, (Ob.arr 34 6 ((p.2).map encTWindow)))], 1⟩ : St)) (fun n (p : Int × (List TWindow)) => M107_L1 F a1 a2 n p.1 p.2 = some r) (fun p h => by simp [M107_L1] at h) F ((w64 (a1 + 1)), a3) h (gr [0] rfl (hR rfl rfl .nil) rfl) (fun n p h => ?_)
  obtain ⟨n36, l37⟩ := p
  unfold M107_L1 at h
  refine rn 7 rfl ?_
  refine spC h rfl (fun hb38 h => ?_) (fun hb38 h => ?_)
  · refine rn 2 rfl ?_
    refine jK h (fun (p : (List TWindow)) => (⟨[(0, (V.own 0 p.length)), (1, (iV a1)), (2, (iV a2)), (3, (V.fn (.func 56) [] [])), (8, (iV n36))], [(0, (Ob.arr 34 6 (p.map encTWindow)))], 1⟩ : St)) (fun k39 (p : (List TWindow)) => k39 p = some r) (fun k39 h => ?_) ?_
    · refine rn 6 rfl ?_
      refine jK h (fun (p : (List TWindow)) => (⟨[(0, (V.own 0 p.length)), (1, (iV a1)), (2, (iV a2)), (3, (V.fn (.func 56) [] [])), (8, (iV n36))], [(0, (Ob.arr 34 6 (p.map encTWindow)))], 1⟩ : St)) (fun k41 (p : (List TWindow)) => k41 p = some r) (fun k41 h => ?_) ?_
      · refine rn 1 rfl ?_
        refine lC (fun (p : Int × (List TWindow)) => (⟨[(0, (V.own 0 (p.2).length)), (1, (iV a1)), (2, (iV a2)), (3, (V.fn (.func 56) [] [])), (8, (iV n36)), (9, (iV (p.1)))], [(0, (Ob.arr 34 6 ((p.2).map encTWindow)))], 1⟩ : St)) (fun n (p : Int × (List TWindow)) => M107_L2 F a1 k41 n p.1 p.2 = some r) (fun p h => by simp [M107_L2] at h) F (n36, l37) h (gr [0] rfl (hR rfl rfl .nil) rfl) (fun n p h => ?_)
        obtain ⟨n45, l46⟩ := p
        unfold M107_L2 at h
        refine rn 2 rfl ?_
        refine bs h (fun hb47 h => ?_) (fun hb47 h => ?_)
        · obtain ⟨x48, hx49, h⟩ := bind_some h
          obtain ⟨x50, hx51, h⟩ := bind_some h
          obtain ⟨y52, hx53, h⟩ := bind_some h
          refine dr mixed (vs 3 rfl (vb hb47 rfl (vs 3 rfl (oD (a := l46) hx49 rfl rfl rfl rfl (lD hx49 rfl rfl rfl rfl rfl (vs 3 rfl (oD (a := l46) hx51 rfl rfl rfl rfl (lD hx51 rfl rfl rfl rfl rfl (cD rfl rfl rfl rfl (W56 _ _ _ _ hx53) rfl (vs 2 rfl .nil)))))))))) (by kernel_rfl) ?_
          refine spC h rfl (fun hb54 h => ?_) (fun hb54 h => ?_)
          · obtain ⟨x55, hx56, h⟩ := bind_some h
            obtain ⟨x57, hx58, h⟩ := bind_some h
            obtain ⟨x59, hx60, h⟩ := bind_some h
            obtain ⟨x61, hx62, h⟩ := bind_some h
            refine rn 3 rfl ?_
            refine dr mixed (vs 8 rfl (oD (a := l46) hx56 rfl rfl rfl rfl (lD hx56 rfl rfl rfl rfl rfl (vs 2 rfl (oD (a := l46) hx58 rfl rfl rfl rfl (lD hx58 rfl rfl rfl rfl rfl (oD (a := l46) hx60 rfl rfl rfl rfl (xD (OD.mk [(51, (V.ptr 0 6 n45.toNat 0)), (46, (V.agg (encTWindow x55)))] [(0, (Ob.arr 34 6 (l46.map encTWindow)))] [] [(0, (Ob.arr 34 6 ((l46.set n45.toNat x55).map encTWindow)))]) ⟨⟨rfl, rfl, trivial⟩, ⟨rfl, trivial⟩⟩ (by exact fun S hn h hh => aops_store (encTWindow x55) ((l46.set n45.toNat x55).map encTWindow) tS34 wants_none h.1 h.2.1 rfl rfl hh.1 (idx_map encTWindow hx60) rfl (map_set encTWindow l46 _ x55) (aops_nil ⟨rfl, rfl⟩)) rfl (xD (OD.mk [(39, (V.own 0 l46.length)), (41, (iV (w64 (n45 - 1))))] [] [(52, (V.ptr 0 6 (w64 (n45 - 1)).toNat 0))] []) ⟨⟨rfl, rfl, trivial⟩, trivial⟩ (by exact fun S hn h hh => aops_index_own tSl26 wants_none h.1 h.2.1 (idx_some hx62).1 (by simpa using idx_lt hx62) rfl (aops_nil ⟨rfl, rfl⟩)) rfl (xD (OD.mk [(52, (V.ptr 0 6 (w64 (n45 - 1)).toNat 0)), (50, (V.agg (encTWindow x57)))] [(0, (Ob.arr 34 6 ((l46.set n45.toNat x55).map encTWindow)))] [] [(0, (Ob.arr 34 6 (((l46.set n45.toNat x55).set (w64 (n45 - 1)).toNat x57).map encTWindow)))]) ⟨⟨rfl, rfl, trivial⟩, ⟨rfl, trivial⟩⟩ (by exact fun S hn h hh => aops_store (encTWindow x57) (((l46.set n45.toNat x55).set (w64 (n45 - 1)).toNat x57).map encTWindow) tS34 wants_none h.1 h.2.1 rfl rfl hh.1 (idx_map encTWindow hx62) rfl (map_set encTWindow (l46.set n45.toNat x55) _ x57) (aops_nil ⟨rfl, rfl⟩)) rfl .nil)))))))))) (by kernel_rfl) ?_
            refine rn 6 rfl ?_
            exact jX ((w64 (n45 - 1)), ((l46.set n45.toNat x55).set (w64 (n45 - 1)).toNat x57)) h (ghost_ren 1 (fun i => ([0] : List Nat).getD i 0) _ _ (by decide) (EnvSub.get (.cons (Sub.ownE rfl rfl (by simp)) (.cons (Sub.imm (Imm.con _)) (.cons (Sub.imm (Imm.con _)) (.cons (Sub.imm (Imm.fn .nil .nil)) (.cons (Sub.imm (Imm.con _)) (.cons (Sub.imm (Imm.con _)) .nil))))))) (HpSub.get (.cons rfl (ObSub.rows (rows_imm imms_encTWindow)) .nil)) rfl)
          refine rn 1 rfl ?_
          exact jX l46 h (gr [0] rfl (hR rfl rfl .nil) rfl)
        refine dr mixed (vs 3 rfl (vb hb47 rfl (vs 13 rfl .nil))) (by kernel_rfl) ?_
        refine rn 2 rfl ?_
        exact jX l46 h (gr [0] rfl (hR rfl rfl .nil) rfl)
      intro l42 h
      refine rn 1 rfl ?_
      exact jX l42 h (gr [0] rfl (hR rfl rfl .nil) rfl)
    intro l40 h
    refine rn 5 rfl ?_
    exact jX ((w64 (n36 + 1)), l40) h (gr [0] rfl (hR rfl rfl .nil) rfl)
  refine rn 1 rfl ?_
  replace h := Option.some.inj h
  subst h
  exact wE ⟨.inr rfl, [], (gr [0] rfl (hR rfl rfl .nil) rfl), .nil⟩
theorem W137 (F : Nat) (a1 : Int) (a2 : Int) (a3 : Int) (a4 : List TWindow) (r : (List TWindow)) (h : M137 F a1 a2 a3 a4 = some r) : MutG gl Tryz.prog 137 [(V.own 0 a4.length), (iV a1), (iV a2), (iV a3), (V.fn (.func 56) [] [])] 1 [(0, (Ob.arr 34 6 (a4.map encTWindow)))] (resV []) 1 [(0, (Ob.arr 34 6 (r.map encTWindow)))] := by
  refine mut_enter Tryz.func137 rfl rfl (l := []) rfl rfl [(0, (V.own 0 a4.length)), (1, (iV a1)), (2, (iV a2)), (3, (iV a3)), (4, (V.fn (.func 56) [] []))] rfl (fun w0 m0 β0 hg => en ?_)
  unfold M137 at h
  refine rn 5 rfl ?_
  refine ck h (fun hA33 h => ?_)
  refine lC (fun (p : Int × (List TWindow)) => (⟨[(0, (V.own 0 (p.2).length)), (1, (iV a1)), (2, (iV a2)), (3, (iV a3)), (10, (iV (p.1)))], [(0, (Ob.arr 34 6 ((p.2).map encTWindow)))], 1⟩ : St)) (fun n (p : Int × (List TWindow)) => RC a3 (fun tl nn => M137_L1 F a1 a2 tl nn p.2 = some r) n p.1) (fun p h => RC.zero h) (Int.toNat a3 + 1) (0, a4) (RC.start h) (gr [0] rfl (hR rfl rfl .nil) rfl) (fun n p h => ?_)
  obtain ⟨n22, l23⟩ := p
  refine rn 7 rfl ?_
  refine spL rfl (fun hb24 => ?_) (fun hb24 => ?_)
  · obtain ⟨tl, h, hk1⟩ := RC.t hA33 h hb24
    unfold M137_L1 at h
    obtain ⟨x25, hx26, h⟩ := bind_some h
    obtain ⟨x27, hx28, h⟩ := bind_some h
    obtain ⟨x29, hx30, h⟩ := bind_some h
    obtain ⟨x31, hx32, h⟩ := bind_some h
    refine rn 3 rfl ?_
    refine dr mixed (vs 12 rfl (oD (a := l23) hx26 rfl rfl rfl rfl (lD hx26 rfl rfl rfl rfl rfl (vs 4 rfl (oD (a := l23) hx28 rfl rfl rfl rfl (lD hx28 rfl rfl rfl rfl rfl (oD (a := l23) hx30 rfl rfl rfl rfl (xD (OD.mk [(36, (V.ptr 0 6 (w64 (a1 + n22)).toNat 0)), (29, (V.agg (encTWindow x25)))] [(0, (Ob.arr 34 6 (l23.map encTWindow)))] [] [(0, (Ob.arr 34 6 ((l23.set (w64 (a1 + n22)).toNat x25).map encTWindow)))]) ⟨⟨rfl, rfl, trivial⟩, ⟨rfl, trivial⟩⟩ (by exact fun S hn h hh => aops_store (encTWindow x25) ((l23.set (w64 (a1 + n22)).toNat x25).map encTWindow) tS34 wants_none h.1 h.2.1 rfl rfl hh.1 (idx_map encTWindow hx30) rfl (map_set encTWindow l23 _ x25) (aops_nil ⟨rfl, rfl⟩)) rfl (xD (OD.mk [(20, (V.own 0 l23.length)), (23, (iV (w64 (a2 + n22))))] [] [(37, (V.ptr 0 6 (w64 (a2 + n22)).toNat 0))] []) ⟨⟨rfl, rfl, trivial⟩, trivial⟩ (by exact fun S hn h hh => aops_index_own tSl26 wants_none h.1 h.2.1 (idx_some hx32).1 (by simpa using idx_lt hx32) rfl (aops_nil ⟨rfl, rfl⟩)) rfl (xD (OD.mk [(37, (V.ptr 0 6 (w64 (a2 + n22)).toNat 0)), (35, (V.agg (encTWindow x27)))] [(0, (Ob.arr 34 6 ((l23.set (w64 (a1 + n22)).toNat x25).map encTWindow)))] [] [(0, (Ob.arr 34 6 (((l23.set (w64 (a1 + n22)).toNat x25).set (w64 (a2 + n22)).toNat x27).map encTWindow)))]) ⟨⟨rfl, rfl, trivial⟩, ⟨rfl, trivial⟩⟩ (by exact fun S hn h hh => aops_store (encTWindow x27) (((l23.set (w64 (a1 + n22)).toNat x25).set (w64 (a2 + n22)).toNat x27).map encTWindow) tS34 wants_none h.1 h.2.1 rfl rfl hh.1 (idx_map encTWindow hx32) rfl (map_set encTWindow (l23.set (w64 (a1 + n22)).toNat x25) _ x27) (aops_nil ⟨rfl, rfl⟩)) rfl .nil)))))))))) (by kernel_rfl) ?_
    refine rn 6 rfl ?_
    exact jX ((w64 (n22 + 1)), ((l23.set (w64 (a1 + n22)).toNat x25).set (w64 (a2 + n22)).toNat x27)) (hk1 _ h) (ghost_ren 1 (fun i => ([0] : List Nat).getD i 0) _ _ (by decide) (EnvSub.get (.cons (Sub.ownE rfl rfl (by simp)) (.cons (Sub.imm (Imm.con _)) (.cons (Sub.imm (Imm.con _)) (.cons (Sub.imm (Imm.con _)) (.cons (Sub.imm (Imm.con _)) .nil)))))) (HpSub.get (.cons rfl (ObSub.rows (rows_imm imms_encTWindow)) .nil)) rfl)
  replace h := RC.f h hb24
  unfold M137_L1 at h
  refine rn 1 rfl ?_
  replace h := Option.some.inj h
  subst h
  exact wE ⟨.inr rfl, [], (gr [0] rfl (hR rfl rfl .nil) rfl), .nil⟩
theorem W122 (F : Nat) (a1 : Int) (a2 : Int) (a3 : Int) (a4 : List TWindow) (r : (List TWindow)) (h : M122 F a1 a2 a3 a4 = some r) : MutG gl Tryz.prog 122 [(V.own 0 a4.length), (iV a1), (iV a2), (iV a3), (V.fn (.func 56) [] [])] 1 [(0, (Ob.arr 34 6 (a4.map encTWindow)))] (resV []) 1 [(0, (Ob.arr 34 6 (r.map encTWindow)))] := by
  refine mut_enter Tryz.func122 rfl rfl (l := []) rfl rfl [(0, (V.own 0 a4.length)), (1, (iV a1)), (2, (iV a2)), (3, (iV a3)), (4, (V.fn (.func 56) [] []))] rfl (fun w0 m0 β0 hg => en ?_)
  unfold M122 at h
  refine rn 15 rfl ?_
  refine jK h (fun (p : Int × (List TWindow)) => (⟨[(0, (V.own 0 (p.2).length)), (2, (iV a2)), (4, (V.fn (.func 56) [] [])), (10, (iV (p.1)))], [(0, (Ob.arr 34 6 ((p.2).map encTWindow)))], 1⟩ : St)) (fun k30 (p : Int × (List TWindow)) => k30 p.1 p.2 = some r) (fun k30 h => ?_) ?_
  · refine rn 1 rfl ?_
    refine lC (fun (p : Int × Int × (List TWindow)) => (⟨[(0, (V.own 0 (p.2.2).length)), (2, (iV a2)), (4, (V.fn (.func 56) [] [])), (10, (iV (p.1))), (11, (iV (p.2.1)))], [(0, (Ob.arr 34 6 ((p.2.2).map encTWindow)))], 1⟩ : St)) (fun n (p : Int × Int × (List TWindow)) => M122_L1 F a2 k30 n p.1 p.2.1 p.2.2 = some r) (fun p h => by simp [M122_L1] at h) F ((w64 (a2 - a1)), (w64 (a3 - a2)), a4) h (gr [0] rfl (hR rfl rfl .nil) rfl) (fun n p h => ?_)
    obtain ⟨n36, n37, l38⟩ := p
    unfold M122_L1 at h
    refine rn 7 rfl ?_
    refine spC h rfl (fun hb39 h => ?_) (fun hb39 h => ?_)
    · refine rn 8 rfl ?_
      refine jK h (fun (p : Int × Int × (List TWindow)) => (⟨[(0, (V.own 0 (p.2.2).length)), (2, (iV a2)), (4, (V.fn (.func 56) [] [])), (10, (iV (p.1))), (11, (iV (p.2.1)))], [(0, (Ob.arr 34 6 ((p.2.2).map encTWindow)))], 1⟩ : St)) (fun k40 (p : Int × Int × (List TWindow)) => k40 p.1 p.2.1 p.2.2 = some r) (fun k40 h => ?_) ?_
      · refine spC h rfl (fun hb44 h => ?_) (fun hb44 h => ?_)
        · obtain ⟨y45, hx46, h⟩ := bind_some h
          refine rn 9 rfl ?_
          refine ck h (fun hc47 h => ?_)
          refine aops_mcallS (V.tup []) [(V.own 0 l38.length), (iV (w64 (a2 - n36))), (iV a2), (iV n37), (V.fn (.func 56) [] [])] (fun i => ([0] : List Nat).getD i 0) (fun i => ([0] : List Nat).getD i 0) 1 1 [(0, (Ob.arr 34 6 (y45.map encTWindow)))] fOk137 wants_none rfl (evm_cons rfl (evm_cons rfl (evm_cons rfl (evm_cons rfl (evm_cons rfl evm_nil))))) (.cons (Sub.own rfl rfl) (.cons (Sub.imm (Imm.con _)) (.cons (Sub.imm (Imm.con _)) (.cons (Sub.imm (Imm.con _)) (.cons (Sub.imm (Imm.fn .nil .nil)) .nil))))) (.cons rfl (ObSub.rows (rows_imm imms_encTWindow)) .nil) (W137 F (w64 (a2 - n36)) a2 n37 l38 y45 hx46) rfl rfl rfl rfl (Sub.immT (Imm.tup .nil)) (.cons rfl (ObSub.rowsT (rows_imm imms_encTWindow)) .nil) _ rfl ?_
          refine aops_ghost (ghost_tell 0 (V.own 0 y45.length) rfl (Sub.ownI hc47)) ?_
          refine aops_ghost (ghost_tell 24 (V.own 0 y45.length) rfl (Sub.ownI hc47)) ?_
          refine fo (rn 7 rfl ?_)
          exact jX ((w64 (n36 - n37)), n37, y45) h (gr [0] rfl (hR rfl rfl .nil) rfl)
        obtain ⟨y48, hx49, h⟩ := bind_some h
        refine rn 13 rfl ?_
        refine ck h (fun hc50 h => ?_)
        refine aops_mcallS (V.tup []) [(V.own 0 l38.length), (iV (w64 (a2 - n36))), (iV (w64 ((w64 (a2 + n37)) - n36))), (iV n36), (V.fn (.func 56) [] [])] (fun i => ([0] : List Nat).getD i 0) (fun i => ([0] : List Nat).getD i 0) 1 1 [(0, (Ob.arr 34 6 (y48.map encTWindow)))] fOk137 wants_none rfl (evm_cons rfl (evm_cons rfl (evm_cons rfl (evm_cons rfl (evm_cons rfl evm_nil))))) (.cons (Sub.own rfl rfl) (.cons (Sub.imm (Imm.con _)) (.cons (Sub.imm (Imm.con _)) (.cons (Sub.imm (Imm.con _)) (.cons (Sub.imm (Imm.fn .nil .nil)) .nil))))) (.cons rfl (ObSub.rows (rows_imm imms_encTWindow)) .nil) (W137 F (w64 (a2 - n36)) (w64 ((w64 (a2 + n37)) - n36)) n36 l38 y48 hx49) rfl rfl rfl rfl (Sub.immT (Imm.tup .nil)) (.cons rfl (ObSub.rowsT (rows_imm imms_encTWindow)) .nil) _ rfl ?_
        refine aops_ghost (ghost_tell 0 (V.own 0 y48.length) rfl (Sub.ownI hc50)) ?_
        refine aops_ghost (ghost_tell 35 (V.own 0 y48.length) rfl (Sub.ownI hc50)) ?_
        refine fo (rn 7 rfl ?_)
        exact jX (n36, (w64 (n37 - n36)), y48) h (gr [0] rfl (hR rfl rfl .nil) rfl)
      rintro ⟨n41, n42, l43⟩ h
      refine rn 1 rfl ?_
      exact jX (n41, n42, l43) h (gr [0] rfl (hR rfl rfl .nil) rfl)
    refine rn 1 rfl ?_
    exact jX (n36, l38) h (gr [0] rfl (hR rfl rfl .nil) rfl)
  rintro ⟨n31, l32⟩ h
  obtain ⟨y51, hx52, h⟩ := bind_some h
  refine rn 8 rfl ?_
  refine ck h (fun hc53 h => ?_)
  refine aops_mcallS (V.tup []) [(V.own 0 l32.length), (iV (w64 (a2 - n31))), (iV a2), (iV n31), (V.fn (.func 56) [] [])] (fun i => ([0] : List Nat).getD i 0) (fun i => ([0] : List Nat).getD i 0) 1 1 [(0, (Ob.arr 34 6 (y51.map encTWindow)))] fOk137 wants_none rfl (evm_cons rfl (evm_cons rfl (evm_cons rfl (evm_cons rfl (evm_cons rfl evm_nil))))) (.cons (Sub.own rfl rfl) (.cons (Sub.imm (Imm.con _)) (.cons (Sub.imm (Imm.con _)) (.cons (Sub.imm (Imm.con _)) (.cons (Sub.imm (Imm.fn .nil .nil)) .nil))))) (.cons rfl (ObSub.rows (rows_imm imms_encTWindow)) .nil) (W137 F (w64 (a2 - n31)) a2 n31 l32 y51 hx52) rfl rfl rfl rfl (Sub.immT (Imm.tup .nil)) (.cons rfl (ObSub.rowsT (rows_imm imms_encTWindow)) .nil) _ rfl ?_
  refine aops_ghost (ghost_tell 0 (V.own 0 y51.length) rfl (Sub.ownI hc53)) ?_
  refine aops_ghost (ghost_tell 50 (V.own 0 y51.length) rfl (Sub.ownI hc53)) ?_
  refine fo (rn 1 rfl ?_)
  replace h := Option.some.inj h
  subst h
  exact wE ⟨.inr rfl, [], (gr [0] rfl (hR rfl rfl .nil) rfl), .nil⟩
theorem W108_B (R108 : Int → Int → Int → (List TWindow) → Option (List TWindow)) (hR108 : ∀ (a1 : Int) (a2 : Int) (a3 : Int) (a4 : List TWindow) (r : (List TWindow)), R108 a1 a2 a3 a4 = some r → MutG gl Tryz.prog 108 [(V.own 0 a4.length), (iV a1), (iV a2), (iV a3), (V.fn (.func 56) [] [])] 1 [(0, (Ob.arr 34 6 (a4.map encTWindow)))] (resV []) 1 [(0, (Ob.arr 34 6 (r.map encTWindow)))]) (F : Nat) (a1 : Int) (a2 : Int) (a3 : Int) (a4 : List TWindow) (r : (List TWindow)) (h : M108_B R108 F a1 a2 a3 a4 = some r) : MutG gl Tryz.prog 108 [(V.own 0 a4.length), (iV a1), (iV a2), (iV a3), (V.fn (.func 56) [] [])] 1 [(0, (Ob.arr 34 6 (a4.map encTWindow)))] (resV []) 1 [(0, (Ob.arr 34 6 (r.map encTWindow)))] := by
  refine mut_enter Tryz.func108 rfl rfl (l := []) rfl rfl [(0, (V.own 0 a4.length)), (1, (iV a1)), (2, (iV a2)), (3, (iV a3)), (4, (V.fn (.func 56) [] []))] rfl (fun w0 m0 β0 hg => en ?_)
  unfold M108_B at h
  refine rn 8 rfl ?_
  refine spC h rfl (fun hb134 h => ?_) (fun hb134 h => ?_)
  · refine rn 11 rfl ?_
    refine jK h (fun (p : Int) => (⟨[(0, (V.own 0 a4.length)), (1, (iV a1)), (10, (iV p))], [(0, (Ob.arr 34 6 (a4.map encTWindow)))], 1⟩ : St)) (fun k135 (p : Int) => k135 p = some r) (fun k135 h => ?_) ?_
    · refine rn 1 rfl ?_
      refine lC (fun (p : Int × Int) => (⟨[(0, (V.own 0 a4.length)), (1, (iV a1)), (4, (V.fn (.func 56) [] [])), (10, (iV (p.1))), (11, (iV (p.2)))], [(0, (Ob.arr 34 6 (a4.map encTWindow)))], 1⟩ : St)) (fun n (p : Int × Int) => M108_L1 F a1 a4 k135 n p.1 p.2 = some r) (fun p h => by simp [M108_L1] at h) F (a2, a3) h (gr [0] rfl (hR rfl rfl .nil) rfl) (fun n p h => ?_)
      obtain ⟨n139, n140⟩ := p
      unfold M108_L1 at h
      refine rn 7 rfl ?_
      refine spC h rfl (fun hb141 h => ?_) (fun hb141 h => ?_)
      · obtain ⟨x142, hx143, h⟩ := bind_some h
        obtain ⟨x144, hx145, h⟩ := bind_some h
        obtain ⟨y146, hx147, h⟩ := bind_some h
        refine rn 13 rfl ?_
        refine dr mixed (vs 3 rfl (oD (a := a4) hx143 rfl rfl rfl rfl (lD hx143 rfl rfl rfl rfl rfl (vs 2 rfl (oD (a := a4) hx145 rfl rfl rfl rfl (lD hx145 rfl rfl rfl rfl rfl (cD rfl rfl rfl rfl (W56 _ _ _ _ hx147) rfl (vs 1 rfl .nil)))))))) (by kernel_rfl) ?_
        refine jK h (fun (p : Int × Int) => (⟨[(0, (V.own 0 a4.length)), (1, (iV a1)), (4, (V.fn (.func 56) [] [])), (10, (iV (p.1))), (11, (iV (p.2)))], [(0, (Ob.arr 34 6 (a4.map encTWindow)))], 1⟩ : St)) (fun k148 (p : Int × Int) => k148 p.1 p.2 = some r) (fun k148 h => ?_) ?_
        · refine spC h rfl (fun hb151 h => ?_) (fun hb151 h => ?_)
          · refine rn 5 rfl ?_
            exact jX ((w64 ((w64 (Int.fdiv (IntKind.wrap .u64 (w64 (n139 + n140))) (2 ^ (min (Int.toNat 1) (IntKind.bits .u64))))) + 1)), n140) h (gr [0] rfl (hR rfl rfl .nil) rfl)
          refine rn 4 rfl ?_
          exact jX (n139, (w64 (Int.fdiv (IntKind.wrap .u64 (w64 (n139 + n140))) (2 ^ (min (Int.toNat 1) (IntKind.bits .u64)))))) h (gr [0] rfl (hR rfl rfl .nil) rfl)
        rintro ⟨n149, n150⟩ h
        refine rn 1 rfl ?_
        exact jX (n149, n150) h (gr [0] rfl (hR rfl rfl .nil) rfl)
      refine rn 1 rfl ?_
      exact jX n139 h (gr [0] rfl (hR rfl rfl .nil) rfl)
    intro n136 h
    refine rn 6 rfl ?_
    refine jK h (fun (p : (List TWindow)) => (⟨[], [(0, (Ob.arr 34 6 (p.map encTWindow)))], 1⟩ : St)) (fun k152 (p : (List TWindow)) => k152 p = some r) (fun k152 h => ?_) ?_
    · refine rn 1 rfl ?_
      refine lC (fun (p : Int × (List TWindow)) => (⟨[(0, (V.own 0 (p.2).length)), (10, (iV n136)), (13, (iV (p.1)))], [(0, (Ob.arr 34 6 ((p.2).map encTWindow)))], 1⟩ : St)) (fun n (p : Int × (List TWindow)) => M108_L2 F n136 k152 n p.1 p.2 = some r) (fun p h => by simp [M108_L2] at h) F (a1, a4) h (gr [0] rfl (hR rfl rfl .nil) rfl) (fun n p h => ?_)
      obtain ⟨n156, l157⟩ := p
      unfold M108_L2 at h
      refine rn 8 rfl ?_
      refine spC h rfl (fun hb158 h => ?_) (fun hb158 h => ?_)
      · obtain ⟨x159, hx160, h⟩ := bind_some h
        obtain ⟨x161, hx162, h⟩ := bind_some h
        obtain ⟨x163, hx164, h⟩ := bind_some h
        obtain ⟨x165, hx166, h⟩ := bind_some h
        refine rn 3 rfl ?_
        refine dr mixed (vs 8 rfl (oD (a := l157) hx160 rfl rfl rfl rfl (lD hx160 rfl rfl rfl rfl rfl (vs 2 rfl (oD (a := l157) hx162 rfl rfl rfl rfl (lD hx162 rfl rfl rfl rfl rfl (oD (a := l157) hx164 rfl rfl rfl rfl (xD (OD.mk [(75, (V.ptr 0 6 n156.toNat 0)), (70, (V.agg (encTWindow x159)))] [(0, (Ob.arr 34 6 (l157.map encTWindow)))] [] [(0, (Ob.arr 34 6 ((l157.set n156.toNat x159).map encTWindow)))]) ⟨⟨rfl, rfl, trivial⟩, ⟨rfl, trivial⟩⟩ (by exact fun S hn h hh => aops_store (encTWindow x159) ((l157.set n156.toNat x159).map encTWindow) tS34 wants_none h.1 h.2.1 rfl rfl hh.1 (idx_map encTWindow hx164) rfl (map_set encTWindow l157 _ x159) (aops_nil ⟨rfl, rfl⟩)) rfl (xD (OD.mk [(63, (V.own 0 l157.length)), (65, (iV (w64 (n156 + 1))))] [] [(76, (V.ptr 0 6 (w64 (n156 + 1)).toNat 0))] []) ⟨⟨rfl, rfl, trivial⟩, trivial⟩ (by exact fun S hn h hh => aops_index_own tSl26 wants_none h.1 h.2.1 (idx_some hx166).1 (by simpa using idx_lt hx166) rfl (aops_nil ⟨rfl, rfl⟩)) rfl (xD (OD.mk [(76, (V.ptr 0 6 (w64 (n156 + 1)).toNat 0)), (74, (V.agg (encTWindow x161)))] [(0, (Ob.arr 34 6 ((l157.set n156.toNat x159).map encTWindow)))] [] [(0, (Ob.arr 34 6 (((l157.set n156.toNat x159).set (w64 (n156 + 1)).toNat x161).map encTWindow)))]) ⟨⟨rfl, rfl, trivial⟩, ⟨rfl, trivial⟩⟩ (by exact fun S hn h hh => aops_store (encTWindow x161) (((l157.set n156.toNat x159).set (w64 (n156 + 1)).toNat x161).map encTWindow) tS34 wants_none h.1 h.2.1 rfl rfl hh.1 (idx_map encTWindow hx166) rfl (map_set encTWindow (l157.set n156.toNat x159) _ x161) (aops_nil ⟨rfl, rfl⟩)) rfl .nil)))))))))) (by kernel_rfl) ?_
        refine rn 6 rfl ?_
        exact jX ((w64 (n156 + 1)), ((l157.set n156.toNat x159).set (w64 (n156 + 1)).toNat x161)) h (ghost_ren 1 (fun i => ([0] : List Nat).getD i 0) _ _ (by decide) (EnvSub.get (.cons (Sub.ownE rfl rfl (by simp)) (.cons (Sub.imm (Imm.con _)) (.cons (Sub.imm (Imm.con _)) .nil)))) (HpSub.get (.cons rfl (ObSub.rows (rows_imm imms_encTWindow)) .nil)) rfl)
      refine rn 1 rfl ?_
      exact jX l157 h (gr [0] rfl (hR rfl rfl .nil) rfl)
    intro l153 h
    replace h := Option.some.inj h
    subst h
    exact wR ⟨.inl rfl, [], (gr [0] rfl (hR rfl rfl .nil) rfl), .nil⟩
  refine rn 9 rfl ?_
  refine spC h rfl (fun hb167 h => ?_) (fun hb167 h => ?_)
  · refine rn 11 rfl ?_
    refine jK h (fun (p : Int) => (⟨[(0, (V.own 0 a4.length)), (2, (iV a2)), (14, (iV p))], [(0, (Ob.arr 34 6 (a4.map encTWindow)))], 1⟩ : St)) (fun k168 (p : Int) => k168 p = some r) (fun k168 h => ?_) ?_
    · refine rn 1 rfl ?_
      refine lC (fun (p : Int × Int) => (⟨[(0, (V.own 0 a4.length)), (2, (iV a2)), (4, (V.fn (.func 56) [] [])), (14, (iV (p.1))), (15, (iV (p.2)))], [(0, (Ob.arr 34 6 (a4.map encTWindow)))], 1⟩ : St)) (fun n (p : Int × Int) => M108_L3 F a2 a4 k168 n p.1 p.2 = some r) (fun p h => by simp [M108_L3] at h) F (a1, a2) h (gr [0] rfl (hR rfl rfl .nil) rfl) (fun n p h => ?_)
      obtain ⟨n172, n173⟩ := p
      unfold M108_L3 at h
      refine rn 7 rfl ?_
      refine spC h rfl (fun hb174 h => ?_) (fun hb174 h => ?_)
      · obtain ⟨x175, hx176, h⟩ := bind_some h
        obtain ⟨x177, hx178, h⟩ := bind_some h
        obtain ⟨y179, hx180, h⟩ := bind_some h
        refine rn 13 rfl ?_
        refine dr mixed (vs 3 rfl (oD (a := a4) hx176 rfl rfl rfl rfl (lD hx176 rfl rfl rfl rfl rfl (vs 2 rfl (oD (a := a4) hx178 rfl rfl rfl rfl (lD hx178 rfl rfl rfl rfl rfl (cD rfl rfl rfl rfl (W56 _ _ _ _ hx180) rfl (vs 2 rfl .nil)))))))) (by kernel_rfl) ?_
        refine jK h (fun (p : Int × Int) => (⟨[(0, (V.own 0 a4.length)), (2, (iV a2)), (4, (V.fn (.func 56) [] [])), (14, (iV (p.1))), (15, (iV (p.2)))], [(0, (Ob.arr 34 6 (a4.map encTWindow)))], 1⟩ : St)) (fun k181 (p : Int × Int) => k181 p.1 p.2 = some r) (fun k181 h => ?_) ?_
        · refine spC h rfl (fun hb184 h => ?_) (fun hb184 h => ?_)
          · refine rn 5 rfl ?_
            exact jX ((w64 ((w64 (Int.fdiv (IntKind.wrap .u64 (w64 (n172 + n173))) (2 ^ (min (Int.toNat 1) (IntKind.bits .u64))))) + 1)), n173) h (gr [0] rfl (hR rfl rfl .nil) rfl)
          refine rn 4 rfl ?_
          exact jX (n172, (w64 (Int.fdiv (IntKind.wrap .u64 (w64 (n172 + n173))) (2 ^ (min (Int.toNat 1) (IntKind.bits .u64)))))) h (gr [0] rfl (hR rfl rfl .nil) rfl)
        rintro ⟨n182, n183⟩ h
        refine rn 1 rfl ?_
        exact jX (n182, n183) h (gr [0] rfl (hR rfl rfl .nil) rfl)
      refine rn 1 rfl ?_
      exact jX n172 h (gr [0] rfl (hR rfl rfl .nil) rfl)
    intro n169 h
    refine rn 6 rfl ?_
    refine jK h (fun (p : (List TWindow)) => (⟨[], [(0, (Ob.arr 34 6 (p.map encTWindow)))], 1⟩ : St)) (fun k185 (p : (List TWindow)) => k185 p = some r) (fun k185 h => ?_) ?_
    · refine rn 1 rfl ?_
      refine lC (fun (p : Int × (List TWindow)) => (⟨[(0, (V.own 0 (p.2).length)), (14, (iV n169)), (17, (iV (p.1)))], [(0, (Ob.arr 34 6 ((p.2).map encTWindow)))], 1⟩ : St)) (fun n (p : Int × (List TWindow)) => M108_L4 F n169 k185 n p.1 p.2 = some r) (fun p h => by simp [M108_L4] at h) F (a2, a4) h (gr [0] rfl (hR rfl rfl .nil) rfl) (fun n p h => ?_)
      obtain ⟨n189, l190⟩ := p
      unfold M108_L4 at h
      refine rn 7 rfl ?_
      refine spC h rfl (fun hb191 h => ?_) (fun hb191 h => ?_)
      · obtain ⟨x192, hx193, h⟩ := bind_some h
        obtain ⟨x194, hx195, h⟩ := bind_some h
        obtain ⟨x196, hx197, h⟩ := bind_some h
        obtain ⟨x198, hx199, h⟩ := bind_some h
        refine rn 3 rfl ?_
        refine dr mixed (vs 8 rfl (oD (a := l190) hx193 rfl rfl rfl rfl (lD hx193 rfl rfl rfl rfl rfl (vs 2 rfl (oD (a := l190) hx195 rfl rfl rfl rfl (lD hx195 rfl rfl rfl rfl rfl (oD (a := l190) hx197 rfl rfl rfl rfl (xD (OD.mk [(127, (V.ptr 0 6 n189.toNat 0)), (122, (V.agg (encTWindow x192)))] [(0, (Ob.arr 34 6 (l190.map encTWindow)))] [] [(0, (Ob.arr 34 6 ((l190.set n189.toNat x192).map encTWindow)))]) ⟨⟨rfl, rfl, trivial⟩, ⟨rfl, trivial⟩⟩ (by exact fun S hn h hh => aops_store (encTWindow x192) ((l190.set n189.toNat x192).map encTWindow) tS34 wants_none h.1 h.2.1 rfl rfl hh.1 (idx_map encTWindow hx197) rfl (map_set encTWindow l190 _ x192) (aops_nil ⟨rfl, rfl⟩)) rfl (xD (OD.mk [(115, (V.own 0 l190.length)), (117, (iV (w64 (n189 - 1))))] [] [(128, (V.ptr 0 6 (w64 (n189 - 1)).toNat 0))] []) ⟨⟨rfl, rfl, trivial⟩, trivial⟩ (by exact fun S hn h hh => aops_index_own tSl26 wants_none h.1 h.2.1 (idx_some hx199).1 (by simpa using idx_lt hx199) rfl (aops_nil ⟨rfl, rfl⟩)) rfl (xD (OD.mk [(128, (V.ptr 0 6 (w64 (n189 - 1)).toNat 0)), (126, (V.agg (encTWindow x194)))] [(0, (Ob.arr 34 6 ((l190.set n189.toNat x192).map encTWindow)))] [] [(0, (Ob.arr 34 6 (((l190.set n189.toNat x192).set (w64 (n189 - 1)).toNat x194).map encTWindow)))]) ⟨⟨rfl, rfl, trivial⟩, ⟨rfl, trivial⟩⟩ (by exact fun S hn h hh => aops_store (encTWindow x194) (((l190.set n189.toNat x192).set (w64 (n189 - 1)).toNat x194).map encTWindow) tS34 wants_none h.1 h.2.1 rfl rfl hh.1 (idx_map encTWindow hx199) rfl (map_set encTWindow (l190.set n189.toNat x192) _ x194) (aops_nil ⟨rfl, rfl⟩)) rfl .nil)))))))))) (by kernel_rfl) ?_
        refine rn 6 rfl ?_
        exact jX ((w64 (n189 - 1)), ((l190.set n189.toNat x192).set (w64 (n189 - 1)).toNat x194)) h (ghost_ren 1 (fun i => ([0] : List Nat).getD i 0) _ _ (by decide) (EnvSub.get (.cons (Sub.ownE rfl rfl (by simp)) (.cons (Sub.imm (Imm.con _)) (.cons (Sub.imm (Imm.con _)) .nil)))) (HpSub.get (.cons rfl (ObSub.rows (rows_imm imms_encTWindow)) .nil)) rfl)
      refine rn 1 rfl ?_
      exact jX l190 h (gr [0] rfl (hR rfl rfl .nil) rfl)
    intro l186 h
    replace h := Option.some.inj h
    subst h
    exact wR ⟨.inl rfl, [], (gr [0] rfl (hR rfl rfl .nil) rfl), .nil⟩
  refine rn 30 rfl ?_
  refine jK h (fun (p : Int × Int) => (⟨[(0, (V.own 0 a4.length)), (1, (iV a1)), (2, (iV a2)), (3, (iV a3)), (4, (V.fn (.func 56) [] [])), (18, (iV (w64 (Int.fdiv (IntKind.wrap .u64 (w64 (a1 + a3))) (2 ^ (min (Int.toNat 1) (IntKind.bits .u64))))))), (19, (iV (w64 ((w64 (Int.fdiv (IntKind.wrap .u64 (w64 (a1 + a3))) (2 ^ (min (Int.toNat 1) (IntKind.bits .u64))))) + a2)))), (20, (iV (p.1))), (21, (iV (p.2)))], [(0, (Ob.arr 34 6 (a4.map encTWindow)))], 1⟩ : St)) (fun k200 (p : Int × Int) => k200 p.1 p.2 = some r) (fun k200 h => ?_) ?_
  · refine spC h rfl (fun hb203 h => ?_) (fun hb203 h => ?_)
    · refine rn 11 rfl ?_
      exact jX ((w64 ((w64 ((w64 (Int.fdiv (IntKind.wrap .u64 (w64 (a1 + a3))) (2 ^ (min (Int.toNat 1) (IntKind.bits .u64))))) + a2)) - a3)), (w64 (Int.fdiv (IntKind.wrap .u64 (w64 (a1 + a3))) (2 ^ (min (Int.toNat 1) (IntKind.bits .u64)))))) h (gr [0] rfl (hR rfl rfl .nil) rfl)
    refine rn 9 rfl ?_
    exact jX (a1, a2) h (gr [0] rfl (hR rfl rfl .nil) rfl)
  rintro ⟨n201, n202⟩ h
  refine rn 7 rfl ?_
  refine jK h (fun (p : Int) => (⟨[(0, (V.own 0 a4.length)), (1, (iV a1)), (2, (iV a2)), (3, (iV a3)), (4, (V.fn (.func 56) [] [])), (18, (iV (w64 (Int.fdiv (IntKind.wrap .u64 (w64 (a1 + a3))) (2 ^ (min (Int.toNat 1) (IntKind.bits .u64))))))), (19, (iV (w64 ((w64 (Int.fdiv (IntKind.wrap .u64 (w64 (a1 + a3))) (2 ^ (min (Int.toNat 1) (IntKind.bits .u64))))) + a2)))), (20, (iV p))], [(0, (Ob.arr 34 6 (a4.map encTWindow)))], 1⟩ : St)) (fun k204 (p : Int) => k204 p = some r) (fun k204 h => ?_) ?_
  · refine rn 1 rfl ?_
    refine lC (fun (p : Int × Int) => (⟨[(0, (V.own 0 a4.length)), (1, (iV a1)), (2, (iV a2)), (3, (iV a3)), (4, (V.fn (.func 56) [] [])), (18, (iV (w64 (Int.fdiv (IntKind.wrap .u64 (w64 (a1 + a3))) (2 ^ (min (Int.toNat 1) (IntKind.bits .u64))))))), (19, (iV (w64 ((w64 (Int.fdiv (IntKind.wrap .u64 (w64 (a1 + a3))) (2 ^ (min (Int.toNat 1) (IntKind.bits .u64))))) + a2)))), (20, (iV (p.1))), (21, (iV (p.2))), (22, (iV (w64 ((w64 ((w64 (Int.fdiv (IntKind.wrap .u64 (w64 (a1 + a3))) (2 ^ (min (Int.toNat 1) (IntKind.bits .u64))))) + a2)) - 1))))], [(0, (Ob.arr 34 6 (a4.map encTWindow)))], 1⟩ : St)) (fun n (p : Int × Int) => M108_L5 F a1 a2 a3 a4 k204 n p.1 p.2 = some r) (fun p h => by simp [M108_L5] at h) F (n201, n202) h (gr [0] rfl (hR rfl rfl .nil) rfl) (fun n p h => ?_)
    obtain ⟨n208, n209⟩ := p
    unfold M108_L5 at h
    refine rn 7 rfl ?_
    refine spC h rfl (fun hb210 h => ?_) (fun hb210 h => ?_)
    · obtain ⟨x211, hx212, h⟩ := bind_some h
      obtain ⟨x213, hx214, h⟩ := bind_some h
      obtain ⟨y215, hx216, h⟩ := bind_some h
      refine rn 13 rfl ?_
      refine dr mixed (vs 5 rfl (oD (a := a4) hx212 rfl rfl rfl rfl (lD hx212 rfl rfl rfl rfl rfl (vs 2 rfl (oD (a := a4) hx214 rfl rfl rfl rfl (lD hx214 rfl rfl rfl rfl rfl (cD rfl rfl rfl rfl (W56 _ _ _ _ hx216) rfl (vs 2 rfl .nil)))))))) (by kernel_rfl) ?_
      refine jK h (fun (p : Int × Int) => (⟨[(0, (V.own 0 a4.length)), (1, (iV a1)), (2, (iV a2)), (3, (iV a3)), (4, (V.fn (.func 56) [] [])), (18, (iV (w64 (Int.fdiv (IntKind.wrap .u64 (w64 (a1 + a3))) (2 ^ (min (Int.toNat 1) (IntKind.bits .u64))))))), (19, (iV (w64 ((w64 (Int.fdiv (IntKind.wrap .u64 (w64 (a1 + a3))) (2 ^ (min (Int.toNat 1) (IntKind.bits .u64))))) + a2)))), (20, (iV (p.1))), (21, (iV (p.2))), (22, (iV (w64 ((w64 ((w64 (Int.fdiv (IntKind.wrap .u64 (w64 (a1 + a3))) (2 ^ (min (Int.toNat 1) (IntKind.bits .u64))))) + a2)) - 1))))], [(0, (Ob.arr 34 6 (a4.map encTWindow)))], 1⟩ : St)) (fun k217 (p : Int × Int) => k217 p.1 p.2 = some r) (fun k217 h => ?_) ?_
      · refine spC h rfl (fun hb220 h => ?_) (fun hb220 h => ?_)
        · refine rn 5 rfl ?_
          exact jX ((w64 ((w64 (Int.fdiv (IntKind.wrap .u64 (w64 (n208 + n209))) (2 ^ (min (Int.toNat 1) (IntKind.bits .u64))))) + 1)), n209) h (gr [0] rfl (hR rfl rfl .nil) rfl)
        refine rn 4 rfl ?_
        exact jX (n208, (w64 (Int.fdiv (IntKind.wrap .u64 (w64 (n208 + n209))) (2 ^ (min (Int.toNat 1) (IntKind.bits .u64)))))) h (gr [0] rfl (hR rfl rfl .nil) rfl)
      rintro ⟨n218, n219⟩ h
      refine rn 1 rfl ?_
      exact jX (n218, n219) h (gr [0] rfl (hR rfl rfl .nil) rfl)
    refine rn 1 rfl ?_
    exact jX n208 h (gr [0] rfl (hR rfl rfl .nil) rfl)
  intro n205 h
  refine rn 14 rfl ?_
  refine spO 181 h rfl (fun hb221 h => ?_) (fun hb221 h => ?_)
  · refine rn 5 rfl ?_
    refine jK h (fun (p : (List TWindow)) => (⟨[(0, (V.own 0 p.length)), (1, (iV a1)), (3, (iV a3)), (4, (V.fn (.func 56) [] [])), (18, (iV (w64 (Int.fdiv (IntKind.wrap .u64 (w64 (a1 + a3))) (2 ^ (min (Int.toNat 1) (IntKind.bits .u64))))))), (20, (iV n205)), (24, (iV (w64 ((w64 ((w64 (Int.fdiv (IntKind.wrap .u64 (w64 (a1 + a3))) (2 ^ (min (Int.toNat 1) (IntKind.bits .u64))))) + a2)) - n205))))], [(0, (Ob.arr 34 6 (p.map encTWindow)))], 1⟩ : St)) (fun k222 (p : (List TWindow)) => k222 p = some r) (fun k222 h => ?_) ?_
    · refine spC h rfl (fun hb224 h => ?_) (fun hb224 h => ?_)
      · obtain ⟨y225, hx226, h⟩ := bind_some h
        refine rn 6 rfl ?_
        refine ck h (fun hc227 h => ?_)
        refine aops_mcallS (V.tup []) [(V.own 0 a4.length), (iV n205), (iV a2), (iV (w64 ((w64 ((w64 (Int.fdiv (IntKind.wrap .u64 (w64 (a1 + a3))) (2 ^ (min (Int.toNat 1) (IntKind.bits .u64))))) + a2)) - n205))), (V.fn (.func 56) [] [])] (fun i => ([0] : List Nat).getD i 0) (fun i => ([0] : List Nat).getD i 0) 1 1 [(0, (Ob.arr 34 6 (y225.map encTWindow)))] fOk122 wants_none rfl (evm_cons rfl (evm_cons rfl (evm_cons rfl (evm_cons rfl (evm_cons rfl evm_nil))))) (.cons (Sub.own rfl rfl) (.cons (Sub.imm (Imm.con _)) (.cons (Sub.imm (Imm.con _)) (.cons (Sub.imm (Imm.con _)) (.cons (Sub.imm (Imm.fn .nil .nil)) .nil))))) (.cons rfl (ObSub.rows (rows_imm imms_encTWindow)) .nil) (W122 F n205 a2 (w64 ((w64 ((w64 (Int.fdiv (IntKind.wrap .u64 (w64 (a1 + a3))) (2 ^ (min (Int.toNat 1) (IntKind.bits .u64))))) + a2)) - n205)) a4 y225 hx226) rfl rfl rfl rfl (Sub.immT (Imm.tup .nil)) (.cons rfl (ObSub.rowsT (rows_imm imms_encTWindow)) .nil) _ rfl ?_
        refine aops_ghost (ghost_tell 0 (V.own 0 y225.length) rfl (Sub.ownI hc227)) ?_
        refine aops_ghost (ghost_tell 186 (V.own 0 y225.length) rfl (Sub.ownI hc227)) ?_
        refine fo (rn 1 rfl ?_)
        exact jX y225 h (gr [0] rfl (hR rfl rfl .nil) rfl)
      refine rn 1 rfl ?_
      exact jX a4 h (gr [0] rfl (hR rfl rfl .nil) rfl)
    intro l223 h
    refine rn 7 rfl ?_
    refine spO 195 h rfl (fun hb228 h => ?_) (fun hb228 h => ?_)
    · refine rn 5 rfl ?_
      refine jK h (fun (p : (List TWindow)) => (⟨[(0, (V.own 0 p.length)), (3, (iV a3)), (4, (V.fn (.func 56) [] [])), (18, (iV (w64 (Int.fdiv (IntKind.wrap .u64 (w64 (a1 + a3))) (2 ^ (min (Int.toNat 1) (IntKind.bits .u64))))))), (24, (iV (w64 ((w64 ((w64 (Int.fdiv (IntKind.wrap .u64 (w64 (a1 + a3))) (2 ^ (min (Int.toNat 1) (IntKind.bits .u64))))) + a2)) - n205))))], [(0, (Ob.arr 34 6 (p.map encTWindow)))], 1⟩ : St)) (fun k229 (p : (List TWindow)) => k229 p = some r) (fun k229 h => ?_) ?_
      · refine spC h rfl (fun hb231 h => ?_) (fun hb231 h => ?_)
        · obtain ⟨y232, hx233, h⟩ := bind_some h
          refine rn 6 rfl ?_
          refine ck h (fun hc234 h => ?_)
          refine aops_mcallS (V.tup []) [(V.own 0 l223.length), (iV a1), (iV n205), (iV (w64 (Int.fdiv (IntKind.wrap .u64 (w64 (a1 + a3))) (2 ^ (min (Int.toNat 1) (IntKind.bits .u64)))))), (V.fn (.func 56) [] [])] (fun i => ([0] : List Nat).getD i 0) (fun i => ([0] : List Nat).getD i 0) 1 1 [(0, (Ob.arr 34 6 (y232.map encTWindow)))] fOk108 wants_none rfl (evm_cons rfl (evm_cons rfl (evm_cons rfl (evm_cons rfl (evm_cons rfl evm_nil))))) (.cons (Sub.own rfl rfl) (.cons (Sub.imm (Imm.con _)) (.cons (Sub.imm (Imm.con _)) (.cons (Sub.imm (Imm.con _)) (.cons (Sub.imm (Imm.fn .nil .nil)) .nil))))) (.cons rfl (ObSub.rows (rows_imm imms_encTWindow)) .nil) (hR108 a1 n205 (w64 (Int.fdiv (IntKind.wrap .u64 (w64 (a1 + a3))) (2 ^ (min (Int.toNat 1) (IntKind.bits .u64))))) l223 _ hx233) rfl rfl rfl rfl (Sub.immT (Imm.tup .nil)) (.cons rfl (ObSub.rowsT (rows_imm imms_encTWindow)) .nil) _ rfl ?_
          refine aops_ghost (ghost_tell 0 (V.own 0 y232.length) rfl (Sub.ownI hc234)) ?_
          refine aops_ghost (ghost_tell 200 (V.own 0 y232.length) rfl (Sub.ownI hc234)) ?_
          refine fo (rn 1 rfl ?_)
          exact jX y232 h (gr [0] rfl (hR rfl rfl .nil) rfl)
        refine rn 1 rfl ?_
        exact jX l223 h (gr [0] rfl (hR rfl rfl .nil) rfl)
      intro l230 h
      refine rn 6 rfl ?_
      refine spO 209 h rfl (fun hb235 h => ?_) (fun hb235 h => ?_)
      · refine rn 5 rfl ?_
        refine spC h rfl (fun hb236 h => ?_) (fun hb236 h => ?_)
        · obtain ⟨y237, hx238, h⟩ := bind_some h
          refine rn 6 rfl ?_
          refine ck h (fun hc239 h => ?_)
          refine aops_mcallS (V.tup []) [(V.own 0 l230.length), (iV (w64 (Int.fdiv (IntKind.wrap .u64 (w64 (a1 + a3))) (2 ^ (min (Int.toNat 1) (IntKind.bits .u64)))))), (iV (w64 ((w64 ((w64 (Int.fdiv (IntKind.wrap .u64 (w64 (a1 + a3))) (2 ^ (min (Int.toNat 1) (IntKind.bits .u64))))) + a2)) - n205))), (iV a3), (V.fn (.func 56) [] [])] (fun i => ([0] : List Nat).getD i 0) (fun i => ([0] : List Nat).getD i 0) 1 1 [(0, (Ob.arr 34 6 (y237.map encTWindow)))] fOk108 wants_none rfl (evm_cons rfl (evm_cons rfl (evm_cons rfl (evm_cons rfl (evm_cons rfl evm_nil))))) (.cons (Sub.own rfl rfl) (.cons (Sub.imm (Imm.con _)) (.cons (Sub.imm (Imm.con _)) (.cons (Sub.imm (Imm.con _)) (.cons (Sub.imm (Imm.fn .nil .nil)) .nil))))) (.cons rfl (ObSub.rows (rows_imm imms_encTWindow)) .nil) (hR108 (w64 (Int.fdiv (IntKind.wrap .u64 (w64 (a1 + a3))) (2 ^ (min (Int.toNat 1) (IntKind.bits .u64))))) (w64 ((w64 ((w64 (Int.fdiv (IntKind.wrap .u64 (w64 (a1 + a3))) (2 ^ (min (Int.toNat 1) (IntKind.bits .u64))))) + a2)) - n205)) a3 l230 _ hx238) rfl rfl rfl rfl (Sub.immT (Imm.tup .nil)) (.cons rfl (ObSub.rowsT (rows_imm imms_encTWindow)) .nil) _ rfl ?_
          refine aops_ghost (ghost_tell 0 (V.own 0 y237.length) rfl (Sub.ownI hc239)) ?_
          refine aops_ghost (ghost_tell 214 (V.own 0 y237.length) rfl (Sub.ownI hc239)) ?_
          refine fo (rn 1 rfl ?_)
          replace h := Option.some.inj h
          subst h
          exact wE ⟨.inr rfl, [], (gr [0] rfl (hR rfl rfl .nil) rfl), .nil⟩
        refine rn 1 rfl ?_
        replace h := Option.some.inj h
        subst h
        exact wE ⟨.inr rfl, [], (gr [0] rfl (hR rfl rfl .nil) rfl), .nil⟩
      refine rn 7 rfl ?_
      replace h := Option.some.inj h
      subst h
      exact wE ⟨.inr rfl, [], (gr [0] rfl (hR rfl rfl .nil) rfl), .nil⟩
    refine rn 13 rfl ?_
    refine spO 209 h rfl (fun hb240 h => ?_) (fun hb240 h => ?_)
    · refine rn 5 rfl ?_
      refine spC h rfl (fun hb241 h => ?_) (fun hb241 h => ?_)
      · obtain ⟨y242, hx243, h⟩ := bind_some h
        refine rn 6 rfl ?_
        refine ck h (fun hc244 h => ?_)
        refine aops_mcallS (V.tup []) [(V.own 0 l223.length), (iV (w64 (Int.fdiv (IntKind.wrap .u64 (w64 (a1 + a3))) (2 ^ (min (Int.toNat 1) (IntKind.bits .u64)))))), (iV (w64 ((w64 ((w64 (Int.fdiv (IntKind.wrap .u64 (w64 (a1 + a3))) (2 ^ (min (Int.toNat 1) (IntKind.bits .u64))))) + a2)) - n205))), (iV a3), (V.fn (.func 56) [] [])] (fun i => ([0] : List Nat).getD i 0) (fun i => ([0] : List Nat).getD i 0) 1 1 [(0, (Ob.arr 34 6 (y242.map encTWindow)))] fOk108 wants_none rfl (evm_cons rfl (evm_cons rfl (evm_cons rfl (evm_cons rfl (evm_cons rfl evm_nil))))) (.cons (Sub.own rfl rfl) (.cons (Sub.imm (Imm.con _)) (.cons (Sub.imm (Imm.con _)) (.cons (Sub.imm (Imm.con _)) (.cons (Sub.imm (Imm.fn .nil .nil)) .nil))))) (.cons rfl (ObSub.rows (rows_imm imms_encTWindow)) .nil) (hR108 (w64 (Int.fdiv (IntKind.wrap .u64 (w64 (a1 + a3))) (2 ^ (min (Int.toNat 1) (IntKind.bits .u64))))) (w64 ((w64 ((w64 (Int.fdiv (IntKind.wrap .u64 (w64 (a1 + a3))) (2 ^ (min (Int.toNat 1) (IntKind.bits .u64))))) + a2)) - n205)) a3 l223 _ hx243) rfl rfl rfl rfl (Sub.immT (Imm.tup .nil)) (.cons rfl (ObSub.rowsT (rows_imm imms_encTWindow)) .nil) _ rfl ?_
        refine aops_ghost (ghost_tell 0 (V.own 0 y242.length) rfl (Sub.ownI hc244)) ?_
        refine aops_ghost (ghost_tell 214 (V.own 0 y242.length) rfl (Sub.ownI hc244)) ?_
        refine fo (rn 1 rfl ?_)
        replace h := Option.some.inj h
        subst h
        exact wE ⟨.inr rfl, [], (gr [0] rfl (hR rfl rfl .nil) rfl), .nil⟩
      refine rn 1 rfl ?_
      replace h := Option.some.inj h
      subst h
      exact wE ⟨.inr rfl, [], (gr [0] rfl (hR rfl rfl .nil) rfl), .nil⟩
    refine rn 7 rfl ?_
    replace h := Option.some.inj h
    subst h
    exact wE ⟨.inr rfl, [], (gr [0] rfl (hR rfl rfl .nil) rfl), .nil⟩
  refine rn 14 rfl ?_
  refine spO 195 h rfl (fun hb245 h => ?_) (fun hb245 h => ?_)
  · refine rn 5 rfl ?_
    refine jK h (fun (p : (List TWindow)) => (⟨[(0, (V.own 0 p.length)), (3, (iV a3)), (4, (V.fn (.func 56) [] [])), (18, (iV (w64 (Int.fdiv (IntKind.wrap .u64 (w64 (a1 + a3))) (2 ^ (min (Int.toNat 1) (IntKind.bits .u64))))))), (24, (iV (w64 ((w64 ((w64 (Int.fdiv (IntKind.wrap .u64 (w64 (a1 + a3))) (2 ^ (min (Int.toNat 1) (IntKind.bits .u64))))) + a2)) - n205))))], [(0, (Ob.arr 34 6 (p.map encTWindow)))], 1⟩ : St)) (fun k246 (p : (List TWindow)) => k246 p = some r) (fun k246 h => ?_) ?_
    · refine spC h rfl (fun hb248 h => ?_) (fun hb248 h => ?_)
      · obtain ⟨y249, hx250, h⟩ := bind_some h
        refine rn 6 rfl ?_
        refine ck h (fun hc251 h => ?_)
        refine aops_mcallS (V.tup []) [(V.own 0 a4.length), (iV a1), (iV n205), (iV (w64 (Int.fdiv (IntKind.wrap .u64 (w64 (a1 + a3))) (2 ^ (min (Int.toNat 1) (IntKind.bits .u64)))))), (V.fn (.func 56) [] [])] (fun i => ([0] : List Nat).getD i 0) (fun i => ([0] : List Nat).getD i 0) 1 1 [(0, (Ob.arr 34 6 (y249.map encTWindow)))] fOk108 wants_none rfl (evm_cons rfl (evm_cons rfl (evm_cons rfl (evm_cons rfl (evm_cons rfl evm_nil))))) (.cons (Sub.own rfl rfl) (.cons (Sub.imm (Imm.con _)) (.cons (Sub.imm (Imm.con _)) (.cons (Sub.imm (Imm.con _)) (.cons (Sub.imm (Imm.fn .nil .nil)) .nil))))) (.cons rfl (ObSub.rows (rows_imm imms_encTWindow)) .nil) (hR108 a1 n205 (w64 (Int.fdiv (IntKind.wrap .u64 (w64 (a1 + a3))) (2 ^ (min (Int.toNat 1) (IntKind.bits .u64))))) a4 _ hx250) rfl rfl rfl rfl (Sub.immT (Imm.tup .nil)) (.cons rfl (ObSub.rowsT (rows_imm imms_encTWindow)) .nil) _ rfl ?_
        refine aops_ghost (ghost_tell 0 (V.own 0 y249.length) rfl (Sub.ownI hc251)) ?_
        refine aops_ghost (ghost_tell 200 (V.own 0 y249.length) rfl (Sub.ownI hc251)) ?_
        refine fo (rn 1 rfl ?_)
        exact jX y249 h (gr [0] rfl (hR rfl rfl .nil) rfl)
      refine rn 1 rfl ?_
      exact jX a4 h (gr [0] rfl (hR rfl rfl .nil) rfl)
    intro l247 h
    refine rn 6 rfl ?_
    refine spO 209 h rfl (fun hb252 h => ?_) (fun hb252 h => ?_)
    · refine rn 5 rfl ?_
      refine spC h rfl (fun hb253 h => ?_) (fun hb253 h => ?_)
      · obtain ⟨y254, hx255, h⟩ := bind_some h
        refine rn 6 rfl ?_
        refine ck h (fun hc256 h => ?_)
        refine aops_mcallS (V.tup []) [(V.own 0 l247.length), (iV (w64 (Int.fdiv (IntKind.wrap .u64 (w64 (a1 + a3))) (2 ^ (min (Int.toNat 1) (IntKind.bits .u64)))))), (iV (w64 ((w64 ((w64 (Int.fdiv (IntKind.wrap .u64 (w64 (a1 + a3))) (2 ^ (min (Int.toNat 1) (IntKind.bits .u64))))) + a2)) - n205))), (iV a3), (V.fn (.func 56) [] [])] (fun i => ([0] : List Nat).getD i 0) (fun i => ([0] : List Nat).getD i 0) 1 1 [(0, (Ob.arr 34 6 (y254.map encTWindow)))] fOk108 wants_none rfl (evm_cons rfl (evm_cons rfl (evm_cons rfl (evm_cons rfl (evm_cons rfl evm_nil))))) (.cons (Sub.own rfl rfl) (.cons (Sub.imm (Imm.con _)) (.cons (Sub.imm (Imm.con _)) (.cons (Sub.imm (Imm.con _)) (.cons (Sub.imm (Imm.fn .nil .nil)) .nil))))) (.cons rfl (ObSub.rows (rows_imm imms_encTWindow)) .nil) (hR108 (w64 (Int.fdiv (IntKind.wrap .u64 (w64 (a1 + a3))) (2 ^ (min (Int.toNat 1) (IntKind.bits .u64))))) (w64 ((w64 ((w64 (Int.fdiv (IntKind.wrap .u64 (w64 (a1 + a3))) (2 ^ (min (Int.toNat 1) (IntKind.bits .u64))))) + a2)) - n205)) a3 l247 _ hx255) rfl rfl rfl rfl (Sub.immT (Imm.tup .nil)) (.cons rfl (ObSub.rowsT (rows_imm imms_encTWindow)) .nil) _ rfl ?_
        refine aops_ghost (ghost_tell 0 (V.own 0 y254.length) rfl (Sub.ownI hc256)) ?_
        refine aops_ghost (ghost_tell 214 (V.own 0 y254.length) rfl (Sub.ownI hc256)) ?_
        refine fo (rn 1 rfl ?_)
        replace h := Option.some.inj h
        subst h
        exact wE ⟨.inr rfl, [], (gr [0] rfl (hR rfl rfl .nil) rfl), .nil⟩
      refine rn 1 rfl ?_
      replace h := Option.some.inj h
      subst h
      exact wE ⟨.inr rfl, [], (gr [0] rfl (hR rfl rfl .nil) rfl), .nil⟩
    refine rn 7 rfl ?_
    replace h := Option.some.inj h
    subst h
    exact wE ⟨.inr rfl, [], (gr [0] rfl (hR rfl rfl .nil) rfl), .nil⟩
  refine rn 13 rfl ?_
  refine spO 209 h rfl (fun hb257 h => ?_) (fun hb257 h => ?_)
  · refine rn 5 rfl ?_
    refine spC h rfl (fun hb258 h => ?_) (fun hb258 h => ?_)
    · obtain ⟨y259, hx260, h⟩ := bind_some h
      refine rn 6 rfl ?_
      refine ck h (fun hc261 h => ?_)
      refine aops_mcallS (V.tup []) [(V.own 0 a4.length), (iV (w64 (Int.fdiv (IntKind.wrap .u64 (w64 (a1 + a3))) (2 ^ (min (Int.toNat 1) (IntKind.bits .u64)))))), (iV (w64 ((w64 ((w64 (Int.fdiv (IntKind.wrap .u64 (w64 (a1 + a3))) (2 ^ (min (Int.toNat 1) (IntKind.bits .u64))))) + a2)) - n205))), (iV a3), (V.fn (.func 56) [] [])] (fun i => ([0] : List Nat).getD i 0) (fun i => ([0] : List Nat).getD i 0) 1 1 [(0, (Ob.arr 34 6 (y259.map encTWindow)))] fOk108 wants_none rfl (evm_cons rfl (evm_cons rfl (evm_cons rfl (evm_cons rfl (evm_cons rfl evm_nil))))) (.cons (Sub.own rfl rfl) (.cons (Sub.imm (Imm.con _)) (.cons (Sub.imm (Imm.con _)) (.cons (Sub.imm (Imm.con _)) (.cons (Sub.imm (Imm.fn .nil .nil)) .nil))))) (.cons rfl (ObSub.rows (rows_imm imms_encTWindow)) .nil) (hR108 (w64 (Int.fdiv (IntKind.wrap .u64 (w64 (a1 + a3))) (2 ^ (min (Int.toNat 1) (IntKind.bits .u64))))) (w64 ((w64 ((w64 (Int.fdiv (IntKind.wrap .u64 (w64 (a1 + a3))) (2 ^ (min (Int.toNat 1) (IntKind.bits .u64))))) + a2)) - n205)) a3 a4 _ hx260) rfl rfl rfl rfl (Sub.immT (Imm.tup .nil)) (.cons rfl (ObSub.rowsT (rows_imm imms_encTWindow)) .nil) _ rfl ?_
      refine aops_ghost (ghost_tell 0 (V.own 0 y259.length) rfl (Sub.ownI hc261)) ?_
      refine aops_ghost (ghost_tell 214 (V.own 0 y259.length) rfl (Sub.ownI hc261)) ?_
      refine fo (rn 1 rfl ?_)
      replace h := Option.some.inj h
      subst h
      exact wE ⟨.inr rfl, [], (gr [0] rfl (hR rfl rfl .nil) rfl), .nil⟩
    refine rn 1 rfl ?_
    replace h := Option.some.inj h
    subst h
    exact wE ⟨.inr rfl, [], (gr [0] rfl (hR rfl rfl .nil) rfl), .nil⟩
  refine rn 7 rfl ?_
  replace h := Option.some.inj h
  subst h
  exact wE ⟨.inr rfl, [], (gr [0] rfl (hR rfl rfl .nil) rfl), .nil⟩
theorem W108 : ∀ (F : Nat) (a1 : Int) (a2 : Int) (a3 : Int) (a4 : List TWindow) (r : (List TWindow)) (h : M108 F a1 a2 a3 a4 = some r), MutG gl Tryz.prog 108 [(V.own 0 a4.length), (iV a1), (iV a2), (iV a3), (V.fn (.func 56) [] [])] 1 [(0, (Ob.arr 34 6 (a4.map encTWindow)))] (resV []) 1 [(0, (Ob.arr 34 6 (r.map encTWindow)))] := by
  intro F
  induction F with
  | zero => intros; simp [M108] at *
  | succ F ih => exact fun a1 a2 a3 a4 r h => W108_B (M108 F) ih F a1 a2 a3 a4 r h
theorem W92 (F : Nat) (a1 : Int) (a2 : List TWindow) (r : (List TWindow)) (h : M92 F a1 a2 = some r) : MutG gl Tryz.prog 92 [(V.own 0 a2.length), (iV a1), (V.fn (.func 56) [] [])] 1 [(0, (Ob.arr 34 6 (a2.map encTWindow)))] (resV []) 1 [(0, (Ob.arr 34 6 (r.map encTWindow)))] := by
  refine mut_enter Tryz.func92 rfl rfl (l := []) rfl rfl [(0, (V.own 0 a2.length)), (1, (iV a1)), (2, (V.fn (.func 56) [] []))] rfl (fun w0 m0 β0 hg => en ?_)
  unfold M92 at h
  refine rn 11 rfl ?_
  refine jK h (fun (p : Int × (List TWindow)) => (⟨[(0, (V.own 0 (p.2).length)), (1, (iV a1)), (2, (V.fn (.func 56) [] [])), (6, (iV 20)), (7, (iV (p.1)))], [(0, (Ob.arr 34 6 ((p.2).map encTWindow)))], 1⟩ : St)) (fun k46 (p : Int × (List TWindow)) => k46 p.1 p.2 = some r) (fun k46 h => ?_) ?_
  · refine rn 1 rfl ?_
    refine lC (fun (p : Int × Int × (List TWindow)) => (⟨[(0, (V.own 0 (p.2.2).length)), (1, (iV a1)), (2, (V.fn (.func 56) [] [])), (6, (iV 20)), (7, (iV (p.1))), (8, (iV (p.2.1)))], [(0, (Ob.arr 34 6 ((p.2.2).map encTWindow)))], 1⟩ : St)) (fun n (p : Int × Int × (List TWindow)) => M92_L1 F a1 k46 n p.1 p.2.1 p.2.2 = some r) (fun p h => by simp [M92_L1] at h) F (0, 20, a2) h (gr [0] rfl (hR rfl rfl .nil) rfl) (fun n p h => ?_)
    obtain ⟨n52, n53, l54⟩ := p
    unfold M92_L1 at h
    refine rn 7 rfl ?_
    refine spC h rfl (fun hb55 h => ?_) (fun hb55 h => ?_)
    · obtain ⟨y56, hx57, h⟩ := bind_some h
      refine rn 8 rfl ?_
      refine ck h (fun hc58 h => ?_)
      refine aops_mcallS (V.tup []) [(V.own 0 l54.length), (iV n52), (iV n53), (V.fn (.func 56) [] [])] (fun i => ([0] : List Nat).getD i 0) (fun i => ([0] : List Nat).getD i 0) 1 1 [(0, (Ob.arr 34 6 (y56.map encTWindow)))] fOk107 wants_none rfl (evm_cons rfl (evm_cons rfl (evm_cons rfl (evm_cons rfl evm_nil)))) (.cons (Sub.own rfl rfl) (.cons (Sub.imm (Imm.con _)) (.cons (Sub.imm (Imm.con _)) (.cons (Sub.imm (Imm.fn .nil .nil)) .nil)))) (.cons rfl (ObSub.rows (rows_imm imms_encTWindow)) .nil) (W107 F n52 n53 l54 y56 hx57) rfl rfl rfl rfl (Sub.immT (Imm.tup .nil)) (.cons rfl (ObSub.rowsT (rows_imm imms_encTWindow)) .nil) _ rfl ?_
      refine aops_ghost (ghost_tell 0 (V.own 0 y56.length) rfl (Sub.ownI hc58)) ?_
      refine aops_ghost (ghost_tell 14 (V.own 0 y56.length) rfl (Sub.ownI hc58)) ?_
      refine fo (rn 13 rfl ?_)
      exact jX (n53, (w64 (n53 + 20)), y56) h (gr [0] rfl (hR rfl rfl .nil) rfl)
    refine rn 1 rfl ?_
    exact jX (n52, l54) h (gr [0] rfl (hR rfl rfl .nil) rfl)
  rintro ⟨n47, l48⟩ h
  obtain ⟨y59, hx60, h⟩ := bind_some h
  refine rn 6 rfl ?_
  refine ck h (fun hc61 h => ?_)
  refine aops_mcallS (V.tup []) [(V.own 0 l48.length), (iV n47), (iV a1), (V.fn (.func 56) [] [])] (fun i => ([0] : List Nat).getD i 0) (fun i => ([0] : List Nat).getD i 0) 1 1 [(0, (Ob.arr 34 6 (y59.map encTWindow)))] fOk107 wants_none rfl (evm_cons rfl (evm_cons rfl (evm_cons rfl (evm_cons rfl evm_nil)))) (.cons (Sub.own rfl rfl) (.cons (Sub.imm (Imm.con _)) (.cons (Sub.imm (Imm.con _)) (.cons (Sub.imm (Imm.fn .nil .nil)) .nil)))) (.cons rfl (ObSub.rows (rows_imm imms_encTWindow)) .nil) (W107 F n47 a1 l48 y59 hx60) rfl rfl rfl rfl (Sub.immT (Imm.tup .nil)) (.cons rfl (ObSub.rowsT (rows_imm imms_encTWindow)) .nil) _ rfl ?_
  refine aops_ghost (ghost_tell 0 (V.own 0 y59.length) rfl (Sub.ownI hc61)) ?_
  refine aops_ghost (ghost_tell 23 (V.own 0 y59.length) rfl (Sub.ownI hc61)) ?_
  refine fo (rn 2 rfl ?_)
  refine lC (fun (p : Int × (List TWindow)) => (⟨[(0, (V.own 0 (p.2).length)), (1, (iV a1)), (2, (V.fn (.func 56) [] [])), (6, (iV (p.1)))], [(0, (Ob.arr 34 6 ((p.2).map encTWindow)))], 1⟩ : St)) (fun n (p : Int × (List TWindow)) => M92_L2 F a1 n p.1 p.2 = some r) (fun p h => by simp [M92_L2] at h) F (20, y59) h (gr [0] rfl (hR rfl rfl .nil) rfl) (fun n p h => ?_)
  obtain ⟨n64, l65⟩ := p
  unfold M92_L2 at h
  refine rn 7 rfl ?_
  refine spC h rfl (fun hb66 h => ?_) (fun hb66 h => ?_)
  · refine rn 1 rfl ?_
    refine jK h (fun (p : (List TWindow)) => (⟨[(0, (V.own 0 p.length)), (1, (iV a1)), (2, (V.fn (.func 56) [] [])), (6, (iV (w64 (n64 * 2))))], [(0, (Ob.arr 34 6 (p.map encTWindow)))], 1⟩ : St)) (fun k67 (p : (List TWindow)) => k67 p = some r) (fun k67 h => ?_) ?_
    · refine rn 9 rfl ?_
      refine jK h (fun (p : Int × (List TWindow)) => (⟨[(0, (V.own 0 (p.2).length)), (1, (iV a1)), (2, (V.fn (.func 56) [] [])), (6, (iV n64)), (7, (iV (p.1)))], [(0, (Ob.arr 34 6 ((p.2).map encTWindow)))], 1⟩ : St)) (fun k69 (p : Int × (List TWindow)) => k69 p.1 p.2 = some r) (fun k69 h => ?_) ?_
      · refine rn 1 rfl ?_
        refine lC (fun (p : Int × Int × (List TWindow)) => (⟨[(0, (V.own 0 (p.2.2).length)), (1, (iV a1)), (2, (V.fn (.func 56) [] [])), (6, (iV n64)), (7, (iV (p.1))), (8, (iV (p.2.1)))], [(0, (Ob.arr 34 6 ((p.2.2).map encTWindow)))], 1⟩ : St)) (fun n (p : Int × Int × (List TWindow)) => M92_L3 F a1 n64 k69 n p.1 p.2.1 p.2.2 = some r) (fun p h => by simp [M92_L3] at h) F (0, (w64 (2 * n64)), l65) h (gr [0] rfl (hR rfl rfl .nil) rfl) (fun n p h => ?_)
        obtain ⟨n75, n76, l77⟩ := p
        unfold M92_L3 at h
        refine rn 7 rfl ?_
        refine spC h rfl (fun hb78 h => ?_) (fun hb78 h => ?_)
        · obtain ⟨y79, hx80, h⟩ := bind_some h
          refine rn 11 rfl ?_
          refine ck h (fun hc81 h => ?_)
          refine aops_mcallS (V.tup []) [(V.own 0 l77.length), (iV n75), (iV (w64 (n75 + n64))), (iV n76), (V.fn (.func 56) [] [])] (fun i => ([0] : List Nat).getD i 0) (fun i => ([0] : List Nat).getD i 0) 1 1 [(0, (Ob.arr 34 6 (y79.map encTWindow)))] fOk108 wants_none rfl (evm_cons rfl (evm_cons rfl (evm_cons rfl (evm_cons rfl (evm_cons rfl evm_nil))))) (.cons (Sub.own rfl rfl) (.cons (Sub.imm (Imm.con _)) (.cons (Sub.imm (Imm.con _)) (.cons (Sub.imm (Imm.con _)) (.cons (Sub.imm (Imm.fn .nil .nil)) .nil))))) (.cons rfl (ObSub.rows (rows_imm imms_encTWindow)) .nil) (W108 F n75 (w64 (n75 + n64)) n76 l77 y79 hx80) rfl rfl rfl rfl (Sub.immT (Imm.tup .nil)) (.cons rfl (ObSub.rowsT (rows_imm imms_encTWindow)) .nil) _ rfl ?_
          refine aops_ghost (ghost_tell 0 (V.own 0 y79.length) rfl (Sub.ownI hc81)) ?_
          refine aops_ghost (ghost_tell 36 (V.own 0 y79.length) rfl (Sub.ownI hc81)) ?_
          refine fo (rn 14 rfl ?_)
          exact jX (n76, (w64 (n76 + (w64 (2 * n64)))), y79) h (gr [0] rfl (hR rfl rfl .nil) rfl)
        refine rn 1 rfl ?_
        exact jX (n75, l77) h (gr [0] rfl (hR rfl rfl .nil) rfl)
      rintro ⟨n70, l71⟩ h
      refine rn 14 rfl ?_
      refine jK h (fun (p : (List TWindow)) => (⟨[(0, (V.own 0 p.length)), (1, (iV a1)), (2, (V.fn (.func 56) [] [])), (6, (iV n64))], [(0, (Ob.arr 34 6 (p.map encTWindow)))], 1⟩ : St)) (fun k82 (p : (List TWindow)) => k82 p = some r) (fun k82 h => ?_) ?_
      · refine spC h rfl (fun hb84 h => ?_) (fun hb84 h => ?_)
        · obtain ⟨y85, hx86, h⟩ := bind_some h
          refine rn 6 rfl ?_
          refine ck h (fun hc87 h => ?_)
          refine aops_mcallS (V.tup []) [(V.own 0 l71.length), (iV n70), (iV (w64 (n70 + n64))), (iV a1), (V.fn (.func 56) [] [])] (fun i => ([0] : List Nat).getD i 0) (fun i => ([0] : List Nat).getD i 0) 1 1 [(0, (Ob.arr 34 6 (y85.map encTWindow)))] fOk108 wants_none rfl (evm_cons rfl (evm_cons rfl (evm_cons rfl (evm_cons rfl (evm_cons rfl evm_nil))))) (.cons (Sub.own rfl rfl) (.cons (Sub.imm (Imm.con _)) (.cons (Sub.imm (Imm.con _)) (.cons (Sub.imm (Imm.con _)) (.cons (Sub.imm (Imm.fn .nil .nil)) .nil))))) (.cons rfl (ObSub.rows (rows_imm imms_encTWindow)) .nil) (W108 F n70 (w64 (n70 + n64)) a1 l71 y85 hx86) rfl rfl rfl rfl (Sub.immT (Imm.tup .nil)) (.cons rfl (ObSub.rowsT (rows_imm imms_encTWindow)) .nil) _ rfl ?_
          refine aops_ghost (ghost_tell 0 (V.own 0 y85.length) rfl (Sub.ownI hc87)) ?_
          refine aops_ghost (ghost_tell 55 (V.own 0 y85.length) rfl (Sub.ownI hc87)) ?_
          refine fo (rn 1 rfl ?_)
          exact jX y85 h (gr [0] rfl (hR rfl rfl .nil) rfl)
        refine rn 1 rfl ?_
        exact jX l71 h (gr [0] rfl (hR rfl rfl .nil) rfl)
      intro l83 h
      refine rn 6 rfl ?_
      exact jX l83 h (gr [0] rfl (hR rfl rfl .nil) rfl)
    intro l68 h
    exact jX ((w64 (n64 * 2)), l68) h (gr [0] rfl (hR rfl rfl .nil) rfl)
  refine rn 1 rfl ?_
  replace h := Option.some.inj h
  subst h
  exact wE ⟨.inr rfl, [], (gr [0] rfl (hR rfl rfl .nil) rfl), .nil⟩
theorem W80 (F : Nat) (a1 : List TWindow) (r : (List TWindow)) (h : M80 F a1 = some r) : MutG gl Tryz.prog 80 [(V.own 0 a1.length), (V.fn (.func 56) [] [])] 1 [(0, (Ob.arr 34 6 (a1.map encTWindow)))] (resV []) 1 [(0, (Ob.arr 34 6 (r.map encTWindow)))] := by
  refine mut_enter Tryz.func80 rfl rfl (l := []) rfl rfl [(0, (V.own 0 a1.length)), (1, (V.fn (.func 56) [] []))] rfl (fun w0 m0 β0 hg => en ?_)
  unfold M80 at h
  obtain ⟨y6, hx7, h⟩ := bind_some h
  refine rn 5 rfl ?_
  refine ck h (fun hc8 h => ?_)
  refine aops_mcallS (V.tup []) [(V.own 0 a1.length), (iV ((a1.length : Nat) : Int)), (V.fn (.func 56) [] [])] (fun i => ([0] : List Nat).getD i 0) (fun i => ([0] : List Nat).getD i 0) 1 1 [(0, (Ob.arr 34 6 (y6.map encTWindow)))] fOk92 wants_none rfl (evm_cons rfl (evm_cons rfl (evm_cons rfl evm_nil))) (.cons (Sub.own rfl rfl) (.cons (Sub.imm (Imm.con _)) (.cons (Sub.imm (Imm.fn .nil .nil)) .nil))) (.cons rfl (ObSub.rows (rows_imm imms_encTWindow)) .nil) (W92 F ((a1.length : Nat) : Int) a1 y6 hx7) rfl rfl rfl rfl (Sub.immT (Imm.tup .nil)) (.cons rfl (ObSub.rowsT (rows_imm imms_encTWindow)) .nil) _ rfl ?_
  refine aops_ghost (ghost_tell 0 (V.own 0 y6.length) rfl (Sub.ownI hc8)) ?_
  refine aops_ghost (ghost_tell 4 (V.own 0 y6.length) rfl (Sub.ownI hc8)) ?_
  refine aops_ghost (ghost_tell 5 (V.own 0 y6.length) rfl (Sub.ownI hc8)) ?_
  refine fo (rn 1 rfl ?_)
  replace h := Option.some.inj h
  subst h
  exact wE ⟨.inr rfl, [], (gr [0] rfl (hR rfl rfl .nil) rfl), .nil⟩
theorem W55 (F : Nat) (a1 : (List TWindow)) (r : (List TWindow)) (h : M55 F a1 = some r) : PureG gl Tryz.prog 55 [(V.lst 6 (a1.map encTWindow)), (V.fn (.func 56) [] [])] (V.lst 6 (r.map encTWindow)) := by
  refine pin (fun r => (V.lst 6 (r.map encTWindow))) r rfl Tryz.func55 rfl rfl rfl rfl rfl (fun w0 m0 hg => ?_)
  unfold M55 at h
  obtain ⟨y2, hx3, h⟩ := bind_some h
  refine rn 7 rfl ?_
  refine aops_mcallS (V.own 0 y2.length) [(V.lst 6 (a1.map encTWindow))] (fun i => ([] : List Nat).getD i 0) (fun i => ([0] : List Nat).getD i 0) 0 1 [(0, (Ob.arr 34 6 (y2.map encTWindow)))] fOk79 wants_none rfl (evm_cons rfl evm_nil) (.cons (Sub.imm (Imm.lst _ _)) .nil) .nil (W79 F a1 y2 hx3) rfl rfl rfl rfl (Sub.ownT rfl rfl) (.cons rfl (ObSub.rowsT (rows_imm imms_encTWindow)) .nil) _ rfl ?_
  obtain ⟨y4, hx5, h⟩ := bind_some h
  refine fo (rn 6 rfl ?_)
  refine ck h (fun hc6 h => ?_)
  refine aops_mcallS (V.tup []) [(V.own 0 y2.length), (V.fn (.func 56) [] [])] (fun i => ([0] : List Nat).getD i 0) (fun i => ([0] : List Nat).getD i 0) 1 1 [(0, (Ob.arr 34 6 (y4.map encTWindow)))] fOk80 wants_none rfl (evm_cons rfl (evm_cons rfl evm_nil)) (.cons (Sub.own rfl rfl) (.cons (Sub.imm (Imm.fn .nil .nil)) .nil)) (.cons rfl (ObSub.rows (rows_imm imms_encTWindow)) .nil) (W80 F y2 y4 hx5) rfl rfl rfl rfl (Sub.immT (Imm.tup .nil)) (.cons rfl (ObSub.rowsT (rows_imm imms_encTWindow)) .nil) _ rfl ?_
  refine aops_ghost (ghost_tell 7 (V.own 0 y4.length) rfl (Sub.ownI hc6)) ?_
  refine aops_ghost (ghost_tell 5 (V.own 0 y4.length) rfl (Sub.ownI hc6)) ?_
  refine aops_ghost (ghost_tell 8 (V.own 0 y4.length) rfl (Sub.ownI hc6)) ?_
  refine fo (rn 6 rfl ?_)
  refine awp_ghost (ghost_frzE 0 4 rfl (rows_imm imms_encTWindow) rfl (List.length_map ..).symm) ?_
  refine fa ?_
  exact rt h rfl
theorem W26 (F : Nat) (a1 : TStory) (r : (List TWindow)) (h : M26 F a1 = some r) : PureG gl Tryz.prog 26 [(V.agg (encTStory a1))] (V.lst 6 (r.map encTWindow)) := by
  refine pin (fun r => (V.lst 6 (r.map encTWindow))) r rfl Tryz.func26 rfl rfl rfl rfl rfl (fun w0 m0 hg => ?_)
  unfold M26 at h
  refine rn 18 rfl ?_
  refine cl h rfl rfl rfl (W34 _ _) rfl (fun y2 hx3 h => ?_)
  refine ln rfl rfl ?_
  refine rn 2 rfl ?_
  refine jK h (fun (p : (List TWindow)) => (⟨[(1, (V.ptr 0 4 0 0)), (3, (V.own 1 p.length))], [(0, (Ob.arr 25 4 [(encTStory a1)])), (1, (Ob.arr 34 6 (p.map encTWindow)))], 2⟩ : St)) (fun k4 (p : (List TWindow)) => k4 p = some r) (fun k4 h => ?_) ?_
  · refine rn 1 rfl ?_
    refine wl (A := y2) 13 rfl (fun hA30 => ?_)
    refine lC (fun (p : Int × (List TWindow) × (List (Thistory_key × Int))) => (⟨[(1, (V.ptr 0 4 0 0)), (3, (V.own 1 (p.2.1).length)), (4, (V.map 2)), (13, (V.lst 5 (y2.map encThistory_piece))), (14, (iV ((y2.length : Nat) : Int))), (15, (iV (p.1)))], [(0, (Ob.arr 25 4 [(encTStory a1)])), (1, (Ob.arr 34 6 ((p.2.1).map encTWindow))), (2, (Ob.map ((p.2.2).map encM110_3)))], 3⟩ : St)) (fun n (p : Int × (List TWindow) × (List (Thistory_key × Int))) => RG y2 (fun tl nn => M26_L1 F k4 tl p.2.1 p.2.2 = some r) n p.1) (fun p h => RG.zero h) (y2.length + 1) (0, ([] : List TWindow), ([] : List (Thistory_key × Int))) (RG.start h) (Ghost.trans (ghost_nilE 3 34 6 rfl) (ghost_ren 3 (fun i => ([0, 2, 1] : List Nat).getD i 0) _ _ (by decide) (EnvSub.get (.cons (Sub.ptr rfl rfl) (.cons (Sub.ownE rfl rfl (by simp)) (.cons (Sub.map rfl rfl) (.cons (Sub.imm (Imm.lst _ _)) (.cons (Sub.imm (Imm.con _)) (.cons (Sub.imm (Imm.con _)) .nil))))))) (HpSub.get (.cons rfl (ObSub.box (.cons (Sub.imm (Imm.con _)) (.cons (Sub.imm (Imm.lst _ _)) (.cons (Sub.imm (Imm.lst _ _)) (.cons (Sub.imm (Imm.con _)) .nil))))) (.cons rfl (ObSub.rows (rows_imm imms_encTWindow)) (.cons rfl (ObSub.maps encM110_3_imm) .nil)))) rfl)) (fun n p h => ?_)
    obtain ⟨n9, l10, m11⟩ := p
    refine rn 5 rfl ?_
    refine spL rfl (fun hb12 => ?_) (fun hb12 => ?_)
    · obtain ⟨x16, tl, hx17, h, hk1⟩ := RG.t hA30 h hb12
      unfold M26_L1 at h
      refine rn 2 rfl ?_
      refine jK h (fun (p : (List TWindow) × (List (Thistory_key × Int))) => (⟨[(1, (V.ptr 0 4 0 0)), (3, (V.own 1 (p.1).length)), (4, (V.map 2)), (13, (V.lst 5 (y2.map encThistory_piece))), (14, (iV ((y2.length : Nat) : Int))), (15, (iV n9))], [(0, (Ob.arr 25 4 [(encTStory a1)])), (1, (Ob.arr 34 6 ((p.1).map encTWindow))), (2, (Ob.map ((p.2).map encM110_3)))], 3⟩ : St)) (fun k13 (p : (List TWindow) × (List (Thistory_key × Int))) => k13 p.1 p.2 = some r) (fun k13 h => ?_) ?_
      · refine rn 3 rfl ?_
        refine ixh hx17 rfl rfl ?_
        refine rn 8 rfl ?_
        refine cl h rfl rfl rfl (W54 _ _) rfl (fun y18 hx19 h => ?_)
        refine rn 8 rfl ?_
        refine aops_lookup_okB _ (iV 0) (iV ((mget m11 y18).getD 0)) tMap108 tKey110 tZo3 (irel_con _) wants_none rfl (.own rfl) (.agg (cv110 y18) rfl) ⟨_, rfl⟩ encM110_3_good (encM110_3_look m11 y18) (getD_map (encM110_3_val) (mget m11 y18) 0) (isSome_map ..) rfl ?_
        refine fo (rn 7 rfl ?_)
        refine bs h (fun hb20 h => ?_) (fun hb20 h => ?_)
        · obtain ⟨x21, hx22, h⟩ := bind_some h
          refine dr mixed (vs 1 rfl (vb hb20 rfl (vs 2 rfl (oD (a := l10) hx22 rfl rfl rfl rfl (vs 1 rfl (lD hx22 rfl rfl rfl rfl rfl (vs 4 rfl .nil))))))) (by kernel_rfl) ?_
          refine spC h rfl (fun hb23 h => ?_) (fun hb23 h => ?_)
          · obtain ⟨x24, hx25, h⟩ := bind_some h
            obtain ⟨x26, hx27, h⟩ := bind_some h
            refine rn 1 rfl ?_
            refine dr mixed (vs 9 rfl (oD (a := l10) hx25 rfl rfl rfl rfl (vs 1 rfl (xD (OD.mk [(49, (V.ptr 1 6 ((mget m11 y18).getD 0).toNat 4)), (44, (iV x16.to))] [(1, (Ob.arr 34 6 (l10.map encTWindow)))] [] [(1, (Ob.arr 34 6 ((l10.set ((mget m11 y18).getD 0).toNat (TWindow.mk x24.Advisory x24.Component x24.Severity x24.From x16.to x24.Open)).map encTWindow)))]) ⟨⟨rfl, rfl, trivial⟩, ⟨rfl, trivial⟩⟩ (by exact fun S hn h hh => aops_store [(iV x16.to)] ((l10.set ((mget m11 y18).getD 0).toNat (TWindow.mk x24.Advisory x24.Component x24.Severity x24.From x16.to x24.Open)).map encTWindow) tS3 wants_none h.1 h.2.1 rfl rfl hh.1 (idx_map encTWindow hx25) rfl (map_set encTWindow l10 _ (TWindow.mk x24.Advisory x24.Component x24.Severity x24.From x16.to x24.Open)) (aops_nil ⟨rfl, rfl⟩)) rfl (xD (OD.mk [(41, (V.own 1 l10.length)), (42, (iV ((mget m11 y18).getD 0)))] [] [(50, (V.ptr 1 6 ((mget m11 y18).getD 0).toNat 0))] []) ⟨⟨rfl, rfl, trivial⟩, trivial⟩ (by exact fun S hn h hh => aops_index_own tSl26 wants_none h.1 h.2.1 (idx_some hx27).1 (by simpa using idx_lt hx27) rfl (aops_nil ⟨rfl, rfl⟩)) rfl (vs 1 rfl (xD (OD.mk [(51, (V.ptr 1 6 ((mget m11 y18).getD 0).toNat 2)), (47, (iV x16.x.Severity))] [(1, (Ob.arr 34 6 ((l10.set ((mget m11 y18).getD 0).toNat (TWindow.mk x24.Advisory x24.Component x24.Severity x24.From x16.to x24.Open)).map encTWindow)))] [] [(1, (Ob.arr 34 6 (((l10.set ((mget m11 y18).getD 0).toNat (TWindow.mk x24.Advisory x24.Component x24.Severity x24.From x16.to x24.Open)).set ((mget m11 y18).getD 0).toNat (TWindow.mk x26.Advisory x26.Component x16.x.Severity x26.From x26.To x26.Open)).map encTWindow)))]) ⟨⟨rfl, rfl, trivial⟩, ⟨rfl, trivial⟩⟩ (by exact fun S hn h hh => aops_store [(iV x16.x.Severity)] (((l10.set ((mget m11 y18).getD 0).toNat (TWindow.mk x24.Advisory x24.Component x24.Severity x24.From x16.to x24.Open)).set ((mget m11 y18).getD 0).toNat (TWindow.mk x26.Advisory x26.Component x16.x.Severity x26.From x26.To x26.Open)).map encTWindow) tS3 wants_none h.1 h.2.1 rfl rfl hh.1 (idx_map encTWindow hx27) rfl (map_set encTWindow (l10.set ((mget m11 y18).getD 0).toNat (TWindow.mk x24.Advisory x24.Component x24.Severity x24.From x16.to x24.Open)) _ (TWindow.mk x26.Advisory x26.Component x16.x.Severity x26.From x26.To x26.Open)) (aops_nil ⟨rfl, rfl⟩)) rfl .nil))))))) (by kernel_rfl) ?_
            refine rn 1 rfl ?_
            exact jX (((l10.set ((mget m11 y18).getD 0).toNat (TWindow.mk x24.Advisory x24.Component x24.Severity x24.From x16.to x24.Open)).set ((mget m11 y18).getD 0).toNat (TWindow.mk x26.Advisory x26.Component x16.x.Severity x26.From x26.To x26.Open)), m11) h (ghost_ren 3 (fun i => ([0, 1, 2] : List Nat).getD i 0) _ _ (by decide) (EnvSub.get (.cons (Sub.ptr rfl rfl) (.cons (Sub.ownE rfl rfl (by simp)) (.cons (Sub.map rfl rfl) (.cons (Sub.imm (Imm.lst _ _)) (.cons (Sub.imm (Imm.con _)) (.cons (Sub.imm (Imm.con _)) .nil))))))) (HpSub.get (.cons rfl (ObSub.box (.cons (Sub.imm (Imm.con _)) (.cons (Sub.imm (Imm.lst _ _)) (.cons (Sub.imm (Imm.lst _ _)) (.cons (Sub.imm (Imm.con _)) .nil))))) (.cons rfl (ObSub.rows (rows_imm imms_encTWindow)) (.cons rfl (ObSub.maps encM110_3_imm) .nil)))) rfl)
          refine rn 7 rfl ?_
          refine aops_mapUpdate ((mput m11 y18 ((l10.length : Nat) : Int)).map encM110_3) tMap108 tKey110 wants_none rfl rfl (.agg (cv110 y18) rfl) ⟨_, rfl⟩ encM110_3_good rfl (encM110_3_puts m11 y18 ((l10.length : Nat) : Int)) ?_
          refine fo (rn 17 rfl ?_)
          refine aops_buildSlice [(0, (V.agg [(sV x16.x.Advisory), (sV x16.x.Component), (iV x16.x.Severity), (iV x16.from_), (iV x16.to), (bV false)]))] [[(sV x16.x.Advisory), (sV x16.x.Component), (iV x16.x.Severity), (iV x16.from_), (iV x16.to), (bV false)]] tEl26 tZ34 rfl rfl rfl rfl wants_none (evp_cons rfl evp_nil) rfl rfl (by simp) rfl ?_
          refine fo ?_
          refine apO encTWindow h rfl rfl rfl rfl rfl rfl rfl rfl (fun h => ?_)
          refine rn 3 rfl ?_
          exact jX ((l10 ++ ([(TWindow.mk x16.x.Advisory x16.x.Component x16.x.Severity x16.from_ x16.to false)] : List TWindow)), (mput m11 y18 ((l10.length : Nat) : Int))) h (gr [0, 6, 2] rfl (hB rfl rfl rfl (hR rfl rfl (hM rfl rfl .nil))) rfl)
        refine dr mixed (vs 1 rfl (vb hb20 rfl (vs 9 rfl .nil))) (by kernel_rfl) ?_
        refine rn 8 rfl ?_
        refine aops_mapUpdate ((mput m11 y18 ((l10.length : Nat) : Int)).map encM110_3) tMap108 tKey110 wants_none rfl rfl (.agg (cv110 y18) rfl) ⟨_, rfl⟩ encM110_3_good rfl (encM110_3_puts m11 y18 ((l10.length : Nat) : Int)) ?_
        refine fo (rn 17 rfl ?_)
        refine aops_buildSlice [(0, (V.agg [(sV x16.x.Advisory), (sV x16.x.Component), (iV x16.x.Severity), (iV x16.from_), (iV x16.to), (bV false)]))] [[(sV x16.x.Advisory), (sV x16.x.Component), (iV x16.x.Severity), (iV x16.from_), (iV x16.to), (bV false)]] tEl26 tZ34 rfl rfl rfl rfl wants_none (evp_cons rfl evp_nil) rfl rfl (by simp) rfl ?_
        refine fo ?_
        refine apO encTWindow h rfl rfl rfl rfl rfl rfl rfl rfl (fun h => ?_)
        refine rn 3 rfl ?_
        exact jX ((l10 ++ ([(TWindow.mk x16.x.Advisory x16.x.Component x16.x.Severity x16.from_ x16.to false)] : List TWindow)), (mput m11 y18 ((l10.length : Nat) : Int))) h (gr [0, 6, 2] rfl (hB rfl rfl rfl (hR rfl rfl (hM rfl rfl .nil))) rfl)
      rintro ⟨l14, m15⟩ h
      refine rn 4 rfl ?_
      exact jX ((w64 (n9 + 1)), l14, m15) (hk1 _ h) (gr [0, 1, 2] rfl (hB rfl rfl rfl (hR rfl rfl (hM rfl rfl .nil))) rfl)
    replace h := RG.f h hb12
    unfold M26_L1 at h
    refine rn 1 rfl ?_
    exact jX l10 h (gr [0, 1] rfl (hB rfl rfl rfl (hR rfl rfl .nil)) rfl)
  intro l5 h
  refine rn 7 rfl ?_
  refine jK h (fun (p : (List TWindow)) => (⟨[(3, (V.own 0 p.length))], [(0, (Ob.arr 34 6 (p.map encTWindow)))], 1⟩ : St)) (fun k31 (p : (List TWindow)) => k31 p = some r) (fun k31 h => ?_) ?_
  · refine rn 1 rfl ?_
    refine wlO (A := l5) 1 rfl (fun hA42 => ?_)
    refine lC (fun (p : Int × (List TWindow)) => (⟨[(1, (V.ptr 0 4 0 0)), (3, (V.own 1 (p.2).length)), (75, (iV ((l5.length : Nat) : Int))), (76, (iV (p.1)))], [(0, (Ob.arr 25 4 [(encTStory a1)])), (1, (Ob.arr 34 6 ((p.2).map encTWindow)))], 2⟩ : St)) (fun n (p : Int × (List TWindow)) => RC ((l5.length : Nat) : Int) (fun tl nn => M26_L2 F a1 k31 tl nn p.2 = some r) n p.1) (fun p h => RC.zero h) (Int.toNat ((l5.length : Nat) : Int) + 1) (0, l5) (RC.start h) (gr [0, 1] rfl (hB rfl rfl rfl (hR rfl rfl .nil)) rfl) (fun n p h => ?_)
    obtain ⟨n35, l36⟩ := p
    refine rn 5 rfl ?_
    refine spL rfl (fun hb37 => ?_) (fun hb37 => ?_)
    · obtain ⟨tl, h, hk2⟩ := RC.t (by unfold maxLen at hA42; omega) h hb37
      unfold M26_L2 at h
      obtain ⟨x38, hx39, h⟩ := bind_some h
      obtain ⟨x40, hx41, h⟩ := bind_some h
      refine rn 8 rfl ?_
      refine dr mixed (vs 4 rfl (oD (a := l36) hx39 rfl rfl rfl rfl (vs 1 rfl (lD hx39 rfl rfl rfl rfl rfl (vs 3 rfl (oD (a := l36) hx41 rfl rfl rfl rfl (vs 1 rfl (xD (OD.mk [(90, (V.ptr 1 6 n35.toNat 5)), (88, (bV (x38.To == a1.Until)))] [(1, (Ob.arr 34 6 (l36.map encTWindow)))] [] [(1, (Ob.arr 34 6 ((l36.set n35.toNat (TWindow.mk x40.Advisory x40.Component x40.Severity x40.From x40.To (x38.To == a1.Until))).map encTWindow)))]) ⟨⟨rfl, rfl, trivial⟩, ⟨rfl, trivial⟩⟩ (by exact fun S hn h hh => aops_store [(bV (x38.To == a1.Until))] ((l36.set n35.toNat (TWindow.mk x40.Advisory x40.Component x40.Severity x40.From x40.To (x38.To == a1.Until))).map encTWindow) tS4 wants_none h.1 h.2.1 rfl rfl hh.1 (idx_map encTWindow hx41) rfl (map_set encTWindow l36 _ (TWindow.mk x40.Advisory x40.Component x40.Severity x40.From x40.To (x38.To == a1.Until))) (aops_nil ⟨rfl, rfl⟩)) rfl .nil)))))))) (by kernel_rfl) ?_
      refine rn 5 rfl ?_
      exact jX ((w64 (n35 + 1)), (l36.set n35.toNat (TWindow.mk x40.Advisory x40.Component x40.Severity x40.From x40.To (x38.To == a1.Until)))) (hk2 _ h) (ghost_ren 2 (fun i => ([0, 1] : List Nat).getD i 0) _ _ (by decide) (EnvSub.get (.cons (Sub.ptr rfl rfl) (.cons (Sub.ownE rfl rfl (by simp)) (.cons (Sub.imm (Imm.con _)) (.cons (Sub.imm (Imm.con _)) .nil))))) (HpSub.get (.cons rfl (ObSub.box (.cons (Sub.imm (Imm.con _)) (.cons (Sub.imm (Imm.lst _ _)) (.cons (Sub.imm (Imm.lst _ _)) (.cons (Sub.imm (Imm.con _)) .nil))))) (.cons rfl (ObSub.rows (rows_imm imms_encTWindow)) .nil))) rfl)
    replace h := RC.f h hb37
    unfold M26_L2 at h
    refine rn 1 rfl ?_
    exact jX l36 h (gr [1] rfl (hR rfl rfl .nil) rfl)
  intro l32 h
  obtain ⟨y43, hx44, h⟩ := bind_some h
  refine rn 3 rfl ?_
  refine aops_ghost (ghost_frzE 0 92 rfl (rows_imm imms_encTWindow) rfl (List.length_map ..).symm) ?_
  refine aops_call (V.lst 6 (y43.map encTWindow)) [(V.lst 6 (l32.map encTWindow)), (V.fn (.func 56) [] [])] fOk55 wants_none (evm_cons rfl (evm_cons rfl evm_nil)) (.cons (Imm.lst _ _) (.cons (Imm.fn .nil .nil) .nil)) (W55 F l32 y43 hx44) rfl ?_
  refine fo (rn 2 rfl ?_)
  exact rt h rfl
theorem W5 (F : Nat) (a1 : TStory) (r : ((List TWindow) × Int)) (h : M5 F a1 = some r) : PureG gl Tryz.prog 5 [(V.agg (encTStory a1))] (V.tup [(V.lst 6 ((r.1).map encTWindow)), (iV (r.2))]) := by
  refine pin (fun r => (V.tup [(V.lst 6 ((r.1).map encTWindow)), (iV (r.2))])) r rfl Tryz.func5 rfl rfl rfl rfl rfl (fun w0 m0 hg => ?_)
  unfold M5 at h
  refine rn 10 rfl ?_
  refine cl h rfl rfl rfl (W25 _ _) rfl (fun y2 hx3 h => ?_)
  refine rn 7 rfl ?_
  refine spC h rfl (fun hb4 h => ?_) (fun hb4 h => ?_)
  · refine rn 6 rfl ?_
    exact rt h rfl
  refine rn 4 rfl ?_
  refine cl h rfl rfl rfl (W26 _ _) rfl (fun y5 hx6 h => ?_)
  refine rn 3 rfl ?_
  exact rt h rfl
theorem W28 (F : Nat) (a1 : (List TPublished)) (r : (List TPublished)) (h : M28 F a1 = some r) : PureG gl Tryz.prog 28 [(V.lst 3 (a1.map encTPublished))] (V.lst 3 (r.map encTPublished)) := by
  refine pin (fun r => (V.lst 3 (r.map encTPublished))) r rfl Tryz.func28 rfl rfl rfl rfl rfl (fun w0 m0 hg => ?_)
  unfold M28 at h
  refine rn 8 rfl ?_
  refine aops_isNil (n := a1.length) false tIsSl23 wants_none rfl rfl (congrArg some (List.length_map ..)) rfl (fun b2 hn3 => ?_)
  replace h := nilq_elim h hn3
  refine fo (rn 1 rfl ?_)
  refine spC h rfl (fun hb4 h => ?_) (fun hb4 h => ?_)
  · refine rn 4 rfl ?_
    exact rt h rfl
  refine rn 3 rfl ?_
  refine aops_emptySlice tEl23 wants_none rfl ?_
  refine fo (rn 1 rfl ?_)
  refine apL encTPublished h rfl rfl rfl (by simp) rfl (fun h => ?_)
  refine rn 2 rfl ?_
  refine awp_ghost (ghost_frzE 1 2 rfl (rows_imm imms_encTPublished) rfl (List.length_map ..).symm) ?_
  refine fa ?_
  exact rt h rfl
theorem W57 (F : Nat) (a1 : (List TExposure)) (r : (List TExposure)) (h : M57 F a1 = some r) : PureG gl Tryz.prog 57 [(V.lst 3 (a1.map encTExposure))] (V.lst 3 (r.map encTExposure)) := by
  refine pin (fun r => (V.lst 3 (r.map encTExposure))) r rfl Tryz.func57 rfl rfl rfl rfl rfl (fun w0 m0 hg => ?_)
  unfold M57 at h
  refine rn 8 rfl ?_
  refine aops_isNil (n := a1.length) false tIsSl40 wants_none rfl rfl (congrArg some (List.length_map ..)) rfl (fun b2 hn3 => ?_)
  replace h := nilq_elim h hn3
  refine fo (rn 1 rfl ?_)
  refine spC h rfl (fun hb4 h => ?_) (fun hb4 h => ?_)
  · refine rn 4 rfl ?_
    exact rt h rfl
  refine rn 3 rfl ?_
  refine aops_emptySlice tEl40 wants_none rfl ?_
  refine fo (rn 1 rfl ?_)
  refine apL encTExposure h rfl rfl rfl (by simp) rfl (fun h => ?_)
  refine rn 2 rfl ?_
  refine awp_ghost (ghost_frzE 1 2 rfl (rows_imm imms_encTExposure) rfl (List.length_map ..).symm) ?_
  refine fa ?_
  exact rt h rfl
theorem W29 (F : Nat) (a1 : TRelease) (r : TRelease) (h : M29 F a1 = some r) : PureG gl Tryz.prog 29 [(V.agg (encTRelease a1))] (V.agg (encTRelease r)) := by
  refine pin (fun r => (V.agg (encTRelease r))) r rfl Tryz.func29 rfl rfl rfl rfl rfl (fun w0 m0 hg => ?_)
  unfold M29 at h
  refine rn 9 rfl ?_
  refine cl h rfl rfl rfl (W57 _ _) rfl (fun y2 hx3 h => ?_)
  refine rn 8 rfl ?_
  exact rt h rfl
theorem W6 (F : Nat) (a1 : TStory) (a2 : Int) (r : (TStory × Int)) (h : M6 F a1 a2 = some r) : PureG gl Tryz.prog 6 [(V.agg (encTStory a1)), (iV a2)] (V.tup [(V.agg (encTStory (r.1))), (iV (r.2))]) := by
  refine pin (fun r => (V.tup [(V.agg (encTStory (r.1))), (iV (r.2))])) r rfl Tryz.func6 rfl rfl rfl rfl rfl (fun w0 m0 hg => ?_)
  unfold M6 at h
  refine rn 10 rfl ?_
  refine cl h rfl rfl rfl (W25 _ _) rfl (fun y3 hx4 h => ?_)
  refine rn 7 rfl ?_
  refine spC h rfl (fun hb5 h => ?_) (fun hb5 h => ?_)
  · refine rn 7 rfl ?_
    exact rt h rfl
  refine rn 5 rfl ?_
  refine cl h rfl rfl rfl (W27 _ _) rfl (fun y6 hx7 h => ?_)
  refine rn 2 rfl ?_
  refine spC h rfl (fun hb8 h => ?_) (fun hb8 h => ?_)
  · refine rn 6 rfl ?_
    exact rt h rfl
  obtain ⟨y9, hx10, h⟩ := bind_some h
  refine rn 2 rfl ?_
  refine awp_ghost ghost_res ?_
  refine fa ?_
  refine dr mixed (vs 4 rfl (cD rfl rfl rfl rfl (W28 _ _ _ hx10) rfl (vs 5 rfl (xD (OD.mk [] [(2, Ob.res)] [(7, (V.ptr 2 4 0 0))] [(2, (Ob.arr 25 4 [[(sV ([] : List UInt8)), nV, nV, (iV 0)]]))]) ⟨trivial, ⟨rfl, trivial⟩⟩ (by exact fun S hn h hh => aops_alloc_at 2 rfl hn hh.1 tZ25 rfl rfl wants_none rfl (aops_nil ⟨rfl, rfl⟩)) rfl (vs 1 rfl .nil))))) (by kernel_rfl) ?_
  refine rn 5 rfl ?_
  refine ln rfl rfl ?_
  refine rn 2 rfl ?_
  refine jK h (fun (p : (List TRelease)) => (⟨[(4, (V.ptr 0 4 0 0)), (7, (V.ptr 1 4 0 0))], [(0, (Ob.arr 25 4 [[(sV ([] : List UInt8)), nV, nV, (iV 0)]])), (1, (Ob.arr 25 4 [[(sV a1.Product), (V.own 2 p.length), (V.lst 3 (y9.map encTPublished)), (iV (if a2 < a1.Until then a2 else a1.Until))]])), (2, (Ob.arr 42 3 (p.map encTRelease)))], 3⟩ : St)) (fun k11 (p : (List TRelease)) => k11 p = some r) (fun k11 h => ?_) ?_
  · refine rn 1 rfl ?_
    refine wl (A := a1.Releases) 31 rfl (fun hA26 => ?_)
    refine lC (fun (p : Int × (List TRelease)) => (⟨[(1, (iV a2)), (4, (V.ptr 0 4 0 0)), (7, (V.ptr 1 4 0 0)), (31, (V.lst 3 (a1.Releases.map encTRelease))), (32, (iV ((a1.Releases.length : Nat) : Int))), (33, (iV (p.1)))], [(0, (Ob.arr 25 4 [[(sV ([] : List UInt8)), nV, nV, (iV 0)]])), (1, (Ob.arr 25 4 [[(sV a1.Product), (V.own 2 (p.2).length), (V.lst 3 (y9.map encTPublished)), (iV (if a2 < a1.Until then a2 else a1.Until))]])), (2, (Ob.arr 42 3 ((p.2).map encTRelease)))], 3⟩ : St)) (fun n (p : Int × (List TRelease)) => RG a1.Releases (fun tl nn => M6_L1 F a2 k11 tl p.2 = some r) n p.1) (fun p h => RG.zero h) (a1.Releases.length + 1) (0, ([] : List TRelease)) (RG.start h) (Ghost.trans (ghost_nilC 2 42 3 (Ob.arr 25 4 [[(sV a1.Product), (V.own 3 0), (V.lst 3 (y9.map encTPublished)), (iV (if a2 < a1.Until then a2 else a1.Until))]]) (ObSub.box (.cons Sub.keepNil (.cons Sub.mkNil (.cons Sub.keepNil (.cons Sub.keepNil .nil)))))) (ghost_ren 3 (fun i => ([1, 2, 3] : List Nat).getD i 0) _ _ (by decide) (EnvSub.get (.cons (Sub.imm (Imm.con _)) (.cons (Sub.ptr rfl rfl) (.cons (Sub.ptr rfl rfl) (.cons (Sub.imm (Imm.lst _ _)) (.cons (Sub.imm (Imm.con _)) (.cons (Sub.imm (Imm.con _)) .nil))))))) (HpSub.get (.cons rfl (ObSub.box (.cons (Sub.imm (Imm.con _)) (.cons (Sub.imm (Imm.con _)) (.cons (Sub.imm (Imm.con _)) (.cons (Sub.imm (Imm.con _)) .nil))))) (.cons rfl (ObSub.box (.cons (Sub.imm (Imm.con _)) (.cons (Sub.ownE rfl rfl (by simp)) (.cons (Sub.imm (Imm.lst _ _)) (.cons (Sub.imm (Imm.con _)) .nil))))) (.cons rfl (ObSub.rows (rows_imm imms_encTRelease)) .nil)))) rfl)) (fun n p h => ?_)
    obtain ⟨n15, l16⟩ := p
    refine rn 5 rfl ?_
    refine spL rfl (fun hb17 => ?_) (fun hb17 => ?_)
    · obtain ⟨x18, tl, hx19, h, hk1⟩ := RG.t hA26 h hb17
      unfold M6_L1 at h
      refine rn 5 rfl ?_
      refine ixh hx19 rfl rfl ?_
      refine rn 11 rfl ?_
      refine jK h (fun (p : (List TRelease)) => (⟨[(1, (iV a2)), (4, (V.ptr 0 4 0 0)), (7, (V.ptr 1 4 0 0)), (31, (V.lst 3 (a1.Releases.map encTRelease))), (32, (iV ((a1.Releases.length : Nat) : Int))), (33, (iV n15))], [(0, (Ob.arr 25 4 [[(sV ([] : List UInt8)), nV, nV, (iV 0)]])), (1, (Ob.arr 25 4 [[(sV a1.Product), (V.own 2 p.length), (V.lst 3 (y9.map encTPublished)), (iV (if a2 < a1.Until then a2 else a1.Until))]])), (2, (Ob.arr 42 3 (p.map encTRelease)))], 3⟩ : St)) (fun k20 (p : (List TRelease)) => k20 p = some r) (fun k20 h => ?_) ?_
      · refine spC h rfl (fun hb22 h => ?_) (fun hb22 h => ?_)
        · obtain ⟨y23, hx24, h⟩ := bind_some h
          refine ck h (fun hc25 h => ?_)
          refine awp_ghost ghost_res ?_
          refine fa ?_
          refine dr mixed (vs 3 rfl (cD rfl rfl rfl rfl (W29 _ _ _ hx24) rfl (xD (OD.mk [(44, (V.agg (encTRelease y23)))] [] [(45, (V.lst 3 (([y23] : List TRelease).map encTRelease)))] []) ⟨⟨rfl, trivial⟩, trivial⟩ (by exact fun S hn h hh => aops_buildSlice_imm [(0, (V.agg (encTRelease y23)))] [(encTRelease y23)] tEl22 tZ42 wants_none rfl rfl rfl rfl (evp_cons h.1 evp_nil) rfl rfl (by simp) (imms_rows (.cons (imms_encTRelease _) .nil)) rfl (aops_nil ⟨rfl, rfl⟩)) rfl (xD (OD.mk [(42, (V.own 2 l16.length)), (45, (V.lst 3 (([y23] : List TRelease).map encTRelease)))] [(2, (Ob.arr 42 3 (l16.map encTRelease))), (4, Ob.res)] [(46, (V.own 4 (l16 ++ ([y23] : List TRelease)).length))] [(4, (Ob.arr 42 3 ((l16 ++ ([y23] : List TRelease)).map encTRelease))), (2, Ob.dead)]) ⟨⟨rfl, rfl, trivial⟩, ⟨rfl, rfl, trivial⟩⟩ (by exact fun S hn h hh => aops_append_at 4 rfl hn hh.2.1 (([y23] : List TRelease).map encTRelease) ((l16 ++ ([y23] : List TRelease)).map encTRelease) tEl22 tIsSl22 rfl rfl wants_none h.1 hh.1 (by simp) h.2.1 (.lst (rows_one one_encTRelease)) (map_snoc encTRelease l16 ([y23] : List TRelease)) (List.length_map ..) hc25 rfl (aops_nil ⟨rfl, rfl⟩)) rfl (vs 2 rfl .nil))))) (by kernel_rfl) ?_
          exact jX (l16 ++ ([y23] : List TRelease)) h (gr [0, 1, 4] rfl (hB rfl rfl rfl (hB rfl rfl rfl (hR rfl rfl .nil))) rfl)
        refine rn 1 rfl ?_
        exact jX l16 h (gr [0, 1, 2] rfl (hB rfl rfl rfl (hB rfl rfl rfl (hR rfl rfl .nil))) rfl)
      intro l21 h
      refine rn 5 rfl ?_
      exact jX ((w64 (n15 + 1)), l21) (hk1 _ h) (gr [0, 1, 2] rfl (hB rfl rfl rfl (hB rfl rfl rfl (hR rfl rfl .nil))) rfl)
    replace h := RG.f h hb17
    unfold M6_L1 at h
    refine rn 1 rfl ?_
    exact jX l16 h (gr [0, 1, 2] rfl (hB rfl rfl rfl (hB rfl rfl rfl (hR rfl rfl .nil))) rfl)
  intro l12 h
  refine rn 6 rfl ?_
  refine awp_ghost (ghost_frzC 2 0 (Ob.arr 25 4 [[(sV a1.Product), (V.lst 3 (l12.map encTRelease)), (V.lst 3 (y9.map encTPublished)), (iV (if a2 < a1.Until then a2 else a1.Until))]]) rfl (rows_imm imms_encTRelease) (ObSub.box (.cons Sub.keep (.cons (Sub.frzAll (rows := l12.map encTRelease) (List.length_map ..).symm) (.cons Sub.keep (.cons Sub.keep .nil)))))) ?_
  refine fa ?_
  exact rt h rfl
theorem W7 (F : Nat) (r : Bool) (h : M7 F = some r) : PureG gl Tryz.prog 7 [] (bV r) := by
  unfold M7 at h
  replace h := Option.some.inj h
  subst h
  exact told_pure
theorem W8 (F : Nat) (a1 : TWindow) (a2 : TWindow) (r : Bool) (h : M8 F a1 a2 = some r) : PureG gl Tryz.prog 8 [(V.agg (encTWindow a1)), (V.agg (encTWindow a2))] (bV r) := by
  refine pin (fun r => (bV r)) r rfl Tryz.func8 rfl rfl rfl rfl rfl (fun w0 m0 hg => ?_)
  unfold M8 at h
  refine rn 14 rfl ?_
  refine spO 10 h rfl (fun hb3 h => ?_) (fun hb3 h => ?_)
  · refine rn 7 rfl ?_
    refine spO 17 h rfl (fun hb4 h => ?_) (fun hb4 h => ?_)
    · refine rn 7 rfl ?_
      refine spO 24 h rfl (fun hb5 h => ?_) (fun hb5 h => ?_)
      · refine rn 8 rfl ?_
        exact rt h rfl
      refine rn 8 rfl ?_
      exact rt h rfl
    refine rn 15 rfl ?_
    exact rt h rfl
  refine rn 22 rfl ?_
  exact rt h rfl
theorem W9 (F : Nat) (a1 : (List TWindow)) (a2 : (List TWindow)) (r : Bool) (h : M9 F a1 a2 = some r) : PureG gl Tryz.prog 9 [(V.lst 6 (a1.map encTWindow)), (V.lst 6 (a2.map encTWindow)), (V.fn (.func 8) [] [])] (bV r) := by
  refine pin (fun r => (bV r)) r rfl Tryz.func9 rfl rfl rfl rfl rfl (fun w0 m0 hg => ?_)
  unfold M9 at h
  refine rn 8 rfl ?_
  refine ln rfl rfl ?_
  refine rn 1 rfl ?_
  refine ln rfl rfl ?_
  refine rn 2 rfl ?_
  refine spC h rfl (fun hb3 h => ?_) (fun hb3 h => ?_)
  · refine rn 4 rfl ?_
    exact rt h rfl
  refine rn 5 rfl ?_
  refine ln rfl rfl ?_
  refine rn 2 rfl ?_
  refine jK h (fun _ : Unit => (⟨[], [], 0⟩ : St)) (fun k4 (_ : Unit) => k4 = some r) (fun k4 h => ?_) ?_
  · refine rn 1 rfl ?_
    refine wl (A := a1) 0 rfl (fun hA15 => ?_)
    refine lC (fun (p : Int) => (⟨[(1, (V.lst 6 (a2.map encTWindow))), (2, (V.fn (.func 8) [] [])), (15, (V.lst 6 (a1.map encTWindow))), (16, (iV ((a1.length : Nat) : Int))), (17, (iV p))], [], 0⟩ : St)) (fun n (p : Int) => RG a1 (fun tl nn => M9_L1 F a2 k4 tl nn = some r) n p) (fun p h => RG.zero h) (a1.length + 1) 0 (RG.start h) (g0 rfl rfl) (fun n n6 h => ?_)
    refine rn 5 rfl ?_
    refine spL rfl (fun hb7 => ?_) (fun hb7 => ?_)
    · obtain ⟨x8, tl, hx9, h, hk1⟩ := RG.t hA15 h hb7
      unfold M9_L1 at h
      refine rn 6 rfl ?_
      refine ixh hx9 rfl rfl ?_
      refine rn 9 rfl ?_
      refine ixl h rfl rfl (fun x10 hx11 h => ?_)
      refine rn 9 rfl ?_
      refine cl h rfl rfl rfl (W8 _ _ _) rfl (fun y12 hx13 h => ?_)
      refine rn 2 rfl ?_
      refine spC h rfl (fun hb14 h => ?_) (fun hb14 h => ?_)
      · refine rn 4 rfl ?_
        exact rt h rfl
      refine rn 6 rfl ?_
      exact jX (w64 (n6 + 1)) (hk1 _ h) (g0 rfl rfl)
    replace h := RG.f h hb7
    unfold M9_L1 at h
    refine rn 1 rfl ?_
    exact jX () h (g0 rfl rfl)
  intro _ h
  refine rn 4 rfl ?_
  exact rt h rfl
theorem W32 (F : Nat) (a1 : TStory) (a2 : Int) (a3 : Int) (a4 : Int) (r : Int) (h : M32 F a1 a2 a3 a4 = some r) : PureG gl Tryz.prog 32 [(V.agg (encTStory a1)), (iV a2), (iV a3), (iV a4)] (iV r) := by
  refine pin (fun r => (iV r)) r rfl Tryz.func32 rfl rfl rfl rfl rfl (fun w0 m0 hg => ?_)
  unfold M32 at h
  refine rn 9 rfl ?_
  refine cl h rfl rfl rfl (W25 _ _) rfl (fun y5 hx6 h => ?_)
  refine rn 7 rfl ?_
  refine spC h rfl (fun hb7 h => ?_) (fun hb7 h => ?_)
  · refine rn 5 rfl ?_
    exact rt h rfl
  refine rn 7 rfl ?_
  refine spO 17 h rfl (fun hb8 h => ?_) (fun hb8 h => ?_)
  · refine rn 22 rfl ?_
    exact rt h rfl
  refine rn 5 rfl ?_
  refine spO 22 h rfl (fun hb9 h => ?_) (fun hb9 h => ?_)
  · refine rn 17 rfl ?_
    exact rt h rfl
  refine rn 4 rfl ?_
  refine spO 26 h rfl (fun hb10 h => ?_) (fun hb10 h => ?_)
  · refine rn 13 rfl ?_
    exact rt h rfl
  refine rn 4 rfl ?_
  refine spO 30 h rfl (fun hb11 h => ?_) (fun hb11 h => ?_)
  · refine rn 9 rfl ?_
    exact rt h rfl
  refine rn 4 rfl ?_
  refine spC h rfl (fun hb12 h => ?_) (fun hb12 h => ?_)
  · refine rn 4 rfl ?_
    exact rt h rfl
  refine rn 5 rfl ?_
  exact rt h rfl
theorem W65 (F : Nat) (a1 : (List Thistory_piece)) (r : (List Thistory_piece)) (h : M65 F a1 = some r) : MutG gl Tryz.prog 65 [(V.lst 5 (a1.map encThistory_piece))] 0 [] (resV [(V.own 0 r.length)]) 1 [(0, (Ob.arr 88 5 (r.map encThistory_piece)))] := by
  refine mut_enter Tryz.func65 rfl rfl (l := [.tmp 2]) rfl rfl [(0, (V.lst 5 (a1.map encThistory_piece)))] rfl (fun w0 m0 β0 hg => en ?_)
  unfold M65 at h
  refine rn 8 rfl ?_
  refine aops_isNil (n := a1.length) false tIsSl85 wants_none rfl rfl (congrArg some (List.length_map ..)) rfl (fun b7 hn8 => ?_)
  replace h := nilq_elim h hn8
  refine fo (rn 1 rfl ?_)
  refine spC h rfl (fun hb9 h => ?_) (fun hb9 h => ?_)
  · refine rn 4 rfl ?_
    replace h := Option.some.inj h
    subst h
    exact wR ⟨.inl rfl, [(2, (V.own 0 ([] : List Thistory_piece).length))], (Ghost.trans (ghost_nilE 2 88 5 rfl) (ghost_ren 1 (fun i => ([0] : List Nat).getD i 0) _ _ (by decide) (EnvSub.get (.cons (Sub.ownE rfl rfl (by simp)) .nil)) (HpSub.get (.cons rfl (ObSub.rows (rows_imm imms_encThistory_piece)) .nil)) rfl)), (.cons (.tmp rfl) .nil)⟩
  refine rn 3 rfl ?_
  refine aops_emptySlice tEl85 wants_none rfl ?_
  refine fo (rn 1 rfl ?_)
  refine apL encThistory_piece h rfl rfl rfl (by simp) rfl (fun h => ?_)
  refine rn 2 rfl ?_
  replace h := Option.some.inj h
  subst h
  exact wR ⟨.inl rfl, [(2, (V.own 0 (([] : List Thistory_piece) ++ a1).length))], (gr [1] rfl (hR rfl rfl .nil) rfl), (.cons (.tmp rfl) .nil)⟩
theorem W35 (F : Nat) (a1 : Thistory_piece) (a2 : Thistory_piece) (r : Int) (h : M35 F a1 a2 = some r) : PureG gl Tryz.prog 35 [(V.agg (encThistory_piece a1)), (V.agg (encThistory_piece a2))] (iV r) := by
  refine pin (fun r => (iV r)) r rfl Tryz.func35 rfl rfl rfl rfl rfl (fun w0 m0 hg => ?_)
  unfold M35 at h
  refine rn 12 rfl ?_
  refine cl h rfl rfl rfl (W36 _ _ _) rfl (fun y3 hx4 h => ?_)
  refine rn 2 rfl ?_
  exact rt h rfl
theorem W98 (F : Nat) (a1 : Int) (a2 : Int) (a3 : List Thistory_piece) (r : (List Thistory_piece)) (h : M98 F a1 a2 a3 = some r) : MutG gl Tryz.prog 98 [(V.own 0 a3.length), (iV a1), (iV a2), (V.fn (.func 35) [] [])] 1 [(0, (Ob.arr 88 5 (a3.map encThistory_piece)))] (resV []) 1 [(0, (Ob.arr 88 5 (r.map encThistory_piece)))] := by
  refine mut_enter Tryz.func98 rfl rfl (l := []) rfl rfl [(0, (V.own 0 a3.length)), (1, (iV a1)), (2, (iV a2)), (3, (V.fn (.func 35) [] []))] rfl (fun w0 m0 β0 hg => en ?_)
  unfold M98 at h
  refine rn 7 rfl ?_
  refine lC (fun (p : Int × (List Thistory_piece)) => (⟨[(0, (V.own 0 (p.2).length)), (1, (iV a1)), (2, (iV a2)), (3, (V.fn (.func 35) [] [])), (8, (iV (p.1)))], [(0, (Ob.arr 88 5 ((p.2).map encThistory_piece)))], 1⟩ : St)) (fun n (p : Int × (List Thistory_piece)) => M98_L1 F a1 a2 n p.1 p.2 = some r) (fun p h => by simp [M98_L1] at h) F ((w64 (a1 + 1)), a3) h (gr [0] rfl (hR rfl rfl .nil) rfl) (fun n p h => ?_)
  obtain ⟨n36, l37⟩ := p
  unfold M98_L1 at h
  refine rn 7 rfl ?_
  refine spC h rfl (fun hb38 h => ?_) (fun hb38 h => ?_)
  · refine rn 2 rfl ?_
    refine jK h (fun (p : (List Thistory_piece)) => (⟨[(0, (V.own 0 p.length)), (1, (iV a1)), (2, (iV a2)), (3, (V.fn (.func 35) [] [])), (8, (iV n36))], [(0, (Ob.arr 88 5 (p.map encThistory_piece)))], 1⟩ : St)) (fun k39 (p : (List Thistory_piece)) => k39 p = some r) (fun k39 h => ?_) ?_
    · refine rn 6 rfl ?_
      refine jK h (fun (p : (List Thistory_piece)) => (⟨[(0, (V.own 0 p.length)), (1, (iV a1)), (2, (iV a2)), (3, (V.fn (.func 35) [] [])), (8, (iV n36))], [(0, (Ob.arr 88 5 (p.map encThistory_piece)))], 1⟩ : St)) (fun k41 (p : (List Thistory_piece)) => k41 p = some r) (fun k41 h => ?_) ?_
      · refine rn 1 rfl ?_
        refine lC (fun (p : Int × (List Thistory_piece)) => (⟨[(0, (V.own 0 (p.2).length)), (1, (iV a1)), (2, (iV a2)), (3, (V.fn (.func 35) [] [])), (8, (iV n36)), (9, (iV (p.1)))], [(0, (Ob.arr 88 5 ((p.2).map encThistory_piece)))], 1⟩ : St)) (fun n (p : Int × (List Thistory_piece)) => M98_L2 F a1 k41 n p.1 p.2 = some r) (fun p h => by simp [M98_L2] at h) F (n36, l37) h (gr [0] rfl (hR rfl rfl .nil) rfl) (fun n p h => ?_)
        obtain ⟨n45, l46⟩ := p
        unfold M98_L2 at h
        refine rn 2 rfl ?_
        refine bs h (fun hb47 h => ?_) (fun hb47 h => ?_)
        · obtain ⟨x48, hx49, h⟩ := bind_some h
          obtain ⟨x50, hx51, h⟩ := bind_some h
          obtain ⟨y52, hx53, h⟩ := bind_some h
          refine dr mixed (vs 3 rfl (vb hb47 rfl (vs 3 rfl (oD (a := l46) hx49 rfl rfl rfl rfl (lD hx49 rfl rfl rfl rfl rfl (vs 3 rfl (oD (a := l46) hx51 rfl rfl rfl rfl (lD hx51 rfl rfl rfl rfl rfl (cD rfl rfl rfl rfl (W35 _ _ _ _ hx53) rfl (vs 2 rfl .nil)))))))))) (by kernel_rfl) ?_
          refine spC h rfl (fun hb54 h => ?_) (fun hb54 h => ?_)
          · obtain ⟨x55, hx56, h⟩ := bind_some h
            obtain ⟨x57, hx58, h⟩ := bind_some h
            obtain ⟨x59, hx60, h⟩ := bind_some h
            obtain ⟨x61, hx62, h⟩ := bind_some h
            refine rn 3 rfl ?_
            refine dr mixed (vs 8 rfl (oD (a := l46) hx56 rfl rfl rfl rfl (lD hx56 rfl rfl rfl rfl rfl (vs 2 rfl (oD (a := l46) hx58 rfl rfl rfl rfl (lD hx58 rfl rfl rfl rfl rfl (oD (a := l46) hx60 rfl rfl rfl rfl (xD (OD.mk [(51, (V.ptr 0 5 n45.toNat 0)), (46, (V.agg (encThistory_piece x55)))] [(0, (Ob.arr 88 5 (l46.map encThistory_piece)))] [] [(0, (Ob.arr 88 5 ((l46.set n45.toNat x55).map encThistory_piece)))]) ⟨⟨rfl, rfl, trivial⟩, ⟨rfl, trivial⟩⟩ (by exact fun S hn h hh => aops_store (encThistory_piece x55) ((l46.set n45.toNat x55).map encThistory_piece) tS88 wants_none h.1 h.2.1 rfl rfl hh.1 (idx_map encThistory_piece hx60) rfl (map_set encThistory_piece l46 _ x55) (aops_nil ⟨rfl, rfl⟩)) rfl (xD (OD.mk [(39, (V.own 0 l46.length)), (41, (iV (w64 (n45 - 1))))] [] [(52, (V.ptr 0 5 (w64 (n45 - 1)).toNat 0))] []) ⟨⟨rfl, rfl, trivial⟩, trivial⟩ (by exact fun S hn h hh => aops_index_own tSl85 wants_none h.1 h.2.1 (idx_some hx62).1 (by simpa using idx_lt hx62) rfl (aops_nil ⟨rfl, rfl⟩)) rfl (xD (OD.mk [(52, (V.ptr 0 5 (w64 (n45 - 1)).toNat 0)), (50, (V.agg (encThistory_piece x57)))] [(0, (Ob.arr 88 5 ((l46.set n45.toNat x55).map encThistory_piece)))] [] [(0, (Ob.arr 88 5 (((l46.set n45.toNat x55).set (w64 (n45 - 1)).toNat x57).map encThistory_piece)))]) ⟨⟨rfl, rfl, trivial⟩, ⟨rfl, trivial⟩⟩ (by exact fun S hn h hh => aops_store (encThistory_piece x57) (((l46.set n45.toNat x55).set (w64 (n45 - 1)).toNat x57).map encThistory_piece) tS88 wants_none h.1 h.2.1 rfl rfl hh.1 (idx_map encThistory_piece hx62) rfl (map_set encThistory_piece (l46.set n45.toNat x55) _ x57) (aops_nil ⟨rfl, rfl⟩)) rfl .nil)))))))))) (by kernel_rfl) ?_
            refine rn 6 rfl ?_
            exact jX ((w64 (n45 - 1)), ((l46.set n45.toNat x55).set (w64 (n45 - 1)).toNat x57)) h (ghost_ren 1 (fun i => ([0] : List Nat).getD i 0) _ _ (by decide) (EnvSub.get (.cons (Sub.ownE rfl rfl (by simp)) (.cons (Sub.imm (Imm.con _)) (.cons (Sub.imm (Imm.con _)) (.cons (Sub.imm (Imm.fn .nil .nil)) (.cons (Sub.imm (Imm.con _)) (.cons (Sub.imm (Imm.con _)) .nil))))))) (HpSub.get (.cons rfl (ObSub.rows (rows_imm imms_encThistory_piece)) .nil)) rfl)
          refine rn 1 rfl ?_
          exact jX l46 h (gr [0] rfl (hR rfl rfl .nil) rfl)
        refine dr mixed (vs 3 rfl (vb hb47 rfl (vs 13 rfl .nil))) (by kernel_rfl) ?_
        refine rn 2 rfl ?_
        exact jX l46 h (gr [0] rfl (hR rfl rfl .nil) rfl)
      intro l42 h
      refine rn 1 rfl ?_
      exact jX l42 h (gr [0] rfl (hR rfl rfl .nil) rfl)
    intro l40 h
    refine rn 5 rfl ?_
    exact jX ((w64 (n36 + 1)), l40) h (gr [0] rfl (hR rfl rfl .nil) rfl)
  refine rn 1 rfl ?_
  replace h := Option.some.inj h
  subst h
  exact wE ⟨.inr rfl, [], (gr [0] rfl (hR rfl rfl .nil) rfl), .nil⟩
theorem W129 (F : Nat) (a1 : Int) (a2 : Int) (a3 : Int) (a4 : List Thistory_piece) (r : (List Thistory_piece)) (h : M129 F a1 a2 a3 a4 = some r) : MutG gl Tryz.prog 129 [(V.own 0 a4.length), (iV a1), (iV a2), (iV a3), (V.fn (.func 35) [] [])] 1 [(0, (Ob.arr 88 5 (a4.map encThistory_piece)))] (resV []) 1 [(0, (Ob.arr 88 5 (r.map encThistory_piece)))] := by
  refine mut_enter Tryz.func129 rfl rfl (l := []) rfl rfl [(0, (V.own 0 a4.length)), (1, (iV a1)), (2, (iV a2)), (3, (iV a3)), (4, (V.fn (.func 35) [] []))] rfl (fun w0 m0 β0 hg => en ?_)
  unfold M129 at h
  refine rn 5 rfl ?_
  refine ck h (fun hA33 h => ?_)
  refine lC (fun (p : Int × (List Thistory_piece)) => (⟨[(0, (V.own 0 (p.2).length)), (1, (iV a1)), (2, (iV a2)), (3, (iV a3)), (10, (iV (p.1)))], [(0, (Ob.arr 88 5 ((p.2).map encThistory_piece)))], 1⟩ : St)) (fun n (p : Int × (List Thistory_piece)) => RC a3 (fun tl nn => M129_L1 F a1 a2 tl nn p.2 = some r) n p.1) (fun p h => RC.zero h) (Int.toNat a3 + 1) (0, a4) (RC.start h) (gr [0] rfl (hR rfl rfl .nil) rfl) (fun n p h => ?_)
  obtain ⟨n22, l23⟩ := p
  refine rn 7 rfl ?_
  refine spL rfl (fun hb24 => ?_) (fun hb24 => ?_)
  · obtain ⟨tl, h, hk1⟩ := RC.t hA33 h hb24
    unfold M129_L1 at h
    obtain ⟨x25, hx26, h⟩ := bind_some h
    obtain ⟨x27, hx28, h⟩ := bind_some h
    obtain ⟨x29, hx30, h⟩ := bind_some h
    obtain ⟨x31, hx32, h⟩ := bind_some h
    refine rn 3 rfl ?_
    refine dr mixed (vs 12 rfl (oD (a := l23) hx26 rfl rfl rfl rfl (lD hx26 rfl rfl rfl rfl rfl (vs 4 rfl (oD (a := l23) hx28 rfl rfl rfl rfl (lD hx28 rfl rfl rfl rfl rfl (oD (a := l23) hx30 rfl rfl rfl rfl (xD (OD.mk [(36, (V.ptr 0 5 (w64 (a1 + n22)).toNat 0)), (29, (V.agg (encThistory_piece x25)))] [(0, (Ob.arr 88 5 (l23.map encThistory_piece)))] [] [(0, (Ob.arr 88 5 ((l23.set (w64 (a1 + n22)).toNat x25).map encThistory_piece)))]) ⟨⟨rfl, rfl, trivial⟩, ⟨rfl, trivial⟩⟩ (by exact fun S hn h hh => aops_store (encThistory_piece x25) ((l23.set (w64 (a1 + n22)).toNat x25).map encThistory_piece) tS88 wants_none h.1 h.2.1 rfl rfl hh.1 (idx_map encThistory_piece hx30) rfl (map_set encThistory_piece l23 _ x25) (aops_nil ⟨rfl, rfl⟩)) rfl (xD (OD.mk [(20, (V.own 0 l23.length)), (23, (iV (w64 (a2 + n22))))] [] [(37, (V.ptr 0 5 (w64 (a2 + n22)).toNat 0))] []) ⟨⟨rfl, rfl, trivial⟩, trivial⟩ (by exact fun S hn h hh => aops_index_own tSl85 wants_none h.1 h.2.1 (idx_some hx32).1 (by simpa using idx_lt hx32) rfl (aops_nil ⟨rfl, rfl⟩)) rfl (xD (OD.mk [(37, (V.ptr 0 5 (w64 (a2 + n22)).toNat 0)), (35, (V.agg (encThistory_piece x27)))] [(0, (Ob.arr 88 5 ((l23.set (w64 (a1 + n22)).toNat x25).map encThistory_piece)))] [] [(0, (Ob.arr 88 5 (((l23.set (w64 (a1 + n22)).toNat x25).set (w64 (a2 + n22)).toNat x27).map encThistory_piece)))]) ⟨⟨rfl, rfl, trivial⟩, ⟨rfl, trivial⟩⟩ (by exact fun S hn h hh => aops_store (encThistory_piece x27) (((l23.set (w64 (a1 + n22)).toNat x25).set (w64 (a2 + n22)).toNat x27).map encThistory_piece) tS88 wants_none h.1 h.2.1 rfl rfl hh.1 (idx_map encThistory_piece hx32) rfl (map_set encThistory_piece (l23.set (w64 (a1 + n22)).toNat x25) _ x27) (aops_nil ⟨rfl, rfl⟩)) rfl .nil)))))))))) (by kernel_rfl) ?_
    refine rn 6 rfl ?_
    exact jX ((w64 (n22 + 1)), ((l23.set (w64 (a1 + n22)).toNat x25).set (w64 (a2 + n22)).toNat x27)) (hk1 _ h) (ghost_ren 1 (fun i => ([0] : List Nat).getD i 0) _ _ (by decide) (EnvSub.get (.cons (Sub.ownE rfl rfl (by simp)) (.cons (Sub.imm (Imm.con _)) (.cons (Sub.imm (Imm.con _)) (.cons (Sub.imm (Imm.con _)) (.cons (Sub.imm (Imm.con _)) .nil)))))) (HpSub.get (.cons rfl (ObSub.rows (rows_imm imms_encThistory_piece)) .nil)) rfl)
  replace h := RC.f h hb24
  unfold M129_L1 at h
  refine rn 1 rfl ?_
  replace h := Option.some.inj h
  subst h
  exact wE ⟨.inr rfl, [], (gr [0] rfl (hR rfl rfl .nil) rfl), .nil⟩
theorem W112 (F : Nat) (a1 : Int) (a2 : Int) (a3 : Int) (a4 : List Thistory_piece) (r : (List Thistory_piece)) (h : M112 F a1 a2 a3 a4 = some r) : MutG gl Tryz.prog 112 [(V.own 0 a4.length), (iV a1), (iV a2), (iV a3), (V.fn (.func 35) [] [])] 1 [(0, (Ob.arr 88 5 (a4.map encThistory_piece)))] (resV []) 1 [(0, (Ob.arr 88 5 (r.map encThistory_piece)))] := by
  refine mut_enter Tryz.func112 rfl rfl (l := []) rfl rfl [(0, (V.own 0 a4.length)), (1, (iV a1)), (2, (iV a2)), (3, (iV a3)), (4, (V.fn (.func 35) [] []))] rfl (fun w0 m0 β0 hg => en ?_)
  unfold M112 at h
  refine rn 15 rfl ?_
  refine jK h (fun (p : Int × (List Thistory_piece)) => (⟨[(0, (V.own 0 (p.2).length)), (2, (iV a2)), (4, (V.fn (.func 35) [] [])), (10, (iV (p.1)))], [(0, (Ob.arr 88 5 ((p.2).map encThistory_piece)))], 1⟩ : St)) (fun k30 (p : Int × (List Thistory_piece)) => k30 p.1 p.2 = some r) (fun k30 h => ?_) ?_
  · refine rn 1 rfl ?_
    refine lC (fun (p : Int × Int × (List Thistory_piece)) => (⟨[(0, (V.own 0 (p.2.2).length)), (2, (iV a2)), (4, (V.fn (.func 35) [] [])), (10, (iV (p.1))), (11, (iV (p.2.1)))], [(0, (Ob.arr 88 5 ((p.2.2).map encThistory_piece)))], 1⟩ : St)) (fun n (p : Int × Int × (List Thistory_piece)) => M112_L1 F a2 k30 n p.1 p.2.1 p.2.2 = some r) (fun p h => by simp [M112_L1] at h) F ((w64 (a2 - a1)), (w64 (a3 - a2)), a4) h (gr [0] rfl (hR rfl rfl .nil) rfl) (fun n p h => ?_)
    obtain ⟨n36, n37, l38⟩ := p
    unfold M112_L1 at h
    refine rn 7 rfl ?_
    refine spC h rfl (fun hb39 h => ?_) (fun hb39 h => ?_)
    · refine rn 8 rfl ?_
      refine jK h (fun (p : Int × Int × (List Thistory_piece)) => (⟨[(0, (V.own 0 (p.2.2).length)), (2, (iV a2)), (4, (V.fn (.func 35) [] [])), (10, (iV (p.1))), (11, (iV (p.2.1)))], [(0, (Ob.arr 88 5 ((p.2.2).map encThistory_piece)))], 1⟩ : St)) (fun k40 (p : Int × Int × (List Thistory_piece)) => k40 p.1 p.2.1 p.2.2 = some r) (fun k40 h => ?_) ?_
      · refine spC h rfl (fun hb44 h => ?_) (fun hb44 h => ?_)
        · obtain ⟨y45, hx46, h⟩ := bind_some h
          refine rn 9 rfl ?_
          refine ck h (fun hc47 h => ?_)
          refine aops_mcallS (V.tup []) [(V.own 0 l38.length), (iV (w64 (a2 - n36))), (iV a2), (iV n37), (V.fn (.func 35) [] [])] (fun i => ([0] : List Nat).getD i 0) (fun i => ([0] : List Nat).getD i 0) 1 1 [(0, (Ob.arr 88 5 (y45.map encThistory_piece)))] fOk129 wants_none rfl (evm_cons rfl (evm_cons rfl (evm_cons rfl (evm_cons rfl (evm_cons rfl evm_nil))))) (.cons (Sub.own rfl rfl) (.cons (Sub.imm (Imm.con _)) (.cons (Sub.imm (Imm.con _)) (.cons (Sub.imm (Imm.con _)) (.cons (Sub.imm (Imm.fn .nil .nil)) .nil))))) (.cons rfl (ObSub.rows (rows_imm imms_encThistory_piece)) .nil) (W129 F (w64 (a2 - n36)) a2 n37 l38 y45 hx46) rfl rfl rfl rfl (Sub.immT (Imm.tup .nil)) (.cons rfl (ObSub.rowsT (rows_imm imms_encThistory_piece)) .nil) _ rfl ?_
          refine aops_ghost (ghost_tell 0 (V.own 0 y45.length) rfl (Sub.ownI hc47)) ?_
          refine aops_ghost (ghost_tell 24 (V.own 0 y45.length) rfl (Sub.ownI hc47)) ?_
          refine fo (rn 7 rfl ?_)
          exact jX ((w64 (n36 - n37)), n37, y45) h (gr [0] rfl (hR rfl rfl .nil) rfl)
        obtain ⟨y48, hx49, h⟩ := bind_some h
        refine rn 13 rfl ?_
        refine ck h (fun hc50 h => ?_)
        refine aops_mcallS (V.tup []) [(V.own 0 l38.length), (iV (w64 (a2 - n36))), (iV (w64 ((w64 (a2 + n37)) - n36))), (iV n36), (V.fn (.func 35) [] [])] (fun i => ([0] : List Nat).getD i 0) (fun i => ([0] : List Nat).getD i 0) 1 1 [(0, (Ob.arr 88 5 (y48.map encThistory_piece)))] fOk129 wants_none rfl (evm_cons rfl (evm_cons rfl (evm_cons rfl (evm_cons rfl (evm_cons rfl evm_nil))))) (.cons (Sub.own rfl rfl) (.cons (Sub.imm (Imm.con _)) (.cons (Sub.imm (Imm.con _)) (.cons (Sub.imm (Imm.con _)) (.cons (Sub.imm (Imm.fn .nil .nil)) .nil))))) (.cons rfl (ObSub.rows (rows_imm imms_encThistory_piece)) .nil) (W129 F (w64 (a2 - n36)) (w64 ((w64 (a2 + n37)) - n36)) n36 l38 y48 hx49) rfl rfl rfl rfl (Sub.immT (Imm.tup .nil)) (.cons rfl (ObSub.rowsT (rows_imm imms_encThistory_piece)) .nil) _ rfl ?_
        refine aops_ghost (ghost_tell 0 (V.own 0 y48.length) rfl (Sub.ownI hc50)) ?_
        refine aops_ghost (ghost_tell 35 (V.own 0 y48.length) rfl (Sub.ownI hc50)) ?_
        refine fo (rn 7 rfl ?_)
        exact jX (n36, (w64 (n37 - n36)), y48) h (gr [0] rfl (hR rfl rfl .nil) rfl)
      rintro ⟨n41, n42, l43⟩ h
      refine rn 1 rfl ?_
      exact jX (n41, n42, l43) h (gr [0] rfl (hR rfl rfl .nil) rfl)
    refine rn 1 rfl ?_
    exact jX (n36, l38) h (gr [0] rfl (hR rfl rfl .nil) rfl)
  rintro ⟨n31, l32⟩ h
  obtain ⟨y51, hx52, h⟩ := bind_some h
  refine rn 8 rfl ?_
  refine ck h (fun hc53 h => ?_)
  refine aops_mcallS (V.tup []) [(V.own 0 l32.length), (iV (w64 (a2 - n31))), (iV a2), (iV n31), (V.fn (.func 35) [] [])] (fun i => ([0] : List Nat).getD i 0) (fun i => ([0] : List Nat).getD i 0) 1 1 [(0, (Ob.arr 88 5 (y51.map encThistory_piece)))] fOk129 wants_none rfl (evm_cons rfl (evm_cons rfl (evm_cons rfl (evm_cons rfl (evm_cons rfl evm_nil))))) (.cons (Sub.own rfl rfl) (.cons (Sub.imm (Imm.con _)) (.cons (Sub.imm (Imm.con _)) (.cons (Sub.imm (Imm.con _)) (.cons (Sub.imm (Imm.fn .nil .nil)) .nil))))) (.cons rfl (ObSub.rows (rows_imm imms_encThistory_piece)) .nil) (W129 F (w64 (a2 - n31)) a2 n31 l32 y51 hx52) rfl rfl rfl rfl (Sub.immT (Imm.tup .nil)) (.cons rfl (ObSub.rowsT (rows_imm imms_encThistory_piece)) .nil) _ rfl ?_
  refine aops_ghost (ghost_tell 0 (V.own 0 y51.length) rfl (Sub.ownI hc53)) ?_
  refine aops_ghost (ghost_tell 50 (V.own 0 y51.length) rfl (Sub.ownI hc53)) ?_
  refine fo (rn 1 rfl ?_)
  replace h := Option.some.inj h
  subst h
  exact wE ⟨.inr rfl, [], (gr [0] rfl (hR rfl rfl .nil) rfl), .nil⟩
theorem W99_B (R99 : Int → Int → Int → (List Thistory_piece) → Option (List Thistory_piece)) (hR99 : ∀ (a1 : Int) (a2 : Int) (a3 : Int) (a4 : List Thistory_piece) (r : (List Thistory_piece)), R99 a1 a2 a3 a4 = some r → MutG gl Tryz.prog 99 [(V.own 0 a4.length), (iV a1), (iV a2), (iV a3), (V.fn (.func 35) [] [])] 1 [(0, (Ob.arr 88 5 (a4.map encThistory_piece)))] (resV []) 1 [(0, (Ob.arr 88 5 (r.map encThistory_piece)))]) (F : Nat) (a1 : Int) (a2 : Int) (a3 : Int) (a4 : List Thistory_piece) (r : (List Thistory_piece)) (h : M99_B R99 F a1 a2 a3 a4 = some r) : MutG gl Tryz.prog 99 [(V.own 0 a4.length), (iV a1), (iV a2), (iV a3), (V.fn (.func 35) [] [])] 1 [(0, (Ob.arr 88 5 (a4.map encThistory_piece)))] (resV []) 1 [(0, (Ob.arr 88 5 (r.map encThistory_piece)))] := by
  refine mut_enter Tryz.func99 rfl rfl (l := []) rfl rfl [(0, (V.own 0 a4.length)), (1, (iV a1)), (2, (iV a2)), (3, (iV a3)), (4, (V.fn (.func 35) [] []))] rfl (fun w0 m0 β0 hg => en ?_)
  unfold M99_B at h
  refine rn 8 rfl ?_
  refine spC h rfl (fun hb134 h => ?_) (fun hb134 h => ?_)
  · refine rn 11 rfl ?_
    refine jK h (fun (p : Int) => (⟨[(0, (V.own 0 a4.length)), (1, (iV a1)), (10, (iV p))], [(0, (Ob.arr 88 5 (a4.map encThistory_piece)))], 1⟩ : St)) (fun k135 (p : Int) => k135 p = some r) (fun k135 h => ?_) ?_
    · refine rn 1 rfl ?_
      refine lC (fun (p : Int × Int) => (⟨[(0, (V.own 0 a4.length)), (1, (iV a1)), (4, (V.fn (.func 35) [] [])), (10, (iV (p.1))), (11, (iV (p.2)))], [(0, (Ob.arr 88 5 (a4.map encThistory_piece)))], 1⟩ : St)) (fun n (p : Int × Int) => M99_L1 F a1 a4 k135 n p.1 p.2 = some r) (fun p h => by simp [M99_L1] at h) F (a2, a3) h (gr [0] rfl (hR rfl rfl .nil) rfl) (fun n p h => ?_)
      obtain ⟨n139, n140⟩ := p
      unfold M99_L1 at h
      refine rn 7 rfl ?_
      refine spC h rfl (fun hb141 h => ?_) (fun hb141 h => ?_)
      · obtain ⟨x142, hx143, h⟩ := bind_some h
        obtain ⟨x144, hx145, h⟩ := bind_some h
        obtain ⟨y146, hx147, h⟩ := bind_some h
        refine rn 13 rfl ?_
        refine dr mixed (vs 3 rfl (oD (a := a4) hx143 rfl rfl rfl rfl (lD hx143 rfl rfl rfl rfl rfl (vs 2 rfl (oD (a := a4) hx145 rfl rfl rfl rfl (lD hx145 rfl rfl rfl rfl rfl (cD rfl rfl rfl rfl (W35 _ _ _ _ hx147) rfl (vs 1 rfl .nil)))))))) (by kernel_rfl) ?_
        refine jK h (fun (p : Int × Int) => (⟨[(0, (V.own 0 a4.length)), (1, (iV a1)), (4, (V.fn (.func 35) [] [])), (10, (iV (p.1))), (11, (iV (p.2)))], [(0, (Ob.arr 88 5 (a4.map encThistory_piece)))], 1⟩ : St)) (fun k148 (p : Int × Int) => k148 p.1 p.2 = some r) (fun k148 h => ?_) ?_
        · refine spC h rfl (fun hb151 h => ?_) (fun hb151 h => ?_)
          · refine rn 5 rfl ?_
            exact jX ((w64 ((w64 (Int.fdiv (IntKind.wrap .u64 (w64 (n139 + n140))) (2 ^ (min (Int.toNat 1) (IntKind.bits .u64))))) + 1)), n140) h (gr [0] rfl (hR rfl rfl .nil) rfl)
          refine rn 4 rfl ?_
          exact jX (n139, (w64 (Int.fdiv (IntKind.wrap .u64 (w64 (n139 + n140))) (2 ^ (min (Int.toNat 1) (IntKind.bits .u64)))))) h (gr [0] rfl (hR rfl rfl .nil) rfl)
        rintro ⟨n149, n150⟩ h
        refine rn 1 rfl ?_
        exact jX (n149, n150) h (gr [0] rfl (hR rfl rfl .nil) rfl)
      refine rn 1 rfl ?_
      exact jX n139 h (gr [0] rfl (hR rfl rfl .nil) rfl)
    intro n136 h
    refine rn 6 rfl ?_
    refine jK h (fun (p : (List Thistory_piece)) => (⟨[], [(0, (Ob.arr 88 5 (p.map encThistory_piece)))], 1⟩ : St)) (fun k152 (p : (List Thistory_piece)) => k152 p = some r) (fun k152 h => ?_) ?_
    · refine rn 1 rfl ?_
      refine lC (fun (p : Int × (List Thistory_piece)) => (⟨[(0, (V.own 0 (p.2).length)), (10, (iV n136)), (13, (iV (p.1)))], [(0, (Ob.arr 88 5 ((p.2).map encThistory_piece)))], 1⟩ : St)) (fun n (p : Int × (List Thistory_piece)) => M99_L2 F n136 k152 n p.1 p.2 = some r) (fun p h => by simp [M99_L2] at h) F (a1, a4) h (gr [0] rfl (hR rfl rfl .nil) rfl) (fun n p h => ?_)
      obtain ⟨n156, l157⟩ := p
      unfold M99_L2 at h
      refine rn 8 rfl ?_
      refine spC h rfl (fun hb158 h => ?_) (fun hb158 h => ?_)
      · obtain ⟨x159, hx160, h⟩ := bind_some h
        obtain ⟨x161, hx162, h⟩ := bind_some h
        obtain ⟨x163, hx164, h⟩ := bind_some h
        obtain ⟨x165, hx166, h⟩ := bind_some h
        refine rn 3 rfl ?_
        refine dr mixed (vs 8 rfl (oD (a := l157) hx160 rfl rfl rfl rfl (lD hx160 rfl rfl rfl rfl rfl (vs 2 rfl (oD (a := l157) hx162 rfl rfl rfl rfl (lD hx162 rfl rfl rfl rfl rfl (oD (a := l157) hx164 rfl rfl rfl rfl (xD (OD.mk [(75, (V.ptr 0 5 n156.toNat 0)), (70, (V.agg (encThistory_piece x159)))] [(0, (Ob.arr 88 5 (l157.map encThistory_piece)))] [] [(0, (Ob.arr 88 5 ((l157.set n156.toNat x159).map encThistory_piece)))]) ⟨⟨rfl, rfl, trivial⟩, ⟨rfl, trivial⟩⟩ (by exact fun S hn h hh => aops_store (encThistory_piece x159) ((l157.set n156.toNat x159).map encThistory_piece) tS88 wants_none h.1 h.2.1 rfl rfl hh.1 (idx_map encThistory_piece hx164) rfl (map_set encThistory_piece l157 _ x159) (aops_nil ⟨rfl, rfl⟩)) rfl (xD (OD.mk [(63, (V.own 0 l157.length)), (65, (iV (w64 (n156 + 1))))] [] [(76, (V.ptr 0 5 (w64 (n156 + 1)).toNat 0))] []) ⟨⟨rfl, rfl, trivial⟩, trivial⟩ (by exact fun S hn h hh => aops_index_own tSl85 wants_none h.1 h.2.1 (idx_some hx166).1 (by simpa using idx_lt hx166) rfl (aops_nil ⟨rfl, rfl⟩)) rfl (xD (OD.mk [(76, (V.ptr 0 5 (w64 (n156 + 1)).toNat 0)), (74, (V.agg (encThistory_piece x161)))] [(0, (Ob.arr 88 5 ((l157.set n156.toNat x159).map encThistory_piece)))] [] [(0, (Ob.arr 88 5 (((l157.set n156.toNat x159).set (w64 (n156 + 1)).toNat x161).map encThistory_piece)))]) ⟨⟨rfl, rfl, trivial⟩, ⟨rfl, trivial⟩⟩ (by exact fun S hn h hh => aops_store (encThistory_piece x161) (((l157.set n156.toNat x159).set (w64 (n156 + 1)).toNat x161).map encThistory_piece) tS88 wants_none h.1 h.2.1 rfl rfl hh.1 (idx_map encThistory_piece hx166) rfl (map_set encThistory_piece (l157.set n156.toNat x159) _ x161) (aops_nil ⟨rfl, rfl⟩)) rfl .nil)))))))))) (by kernel_rfl) ?_
        refine rn 6 rfl ?_
        exact jX ((w64 (n156 + 1)), ((l157.set n156.toNat x159).set (w64 (n156 + 1)).toNat x161)) h (ghost_ren 1 (fun i => ([0] : List Nat).getD i 0) _ _ (by decide) (EnvSub.get (.cons (Sub.ownE rfl rfl (by simp)) (.cons (Sub.imm (Imm.con _)) (.cons (Sub.imm (Imm.con _)) .nil)))) (HpSub.get (.cons rfl (ObSub.rows (rows_imm imms_encThistory_piece)) .nil)) rfl)
      refine rn 1 rfl ?_
      exact jX l157 h (gr [0] rfl (hR rfl rfl .nil) rfl)
    intro l153 h
    replace h := Option.some.inj h
    subst h
    exact wR ⟨.inl rfl, [], (gr [0] rfl (hR rfl rfl .nil) rfl), .nil⟩
  refine rn 9 rfl ?_
  refine spC h rfl (fun hb167 h => ?_) (fun hb167 h => ?_)
  · refine rn 11 rfl ?_
    refine jK h (fun (p : Int) => (⟨[(0, (V.own 0 a4.length)), (2, (iV a2)), (14, (iV p))], [(0, (Ob.arr 88 5 (a4.map encThistory_piece)))], 1⟩ : St)) (fun k168 (p : Int) => k168 p = some r) (fun k168 h => ?_) ?_
    · refine rn 1 rfl ?_
      refine lC (fun (p : Int × Int) => (⟨[(0, (V.own 0 a4.length)), (2, (iV a2)), (4, (V.fn (.func 35) [] [])), (14, (iV (p.1))), (15, (iV (p.2)))], [(0, (Ob.arr 88 5 (a4.map encThistory_piece)))], 1⟩ : St)) (fun n (p : Int × Int) => M99_L3 F a2 a4 k168 n p.1 p.2 = some r) (fun p h => by simp [M99_L3] at h) F (a1, a2) h (gr [0] rfl (hR rfl rfl .nil) rfl) (fun n p h => ?_)
      obtain ⟨n172, n173⟩ := p
      unfold M99_L3 at h
      refine rn 7 rfl ?_
      refine spC h rfl (fun hb174 h => ?_) (fun hb174 h => ?_)
      · obtain ⟨x175, hx176, h⟩ := bind_some h
        obtain ⟨x177, hx178, h⟩ := bind_some h
        obtain ⟨y179, hx180, h⟩ := bind_some h
        refine rn 13 rfl ?_
        refine dr mixed (vs 3 rfl (oD (a := a4) hx176 rfl rfl rfl rfl (lD hx176 rfl rfl rfl rfl rfl (vs 2 rfl (oD (a := a4) hx178 rfl rfl rfl rfl (lD hx178 rfl rfl rfl rfl rfl (cD rfl rfl rfl rfl (W35 _ _ _ _ hx180) rfl (vs 2 rfl .nil)))))))) (by kernel_rfl) ?_
        refine jK h (fun (p : Int × Int) => (⟨[(0, (V.own 0 a4.length)), (2, (iV a2)), (4, (V.fn (.func 35) [] [])), (14, (iV (p.1))), (15, (iV (p.2)))], [(0, (Ob.arr 88 5 (a4.map encThistory_piece)))], 1⟩ : St)) (fun k181 (p : Int × Int) => k181 p.1 p.2 = some r) (fun k181 h => ?_) ?_
        · refine spC h rfl (fun hb184 h => ?_) (fun hb184 h => ?_)
          · refine rn 5 rfl ?_
            exact jX ((w64 ((w64 (Int.fdiv (IntKind.wrap .u64 (w64 (n172 + n173))) (2 ^ (min (Int.toNat 1) (IntKind.bits .u64))))) + 1)), n173) h (gr [0] rfl (hR rfl rfl .nil) rfl)
          refine rn 4 rfl ?_
          exact jX (n172, (w64 (Int.fdiv (IntKind.wrap .u64 (w64 (n172 + n173))) (2 ^ (min (Int.toNat 1) (IntKind.bits .u64)))))) h (gr [0] rfl (hR rfl rfl .nil) rfl)
        rintro ⟨n182, n183⟩ h
        refine rn 1 rfl ?_
        exact jX (n182, n183) h (gr [0] rfl (hR rfl rfl .nil) rfl)
      refine rn 1 rfl ?_
      exact jX n172 h (gr [0] rfl (hR rfl rfl .nil) rfl)
    intro n169 h
    refine rn 6 rfl ?_
    refine jK h (fun (p : (List Thistory_piece)) => (⟨[], [(0, (Ob.arr 88 5 (p.map encThistory_piece)))], 1⟩ : St)) (fun k185 (p : (List Thistory_piece)) => k185 p = some r) (fun k185 h => ?_) ?_
    · refine rn 1 rfl ?_
      refine lC (fun (p : Int × (List Thistory_piece)) => (⟨[(0, (V.own 0 (p.2).length)), (14, (iV n169)), (17, (iV (p.1)))], [(0, (Ob.arr 88 5 ((p.2).map encThistory_piece)))], 1⟩ : St)) (fun n (p : Int × (List Thistory_piece)) => M99_L4 F n169 k185 n p.1 p.2 = some r) (fun p h => by simp [M99_L4] at h) F (a2, a4) h (gr [0] rfl (hR rfl rfl .nil) rfl) (fun n p h => ?_)
      obtain ⟨n189, l190⟩ := p
      unfold M99_L4 at h
      refine rn 7 rfl ?_
      refine spC h rfl (fun hb191 h => ?_) (fun hb191 h => ?_)
      · obtain ⟨x192, hx193, h⟩ := bind_some h
        obtain ⟨x194, hx195, h⟩ := bind_some h
        obtain ⟨x196, hx197, h⟩ := bind_some h
        obtain ⟨x198, hx199, h⟩ := bind_some h
        refine rn 3 rfl ?_
        refine dr mixed (vs 8 rfl (oD (a := l190) hx193 rfl rfl rfl rfl (lD hx193 rfl rfl rfl rfl rfl (vs 2 rfl (oD (a := l190) hx195 rfl rfl rfl rfl (lD hx195 rfl rfl rfl rfl rfl (oD (a := l190) hx197 rfl rfl rfl rfl (xD (OD.mk [(127, (V.ptr 0 5 n189.toNat 0)), (122, (V.agg (encThistory_piece x192)))] [(0, (Ob.arr 88 5 (l190.map encThistory_piece)))] [] [(0, (Ob.arr 88 5 ((l190.set n189.toNat x192).map encThistory_piece)))]) ⟨⟨rfl, rfl, trivial⟩, ⟨rfl, trivial⟩⟩ (by exact fun S hn h hh => aops_store (encThistory_piece x192) ((l190.set n189.toNat x192).map encThistory_piece) tS88 wants_none h.1 h.2.1 rfl rfl hh.1 (idx_map encThistory_piece hx197) rfl (map_set encThistory_piece l190 _ x192) (aops_nil ⟨rfl, rfl⟩)) rfl (xD (OD.mk [(115, (V.own 0 l190.length)), (117, (iV (w64 (n189 - 1))))] [] [(128, (V.ptr 0 5 (w64 (n189 - 1)).toNat 0))] []) ⟨⟨rfl, rfl, trivial⟩, trivial⟩ (by exact fun S hn h hh => aops_index_own tSl85 wants_none h.1 h.2.1 (idx_some hx199).1 (by simpa using idx_lt hx199) rfl (aops_nil ⟨rfl, rfl⟩)) rfl (xD (OD.mk [(128, (V.ptr 0 5 (w64 (n189 - 1)).toNat 0)), (126, (V.agg (encThistory_piece x194)))] [(0, (Ob.arr 88 5 ((l190.set n189.toNat x192).map encThistory_piece)))] [] [(0, (Ob.arr 88 5 (((l190.set n189.toNat x192).set (w64 (n189 - 1)).toNat x194).map encThistory_piece)))]) ⟨⟨rfl, rfl, trivial⟩, ⟨rfl, trivial⟩⟩ (by exact fun S hn h hh => aops_store (encThistory_piece x194) (((l190.set n189.toNat x192).set (w64 (n189 - 1)).toNat x194).map encThistory_piece) tS88 wants_none h.1 h.2.1 rfl rfl hh.1 (idx_map encThistory_piece hx199) rfl (map_set encThistory_piece (l190.set n189.toNat x192) _ x194) (aops_nil ⟨rfl, rfl⟩)) rfl .nil)))))))))) (by kernel_rfl) ?_
        refine rn 6 rfl ?_
        exact jX ((w64 (n189 - 1)), ((l190.set n189.toNat x192).set (w64 (n189 - 1)).toNat x194)) h (ghost_ren 1 (fun i => ([0] : List Nat).getD i 0) _ _ (by decide) (EnvSub.get (.cons (Sub.ownE rfl rfl (by simp)) (.cons (Sub.imm (Imm.con _)) (.cons (Sub.imm (Imm.con _)) .nil)))) (HpSub.get (.cons rfl (ObSub.rows (rows_imm imms_encThistory_piece)) .nil)) rfl)
      refine rn 1 rfl ?_
      exact jX l190 h (gr [0] rfl (hR rfl rfl .nil) rfl)
    intro l186 h
    replace h := Option.some.inj h
    subst h
    exact wR ⟨.inl rfl, [], (gr [0] rfl (hR rfl rfl .nil) rfl), .nil⟩
  refine rn 30 rfl ?_
  refine jK h (fun (p : Int × Int) => (⟨[(0, (V.own 0 a4.length)), (1, (iV a1)), (2, (iV a2)), (3, (iV a3)), (4, (V.fn (.func 35) [] [])), (18, (iV (w64 (Int.fdiv (IntKind.wrap .u64 (w64 (a1 + a3))) (2 ^ (min (Int.toNat 1) (IntKind.bits .u64))))))), (19, (iV (w64 ((w64 (Int.fdiv (IntKind.wrap .u64 (w64 (a1 + a3))) (2 ^ (min (Int.toNat 1) (IntKind.bits .u64))))) + a2)))), (20, (iV (p.1))), (21, (iV (p.2)))], [(0, (Ob.arr 88 5 (a4.map encThistory_piece)))], 1⟩ : St)) (fun k200 (p : Int × Int) => k200 p.1 p.2 = some r) (fun k200 h => ?_) ?_
  · refine spC h rfl (fun hb203 h => ?_) (fun hb203 h => ?_)
    · refine rn 11 rfl ?_
      exact jX ((w64 ((w64 ((w64 (Int.fdiv (IntKind.wrap .u64 (w64 (a1 + a3))) (2 ^ (min (Int.toNat 1) (IntKind.bits .u64))))) + a2)) - a3)), (w64 (Int.fdiv (IntKind.wrap .u64 (w64 (a1 + a3))) (2 ^ (min (Int.toNat 1) (IntKind.bits .u64)))))) h (gr [0] rfl (hR rfl rfl .nil) rfl)
    refine rn 9 rfl ?_
    exact jX (a1, a2) h (gr [0] rfl (hR rfl rfl .nil) rfl)
  rintro ⟨n201, n202⟩ h
  refine rn 7 rfl ?_
  refine jK h (fun (p : Int) => (⟨[(0, (V.own 0 a4.length)), (1, (iV a1)), (2, (iV a2)), (3, (iV a3)), (4, (V.fn (.func 35) [] [])), (18, (iV (w64 (Int.fdiv (IntKind.wrap .u64 (w64 (a1 + a3))) (2 ^ (min (Int.toNat 1) (IntKind.bits .u64))))))), (19, (iV (w64 ((w64 (Int.fdiv (IntKind.wrap .u64 (w64 (a1 + a3))) (2 ^ (min (Int.toNat 1) (IntKind.bits .u64))))) + a2)))), (20, (iV p))], [(0, (Ob.arr 88 5 (a4.map encThistory_piece)))], 1⟩ : St)) (fun k204 (p : Int) => k204 p = some r) (fun k204 h => ?_) ?_
  · refine rn 1 rfl ?_
    refine lC (fun (p : Int × Int) => (⟨[(0, (V.own 0 a4.length)), (1, (iV a1)), (2, (iV a2)), (3, (iV a3)), (4, (V.fn (.func 35) [] [])), (18, (iV (w64 (Int.fdiv (IntKind.wrap .u64 (w64 (a1 + a3))) (2 ^ (min (Int.toNat 1) (IntKind.bits .u64))))))), (19, (iV (w64 ((w64 (Int.fdiv (IntKind.wrap .u64 (w64 (a1 + a3))) (2 ^ (min (Int.toNat 1) (IntKind.bits .u64))))) + a2)))), (20, (iV (p.1))), (21, (iV (p.2))), (22, (iV (w64 ((w64 ((w64 (Int.fdiv (IntKind.wrap .u64 (w64 (a1 + a3))) (2 ^ (min (Int.toNat 1) (IntKind.bits .u64))))) + a2)) - 1))))], [(0, (Ob.arr 88 5 (a4.map encThistory_piece)))], 1⟩ : St)) (fun n (p : Int × Int) => M99_L5 F a1 a2 a3 a4 k204 n p.1 p.2 = some r) (fun p h => by simp [M99_L5] at h) F (n201, n202) h (gr [0] rfl (hR rfl rfl .nil) rfl) (fun n p h => ?_)
    obtain ⟨n208, n209⟩ := p
    unfold M99_L5 at h
    refine rn 7 rfl ?_
    refine spC h rfl (fun hb210 h => ?_) (fun hb210 h => ?_)
    · obtain ⟨x211, hx212, h⟩ := bind_some h
      obtain ⟨x213, hx214, h⟩ := bind_some h
      obtain ⟨y215, hx216, h⟩ := bind_some h
      refine rn 13 rfl ?_
      refine dr mixed (vs 5 rfl (oD (a := a4) hx212 rfl rfl rfl rfl (lD hx212 rfl rfl rfl rfl rfl (vs 2 rfl (oD (a := a4) hx214 rfl rfl rfl rfl (lD hx214 rfl rfl rfl rfl rfl (cD rfl rfl rfl rfl (W35 _ _ _ _ hx216) rfl (vs 2 rfl .nil)))))))) (by kernel_rfl) ?_
      refine jK h (fun (p : Int × Int) => (⟨[(0, (V.own 0 a4.length)), (1, (iV a1)), (2, (iV a2)), (3, (iV a3)), (4, (V.fn (.func 35) [] [])), (18, (iV (w64 (Int.fdiv (IntKind.wrap .u64 (w64 (a1 + a3))) (2 ^ (min (Int.toNat 1) (IntKind.bits .u64))))))), (19, (iV (w64 ((w64 (Int.fdiv (IntKind.wrap .u64 (w64 (a1 + a3))) (2 ^ (min (Int.toNat 1) (IntKind.bits .u64))))) + a2)))), (20, (iV (p.1))), (21, (iV (p.2))), (22, (iV (w64 ((w64 ((w64 (Int.fdiv (IntKind.wrap .u64 (w64 (a1 + a3))) (2 ^ (min (Int.toNat 1) (IntKind.bits .u64))))) + a2)) - 1))))], [(0, (Ob.arr 88 5 (a4.map encThistory_piece)))], 1⟩ : St)) (fun k217 (p : Int × Int) => k217 p.1 p.2 = some r) (fun k217 h => ?_) ?_
      · refine spC h rfl (fun hb220 h => ?_) (fun hb220 h => ?_)
        · refine rn 5 rfl ?_
          exact jX ((w64 ((w64 (Int.fdiv (IntKind.wrap .u64 (w64 (n208 + n209))) (2 ^ (min (Int.toNat 1) (IntKind.bits .u64))))) + 1)), n209) h (gr [0] rfl (hR rfl rfl .nil) rfl)
        refine rn 4 rfl ?_
        exact jX (n208, (w64 (Int.fdiv (IntKind.wrap .u64 (w64 (n208 + n209))) (2 ^ (min (Int.toNat 1) (IntKind.bits .u64)))))) h (gr [0] rfl (hR rfl rfl .nil) rfl)
      rintro ⟨n218, n219⟩ h
      refine rn 1 rfl ?_
      exact jX (n218, n219) h (gr [0] rfl (hR rfl rfl .nil) rfl)
    refine rn 1 rfl ?_
    exact jX n208 h (gr [0] rfl (hR rfl rfl .nil) rfl)
  intro n205 h
  refine rn 14 rfl ?_
  refine spO 181 h rfl (fun hb221 h => ?_) (fun hb221 h => ?_)
  · refine rn 5 rfl ?_
    refine jK h (fun (p : (List Thistory_piece)) => (⟨[(0, (V.own 0 p.length)), (1, (iV a1)), (3, (iV a3)), (4, (V.fn (.func 35) [] [])), (18, (iV (w64 (Int.fdiv (IntKind.wrap .u64 (w64 (a1 + a3))) (2 ^ (min (Int.toNat 1) (IntKind.bits .u64))))))), (20, (iV n205)), (24, (iV (w64 ((w64 ((w64 (Int.fdiv (IntKind.wrap .u64 (w64 (a1 + a3))) (2 ^ (min (Int.toNat 1) (IntKind.bits .u64))))) + a2)) - n205))))], [(0, (Ob.arr 88 5 (p.map encThistory_piece)))], 1⟩ : St)) (fun k222 (p : (List Thistory_piece)) => k222 p = some r) (fun k222 h => ?_) ?_
    · refine spC h rfl (fun hb224 h => ?_) (fun hb224 h => ?_)
      · obtain ⟨y225, hx226, h⟩ := bind_some h
        refine rn 6 rfl ?_
        refine ck h (fun hc227 h => ?_)
        refine aops_mcallS (V.tup []) [(V.own 0 a4.length), (iV n205), (iV a2), (iV (w64 ((w64 ((w64 (Int.fdiv (IntKind.wrap .u64 (w64 (a1 + a3))) (2 ^ (min (Int.toNat 1) (IntKind.bits .u64))))) + a2)) - n205))), (V.fn (.func 35) [] [])] (fun i => ([0] : List Nat).getD i 0) (fun i => ([0] : List Nat).getD i 0) 1 1 [(0, (Ob.arr 88 5 (y225.map encThistory_piece)))] fOk112 wants_none rfl (evm_cons rfl (evm_cons rfl (evm_cons rfl (evm_cons rfl (evm_cons rfl evm_nil))))) (.cons (Sub.own rfl rfl) (.cons (Sub.imm (Imm.con _)) (.cons (Sub.imm (Imm.con _)) (.cons (Sub.imm (Imm.con _)) (.cons (Sub.imm (Imm.fn .nil .nil)) .nil))))) (.cons rfl (ObSub.rows (rows_imm imms_encThistory_piece)) .nil) (W112 F n205 a2 (w64 ((w64 ((w64 (Int.fdiv (IntKind.wrap .u64 (w64 (a1 + a3))) (2 ^ (min (Int.toNat 1) (IntKind.bits .u64))))) + a2)) - n205)) a4 y225 hx226) rfl rfl rfl rfl (Sub.immT (Imm.tup .nil)) (.cons rfl (ObSub.rowsT (rows_imm imms_encThistory_piece)) .nil) _ rfl ?_
        refine aops_ghost (ghost_tell 0 (V.own 0 y225.length) rfl (Sub.ownI hc227)) ?_
        refine aops_ghost (ghost_tell 186 (V.own 0 y225.length) rfl (Sub.ownI hc227)) ?_
        refine fo (rn 1 rfl ?_)
        exact jX y225 h (gr [0] rfl (hR rfl rfl .nil) rfl)
      refine rn 1 rfl ?_
      exact jX a4 h (gr [0] rfl (hR rfl rfl .nil) rfl)
    intro l223 h
    refine rn 7 rfl ?_
    refine spO 195 h rfl (fun hb228 h => ?_) (fun hb228 h => ?_)
    · refine rn 5 rfl ?_
      refine jK h (fun (p : (List Thistory_piece)) => (⟨[(0, (V.own 0 p.length)), (3, (iV a3)), (4, (V.fn (.func 35) [] [])), (18, (iV (w64 (Int.fdiv (IntKind.wrap .u64 (w64 (a1 + a3))) (2 ^ (min (Int.toNat 1) (IntKind.bits .u64))))))), (24, (iV (w64 ((w64 ((w64 (Int.fdiv (IntKind.wrap .u64 (w64 (a1 + a3))) (2 ^ (min (Int.toNat 1) (IntKind.bits .u64))))) + a2)) - n205))))], [(0, (Ob.arr 88 5 (p.map encThistory_piece)))], 1⟩ : St)) (fun k229 (p : (List Thistory_piece)) => k229 p = some r) (fun k229 h => ?_) ?_
      · refine spC h rfl (fun hb231 h => ?_) (fun hb231 h => ?_)
        · obtain ⟨y232, hx233, h⟩ := bind_some h
          refine rn 6 rfl ?_
          refine ck h (fun hc234 h => ?_)
          refine aops_mcallS (V.tup []) [(V.own 0 l223.length), (iV a1), (iV n205), (iV (w64 (Int.fdiv (IntKind.wrap .u64 (w64 (a1 + a3))) (2 ^ (min (Int.toNat 1) (IntKind.bits .u64)))))), (V.fn (.func 35) [] [])] (fun i => ([0] : List Nat).getD i 0) (fun i => ([0] : List Nat).getD i 0) 1 1 [(0, (Ob.arr 88 5 (y232.map encThistory_piece)))] fOk99 wants_none rfl (evm_cons rfl (evm_cons rfl (evm_cons rfl (evm_cons rfl (evm_cons rfl evm_nil))))) (.cons (Sub.own rfl rfl) (.cons (Sub.imm (Imm.con _)) (.cons (Sub.imm (Imm.con _)) (.cons (Sub.imm (Imm.con _)) (.cons (Sub.imm (Imm.fn .nil .nil)) .nil))))) (.cons rfl (ObSub.rows (rows_imm imms_encThistory_piece)) .nil) (hR99 a1 n205 (w64 (Int.fdiv (IntKind.wrap .u64 (w64 (a1 + a3))) (2 ^ (min (Int.toNat 1) (IntKind.bits .u64))))) l223 _ hx233) rfl rfl rfl rfl (Sub.immT (Imm.tup .nil)) (.cons rfl (ObSub.rowsT (rows_imm imms_encThistory_piece)) .nil) _ rfl ?_
          refine aops_ghost (ghost_tell 0 (V.own 0 y232.length) rfl (Sub.ownI hc234)) ?_
          refine aops_ghost (ghost_tell 200 (V.own 0 y232.length) rfl (Sub.ownI hc234)) ?_
          refine fo (rn 1 rfl ?_)
          exact jX y232 h (gr [0] rfl (hR rfl rfl .nil) rfl)
        refine rn 1 rfl ?_
        exact jX l223 h (gr [0] rfl (hR rfl rfl .nil) rfl)
      intro l230 h
      refine rn 6 rfl ?_
      refine spO 209 h rfl (fun hb235 h => ?_) (fun hb235 h => ?_)
      · refine rn 5 rfl ?_
        refine spC h rfl (fun hb236 h => ?_) (fun hb236 h => ?_)
        · obtain ⟨y237, hx238, h⟩ := bind_some h
          refine rn 6 rfl ?_
          refine ck h (fun hc239 h => ?_)
          refine aops_mcallS (V.tup []) [(V.own 0 l230.length), (iV (w64 (Int.fdiv (IntKind.wrap .u64 (w64 (a1 + a3))) (2 ^ (min (Int.toNat 1) (IntKind.bits .u64)))))), (iV (w64 ((w64 ((w64 (Int.fdiv (IntKind.wrap .u64 (w64 (a1 + a3))) (2 ^ (min (Int.toNat 1) (IntKind.bits .u64))))) + a2)) - n205))), (iV a3), (V.fn (.func 35) [] [])] (fun i => ([0] : List Nat).getD i 0) (fun i => ([0] : List Nat).getD i 0) 1 1 [(0, (Ob.arr 88 5 (y237.map encThistory_piece)))] fOk99 wants_none rfl (evm_cons rfl (evm_cons rfl (evm_cons rfl (evm_cons rfl (evm_cons rfl evm_nil))))) (.cons (Sub.own rfl rfl) (.cons (Sub.imm (Imm.con _)) (.cons (Sub.imm (Imm.con _)) (.cons (Sub.imm (Imm.con _)) (.cons (Sub.imm (Imm.fn .nil .nil)) .nil))))) (.cons rfl (ObSub.rows (rows_imm imms_encThistory_piece)) .nil) (hR99 (w64 (Int.fdiv (IntKind.wrap .u64 (w64 (a1 + a3))) (2 ^ (min (Int.toNat 1) (IntKind.bits .u64))))) (w64 ((w64 ((w64 (Int.fdiv (IntKind.wrap .u64 (w64 (a1 + a3))) (2 ^ (min (Int.toNat 1) (IntKind.bits .u64))))) + a2)) - n205)) a3 l230 _ hx238) rfl rfl rfl rfl (Sub.immT (Imm.tup .nil)) (.cons rfl (ObSub.rowsT (rows_imm imms_encThistory_piece)) .nil) _ rfl ?_
          refine aops_ghost (ghost_tell 0 (V.own 0 y237.length) rfl (Sub.ownI hc239)) ?_
          refine aops_ghost (ghost_tell 214 (V.own 0 y237.length) rfl (Sub.ownI hc239)) ?_
          refine fo (rn 1 rfl ?_)
          replace h := Option.some.inj h
          subst h
          exact wE ⟨.inr rfl, [], (gr [0] rfl (hR rfl rfl .nil) rfl), .nil⟩
        refine rn 1 rfl ?_
        replace h := Option.some.inj h
        subst h
        exact wE ⟨.inr rfl, [], (gr [0] rfl (hR rfl rfl .nil) rfl), .nil⟩
      refine rn 7 rfl ?_
      replace h := Option.some.inj h
      subst h
      exact wE ⟨.inr rfl, [], (gr [0] rfl (hR rfl rfl .nil) rfl), .nil⟩
    refine rn 13 rfl ?_
    refine spO 209 h rfl (fun hb240 h => ?_) (fun hb240 h => ?_)
    · refine rn 5 rfl ?_
      refine spC h rfl (fun hb241 h => ?_) (fun hb241 h => ?_)
      · obtain ⟨y242, hx243, h⟩ := bind_some h
        refine rn 6 rfl ?_
        refine ck h (fun hc244 h => ?_)
        refine aops_mcallS (V.tup []) [(V.own 0 l223.length), (iV (w64 (Int.fdiv (IntKind.wrap .u64 (w64 (a1 + a3))) (2 ^ (min (Int.toNat 1) (IntKind.bits .u64)))))), (iV (w64 ((w64 ((w64 (Int.fdiv (IntKind.wrap .u64 (w64 (a1 + a3))) (2 ^ (min (Int.toNat 1) (IntKind.bits .u64))))) + a2)) - n205))), (iV a3), (V.fn (.func 35) [] [])] (fun i => ([0] : List Nat).getD i 0) (fun i => ([0] : List Nat).getD i 0) 1 1 [(0, (Ob.arr 88 5 (y242.map encThistory_piece)))] fOk99 wants_none rfl (evm_cons rfl (evm_cons rfl (evm_cons rfl (evm_cons rfl (evm_cons rfl evm_nil))))) (.cons (Sub.own rfl rfl) (.cons (Sub.imm (Imm.con _)) (.cons (Sub.imm (Imm.con _)) (.cons (Sub.imm (Imm.con _)) (.cons (Sub.imm (Imm.fn .nil .nil)) .nil))))) (.cons rfl (ObSub.rows (rows_imm imms_encThistory_piece)) .nil) (hR99 (w64 (Int.fdiv (IntKind.wrap .u64 (w64 (a1 + a3))) (2 ^ (min (Int.toNat 1) (IntKind.bits .u64))))) (w64 ((w64 ((w64 (Int.fdiv (IntKind.wrap .u64 (w64 (a1 + a3))) (2 ^ (min (Int.toNat 1) (IntKind.bits .u64))))) + a2)) - n205)) a3 l223 _ hx243) rfl rfl rfl rfl (Sub.immT (Imm.tup .nil)) (.cons rfl (ObSub.rowsT (rows_imm imms_encThistory_piece)) .nil) _ rfl ?_
        refine aops_ghost (ghost_tell 0 (V.own 0 y242.length) rfl (Sub.ownI hc244)) ?_
        refine aops_ghost (ghost_tell 214 (V.own 0 y242.length) rfl (Sub.ownI hc244)) ?_
        refine fo (rn 1 rfl ?_)
        replace h := Option.some.inj h
        subst h
        exact wE ⟨.inr rfl, [], (gr [0] rfl (hR rfl rfl .nil) rfl), .nil⟩
      refine rn 1 rfl ?_
      replace h := Option.some.inj h
      subst h
      exact wE ⟨.inr rfl, [], (gr [0] rfl (hR rfl rfl .nil) rfl), .nil⟩
    refine rn 7 rfl ?_
    replace h := Option.some.inj h
    subst h
    exact wE ⟨.inr rfl, [], (gr [0] rfl (hR rfl rfl .nil) rfl), .nil⟩
  refine rn 14 rfl ?_
  refine spO 195 h rfl (fun hb245 h => ?_) (fun hb245 h => ?_)
  · refine rn 5 rfl ?_
    refine jK h (fun (p : (List Thistory_piece)) => (⟨[(0, (V.own 0 p.length)), (3, (iV a3)), (4, (V.fn (.func 35) [] [])), (18, (iV (w64 (Int.fdiv (IntKind.wrap .u64 (w64 (a1 + a3))) (2 ^ (min (Int.toNat 1) (IntKind.bits .u64))))))), (24, (iV (w64 ((w64 ((w64 (Int.fdiv (IntKind.wrap .u64 (w64 (a1 + a3))) (2 ^ (min (Int.toNat 1) (IntKind.bits .u64))))) + a2)) - n205))))], [(0, (Ob.arr 88 5 (p.map encThistory_piece)))], 1⟩ : St)) (fun k246 (p : (List Thistory_piece)) => k246 p = some r) (fun k246 h => ?_) ?_
    · refine spC h rfl (fun hb248 h => ?_) (fun hb248 h => ?_)
      · obtain ⟨y249, hx250, h⟩ := bind_some h
        refine rn 6 rfl ?_
        refine ck h (fun hc251 h => ?_)
        refine aops_mcallS (V.tup []) [(V.own 0 a4.length), (iV a1), (iV n205), (iV (w64 (Int.fdiv (IntKind.wrap .u64 (w64 (a1 + a3))) (2 ^ (min (Int.toNat 1) (IntKind.bits .u64)))))), (V.fn (.func 35) [] [])] (fun i => ([0] : List Nat).getD i 0) (fun i => ([0] : List Nat).getD i 0) 1 1 [(0, (Ob.arr 88 5 (y249.map encThistory_piece)))] fOk99 wants_none rfl (evm_cons rfl (evm_cons rfl (evm_cons rfl (evm_cons rfl (evm_cons rfl evm_nil))))) (.cons (Sub.own rfl rfl) (.cons (Sub.imm (Imm.con _)) (.cons (Sub.imm (Imm.con _)) (.cons (Sub.imm (Imm.con _)) (.cons (Sub.imm (Imm.fn .nil .nil)) .nil))))) (.cons rfl (ObSub.rows (rows_imm imms_encThistory_piece)) .nil) (hR99 a1 n205 (w64 (Int.fdiv (IntKind.wrap .u64 (w64 (a1 + a3))) (2 ^ (min (Int.toNat 1) (IntKind.bits .u64))))) a4 _ hx250) rfl rfl rfl rfl (Sub.immT (Imm.tup .nil)) (.cons rfl (ObSub.rowsT (rows_imm imms_encThistory_piece)) .nil) _ rfl ?_
        refine aops_ghost (ghost_tell 0 (V.own 0 y249.length) rfl (Sub.ownI hc251)) ?_
        refine aops_ghost (ghost_tell 200 (V.own 0 y249.length) rfl (Sub.ownI hc251)) ?_
        refine fo (rn 1 rfl ?_)
        exact jX y249 h (gr [0] rfl (hR rfl rfl .nil) rfl)
      refine rn 1 rfl ?_
      exact jX a4 h (gr [0] rfl (hR rfl rfl .nil) rfl)
    intro l247 h
    refine rn 6 rfl ?_
    refine spO 209 h rfl (fun hb252 h => ?_) (fun hb252 h => ?_)
    · refine rn 5 rfl ?_
      refine spC h rfl (fun hb253 h => ?_) (fun hb253 h => ?_)
      · obtain ⟨y254, hx255, h⟩ := bind_some h
        refine rn 6 rfl ?_
        refine ck h (fun hc256 h => ?_)
        refine aops_mcallS (V.tup []) [(V.own 0 l247.length), (iV (w64 (Int.fdiv (IntKind.wrap .u64 (w64 (a1 + a3))) (2 ^ (min (Int.toNat 1) (IntKind.bits .u64)))))), (iV (w64 ((w64 ((w64 (Int.fdiv (IntKind.wrap .u64 (w64 (a1 + a3))) (2 ^ (min (Int.toNat 1) (IntKind.bits .u64))))) + a2)) - n205))), (iV a3), (V.fn (.func 35) [] [])] (fun i => ([0] : List Nat).getD i 0) (fun i => ([0] : List Nat).getD i 0) 1 1 [(0, (Ob.arr 88 5 (y254.map encThistory_piece)))] fOk99 wants_none rfl (evm_cons rfl (evm_cons rfl (evm_cons rfl (evm_cons rfl (evm_cons rfl evm_nil))))) (.cons (Sub.own rfl rfl) (.cons (Sub.imm (Imm.con _)) (.cons (Sub.imm (Imm.con _)) (.cons (Sub.imm (Imm.con _)) (.cons (Sub.imm (Imm.fn .nil .nil)) .nil))))) (.cons rfl (ObSub.rows (rows_imm imms_encThistory_piece)) .nil) (hR99 (w64 (Int.fdiv (IntKind.wrap .u64 (w64 (a1 + a3))) (2 ^ (min (Int.toNat 1) (IntKind.bits .u64))))) (w64 ((w64 ((w64 (Int.fdiv (IntKind.wrap .u64 (w64 (a1 + a3))) (2 ^ (min (Int.toNat 1) (IntKind.bits .u64))))) + a2)) - n205)) a3 l247 _ hx255) rfl rfl rfl rfl (Sub.immT (Imm.tup .nil)) (.cons rfl (ObSub.rowsT (rows_imm imms_encThistory_piece)) .nil) _ rfl ?_
        refine aops_ghost (ghost_tell 0 (V.own 0 y254.length) rfl (Sub.ownI hc256)) ?_
        refine aops_ghost (ghost_tell 214 (V.own 0 y254.length) rfl (Sub.ownI hc256)) ?_
        refine fo (rn 1 rfl ?_)
        replace h := Option.some.inj h
        subst h
        exact wE ⟨.inr rfl, [], (gr [0] rfl (hR rfl rfl .nil) rfl), .nil⟩
      refine rn 1 rfl ?_
      replace h := Option.some.inj h
      subst h
      exact wE ⟨.inr rfl, [], (gr [0] rfl (hR rfl rfl .nil) rfl), .nil⟩
    refine rn 7 rfl ?_
    replace h := Option.some.inj h
    subst h
    exact wE ⟨.inr rfl, [], (gr [0] rfl (hR rfl rfl .nil) rfl), .nil⟩
  refine rn 13 rfl ?_
  refine spO 209 h rfl (fun hb257 h => ?_) (fun hb257 h => ?_)
  · refine rn 5 rfl ?_
    refine spC h rfl (fun hb258 h => ?_) (fun hb258 h => ?_)
    · obtain ⟨y259, hx260, h⟩ := bind_some h
      refine rn 6 rfl ?_
      refine ck h (fun hc261 h => ?_)
      refine aops_mcallS (V.tup []) [(V.own 0 a4.length), (iV (w64 (Int.fdiv (IntKind.wrap .u64 (w64 (a1 + a3))) (2 ^ (min (Int.toNat 1) (IntKind.bits .u64)))))), (iV (w64 ((w64 ((w64 (Int.fdiv (IntKind.wrap .u64 (w64 (a1 + a3))) (2 ^ (min (Int.toNat 1) (IntKind.bits .u64))))) + a2)) - n205))), (iV a3), (V.fn (.func 35) [] [])] (fun i => ([0] : List Nat).getD i 0) (fun i => ([0] : List Nat).getD i 0) 1 1 [(0, (Ob.arr 88 5 (y259.map encThistory_piece)))] fOk99 wants_none rfl (evm_cons rfl (evm_cons rfl (evm_cons rfl (evm_cons rfl (evm_cons rfl evm_nil))))) (.cons (Sub.own rfl rfl) (.cons (Sub.imm (Imm.con _)) (.cons (Sub.imm (Imm.con _)) (.cons (Sub.imm (Imm.con _)) (.cons (Sub.imm (Imm.fn .nil .nil)) .nil))))) (.cons rfl (ObSub.rows (rows_imm imms_encThistory_piece)) .nil) (hR99 (w64 (Int.fdiv (IntKind.wrap .u64 (w64 (a1 + a3))) (2 ^ (min (Int.toNat 1) (IntKind.bits .u64))))) (w64 ((w64 ((w64 (Int.fdiv (IntKind.wrap .u64 (w64 (a1 + a3))) (2 ^ (min (Int.toNat 1) (IntKind.bits .u64))))) + a2)) - n205)) a3 a4 _ hx260) rfl rfl rfl rfl (Sub.immT (Imm.tup .nil)) (.cons rfl (ObSub.rowsT (rows_imm imms_encThistory_piece)) .nil) _ rfl ?_
      refine aops_ghost (ghost_tell 0 (V.own 0 y259.length) rfl (Sub.ownI hc261)) ?_
      refine aops_ghost (ghost_tell 214 (V.own 0 y259.length) rfl (Sub.ownI hc261)) ?_
      refine fo (rn 1 rfl ?_)
      replace h := Option.some.inj h
      subst h
      exact wE ⟨.inr rfl, [], (gr [0] rfl (hR rfl rfl .nil) rfl), .nil⟩
    refine rn 1 rfl ?_
    replace h := Option.some.inj h
    subst h
    exact wE ⟨.inr rfl, [], (gr [0] rfl (hR rfl rfl .nil) rfl), .nil⟩
  refine rn 7 rfl ?_
  replace h := Option.some.inj h
  subst h
  exact wE ⟨.inr rfl, [], (gr [0] rfl (hR rfl rfl .nil) rfl), .nil⟩
theorem W99 : ∀ (F : Nat) (a1 : Int) (a2 : Int) (a3 : Int) (a4 : List Thistory_piece) (r : (List Thistory_piece)) (h : M99 F a1 a2 a3 a4 = some r), MutG gl Tryz.prog 99 [(V.own 0 a4.length), (iV a1), (iV a2), (iV a3), (V.fn (.func 35) [] [])] 1 [(0, (Ob.arr 88 5 (a4.map encThistory_piece)))] (resV []) 1 [(0, (Ob.arr 88 5 (r.map encThistory_piece)))] := by
  intro F
  induction F with
  | zero => intros; simp [M99] at *
  | succ F ih => exact fun a1 a2 a3 a4 r h => W99_B (M99 F) ih F a1 a2 a3 a4 r h
theorem W87 (F : Nat) (a1 : Int) (a2 : List Thistory_piece) (r : (List Thistory_piece)) (h : M87 F a1 a2 = some r) : MutG gl Tryz.prog 87 [(V.own 0 a2.length), (iV a1), (V.fn (.func 35) [] [])] 1 [(0, (Ob.arr 88 5 (a2.map encThistory_piece)))] (resV []) 1 [(0, (Ob.arr 88 5 (r.map encThistory_piece)))] := by
  refine mut_enter Tryz.func87 rfl rfl (l := []) rfl rfl [(0, (V.own 0 a2.length)), (1, (iV a1)), (2, (V.fn (.func 35) [] []))] rfl (fun w0 m0 β0 hg => en ?_)
  unfold M87 at h
  refine rn 11 rfl ?_
  refine jK h (fun (p : Int × (List Thistory_piece)) => (⟨[(0, (V.own 0 (p.2).length)), (1, (iV a1)), (2, (V.fn (.func 35) [] [])), (6, (iV 20)), (7, (iV (p.1)))], [(0, (Ob.arr 88 5 ((p.2).map encThistory_piece)))], 1⟩ : St)) (fun k46 (p : Int × (List Thistory_piece)) => k46 p.1 p.2 = some r) (fun k46 h => ?_) ?_
  · refine rn 1 rfl ?_
    refine lC (fun (p : Int × Int × (List Thistory_piece)) => (⟨[(0, (V.own 0 (p.2.2).length)), (1, (iV a1)), (2, (V.fn (.func 35) [] [])), (6, (iV 20)), (7, (iV (p.1))), (8, (iV (p.2.1)))], [(0, (Ob.arr 88 5 ((p.2.2).map encThistory_piece)))], 1⟩ : St)) (fun n (p : Int × Int × (List Thistory_piece)) => M87_L1 F a1 k46 n p.1 p.2.1 p.2.2 = some r) (fun p h => by simp [M87_L1] at h) F (0, 20, a2) h (gr [0] rfl (hR rfl rfl .nil) rfl) (fun n p h => ?_)
    obtain ⟨n52, n53, l54⟩ := p
    unfold M87_L1 at h
    refine rn 7 rfl ?_
    refine spC h rfl (fun hb55 h => ?_) (fun hb55 h => ?_)
    · obtain ⟨y56, hx57, h⟩ := bind_some h
      refine rn 8 rfl ?_
      refine ck h (fun hc58 h => ?_)
      refine aops_mcallS (V.tup []) [(V.own 0 l54.length), (iV n52), (iV n53), (V.fn (.func 35) [] [])] (fun i => ([0] : List Nat).getD i 0) (fun i => ([0] : List Nat).getD i 0) 1 1 [(0, (Ob.arr 88 5 (y56.map encThistory_piece)))] fOk98 wants_none rfl (evm_cons rfl (evm_cons rfl (evm_cons rfl (evm_cons rfl evm_nil)))) (.cons (Sub.own rfl rfl) (.cons (Sub.imm (Imm.con _)) (.cons (Sub.imm (Imm.con _)) (.cons (Sub.imm (Imm.fn .nil .nil)) .nil)))) (.cons rfl (ObSub.rows (rows_imm imms_encThistory_piece)) .nil) (W98 F n52 n53 l54 y56 hx57) rfl rfl rfl rfl (Sub.immT (Imm.tup .nil)) (.cons rfl (ObSub.rowsT (rows_imm imms_encThistory_piece)) .nil) _ rfl ?_
      refine aops_ghost (ghost_tell 0 (V.own 0 y56.length) rfl (Sub.ownI hc58)) ?_
      refine aops_ghost (ghost_tell 14 (V.own 0 y56.length) rfl (Sub.ownI hc58)) ?_
      refine fo (rn 13 rfl ?_)
      exact jX (n53, (w64 (n53 + 20)), y56) h (gr [0] rfl (hR rfl rfl .nil) rfl)
    refine rn 1 rfl ?_
    exact jX (n52, l54) h (gr [0] rfl (hR rfl rfl .nil) rfl)
  rintro ⟨n47, l48⟩ h
  obtain ⟨y59, hx60, h⟩ := bind_some h
  refine rn 6 rfl ?_
  refine ck h (fun hc61 h => ?_)
  refine aops_mcallS (V.tup []) [(V.own 0 l48.length), (iV n47), (iV a1), (V.fn (.func 35) [] [])] (fun i => ([0] : List Nat).getD i 0) (fun i => ([0] : List Nat).getD i 0) 1 1 [(0, (Ob.arr 88 5 (y59.map encThistory_piece)))] fOk98 wants_none rfl (evm_cons rfl (evm_cons rfl (evm_cons rfl (evm_cons rfl evm_nil)))) (.cons (Sub.own rfl rfl) (.cons (Sub.imm (Imm.con _)) (.cons (Sub.imm (Imm.con _)) (.cons (Sub.imm (Imm.fn .nil .nil)) .nil)))) (.cons rfl (ObSub.rows (rows_imm imms_encThistory_piece)) .nil) (W98 F n47 a1 l48 y59 hx60) rfl rfl rfl rfl (Sub.immT (Imm.tup .nil)) (.cons rfl (ObSub.rowsT (rows_imm imms_encThistory_piece)) .nil) _ rfl ?_
  refine aops_ghost (ghost_tell 0 (V.own 0 y59.length) rfl (Sub.ownI hc61)) ?_
  refine aops_ghost (ghost_tell 23 (V.own 0 y59.length) rfl (Sub.ownI hc61)) ?_
  refine fo (rn 2 rfl ?_)
  refine lC (fun (p : Int × (List Thistory_piece)) => (⟨[(0, (V.own 0 (p.2).length)), (1, (iV a1)), (2, (V.fn (.func 35) [] [])), (6, (iV (p.1)))], [(0, (Ob.arr 88 5 ((p.2).map encThistory_piece)))], 1⟩ : St)) (fun n (p : Int × (List Thistory_piece)) => M87_L2 F a1 n p.1 p.2 = some r) (fun p h => by simp [M87_L2] at h) F (20, y59) h (gr [0] rfl (hR rfl rfl .nil) rfl) (fun n p h => ?_)
  obtain ⟨n64, l65⟩ := p
  unfold M87_L2 at h
  refine rn 7 rfl ?_
  refine spC h rfl (fun hb66 h => ?_) (fun hb66 h => ?_)
  · refine rn 1 rfl ?_
    refine jK h (fun (p : (List Thistory_piece)) => (⟨[(0, (V.own 0 p.length)), (1, (iV a1)), (2, (V.fn (.func 35) [] [])), (6, (iV (w64 (n64 * 2))))], [(0, (Ob.arr 88 5 (p.map encThistory_piece)))], 1⟩ : St)) (fun k67 (p : (List Thistory_piece)) => k67 p = some r) (fun k67 h => ?_) ?_
    · refine rn 9 rfl ?_
      refine jK h (fun (p : Int × (List Thistory_piece)) => (⟨[(0, (V.own 0 (p.2).length)), (1, (iV a1)), (2, (V.fn (.func 35) [] [])), (6, (iV n64)), (7, (iV (p.1)))], [(0, (Ob.arr 88 5 ((p.2).map encThistory_piece)))], 1⟩ : St)) (fun k69 (p : Int × (List Thistory_piece)) => k69 p.1 p.2 = some r) (fun k69 h => ?_) ?_
      · refine rn 1 rfl ?_
        refine lC (fun (p : Int × Int × (List Thistory_piece)) => (⟨[(0, (V.own 0 (p.2.2).length)), (1, (iV a1)), (2, (V.fn (.func 35) [] [])), (6, (iV n64)), (7, (iV (p.1))), (8, (iV (p.2.1)))], [(0, (Ob.arr 88 5 ((p.2.2).map encThistory_piece)))], 1⟩ : St)) (fun n (p : Int × Int × (List Thistory_piece)) => M87_L3 F a1 n64 k69 n p.1 p.2.1 p.2.2 = some r) (fun p h => by simp [M87_L3] at h) F (0, (w64 (2 * n64)), l65) h (gr [0] rfl (hR rfl rfl .nil) rfl) (fun n p h => ?_)
        obtain ⟨n75, n76, l77⟩ := p
        unfold M87_L3 at h
        refine rn 7 rfl ?_
        refine spC h rfl (fun hb78 h => ?_) (fun hb78 h => ?_)
        · obtain ⟨y79, hx80, h⟩ := bind_some h
          refine rn 11 rfl ?_
          refine ck h (fun hc81 h => ?_)
          refine aops_mcallS (V.tup []) [(V.own 0 l77.length), (iV n75), (iV (w64 (n75 + n64))), (iV n76), (V.fn (.func 35) [] [])] (fun i => ([0] : List Nat).getD i 0) (fun i => ([0] : List Nat).getD i 0) 1 1 [(0, (Ob.arr 88 5 (y79.map encThistory_piece)))] fOk99 wants_none rfl (evm_cons rfl (evm_cons rfl (evm_cons rfl (evm_cons rfl (evm_cons rfl evm_nil))))) (.cons (Sub.own rfl rfl) (.cons (Sub.imm (Imm.con _)) (.cons (Sub.imm (Imm.con _)) (.cons (Sub.imm (Imm.con _)) (.cons (Sub.imm (Imm.fn .nil .nil)) .nil))))) (.cons rfl (ObSub.rows (rows_imm imms_encThistory_piece)) .nil) (W99 F n75 (w64 (n75 + n64)) n76 l77 y79 hx80) rfl rfl rfl rfl (Sub.immT (Imm.tup .nil)) (.cons rfl (ObSub.rowsT (rows_imm imms_encThistory_piece)) .nil) _ rfl ?_
          refine aops_ghost (ghost_tell 0 (V.own 0 y79.length) rfl (Sub.ownI hc81)) ?_
          refine aops_ghost (ghost_tell 36 (V.own 0 y79.length) rfl (Sub.ownI hc81)) ?_
          refine fo (rn 14 rfl ?_)
          exact jX (n76, (w64 (n76 + (w64 (2 * n64)))), y79) h (gr [0] rfl (hR rfl rfl .nil) rfl)
        refine rn 1 rfl ?_
        exact jX (n75, l77) h (gr [0] rfl (hR rfl rfl .nil) rfl)
      rintro ⟨n70, l71⟩ h
      refine rn 14 rfl ?_
      refine jK h (fun (p : (List Thistory_piece)) => (⟨[(0, (V.own 0 p.length)), (1, (iV a1)), (2, (V.fn (.func 35) [] [])), (6, (iV n64))], [(0, (Ob.arr 88 5 (p.map encThistory_piece)))], 1⟩ : St)) (fun k82 (p : (List Thistory_piece)) => k82 p = some r) (fun k82 h => ?_) ?_
      · refine spC h rfl (fun hb84 h => ?_) (fun hb84 h => ?_)
        · obtain ⟨y85, hx86, h⟩ := bind_some h
          refine rn 6 rfl ?_
          refine ck h (fun hc87 h => ?_)
          refine aops_mcallS (V.tup []) [(V.own 0 l71.length), (iV n70), (iV (w64 (n70 + n64))), (iV a1), (V.fn (.func 35) [] [])] (fun i => ([0] : List Nat).getD i 0) (fun i => ([0] : List Nat).getD i 0) 1 1 [(0, (Ob.arr 88 5 (y85.map encThistory_piece)))] fOk99 wants_none rfl (evm_cons rfl (evm_cons rfl (evm_cons rfl (evm_cons rfl (evm_cons rfl evm_nil))))) (.cons (Sub.own rfl rfl) (.cons (Sub.imm (Imm.con _)) (.cons (Sub.imm (Imm.con _)) (.cons (Sub.imm (Imm.con _)) (.cons (Sub.imm (Imm.fn .nil .nil)) .nil))))) (.cons rfl (ObSub.rows (rows_imm imms_encThistory_piece)) .nil) (W99 F n70 (w64 (n70 + n64)) a1 l71 y85 hx86) rfl rfl rfl rfl (Sub.immT (Imm.tup .nil)) (.cons rfl (ObSub.rowsT (rows_imm imms_encThistory_piece)) .nil) _ rfl ?_
          refine aops_ghost (ghost_tell 0 (V.own 0 y85.length) rfl (Sub.ownI hc87)) ?_
          refine aops_ghost (ghost_tell 55 (V.own 0 y85.length) rfl (Sub.ownI hc87)) ?_
          refine fo (rn 1 rfl ?_)
          exact jX y85 h (gr [0] rfl (hR rfl rfl .nil) rfl)
        refine rn 1 rfl ?_
        exact jX l71 h (gr [0] rfl (hR rfl rfl .nil) rfl)
      intro l83 h
      refine rn 6 rfl ?_
      exact jX l83 h (gr [0] rfl (hR rfl rfl .nil) rfl)
    intro l68 h
    exact jX ((w64 (n64 * 2)), l68) h (gr [0] rfl (hR rfl rfl .nil) rfl)
  refine rn 1 rfl ?_
  replace h := Option.some.inj h
  subst h
  exact wE ⟨.inr rfl, [], (gr [0] rfl (hR rfl rfl .nil) rfl), .nil⟩
theorem W66 (F : Nat) (a1 : List Thistory_piece) (r : (List Thistory_piece)) (h : M66 F a1 = some r) : MutG gl Tryz.prog 66 [(V.own 0 a1.length), (V.fn (.func 35) [] [])] 1 [(0, (Ob.arr 88 5 (a1.map encThistory_piece)))] (resV []) 1 [(0, (Ob.arr 88 5 (r.map encThistory_piece)))] := by
  refine mut_enter Tryz.func66 rfl rfl (l := []) rfl rfl [(0, (V.own 0 a1.length)), (1, (V.fn (.func 35) [] []))] rfl (fun w0 m0 β0 hg => en ?_)
  unfold M66 at h
  obtain ⟨y6, hx7, h⟩ := bind_some h
  refine rn 5 rfl ?_
  refine ck h (fun hc8 h => ?_)
  refine aops_mcallS (V.tup []) [(V.own 0 a1.length), (iV ((a1.length : Nat) : Int)), (V.fn (.func 35) [] [])] (fun i => ([0] : List Nat).getD i 0) (fun i => ([0] : List Nat).getD i 0) 1 1 [(0, (Ob.arr 88 5 (y6.map encThistory_piece)))] fOk87 wants_none rfl (evm_cons rfl (evm_cons rfl (evm_cons rfl evm_nil))) (.cons (Sub.own rfl rfl) (.cons (Sub.imm (Imm.con _)) (.cons (Sub.imm (Imm.fn .nil .nil)) .nil))) (.cons rfl (ObSub.rows (rows_imm imms_encThistory_piece)) .nil) (W87 F ((a1.length : Nat) : Int) a1 y6 hx7) rfl rfl rfl rfl (Sub.immT (Imm.tup .nil)) (.cons rfl (ObSub.rowsT (rows_imm imms_encThistory_piece)) .nil) _ rfl ?_
  refine aops_ghost (ghost_tell 0 (V.own 0 y6.length) rfl (Sub.ownI hc8)) ?_
  refine aops_ghost (ghost_tell 4 (V.own 0 y6.length) rfl (Sub.ownI hc8)) ?_
  refine aops_ghost (ghost_tell 5 (V.own 0 y6.length) rfl (Sub.ownI hc8)) ?_
  refine fo (rn 1 rfl ?_)
  replace h := Option.some.inj h
  subst h
  exact wE ⟨.inr rfl, [], (gr [0] rfl (hR rfl rfl .nil) rfl), .nil⟩
theorem W33 (F : Nat) (a1 : (List Thistory_piece)) (r : (List Thistory_piece)) (h : M33 F a1 = some r) : PureG gl Tryz.prog 33 [(V.lst 5 (a1.map encThistory_piece)), (V.fn (.func 35) [] [])] (V.lst 5 (r.map encThistory_piece)) := by
  refine pin (fun r => (V.lst 5 (r.map encThistory_piece))) r rfl Tryz.func33 rfl rfl rfl rfl rfl (fun w0 m0 hg => ?_)
  unfold M33 at h
  obtain ⟨y2, hx3, h⟩ := bind_some h
  refine rn 7 rfl ?_
  refine aops_mcallS (V.own 0 y2.length) [(V.lst 5 (a1.map encThistory_piece))] (fun i => ([] : List Nat).getD i 0) (fun i => ([0] : List Nat).getD i 0) 0 1 [(0, (Ob.arr 88 5 (y2.map encThistory_piece)))] fOk65 wants_none rfl (evm_cons rfl evm_nil) (.cons (Sub.imm (Imm.lst _ _)) .nil) .nil (W65 F a1 y2 hx3) rfl rfl rfl rfl (Sub.ownT rfl rfl) (.cons rfl (ObSub.rowsT (rows_imm imms_encThistory_piece)) .nil) _ rfl ?_
  obtain ⟨y4, hx5, h⟩ := bind_some h
  refine fo (rn 6 rfl ?_)
  refine ck h (fun hc6 h => ?_)
  refine aops_mcallS (V.tup []) [(V.own 0 y2.length), (V.fn (.func 35) [] [])] (fun i => ([0] : List Nat).getD i 0) (fun i => ([0] : List Nat).getD i 0) 1 1 [(0, (Ob.arr 88 5 (y4.map encThistory_piece)))] fOk66 wants_none rfl (evm_cons rfl (evm_cons rfl evm_nil)) (.cons (Sub.own rfl rfl) (.cons (Sub.imm (Imm.fn .nil .nil)) .nil)) (.cons rfl (ObSub.rows (rows_imm imms_encThistory_piece)) .nil) (W66 F y2 y4 hx5) rfl rfl rfl rfl (Sub.immT (Imm.tup .nil)) (.cons rfl (ObSub.rowsT (rows_imm imms_encThistory_piece)) .nil) _ rfl ?_
  refine aops_ghost (ghost_tell 7 (V.own 0 y4.length) rfl (Sub.ownI hc6)) ?_
  refine aops_ghost (ghost_tell 5 (V.own 0 y4.length) rfl (Sub.ownI hc6)) ?_
  refine aops_ghost (ghost_tell 8 (V.own 0 y4.length) rfl (Sub.ownI hc6)) ?_
  refine fo (rn 6 rfl ?_)
  refine awp_ghost (ghost_frzE 0 4 rfl (rows_imm imms_encThistory_piece) rfl (List.length_map ..).symm) ?_
  refine fa ?_
  exact rt h rfl
theorem W10 (F : Nat) (a1 : TStory) (a2 : Int) (a3 : Int) (a4 : Int) (r : (Int × Int)) (h : M10 F a1 a2 a3 a4 = some r) : PureG gl Tryz.prog 10 [(V.agg (encTStory a1)), (iV a2), (iV a3), (iV a4)] (V.tup [(iV (r.1)), (iV (r.2))]) := by
  refine pin (fun r => (V.tup [(iV (r.1)), (iV (r.2))])) r rfl Tryz.func10 rfl rfl rfl rfl rfl (fun w0 m0 hg => ?_)
  unfold M10 at h
  refine rn 13 rfl ?_
  refine cl h rfl rfl rfl (W32 _ _ _ _ _) rfl (fun y5 hx6 h => ?_)
  refine rn 7 rfl ?_
  refine spC h rfl (fun hb7 h => ?_) (fun hb7 h => ?_)
  · refine rn 6 rfl ?_
    exact rt h rfl
  refine rn 4 rfl ?_
  refine cl h rfl rfl rfl (W34 _ _) rfl (fun y8 hx9 h => ?_)
  refine cl h rfl rfl rfl (W33 _ _) rfl (fun y10 hx11 h => ?_)
  refine rn 12 rfl ?_
  refine ln rfl rfl ?_
  refine rn 2 rfl ?_
  refine jK h (fun (p : Int) => (⟨[(12, (iV p))], [], 0⟩ : St)) (fun k12 (p : Int) => k12 p = some r) (fun k12 h => ?_) ?_
  · refine rn 1 rfl ?_
    refine wl (A := y10) 28 rfl (fun hA31 => ?_)
    refine lC (fun (p : Int × Int × Int) => (⟨[(2, (iV a3)), (3, (iV a4)), (12, (iV (p.1))), (13, (iV (p.2.1))), (30, (V.lst 5 (y10.map encThistory_piece))), (31, (iV ((y10.length : Nat) : Int))), (32, (iV (p.2.2)))], [], 0⟩ : St)) (fun n (p : Int × Int × Int) => RG y10 (fun tl nn => M10_L1 F a3 a4 k12 tl p.1 p.2.1 = some r) n p.2.2) (fun p h => RG.zero h) (y10.length + 1) (0, a2, 0) (RG.start h) (g0 rfl rfl) (fun n p h => ?_)
    obtain ⟨n17, n18, n19⟩ := p
    refine rn 5 rfl ?_
    refine spL rfl (fun hb20 => ?_) (fun hb20 => ?_)
    · obtain ⟨x24, tl, hx25, h, hk1⟩ := RG.t hA31 h hb20
      unfold M10_L1 at h
      refine rn 2 rfl ?_
      refine jK h (fun (p : Int × Int) => (⟨[(2, (iV a3)), (3, (iV a4)), (12, (iV (p.1))), (13, (iV (p.2))), (30, (V.lst 5 (y10.map encThistory_piece))), (31, (iV ((y10.length : Nat) : Int))), (32, (iV n19))], [], 0⟩ : St)) (fun k21 (p : Int × Int) => k21 p.1 p.2 = some r) (fun k21 h => ?_) ?_
      · refine rn 3 rfl ?_
        refine ixh hx25 rfl rfl ?_
        refine rn 13 rfl ?_
        refine spC h rfl (fun hb26 h => ?_) (fun hb26 h => ?_)
        · refine rn 1 rfl ?_
          exact jX (n17, n18) h (g0 rfl rfl)
        refine rn 2 rfl ?_
        refine dr mixed (vs 10 rfl .nil) (by kernel_rfl) ?_
        refine rn 6 rfl ?_
        refine jK h (fun (p : Int × Int) => (⟨[(2, (iV a3)), (3, (iV a4)), (12, (iV (p.1))), (13, (iV (p.2))), (30, (V.lst 5 (y10.map encThistory_piece))), (31, (iV ((y10.length : Nat) : Int))), (32, (iV n19))], [], 0⟩ : St)) (fun k27 (p : Int × Int) => k27 p.1 p.2 = some r) (fun k27 h => ?_) ?_
        · refine spC h rfl (fun hb30 h => ?_) (fun hb30 h => ?_)
          · refine rn 13 rfl ?_
            exact jX ((w64 (n17 + (w64 ((if x24.to < a3 then x24.to else a3) - (if x24.from_ > n18 then x24.from_ else n18))))), (if x24.to < a3 then x24.to else a3)) h (g0 rfl rfl)
          refine rn 1 rfl ?_
          exact jX (n17, n18) h (g0 rfl rfl)
        rintro ⟨n28, n29⟩ h
        refine rn 1 rfl ?_
        exact jX (n28, n29) h (g0 rfl rfl)
      rintro ⟨n22, n23⟩ h
      refine rn 4 rfl ?_
      exact jX (n22, n23, (w64 (n19 + 1))) (hk1 _ h) (g0 rfl rfl)
    replace h := RG.f h hb20
    unfold M10_L1 at h
    refine rn 1 rfl ?_
    exact jX n17 h (g0 rfl rfl)
  intro n13 h
  refine rn 6 rfl ?_
  exact rt h rfl
theorem W37 (F : Nat) (a1 : TStory) (a2 : Int) (r : Int) (h : M37 F a1 a2 = some r) : PureG gl Tryz.prog 37 [(V.agg (encTStory a1)), (iV a2)] (iV r) := by
  refine pin (fun r => (iV r)) r rfl Tryz.func37 rfl rfl rfl rfl rfl (fun w0 m0 hg => ?_)
  unfold M37 at h
  refine rn 13 rfl ?_
  refine spC h rfl (fun hb3 h => ?_) (fun hb3 h => ?_)
  · refine rn 4 rfl ?_
    exact rt h rfl
  refine rn 10 rfl ?_
  refine ln rfl rfl ?_
  refine rn 2 rfl ?_
  refine jK h (fun (p : Int) => (⟨[(5, (iV p))], [], 0⟩ : St)) (fun k4 (p : Int) => k4 p = some r) (fun k4 h => ?_) ?_
  · refine rn 1 rfl ?_
    refine wl (A := a1.Releases) 13 rfl (fun hA16 => ?_)
    refine lC (fun (p : Int × Int) => (⟨[(1, (iV a2)), (5, (iV (p.1))), (13, (V.lst 3 (a1.Releases.map encTRelease))), (14, (iV ((a1.Releases.length : Nat) : Int))), (15, (iV (p.2)))], [], 0⟩ : St)) (fun n (p : Int × Int) => RG a1.Releases (fun tl nn => M37_L1 F a2 k4 tl nn p.1 = some r) n p.2) (fun p h => RG.zero h) (a1.Releases.length + 1) ((-1), 0) (RG.start h) (g0 rfl rfl) (fun n p h => ?_)
    obtain ⟨n8, n9⟩ := p
    refine rn 5 rfl ?_
    refine spL rfl (fun hb10 => ?_) (fun hb10 => ?_)
    · obtain ⟨x11, tl, hx12, h, hk1⟩ := RG.t hA16 h hb10
      unfold M37_L1 at h
      refine rn 6 rfl ?_
      refine ixh hx12 rfl rfl ?_
      refine rn 12 rfl ?_
      refine jK h (fun (p : Int) => (⟨[(1, (iV a2)), (5, (iV p)), (13, (V.lst 3 (a1.Releases.map encTRelease))), (14, (iV ((a1.Releases.length : Nat) : Int))), (15, (iV n9))], [], 0⟩ : St)) (fun k13 (p : Int) => k13 p = some r) (fun k13 h => ?_) ?_
      · refine spC h rfl (fun hb15 h => ?_) (fun hb15 h => ?_)
        · refine rn 4 rfl ?_
          exact jX n9 h (g0 rfl rfl)
        refine rn 1 rfl ?_
        exact jX n8 h (g0 rfl rfl)
      intro n14 h
      refine rn 5 rfl ?_
      exact jX (n14, (w64 (n9 + 1))) (hk1 _ h) (g0 rfl rfl)
    replace h := RG.f h hb10
    unfold M37_L1 at h
    refine rn 1 rfl ?_
    exact jX n8 h (g0 rfl rfl)
  intro n5 h
  refine rn 5 rfl ?_
  exact rt h rfl
theorem W11 (F : Nat) (a1 : TStory) (a2 : Int) (r : (TRelease × Bool × Int)) (h : M11 F a1 a2 = some r) : PureG gl Tryz.prog 11 [(V.agg (encTStory a1)), (iV a2)] (V.tup [(V.agg (encTRelease (r.1))), (bV (r.2.1)), (iV (r.2.2))]) := by
  refine pin (fun r => (V.tup [(V.agg (encTRelease (r.1))), (bV (r.2.1)), (iV (r.2.2))])) r rfl Tryz.func11 rfl rfl rfl rfl rfl (fun w0 m0 hg => ?_)
  unfold M11 at h
  refine rn 11 rfl ?_
  refine cl h rfl rfl rfl (W25 _ _) rfl (fun y3 hx4 h => ?_)
  refine rn 7 rfl ?_
  refine spC h rfl (fun hb5 h => ?_) (fun hb5 h => ?_)
  · refine rn 8 rfl ?_
    exact rt h rfl
  refine rn 5 rfl ?_
  refine cl h rfl rfl rfl (W27 _ _) rfl (fun y6 hx7 h => ?_)
  refine rn 2 rfl ?_
  refine spC h rfl (fun hb8 h => ?_) (fun hb8 h => ?_)
  · refine rn 7 rfl ?_
    exact rt h rfl
  refine rn 5 rfl ?_
  refine cl h rfl rfl rfl (W37 _ _ _) rfl (fun y9 hx10 h => ?_)
  refine rn 8 rfl ?_
  refine spC h rfl (fun hb11 h => ?_) (fun hb11 h => ?_)
  · refine rn 7 rfl ?_
    exact rt h rfl
  refine rn 6 rfl ?_
  refine ixl h rfl rfl (fun x12 hx13 h => ?_)
  refine rn 1 rfl ?_
  refine cl h rfl rfl rfl (W29 _ _) rfl (fun y14 hx15 h => ?_)
  refine rn 4 rfl ?_
  exact rt h rfl
theorem W13 (F : Nat) (a1 : TExposure) (a2 : List UInt8) (a3 : List UInt8) (a4 : Int) (a5 : Int) (a6 : Int) (a7 : Bool) (r : Bool) (h : M13 F a1 a2 a3 a4 a5 a6 a7 = some r) : PureG gl Tryz.prog 13 [(V.agg (encTExposure a1)), (V.iptr [(sV a2), (sV a3), (iV a4), (iV a5), (iV a6), (bV a7)] 0)] (bV r) := by
  refine pin (fun r => (bV r)) r rfl Tryz.func13 rfl rfl rfl rfl rfl (fun w0 m0 hg => ?_)
  unfold M13 at h
  refine rn 13 rfl ?_
  refine spO 9 h rfl (fun hb8 h => ?_) (fun hb8 h => ?_)
  · refine rn 8 rfl ?_
    exact rt h rfl
  refine rn 8 rfl ?_
  exact rt h rfl
theorem W38 (F : Nat) (a1 : (List TExposure)) (a2 : List UInt8) (a3 : List UInt8) (a4 : Int) (a5 : Int) (a6 : Int) (a7 : Bool) (r : Int) (h : M38 F a1 a2 a3 a4 a5 a6 a7 = some r) : PureG gl Tryz.prog 38 [(V.lst 3 (a1.map encTExposure)), (V.fn (.func 13) [] [(V.iptr [(sV a2), (sV a3), (iV a4), (iV a5), (iV a6), (bV a7)] 0)])] (iV r) := by
  refine pin (fun r => (iV r)) r rfl Tryz.func38 rfl rfl rfl rfl rfl (fun w0 m0 hg => ?_)
  unfold M38 at h
  refine rn 8 rfl ?_
  refine ln rfl rfl ?_
  refine rn 2 rfl ?_
  refine jK h (fun _ : Unit => (⟨[], [], 0⟩ : St)) (fun k8 (_ : Unit) => k8 = some r) (fun k8 h => ?_) ?_
  · refine rn 1 rfl ?_
    refine wl (A := a1) 0 rfl (fun hA17 => ?_)
    refine lC (fun (p : Int) => (⟨[(0, (V.lst 3 (a1.map encTExposure))), (1, (V.fn (.func 13) [] [(V.iptr [(sV a2), (sV a3), (iV a4), (iV a5), (iV a6), (bV a7)] 0)])), (7, (iV ((a1.length : Nat) : Int))), (8, (iV p))], [], 0⟩ : St)) (fun n (p : Int) => RG a1 (fun tl nn => M38_L1 F a2 a3 a4 a5 a6 a7 k8 tl nn = some r) n p) (fun p h => RG.zero h) (a1.length + 1) 0 (RG.start h) (g0 rfl rfl) (fun n n10 h => ?_)
    refine rn 5 rfl ?_
    refine spL rfl (fun hb11 => ?_) (fun hb11 => ?_)
    · obtain ⟨x12, tl, hx13, h, hk1⟩ := RG.t hA17 h hb11
      unfold M38_L1 at h
      refine rn 13 rfl ?_
      refine ixh hx13 rfl rfl ?_
      refine rn 1 rfl ?_
      refine cl h rfl rfl rfl (W13 _ _ _ _ _ _ _ _) rfl (fun y14 hx15 h => ?_)
      refine rn 1 rfl ?_
      refine spC h rfl (fun hb16 h => ?_) (fun hb16 h => ?_)
      · refine rn 5 rfl ?_
        exact rt h rfl
      refine rn 6 rfl ?_
      exact jX (w64 (n10 + 1)) (hk1 _ h) (g0 rfl rfl)
    replace h := RG.f h hb11
    unfold M38_L1 at h
    refine rn 1 rfl ?_
    exact jX () h (g0 rfl rfl)
  intro _ h
  refine rn 4 rfl ?_
  exact rt h rfl
theorem W12 (F : Nat) (a1 : (List TExposure)) (a2 : List UInt8) (a3 : List UInt8) (a4 : Int) (a5 : Int) (a6 : Int) (a7 : Bool) (r : Bool) (h : M12 F a1 a2 a3 a4 a5 a6 a7 = some r) : PureG gl Tryz.prog 12 [(V.lst 3 (a1.map encTExposure)), (V.fn (.func 13) [] [(V.iptr [(sV a2), (sV a3), (iV a4), (iV a5), (iV a6), (bV a7)] 0)])] (bV r) := by
  refine pin (fun r => (bV r)) r rfl Tryz.func12 rfl rfl rfl rfl rfl (fun w0 m0 hg => ?_)
  unfold M12 at h
  refine rn 8 rfl ?_
  refine cl h rfl rfl rfl (W38 _ _ _ _ _ _ _ _) rfl (fun y8 hx9 h => ?_)
  refine rn 3 rfl ?_
  exact rt h rfl
theorem W3 (F : Nat) (a1 : TStory) (a2 : Int) (a3 : Int) (r : Bool) (h : M3 F a1 a2 a3 = some r) : PureG gl Tryz.prog 3 [(V.agg (encTStory a1)), (iV a2), (iV a3)] (bV r) := by
  refine pin (fun r => (bV r)) r rfl Tryz.func3 rfl rfl rfl rfl rfl (fun w0 m0 hg => ?_)
  unfold M3 at h
  refine rn 8 rfl ?_
  refine cl h rfl rfl rfl (W5 _ _) rfl (fun y4 hx5 h => ?_)
  refine rn 10 rfl ?_
  refine cl h rfl rfl rfl (W6 _ _ _) rfl (fun y6 hx7 h => ?_)
  refine rn 13 rfl ?_
  refine spO 40 h rfl (fun hb8 h => ?_) (fun hb8 h => ?_)
  · refine rn 15 rfl ?_
    refine cl h rfl rfl rfl (W7 _) rfl (fun y9 hx10 h => ?_)
    refine rn 2 rfl ?_
    exact rt h rfl
  refine rn 4 rfl ?_
  refine spO 44 h rfl (fun hb11 h => ?_) (fun hb11 h => ?_)
  · refine rn 11 rfl ?_
    refine cl h rfl rfl rfl (W7 _) rfl (fun y12 hx13 h => ?_)
    refine rn 2 rfl ?_
    exact rt h rfl
  refine rn 4 rfl ?_
  refine spO 48 h rfl (fun hb14 h => ?_) (fun hb14 h => ?_)
  · refine rn 7 rfl ?_
    refine cl h rfl rfl rfl (W7 _) rfl (fun y15 hx16 h => ?_)
    refine rn 2 rfl ?_
    exact rt h rfl
  refine rn 4 rfl ?_
  refine spC h rfl (fun hb17 h => ?_) (fun hb17 h => ?_)
  · refine rn 2 rfl ?_
    refine cl h rfl rfl rfl (W7 _) rfl (fun y18 hx19 h => ?_)
    refine rn 2 rfl ?_
    exact rt h rfl
  refine rn 4 rfl ?_
  refine cl h rfl rfl rfl (W5 _ _) rfl (fun y20 hx21 h => ?_)
  refine rn 12 rfl ?_
  refine spC h rfl (fun hb22 h => ?_) (fun hb22 h => ?_)
  · refine rn 4 rfl ?_
    exact rt h rfl
  refine rn 9 rfl ?_
  refine ln rfl rfl ?_
  refine rn 2 rfl ?_
  refine jK h (fun (p : (List TWindow)) => (⟨[(1, (iV a2)), (2, (iV a3)), (3, (V.ptr 0 4 0 0)), (7, (V.lst 6 ((y4.1).map encTWindow))), (11, (V.lst 6 ((y20.1).map encTWindow))), (12, (V.own 1 p.length))], [(0, (Ob.arr 25 4 [(encTStory a1)])), (1, (Ob.arr 34 6 (p.map encTWindow)))], 2⟩ : St)) (fun k23 (p : (List TWindow)) => k23 p = some r) (fun k23 h => ?_) ?_
  · refine rn 1 rfl ?_
    refine wl (A := (y4.1)) 30 rfl (fun hA36 => ?_)
    refine lC (fun (p : Int × (List TWindow)) => (⟨[(1, (iV a2)), (2, (iV a3)), (3, (V.ptr 0 4 0 0)), (7, (V.lst 6 ((y4.1).map encTWindow))), (11, (V.lst 6 ((y20.1).map encTWindow))), (12, (V.own 1 (p.2).length)), (60, (V.lst 6 ((y4.1).map encTWindow))), (61, (iV (((y4.1).length : Nat) : Int))), (62, (iV (p.1)))], [(0, (Ob.arr 25 4 [(encTStory a1)])), (1, (Ob.arr 34 6 ((p.2).map encTWindow)))], 2⟩ : St)) (fun n (p : Int × (List TWindow)) => RG (y4.1) (fun tl nn => M3_L1 F a2 k23 tl p.2 = some r) n p.1) (fun p h => RG.zero h) ((y4.1).length + 1) (0, ([] : List TWindow)) (RG.start h) (Ghost.trans (ghost_nilE 12 34 6 rfl) (ghost_ren 2 (fun i => ([0, 2] : List Nat).getD i 0) _ _ (by decide) (EnvSub.get (.cons (Sub.imm (Imm.con _)) (.cons (Sub.imm (Imm.con _)) (.cons (Sub.ptr rfl rfl) (.cons (Sub.imm (Imm.lst _ _)) (.cons (Sub.imm (Imm.lst _ _)) (.cons (Sub.ownE rfl rfl (by simp)) (.cons (Sub.imm (Imm.lst _ _)) (.cons (Sub.imm (Imm.con _)) (.cons (Sub.imm (Imm.con _)) .nil)))))))))) (HpSub.get (.cons rfl (ObSub.box (.cons (Sub.imm (Imm.con _)) (.cons (Sub.imm (Imm.lst _ _)) (.cons (Sub.imm (Imm.lst _ _)) (.cons (Sub.imm (Imm.con _)) .nil))))) (.cons rfl (ObSub.rows (rows_imm imms_encTWindow)) .nil))) rfl)) (fun n p h => ?_)
    obtain ⟨n27, l28⟩ := p
    refine rn 5 rfl ?_
    refine spL rfl (fun hb29 => ?_) (fun hb29 => ?_)
    · obtain ⟨x30, tl, hx31, h, hk1⟩ := RG.t hA36 h hb29
      unfold M3_L1 at h
      refine rn 5 rfl ?_
      refine ixh hx31 rfl rfl ?_
      refine rn 11 rfl ?_
      refine jK h (fun (p : (List TWindow)) => (⟨[(1, (iV a2)), (2, (iV a3)), (3, (V.ptr 0 4 0 0)), (7, (V.lst 6 ((y4.1).map encTWindow))), (11, (V.lst 6 ((y20.1).map encTWindow))), (12, (V.own 1 p.length)), (60, (V.lst 6 ((y4.1).map encTWindow))), (61, (iV (((y4.1).length : Nat) : Int))), (62, (iV n27))], [(0, (Ob.arr 25 4 [(encTStory a1)])), (1, (Ob.arr 34 6 (p.map encTWindow)))], 2⟩ : St)) (fun k32 (p : (List TWindow)) => k32 p = some r) (fun k32 h => ?_) ?_
      · refine spC h rfl (fun hb34 h => ?_) (fun hb34 h => ?_)
        · refine rn 12 rfl ?_
          refine aops_buildSlice [(0, (V.agg [(sV x30.Advisory), (sV x30.Component), (iV x30.Severity), (iV x30.From), (iV (if a2 < x30.To then a2 else x30.To)), (bV x30.Open)]))] [[(sV x30.Advisory), (sV x30.Component), (iV x30.Severity), (iV x30.From), (iV (if a2 < x30.To then a2 else x30.To)), (bV x30.Open)]] tEl26 tZ34 rfl rfl rfl rfl wants_none (evp_cons rfl evp_nil) rfl rfl (by simp) rfl ?_
          refine fo ?_
          refine apO encTWindow h rfl rfl rfl rfl rfl rfl rfl rfl (fun h => ?_)
          refine rn 2 rfl ?_
          exact jX (l28 ++ ([(TWindow.mk x30.Advisory x30.Component x30.Severity x30.From (if a2 < x30.To then a2 else x30.To) x30.Open)] : List TWindow)) h (gr [0, 4] rfl (hB rfl rfl rfl (hR rfl rfl .nil)) rfl)
        refine rn 1 rfl ?_
        exact jX l28 h (gr [0, 1] rfl (hB rfl rfl rfl (hR rfl rfl .nil)) rfl)
      intro l33 h
      refine rn 5 rfl ?_
      exact jX ((w64 (n27 + 1)), l33) (hk1 _ h) (gr [0, 1] rfl (hB rfl rfl rfl (hR rfl rfl .nil)) rfl)
    replace h := RG.f h hb29
    unfold M3_L1 at h
    refine rn 1 rfl ?_
    exact jX l28 h (gr [0, 1] rfl (hB rfl rfl rfl (hR rfl rfl .nil)) rfl)
  intro l24 h
  obtain ⟨y37, hx38, h⟩ := bind_some h
  refine rn 10 rfl ?_
  refine aops_lend_call (bV y37) [(V.lst 6 ((y20.1).map encTWindow)), (V.lst 6 (l24.map encTWindow)), (V.fn (.func 8) [] [])] fOk9 (ghost_frzE 1 81 rfl (rows_imm imms_encTWindow) rfl (List.length_map ..).symm) (Flat.con _) wants_none (evm_cons rfl (evm_cons rfl (evm_cons rfl evm_nil))) (.cons (Imm.lst _ _) (.cons (Imm.lst _ _) (.cons (Imm.fn .nil .nil) .nil))) (W9 F (y20.1) l24 y37 hx38) rfl ?_
  refine fo (rn 2 rfl ?_)
  refine spC h rfl (fun hb39 h => ?_) (fun hb39 h => ?_)
  · refine rn 4 rfl ?_
    exact rt h rfl
  refine rn 6 rfl ?_
  refine cl h rfl rfl rfl (W10 _ _ _ _ _) rfl (fun y40 hx41 h => ?_)
  refine rn 11 rfl ?_
  refine cl h rfl rfl rfl (W10 _ _ _ _ _) rfl (fun y42 hx43 h => ?_)
  refine rn 10 rfl ?_
  refine cl h rfl rfl rfl (W10 _ _ _ _ _) rfl (fun y44 hx45 h => ?_)
  refine rn 12 rfl ?_
  refine spO 107 h rfl (fun hb46 h => ?_) (fun hb46 h => ?_)
  · refine rn 20 rfl ?_
    exact rt h rfl
  refine rn 4 rfl ?_
  refine spO 111 h rfl (fun hb47 h => ?_) (fun hb47 h => ?_)
  · refine rn 16 rfl ?_
    exact rt h rfl
  refine rn 4 rfl ?_
  refine spO 115 h rfl (fun hb48 h => ?_) (fun hb48 h => ?_)
  · refine rn 12 rfl ?_
    exact rt h rfl
  refine rn 7 rfl ?_
  refine spC h rfl (fun hb49 h => ?_) (fun hb49 h => ?_)
  · refine rn 4 rfl ?_
    exact rt h rfl
  refine rn 5 rfl ?_
  refine ln rfl rfl ?_
  refine rn 2 rfl ?_
  refine jK h (fun _ : Unit => (⟨[], [], 0⟩ : St)) (fun k50 (_ : Unit) => k50 = some r) (fun k50 h => ?_) ?_
  · refine rn 1 rfl ?_
    refine wl (A := (y4.1)) 7 rfl (fun hA71 => ?_)
    refine lC (fun (p : Int) => (⟨[(3, (V.ptr 0 4 0 0)), (122, (V.lst 6 ((y4.1).map encTWindow))), (123, (iV (((y4.1).length : Nat) : Int))), (124, (iV p))], [(0, (Ob.arr 25 4 [(encTStory a1)]))], 1⟩ : St)) (fun n (p : Int) => RG (y4.1) (fun tl nn => M3_L2 F a1 k50 tl = some r) n p) (fun p h => RG.zero h) ((y4.1).length + 1) 0 (RG.start h) (gr [0] rfl (hB rfl rfl rfl .nil) rfl) (fun n n52 h => ?_)
    refine rn 5 rfl ?_
    refine spL rfl (fun hb53 => ?_) (fun hb53 => ?_)
    · obtain ⟨x55, tl, hx56, h, hk2⟩ := RG.t hA71 h hb53
      unfold M3_L2 at h
      refine rn 2 rfl ?_
      refine jK h (fun _ : Unit => (⟨[(3, (V.ptr 0 4 0 0)), (122, (V.lst 6 ((y4.1).map encTWindow))), (123, (iV (((y4.1).length : Nat) : Int))), (124, (iV n52))], [(0, (Ob.arr 25 4 [(encTStory a1)]))], 1⟩ : St)) (fun k54 (_ : Unit) => k54 = some r) (fun k54 h => ?_) ?_
      · refine rn 3 rfl ?_
        refine ixh hx56 rfl rfl ?_
        refine rn 11 rfl ?_
        refine aops_buildSlice [(0, (iV x55.From)), (1, (iV (w64 (x55.To - 1))))] [[(iV x55.From)], [(iV (w64 (x55.To - 1)))]] tEl39 tZ3 rfl rfl rfl rfl wants_none (evp_cons rfl (evp_cons rfl evp_nil)) rfl rfl (by simp) rfl ?_
        refine fo (rn 3 rfl ?_)
        refine jK h (fun _ : Unit => (⟨[(3, (V.ptr 0 4 0 0)), (122, (V.lst 6 ((y4.1).map encTWindow))), (123, (iV (((y4.1).length : Nat) : Int))), (124, (iV n52))], [(0, (Ob.arr 25 4 [(encTStory a1)]))], 1⟩ : St)) (fun k57 (_ : Unit) => k57 = some r) (fun k57 h => ?_) ?_
        · refine rn 1 rfl ?_
          refine ck h (fun hA70 h => ?_)
          refine lC (fun (p : Int) => (⟨[(3, (V.ptr 0 4 0 0)), (21, (V.ptr 1 6 0 0)), (122, (V.lst 6 ((y4.1).map encTWindow))), (123, (iV (((y4.1).length : Nat) : Int))), (124, (iV n52)), (133, (V.own 2 ([x55.From, (w64 (x55.To - 1))] : List Int).length)), (134, (iV ((2 : Nat) : Int))), (135, (iV p))], [(0, (Ob.arr 25 4 [(encTStory a1)])), (1, (Ob.arr 34 6 [(encTWindow x55)])), (2, (Ob.arr 3 1 (([x55.From, (w64 (x55.To - 1))] : List Int).map encI_i64)))], 3⟩ : St)) (fun n (p : Int) => RC ((2 : Nat) : Int) (fun tl nn => M3_L3 F a1 x55 k57 tl nn = some r) n p) (fun p h => RC.zero h) (Int.toNat ((2 : Nat) : Int) + 1) 0 (RC.start h) (ghost_ren 3 (fun i => ([0, 1, 2] : List Nat).getD i 0) _ _ (by decide) (EnvSub.get (.cons (Sub.ptr rfl rfl) (.cons (Sub.ptr rfl rfl) (.cons (Sub.imm (Imm.lst _ _)) (.cons (Sub.imm (Imm.con _)) (.cons (Sub.imm (Imm.con _)) (.cons (Sub.ownE rfl rfl (by simp)) (.cons (Sub.imm (Imm.con _)) (.cons (Sub.imm (Imm.con _)) .nil))))))))) (HpSub.get (.cons rfl (ObSub.box (.cons (Sub.imm (Imm.con _)) (.cons (Sub.imm (Imm.lst _ _)) (.cons (Sub.imm (Imm.lst _ _)) (.cons (Sub.imm (Imm.con _)) .nil))))) (.cons rfl (ObSub.box (.cons (Sub.imm (Imm.con _)) (.cons (Sub.imm (Imm.con _)) (.cons (Sub.imm (Imm.con _)) (.cons (Sub.imm (Imm.con _)) (.cons (Sub.imm (Imm.con _)) (.cons (Sub.imm (Imm.con _)) .nil))))))) (.cons rfl (ObSub.rows (rows_imm imms_encI_i64)) .nil)))) rfl) (fun n n59 h => ?_)
          refine rn 5 rfl ?_
          refine spL rfl (fun hb60 => ?_) (fun hb60 => ?_)
          · obtain ⟨tl, h, hk3⟩ := RC.t hA70 h hb60
            unfold M3_L3 at h
            refine rn 5 rfl ?_
            refine ixo (a := ([x55.From, (w64 (x55.To - 1))] : List Int)) h rfl rfl rfl (fun x61 hx62 h => ?_)
            refine ldp hx62 rfl rfl rfl rfl ?_
            refine rn 6 rfl ?_
            refine cl h rfl rfl rfl (W11 _ _ _) rfl (fun y63 hx64 h => ?_)
            refine rn 14 rfl ?_
            refine spO 148 h rfl (fun hb65 h => ?_) (fun hb65 h => ?_)
            · refine rn 16 rfl ?_
              exact rt h rfl
            refine rn 4 rfl ?_
            refine spO 152 h rfl (fun hb66 h => ?_) (fun hb66 h => ?_)
            · refine rn 12 rfl ?_
              exact rt h rfl
            obtain ⟨y67, hx68, h⟩ := bind_some h
            refine rn 3 rfl ?_
            refine aops_lend_call (bV y67) [(V.lst 3 ((y63.1).Exposures.map encTExposure)), (V.fn (.func 13) [] [(V.iptr (encTWindow x55) 0)])] fOk12 (ghost_frzV 1 155 (V.fn (.func 13) [] [(V.iptr (encTWindow x55) 0)]) rfl (imms_rows (.cons (imms_encTWindow _) .nil)) rfl (Sub.fnc (.cons (Sub.frzptr rfl) .nil))) (Flat.con _) (wants_some (c := false) (b := false) 152 rfl rfl rfl) (evm_cons rfl (evm_cons rfl evm_nil)) (.cons (Imm.lst _ _) (.cons (Imm.fn .nil (.cons (Imm.iptr _ _) .nil)) .nil)) (W12 F (y63.1).Exposures x55.Advisory x55.Component x55.Severity x55.From x55.To x55.Open y67 hx68) rfl ?_
            refine fo (rn 3 rfl ?_)
            refine spC h rfl (fun hb69 h => ?_) (fun hb69 h => ?_)
            · refine rn 4 rfl ?_
              exact rt h rfl
            refine rn 6 rfl ?_
            exact jX (w64 (n59 + 1)) (hk3 _ h) (gr [0, 1, 2] rfl (hB rfl rfl rfl (hB rfl rfl rfl (hR rfl rfl .nil))) rfl)
          replace h := RC.f h hb60
          unfold M3_L3 at h
          refine rn 1 rfl ?_
          exact jX () h (gr [0] rfl (hB rfl rfl rfl .nil) rfl)
        intro _ h
        refine rn 1 rfl ?_
        exact jX () h (gr [0] rfl (hB rfl rfl rfl .nil) rfl)
      intro _ h
      refine rn 4 rfl ?_
      exact jX (w64 (n52 + 1)) (hk2 _ h) (gr [0] rfl (hB rfl rfl rfl .nil) rfl)
    replace h := RG.f h hb53
    unfold M3_L2 at h
    refine rn 1 rfl ?_
    exact jX () h (g0 rfl rfl)
  intro _ h
  refine rn 2 rfl ?_
  refine cl h rfl rfl rfl (W7 _) rfl (fun y72 hx73 h => ?_)
  refine rn 2 rfl ?_
  exact rt h rfl
end Go.Proofs.YtiphmdpaajjdeaaGreatDoor
