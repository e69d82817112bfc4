/- Part of the proof: H4W4a. -/
import Derived.Test.YtcoppoeibjkinaaDoorMPvX
import Derived.Test.YtcoppoeibjkinaaDoorMH4Sh
import Derived.KernelRfl
namespace Go.Proofs.YtcoppoeibjkinaaDoor
open Go Go.Pv
set_option linter.unusedVariables false
set_option maxRecDepth 100000
variable {mx : Int}
theorem W28 (F : Nat) (a1 : (List UInt8)) (r : Bool) (h : M28 F a1 = some r) : PureG (gl mx) Tryd.prog 28 [(sV a1)] (bV r) := by
 refine pin (fun r => (bV r)) r rfl Tryd.func28 rfl rfl rfl rfl rfl (fun w0 m0 hg => ?_)
 unfold M28 at h
 refine rn 11 rfl ?_
 refine jK h (fun _ : Unit => (⟨[(0, (sV a1))], [], 0⟩ : St)) (fun k2 (_ : Unit) => k2 = some r) (fun k2 h => ?_) ?_
 ·refine rn 1 rfl ?_
  refine ck h (fun hA12 h => ?_)
  refine lC (fun (p : Int) => (⟨[(0, (sV a1)), (5, (iV (a1.length : Int))), (6, (iV p))], [], 0⟩ : St)) (fun n p => RC (a1.length : Int) (fun tl nn => M28_L1 F a1 k2 tl nn = some r) n p) (fun p h => RC.zero h) (Int.toNat (a1.length : Int) + 1) 0 (RC.start h) (g0 rfl rfl) (fun n n4 h => ?_)
  refine rn 5 rfl ?_
  refine spL rfl (fun hb5 => ?_) (fun hb5 => ?_)
  ·obtain ⟨tl, h, hk1⟩ := RC.t hA12 h hb5
   unfold M28_L1 at h
   refine rn 12 rfl ?_
   refine ixs h rfl rfl (fun c6 hx7 h => ?_)
   refine rn 2 rfl ?_
   refine spO 13 h rfl (fun hb8 h => ?_) (fun hb8 h => ?_)
   ·refine rn 11 rfl ?_
    exact rt h rfl
   refine rn 2 rfl ?_
   refine ixs h rfl rfl (fun c9 hx10 h => ?_)
   refine rn 3 rfl ?_
   refine spC h rfl (fun hb11 h => ?_) (fun hb11 h => ?_)
   ·refine rn 4 rfl ?_
    exact rt h rfl
   refine rn 6 rfl ?_
   exact jX (w64 (n4 + 1)) (hk1 _ h) (g0 rfl rfl)
  replace h := RC.f h hb5
  unfold M28_L1 at h
  refine rn 1 rfl ?_
  exact jX () h (g0 rfl rfl)
 intro _ h
 refine rn 6 rfl ?_
 exact rt h rfl
theorem W30 (F : Nat) (a1 : (List UInt8)) (r : Bool) (h : M30 F a1 = some r) : PureG (gl mx) Tryd.prog 30 [(sV a1)] (bV r) := by
 refine pin (fun r => (bV r)) r rfl Tryd.func30 rfl rfl rfl rfl rfl (fun w0 m0 hg => ?_)
 unfold M30 at h
 refine rn 7 rfl ?_
 refine cl h rfl rfl rfl (W28 _ _) rfl (fun y2 hx3 h => ?_)
 refine rn 1 rfl ?_
 refine spO 5 h rfl (fun hb4 h => ?_) (fun hb4 h => ?_)
 ·refine rn 6 rfl ?_
  exact rt h rfl
 refine rn 6 rfl ?_
 exact rt h rfl
theorem W31 (F : Nat) (a1 : Int) (r : Bool) (h : M31 F a1 = some r) : PureG (gl mx) Tryd.prog 31 [(iV a1)] (bV r) := by
 refine pin (fun r => (bV r)) r rfl Tryd.func31 rfl rfl rfl rfl rfl (fun w0 m0 hg => ?_)
 unfold M31 at h
 refine rn 9 rfl ?_
 refine spO 5 h rfl (fun hb2 h => ?_) (fun hb2 h => ?_)
 ·refine rn 5 rfl ?_
  exact rt h rfl
 refine rn 5 rfl ?_
 exact rt h rfl
theorem W64 (F : Nat) (a1 : TExposure) (r : Thistory_key) (h : M64 F a1 = some r) : PureG (gl mx) Tryd.prog 64 [(V.agg (encTExposure a1))] (V.agg (encThistory_key r)) := by
 refine pin (fun r => (V.agg (encThistory_key r))) r rfl Tryd.func64 rfl rfl rfl rfl rfl (fun w0 m0 hg => ?_)
 unfold M64 at h
 refine rn 14 rfl ?_
 exact rt h rfl
theorem W96 (F : Nat) (a1 : (List UInt8)) (r : Bool) (h : M96 F a1 = some r) : PureG (gl mx) Tryd.prog 96 [(sV a1)] (bV r) := by
 refine pin (fun r => (bV r)) r rfl Tryd.func96 rfl rfl rfl rfl rfl (fun w0 m0 hg => ?_)
 unfold M96 at h
 refine rn 11 rfl ?_
 exact rt h rfl
theorem W83 (F : Nat) (a1 : (List UInt8)) (a2 : (List UInt8)) (r : Int) (h : M83 F a1 a2 = some r) : PureG (gl mx) Tryd.prog 83 [(sV a1), (sV a2)] (iV r) := by
 refine pin (fun r => (iV r)) r rfl Tryd.func83 rfl rfl rfl rfl rfl (fun w0 m0 hg => ?_)
 unfold M83 at h
 refine rn 7 rfl ?_
 refine cl h rfl rfl rfl (W96 _ _) rfl (fun y3 hx4 h => ?_)
 refine rn 5 rfl ?_
 refine cl h rfl rfl rfl (W96 _ _) rfl (fun y5 hx6 h => ?_)
 refine rn 7 rfl ?_
 refine spC h rfl (fun hb7 h => ?_) (fun hb7 h => ?_)
 ·refine rn 5 rfl ?_
  refine spC h rfl (fun hb8 h => ?_) (fun hb8 h => ?_)
  ·refine rn 4 rfl ?_
   exact rt h rfl
  refine rn 5 rfl ?_
  exact rt h rfl
 refine rn 6 rfl ?_
 refine spC h rfl (fun hb9 h => ?_) (fun hb9 h => ?_)
 ·refine rn 4 rfl ?_
  exact rt h rfl
 refine rn 8 rfl ?_
 refine spC h rfl (fun hb10 h => ?_) (fun hb10 h => ?_)
 ·refine rn 4 rfl ?_
  exact rt h rfl
 refine rn 8 rfl ?_
 refine spC h rfl (fun hb11 h => ?_) (fun hb11 h => ?_)
 ·refine rn 4 rfl ?_
  exact rt h rfl
 refine rn 5 rfl ?_
 exact rt h rfl
theorem W82 (F : Nat) (a1 : (List Int)) (r : Int) (h : M82 F a1 = some r) : PureG (gl mx) Tryd.prog 82 [(V.lst 1 (a1.map encI_i64))] (iV r) := by
 refine pin (fun r => (iV r)) r rfl Tryd.func82 rfl rfl rfl rfl rfl (fun w0 m0 hg => ?_)
 unfold M82 at h
 refine rn 12 rfl ?_
 refine ln rfl rfl ?_
 refine rn 2 rfl ?_
 refine jK h (fun _ : Unit => (⟨[(3, (iV 0))], [], 0⟩ : St)) (fun k2 (_ : Unit) => k2 = some r) (fun k2 h => ?_) ?_
 ·refine rn 1 rfl ?_
  refine wl (A := a1) 0 rfl (fun hA9 => ?_)
  refine lC (fun (p : Int) => (⟨[(3, (iV 0)), (6, (V.lst 1 (a1.map encI_i64))), (7, (iV ((a1.length : Nat) : Int))), (8, (iV p))], [], 0⟩ : St)) (fun n p => RG a1 (fun tl nn => M82_L1 F k2 tl = some r) n p) (fun p h => RG.zero h) (a1.length + 1) 0 (RG.start h) (g0 rfl rfl) (fun n n4 h => ?_)
  refine rn 5 rfl ?_
  refine spL rfl (fun hb5 => ?_) (fun hb5 => ?_)
  ·obtain ⟨x6, tl, hx7, h, hk1⟩ := RG.t hA9 h hb5
   unfold M82_L1 at h
   refine rn 5 rfl ?_
   refine ixh hx7 rfl rfl ?_
   refine rn 9 rfl ?_
   refine spC h rfl (fun hb8 h => ?_) (fun hb8 h => ?_)
   ·refine rn 5 rfl ?_
    exact rt h rfl
   refine rn 6 rfl ?_
   exact jX (w64 (n4 + 1)) (hk1 _ h) (g0 rfl rfl)
  replace h := RG.f h hb5
  unfold M82_L1 at h
  refine rn 1 rfl ?_
  exact jX () h (g0 rfl rfl)
 intro _ h
 refine rn 5 rfl ?_
 exact rt h rfl
theorem W63 (F : Nat) (a1 : Thistory_key) (a2 : Thistory_key) (r : Int) (h : M63 F a1 a2 = some r) : PureG (gl mx) Tryd.prog 63 [(V.agg (encThistory_key a1)), (V.agg (encThistory_key a2))] (iV r) := by
 refine pin (fun r => (iV r)) r rfl Tryd.func63 rfl rfl rfl rfl rfl (fun w0 m0 hg => ?_)
 unfold M63 at h
 obtain ⟨y3, hx4, h⟩ := bind_some h
 obtain ⟨y5, hx6, h⟩ := bind_some h
 obtain ⟨y7, hx8, h⟩ := bind_some h
 refine rn 7 rfl ?_
 refine dr mixed (vs 4 rfl (cD rfl rfl rfl rfl (W83 _ _ _ _ hx4) rfl (vs 4 rfl (cD rfl rfl rfl rfl (W83 _ _ _ _ hx6) rfl (xD (OD.mk [(9, (iV y3)), (14, (iV y5))] [] [(15, (V.lst 1 (([y3, y5] : List Int).map encI_i64)))] []) ⟨⟨rfl, rfl, trivial⟩, trivial⟩ (by exact fun S hn h hh => aops_buildSlice_imm [(0, (iV y3)), (1, (iV y5))] [[(iV y3)], [(iV y5)]] tEl39 tZ3 wants_none rfl rfl rfl rfl (evp_cons h.1 (evp_cons h.2.1 evp_nil)) rfl rfl (by simp) (imms_rows (.cons (.cons (Imm.con _) .nil) (.cons (.cons (Imm.con _) .nil) .nil))) rfl (aops_nil ⟨rfl, rfl⟩)) rfl (cD rfl rfl rfl rfl (W82 _ _ _ hx8) rfl (vs 1 rfl .nil))))))) (by kernel_rfl) ?_
 exact rt h rfl
theorem W50 (F : Nat) (a1 : (List TExposure)) (r : Int) (h : M50 F a1 = some r) : PureG (gl mx) Tryd.prog 50 [(V.lst 3 (a1.map encTExposure))] (iV r) := by
 refine pin (fun r => (iV r)) r rfl Tryd.func50 rfl rfl rfl rfl rfl (fun w0 m0 hg => ?_)
 unfold M50 at h
 refine rn 8 rfl ?_
 refine ln rfl rfl ?_
 refine rn 2 rfl ?_
 refine spC h rfl (fun hb2 h => ?_) (fun hb2 h => ?_)
 ·refine rn 4 rfl ?_
  exact rt h rfl
 refine rn 5 rfl ?_
 refine ln rfl rfl ?_
 refine rn 2 rfl ?_
 refine jK h (fun _ : Unit => (⟨[], [], 0⟩ : St)) (fun k3 (_ : Unit) => k3 = some r) (fun k3 h => ?_) ?_
 ·refine rn 1 rfl ?_
  refine wl (A := a1) 0 rfl (fun hA28 => ?_)
  refine lC (fun (p : Int) => (⟨[(0, (V.lst 3 (a1.map encTExposure))), (8, (V.lst 3 (a1.map encTExposure))), (9, (iV ((a1.length : Nat) : Int))), (10, (iV p))], [], 0⟩ : St)) (fun n p => RG a1 (fun tl nn => M50_L1 F a1 k3 tl nn = some r) n p) (fun p h => RG.zero h) (a1.length + 1) 0 (RG.start h) (g0 rfl rfl) (fun n n5 h => ?_)
  refine rn 5 rfl ?_
  refine spL rfl (fun hb6 => ?_) (fun hb6 => ?_)
  ·obtain ⟨x7, tl, hx8, h, hk1⟩ := RG.t hA28 h hb6
   unfold M50_L1 at h
   refine rn 6 rfl ?_
   refine ixh hx8 rfl rfl ?_
   refine rn 10 rfl ?_
   refine cl h rfl rfl rfl (W30 _ _) rfl (fun y9 hx10 h => ?_)
   refine rn 2 rfl ?_
   refine spO 20 h rfl (fun hb11 h => ?_) (fun hb11 h => ?_)
   ·refine rn 12 rfl ?_
    exact rt h rfl
   refine rn 2 rfl ?_
   refine cl h rfl rfl rfl (W30 _ _) rfl (fun y12 hx13 h => ?_)
   refine rn 4 rfl ?_
   refine jK h (fun _ : Unit => (⟨[(0, (V.lst 3 (a1.map encTExposure))), (8, (V.lst 3 (a1.map encTExposure))), (9, (iV ((a1.length : Nat) : Int))), (10, (iV n5)), (24, (bV (!y12))), (33, (bV (decide (x7.Severity > 100))))], [], 0⟩ : St)) (fun k14 (_ : Unit) => k14 = some r) (fun k14 h => ?_) ?_
   ·refine spC h rfl (fun hb15 h => ?_) (fun hb15 h => ?_)
    ·refine rn 4 rfl ?_
     exact rt h rfl
    refine rn 6 rfl ?_
    refine spO 30 h rfl (fun hb16 h => ?_) (fun hb16 h => ?_)
    ·refine rn 11 rfl ?_
     exact rt h rfl
    refine rn 6 rfl ?_
    refine spC h rfl (fun hb17 h => ?_) (fun hb17 h => ?_)
    ·refine rn 4 rfl ?_
     exact rt h rfl
    refine rn 1 rfl ?_
    refine bs h (fun hb18 h => ?_) (fun hb18 h => ?_)
    ·obtain ⟨x19, hx20, h⟩ := bind_some h
     obtain ⟨y21, hx22, h⟩ := bind_some h
     obtain ⟨y23, hx24, h⟩ := bind_some h
     obtain ⟨y25, hx26, h⟩ := bind_some h
     refine dr mixed (vs 2 rfl (vb hb18 rfl (vs 3 rfl (iD hx20 rfl rfl rfl (vs 1 rfl (cD rfl rfl rfl rfl (W64 _ _ _ hx22) rfl (vs 1 rfl (cD rfl rfl rfl rfl (W64 _ _ _ hx24) rfl (cD rfl rfl rfl rfl (W63 _ _ _ _ hx26) rfl (vs 3 rfl .nil)))))))))) (by kernel_rfl) ?_
     refine spC h rfl (fun hb27 h => ?_) (fun hb27 h => ?_)
     ·refine rn 4 rfl ?_
      exact rt h rfl
     refine rn 1 rfl ?_
     exact jX () h (g0 rfl rfl)
    refine dr mixed (vs 2 rfl (vb hb18 rfl (vs 12 rfl .nil))) (by kernel_rfl) ?_
    refine rn 2 rfl ?_
    exact jX () h (g0 rfl rfl)
   intro _ h
   refine rn 6 rfl ?_
   exact jX (w64 (n5 + 1)) (hk1 _ h) (g0 rfl rfl)
  replace h := RG.f h hb6
  unfold M50_L1 at h
  refine rn 1 rfl ?_
  exact jX () h (g0 rfl rfl)
 intro _ h
 refine rn 4 rfl ?_
 exact rt h rfl
theorem W32 (F : Nat) (a1 : TStory) (r : Int) (h : M32 F a1 = some r) : PureG (gl mx) Tryd.prog 32 [(V.agg (encTStory a1))] (iV r) := by
 refine pin (fun r => (iV r)) r rfl Tryd.func32 rfl rfl rfl rfl rfl (fun w0 m0 hg => ?_)
 unfold M32 at h
 refine rn 15 rfl ?_
 refine ln rfl rfl ?_
 refine rn 2 rfl ?_
 refine jK h (fun _ : Unit => (⟨[], [], 0⟩ : St)) (fun k2 (_ : Unit) => k2 = some r) (fun k2 h => ?_) ?_
 ·refine rn 1 rfl ?_
  refine wl (A := a1.Releases) 9 rfl (fun hA24 => ?_)
  refine lC (fun (p : Int × (List ((List UInt8) × Bool))) => (⟨[(1, (V.ptr 0 4 0 0)), (3, (V.map 1)), (9, (V.lst 3 (a1.Releases.map encTRelease))), (10, (iV ((a1.Releases.length : Nat) : Int))), (11, (iV (p.1)))], [(0, (Ob.arr 25 4 [(encTStory a1)])), (1, (Ob.map ((p.2).map encM9_4)))], 2⟩ : St)) (fun n p => RG a1.Releases (fun tl nn => M32_L1 F a1 k2 tl nn p.2 = some r) n p.1) (fun p h => RG.zero h) (a1.Releases.length + 1) (0, ([] : List ((List UInt8) × Bool))) (RG.start h) (gr [0, 1] rfl (hB rfl rfl rfl (hM rfl rfl .nil)) rfl) (fun n p h => ?_)
  obtain ⟨n5, m6⟩ := p
  refine rn 5 rfl ?_
  refine spL rfl (fun hb7 => ?_) (fun hb7 => ?_)
  ·obtain ⟨x8, tl, hx9, h, hk1⟩ := RG.t hA24 h hb7
   unfold M32_L1 at h
   refine rn 6 rfl ?_
   refine ixh hx9 rfl rfl ?_
   refine rn 11 rfl ?_
   refine cl h rfl rfl rfl (W30 _ _) rfl (fun y10 hx11 h => ?_)
   refine rn 3 rfl ?_
   refine jK h (fun _ : Unit => (⟨[(1, (V.ptr 0 4 0 0)), (3, (V.map 1)), (5, (V.ptr 2 3 0 0)), (9, (V.lst 3 (a1.Releases.map encTRelease))), (10, (iV ((a1.Releases.length : Nat) : Int))), (11, (iV n5)), (35, (bV (decide (x8.Day > a1.Until))))], [(0, (Ob.arr 25 4 [(encTStory a1)])), (1, (Ob.map (m6.map encM9_4))), (2, (Ob.arr 47 3 [(encTRelease x8)]))], 3⟩ : St)) (fun k12 (_ : Unit) => k12 = some r) (fun k12 h => ?_) ?_
   ·refine spC h rfl (fun hb13 h => ?_) (fun hb13 h => ?_)
    ·refine rn 4 rfl ?_
     exact rt h rfl
    refine rn 5 rfl ?_
    refine aops_lookup _ (bV false) (bV ((mget m6 x8.Version).getD false)) tMap78 tKey9 tZo4 (irel_con _) wants_none rfl (.own rfl) (.con rfl) ⟨_, rfl⟩ encM9_4_good (encM9_4_look m6 x8.Version) (getD_map (encM9_4_val) (mget m6 x8.Version) false) rfl ?_
    refine fo (rn 2 rfl ?_)
    refine spC h rfl (fun hb14 h => ?_) (fun hb14 h => ?_)
    ·refine rn 4 rfl ?_
     exact rt h rfl
    refine rn 6 rfl ?_
    refine spO 30 h rfl (fun hb15 h => ?_) (fun hb15 h => ?_)
    ·refine rn 13 rfl ?_
     exact rt h rfl
    refine rn 8 rfl ?_
    refine spC h rfl (fun hb16 h => ?_) (fun hb16 h => ?_)
    ·refine rn 4 rfl ?_
     exact rt h rfl
    refine rn 1 rfl ?_
    refine bs h (fun hb17 h => ?_) (fun hb17 h => ?_)
    ·obtain ⟨x18, hx19, h⟩ := bind_some h
     refine dr mixed (vs 2 rfl (vb hb17 rfl (vs 6 rfl (iD hx19 rfl rfl rfl (vs 5 rfl .nil))))) (by kernel_rfl) ?_
     refine spC h rfl (fun hb20 h => ?_) (fun hb20 h => ?_)
     ·refine rn 4 rfl ?_
      exact rt h rfl
     refine rn 1 rfl ?_
     exact jX () h (gr [0, 1, 2] rfl (hB rfl rfl rfl (hM rfl rfl (hB rfl rfl rfl .nil))) rfl)
    refine dr mixed (vs 2 rfl (vb hb17 rfl (vs 12 rfl .nil))) (by kernel_rfl) ?_
    refine rn 2 rfl ?_
    exact jX () h (gr [0, 1, 2] rfl (hB rfl rfl rfl (hM rfl rfl (hB rfl rfl rfl .nil))) rfl)
   intro _ h
   refine rn 6 rfl ?_
   refine aops_mapUpdate (es := m6.map encM9_4) ((mput m6 x8.Version true).map encM9_4) tMap78 tKey9 wants_none rfl rfl (.con rfl) ⟨_, rfl⟩ encM9_4_good rfl (encM9_4_puts m6 x8.Version true) ?_
   refine fo (rn 5 rfl ?_)
   refine cl h rfl rfl rfl (W50 _ _) rfl (fun y21 hx22 h => ?_)
   refine rn 7 rfl ?_
   refine spC h rfl (fun hb23 h => ?_) (fun hb23 h => ?_)
   ·refine rn 5 rfl ?_
    exact rt h rfl
   refine rn 6 rfl ?_
   exact jX ((w64 (n5 + 1)), (mput m6 x8.Version true)) (hk1 _ h) (gr [0, 1] rfl (hB rfl rfl rfl (hM rfl rfl .nil)) rfl)
  replace h := RG.f h hb7
  unfold M32_L1 at h
  refine rn 1 rfl ?_
  exact jX () h (g0 rfl rfl)
 intro _ h
 refine rn 4 rfl ?_
 exact rt h rfl
theorem W14 (F : Nat) (a1 : TStory) (r : Int) (h : M14 F a1 = some r) : PureG (gl mx) Tryd.prog 14 [(V.agg (encTStory a1))] (iV r) := by
 refine pin (fun r => (iV r)) r rfl Tryd.func14 rfl rfl rfl rfl rfl (fun w0 m0 hg => ?_)
 unfold M14 at h
 refine rn 11 rfl ?_
 refine cl h rfl rfl rfl (W30 _ _) rfl (fun y2 hx3 h => ?_)
 refine rn 3 rfl ?_
 refine spC h rfl (fun hb4 h => ?_) (fun hb4 h => ?_)
 ·refine rn 4 rfl ?_
  exact rt h rfl
 refine rn 4 rfl ?_
 refine cl h rfl rfl rfl (W31 _ _) rfl (fun y5 hx6 h => ?_)
 refine rn 3 rfl ?_
 refine spC h rfl (fun hb7 h => ?_) (fun hb7 h => ?_)
 ·refine rn 4 rfl ?_
  exact rt h rfl
 refine rn 4 rfl ?_
 refine ln rfl rfl ?_
 refine rn 2 rfl ?_
 refine spO 26 h rfl (fun hb8 h => ?_) (fun hb8 h => ?_)
 ·refine rn 12 rfl ?_
  exact rt h rfl
 refine rn 2 rfl ?_
 refine ln rfl rfl ?_
 refine rn 4 rfl ?_
 refine spC h rfl (fun hb9 h => ?_) (fun hb9 h => ?_)
 ·refine rn 4 rfl ?_
  exact rt h rfl
 refine rn 6 rfl ?_
 refine cl h rfl rfl rfl (W32 _ _) rfl (fun y10 hx11 h => ?_)
 refine rn 7 rfl ?_
 refine spC h rfl (fun hb12 h => ?_) (fun hb12 h => ?_)
 ·refine rn 5 rfl ?_
  exact rt h rfl
 refine rn 11 rfl ?_
 refine ln rfl rfl ?_
 refine rn 2 rfl ?_
 refine jK h (fun (p : (List ((List UInt8) × Bool))) => (⟨[(1, (V.ptr 0 4 0 0)), (4, (V.map 1))], [(0, (Ob.arr 25 4 [(encTStory a1)])), (1, (Ob.map (p.map encM9_4)))], 2⟩ : St)) (fun k13 p => k13 p = some r) (fun k13 h => ?_) ?_
 ·refine rn 1 rfl ?_
  refine wl (A := a1.Known) 28 rfl (fun hA43 => ?_)
  refine lC (fun (p : Int × (List ((List UInt8) × Bool))) => (⟨[(1, (V.ptr 0 4 0 0)), (4, (V.map 1)), (39, (V.lst 3 (a1.Known.map encTPublished))), (40, (iV ((a1.Known.length : Nat) : Int))), (41, (iV (p.1)))], [(0, (Ob.arr 25 4 [(encTStory a1)])), (1, (Ob.map ((p.2).map encM9_4)))], 2⟩ : St)) (fun n p => RG a1.Known (fun tl nn => M14_L1 F a1 k13 tl nn p.2 = some r) n p.1) (fun p h => RG.zero h) (a1.Known.length + 1) (0, ([] : List ((List UInt8) × Bool))) (RG.start h) (gr [0, 1] rfl (hB rfl rfl rfl (hM rfl rfl .nil)) rfl) (fun n p h => ?_)
  obtain ⟨n17, m18⟩ := p
  refine rn 5 rfl ?_
  refine spL rfl (fun hb19 => ?_) (fun hb19 => ?_)
  ·obtain ⟨x20, tl, hx21, h, hk1⟩ := RG.t hA43 h hb19
   unfold M14_L1 at h
   refine rn 6 rfl ?_
   refine ixh hx21 rfl rfl ?_
   refine rn 11 rfl ?_
   refine cl h rfl rfl rfl (W30 _ _) rfl (fun y22 hx23 h => ?_)
   refine rn 3 rfl ?_
   refine jK h (fun (p : Bool) => (⟨[(1, (V.ptr 0 4 0 0)), (4, (V.map 1)), (6, (V.ptr 2 3 0 0)), (39, (V.lst 3 (a1.Known.map encTPublished))), (40, (iV ((a1.Known.length : Nat) : Int))), (41, (iV n17)), (86, (bV p))], [(0, (Ob.arr 25 4 [(encTStory a1)])), (1, (Ob.map (m18.map encM9_4))), (2, (Ob.arr 51 3 [(encTPublished x20)]))], 3⟩ : St)) (fun k24 p => k24 p = some r) (fun k24 h => ?_) ?_
   ·refine spC h rfl (fun hb26 h => ?_) (fun hb26 h => ?_)
    ·refine rn 4 rfl ?_
     exact rt h rfl
    refine rn 1 rfl ?_
    refine bs h (fun hb27 h => ?_) (fun hb27 h => ?_)
    ·obtain ⟨x28, hx29, h⟩ := bind_some h
     refine dr mixed (vs 2 rfl (vb hb27 rfl (vs 6 rfl (iD hx29 rfl rfl rfl (vs 5 rfl .nil))))) (by kernel_rfl) ?_
     refine spC h rfl (fun hb30 h => ?_) (fun hb30 h => ?_)
     ·refine rn 4 rfl ?_
      exact rt h rfl
     refine rn 4 rfl ?_
     refine cl h rfl rfl rfl (W31 _ _) rfl (fun y31 hx32 h => ?_)
     refine rn 2 rfl ?_
     refine spO 71 h rfl (fun hb33 h => ?_) (fun hb33 h => ?_)
     ·refine rn 23 rfl ?_
      exact rt h rfl
     refine rn 4 rfl ?_
     refine spO 75 h rfl (fun hb34 h => ?_) (fun hb34 h => ?_)
     ·refine rn 6 rfl ?_
      refine spO 81 h rfl (fun hb35 h => ?_) (fun hb35 h => ?_)
      ·refine rn 13 rfl ?_
       exact rt h rfl
      refine rn 8 rfl ?_
      refine spC h rfl (fun hb36 h => ?_) (fun hb36 h => ?_)
      ·refine rn 4 rfl ?_
       exact rt h rfl
      refine rn 1 rfl ?_
      exact jX (decide (x20.Ended > 1000000)) h (gr [0, 1, 2] rfl (hB rfl rfl rfl (hM rfl rfl (hB rfl rfl rfl .nil))) rfl)
     refine rn 16 rfl ?_
     exact jX false h (gr [0, 1, 2] rfl (hB rfl rfl rfl (hM rfl rfl (hB rfl rfl rfl .nil))) rfl)
    refine dr mixed (vs 2 rfl (vb hb27 rfl (vs 12 rfl .nil))) (by kernel_rfl) ?_
    refine rn 5 rfl ?_
    refine cl h rfl rfl rfl (W31 _ _) rfl (fun y37 hx38 h => ?_)
    refine rn 2 rfl ?_
    refine spO 71 h rfl (fun hb39 h => ?_) (fun hb39 h => ?_)
    ·refine rn 23 rfl ?_
     exact rt h rfl
    refine rn 4 rfl ?_
    refine spO 75 h rfl (fun hb40 h => ?_) (fun hb40 h => ?_)
    ·refine rn 6 rfl ?_
     refine spO 81 h rfl (fun hb41 h => ?_) (fun hb41 h => ?_)
     ·refine rn 13 rfl ?_
      exact rt h rfl
     refine rn 8 rfl ?_
     refine spC h rfl (fun hb42 h => ?_) (fun hb42 h => ?_)
     ·refine rn 4 rfl ?_
      exact rt h rfl
     refine rn 1 rfl ?_
     exact jX (decide (x20.Ended > 1000000)) h (gr [0, 1, 2] rfl (hB rfl rfl rfl (hM rfl rfl (hB rfl rfl rfl .nil))) rfl)
    refine rn 16 rfl ?_
    exact jX false h (gr [0, 1, 2] rfl (hB rfl rfl rfl (hM rfl rfl (hB rfl rfl rfl .nil))) rfl)
   intro b25 h
   refine rn 5 rfl ?_
   refine aops_mapUpdate (es := m18.map encM9_4) ((mput m18 x20.Advisory true).map encM9_4) tMap78 tKey9 wants_none rfl rfl (.con rfl) ⟨_, rfl⟩ encM9_4_good rfl (encM9_4_puts m18 x20.Advisory true) ?_
   refine fo (rn 6 rfl ?_)
   exact jX ((w64 (n17 + 1)), (mput m18 x20.Advisory true)) (hk1 _ h) (gr [0, 1] rfl (hB rfl rfl rfl (hM rfl rfl .nil)) rfl)
  replace h := RG.f h hb19
  unfold M14_L1 at h
  refine rn 1 rfl ?_
  exact jX m18 h (gr [0, 1] rfl (hB rfl rfl rfl (hM rfl rfl .nil)) rfl)
 intro m14 h
 refine rn 5 rfl ?_
 refine ln rfl rfl ?_
 refine rn 2 rfl ?_
 refine jK h (fun _ : Unit => (⟨[], [], 0⟩ : St)) (fun k44 (_ : Unit) => k44 = some r) (fun k44 h => ?_) ?_
 ·refine rn 1 rfl ?_
  refine wl (A := a1.Releases) 93 rfl (fun hA59 => ?_)
  refine lC (fun (p : Int) => (⟨[(4, (V.map 0)), (93, (V.lst 3 (a1.Releases.map encTRelease))), (94, (iV ((a1.Releases.length : Nat) : Int))), (95, (iV p))], [(0, (Ob.map (m14.map encM9_4)))], 1⟩ : St)) (fun n p => RG a1.Releases (fun tl nn => M14_L2 F m14 k44 tl = some r) n p) (fun p h => RG.zero h) (a1.Releases.length + 1) 0 (RG.start h) (gr [1] rfl (hM rfl rfl .nil) rfl) (fun n n46 h => ?_)
  refine rn 5 rfl ?_
  refine spL rfl (fun hb47 => ?_) (fun hb47 => ?_)
  ·obtain ⟨x49, tl, hx50, h, hk2⟩ := RG.t hA59 h hb47
   unfold M14_L2 at h
   refine rn 2 rfl ?_
   refine jK h (fun _ : Unit => (⟨[(4, (V.map 0)), (93, (V.lst 3 (a1.Releases.map encTRelease))), (94, (iV ((a1.Releases.length : Nat) : Int))), (95, (iV n46))], [(0, (Ob.map (m14.map encM9_4)))], 1⟩ : St)) (fun k48 (_ : Unit) => k48 = some r) (fun k48 h => ?_) ?_
   ·refine rn 3 rfl ?_
    refine ixh hx50 rfl rfl ?_
    refine rn 8 rfl ?_
    refine ln rfl rfl ?_
    refine rn 2 rfl ?_
    refine jK h (fun _ : Unit => (⟨[(4, (V.map 0)), (93, (V.lst 3 (a1.Releases.map encTRelease))), (94, (iV ((a1.Releases.length : Nat) : Int))), (95, (iV n46))], [(0, (Ob.map (m14.map encM9_4)))], 1⟩ : St)) (fun k51 (_ : Unit) => k51 = some r) (fun k51 h => ?_) ?_
    ·refine rn 1 rfl ?_
     refine wl (A := x49.Exposures) 100 rfl (fun hA58 => ?_)
     refine lC (fun (p : Int) => (⟨[(4, (V.map 0)), (93, (V.lst 3 (a1.Releases.map encTRelease))), (94, (iV ((a1.Releases.length : Nat) : Int))), (95, (iV n46)), (100, (V.lst 3 (x49.Exposures.map encTExposure))), (101, (iV ((x49.Exposures.length : Nat) : Int))), (102, (iV p))], [(0, (Ob.map (m14.map encM9_4)))], 1⟩ : St)) (fun n p => RG x49.Exposures (fun tl nn => M14_L3 F m14 k51 tl = some r) n p) (fun p h => RG.zero h) (x49.Exposures.length + 1) 0 (RG.start h) (gr [0] rfl (hM rfl rfl .nil) rfl) (fun n n53 h => ?_)
     refine rn 5 rfl ?_
     refine spL rfl (fun hb54 => ?_) (fun hb54 => ?_)
     ·obtain ⟨x55, tl, hx56, h, hk3⟩ := RG.t hA58 h hb54
      unfold M14_L3 at h
      refine rn 5 rfl ?_
      refine ixh hx56 rfl rfl ?_
      refine rn 9 rfl ?_
      refine aops_lookup _ (bV false) (bV ((mget m14 x55.Advisory).getD false)) tMap78 tKey9 tZo4 (irel_con _) wants_none rfl (.own rfl) (.con rfl) ⟨_, rfl⟩ encM9_4_good (encM9_4_look m14 x55.Advisory) (getD_map (encM9_4_val) (mget m14 x55.Advisory) false) rfl ?_
      refine fo (rn 2 rfl ?_)
      refine spC h rfl (fun hb57 h => ?_) (fun hb57 h => ?_)
      ·refine rn 4 rfl ?_
       exact rt h rfl
      refine rn 6 rfl ?_
      exact jX (w64 (n53 + 1)) (hk3 _ h) (gr [0] rfl (hM rfl rfl .nil) rfl)
     replace h := RG.f h hb54
     unfold M14_L3 at h
     refine rn 1 rfl ?_
     exact jX () h (gr [0] rfl (hM rfl rfl .nil) rfl)
    intro _ h
    refine rn 1 rfl ?_
    exact jX () h (gr [0] rfl (hM rfl rfl .nil) rfl)
   intro _ h
   refine rn 4 rfl ?_
   exact jX (w64 (n46 + 1)) (hk2 _ h) (gr [0] rfl (hM rfl rfl .nil) rfl)
  replace h := RG.f h hb47
  unfold M14_L2 at h
  refine rn 1 rfl ?_
  exact jX () h (g0 rfl rfl)
 intro _ h
 refine rn 4 rfl ?_
 exact rt h rfl
theorem W22 (F : Nat) (a1 : Int) (r : (List UInt8)) (h : M22 F a1 = some r) : PureG (gl mx) Tryd.prog 22 [(iV a1)] (sV r) := by
 unfold M22 at h
 obtain ⟨hc, h⟩ := chk_some h
 replace h := Option.some.inj h
 subst h
 exact pure_itoa (g := 1) rfl (by kernel_rfl) hc (fun w ht => Go.Proofs.Tryd.strconv_Itoa _ hc.1 hc.2 w ht)
theorem W21 (F : Nat) (a1 : (List UInt8)) (a2 : List UInt8) (r : Unit) (h : M21 F a1 a2 = some r) : MutG (gl mx) Tryd.prog 21 [(V.ptr 0 2 0 0), (sV a1)] 1 [(0, (Ob.bld 59 5 a2))] (resV [(iV (a1.length : Int)), (V.con .nilIface)]) 1 [(0, (Ob.bld 59 5 (a2 ++ a1)))] := by
 unfold M21 at h
 obtain ⟨hc, h⟩ := chk_some h
 exact (mut_bldW (ρ := Go.Proofs.Tryd.lays156_ren) { Go.Proofs.Tryd.lays156 with } Go.Proofs.Tryd.Builder_Extra_156 rfl hc).heap hget_one
theorem W23 (F : Nat) (a1 : List UInt8) (r : Unit) (h : M23 F a1 = some r) : MutG (gl mx) Tryd.prog 23 [(V.ptr 0 2 0 0)] 1 [(0, (Ob.bld 59 5 a1))] (resV [(iV ((a1.length : Nat) : Int))]) 1 [(0, (Ob.bld 59 5 a1))] := by
 exact (mut_bldL (ρ := Go.Proofs.Tryd.lays170_ren) Go.Proofs.Tryd.lays170 (by decide) rfl).heap hget_one
theorem W24 (F : Nat) (a1 : List UInt8) (r : Unit) (h : M24 F a1 = some r) : MutG (gl mx) Tryd.prog 24 [(V.ptr 0 2 0 0)] 1 [(0, (Ob.bld 59 5 a1))] (resV [(sV a1)]) 1 [(0, Ob.dead)] := by
 exact (mut_bldS (ρ := Go.Proofs.Tryd.lays169_ren) Go.Proofs.Tryd.lays169 Go.Proofs.Tryd.Builder_Extra_169 rfl).heap hget_one
theorem W9 (F : Nat) (a1 : TStory) (r : ((List UInt8) × Int)) (h : M9 F a1 = some r) : PureG (gl mx) Tryd.prog 9 [(V.agg (encTStory a1))] (V.tup [(sV (r.1)), (iV (r.2))]) := by
 refine pin (fun r => (V.tup [(sV (r.1)), (iV (r.2))])) r rfl Tryd.func9 rfl rfl rfl rfl rfl (fun w0 m0 hg => ?_)
 unfold M9 at h
 refine rn 10 rfl ?_
 refine cl h rfl rfl rfl (W14 _ _) rfl (fun y2 hx3 h => ?_)
 refine rn 7 rfl ?_
 refine spC h rfl (fun hb4 h => ?_) (fun hb4 h => ?_)
 ·refine rn 6 rfl ?_
  exact rt h rfl
 refine rn 3 rfl ?_
 refine aops_allocBld 5 rfl tZ59 wants_none rfl ?_
 refine fo (rn 2 rfl ?_)
 refine ck h (fun hc5 h => ?_)
 refine ck h (fun hc6 h => ?_)
 obtain ⟨y7, hx8, h⟩ := bind_some h
 refine ck h (fun hc9 h => ?_)
 refine ck h (fun hc10 h => ?_)
 obtain ⟨y11, hx12, h⟩ := bind_some h
 refine dr mixed (vs 2 rfl (xD (OD.mk [(18, (sV a1.Product))] [] [(19, (sV (([115, 116, 111, 114, 121, 32] : List UInt8) ++ a1.Product)))] []) ⟨⟨rfl, trivial⟩, trivial⟩ (by exact fun S hn h hh => aops_binT (str (([115, 116, 111, 114, 121, 32] : List UInt8) ++ a1.Product)) wants_none rfl h.1 (if_pos hc5) rfl (aops_nil ⟨rfl, rfl⟩)) rfl (xD (OD.mk [(19, (sV (([115, 116, 111, 114, 121, 32] : List UInt8) ++ a1.Product)))] [] [(20, (sV ((([115, 116, 111, 114, 121, 32] : List UInt8) ++ a1.Product) ++ ([32] : List UInt8))))] []) ⟨⟨rfl, trivial⟩, trivial⟩ (by exact fun S hn h hh => aops_binT (str ((([115, 116, 111, 114, 121, 32] : List UInt8) ++ a1.Product) ++ ([32] : List UInt8))) wants_none h.1 rfl (if_pos hc6) rfl (aops_nil ⟨rfl, rfl⟩)) rfl (vs 2 rfl (cD rfl rfl rfl rfl (W22 _ _ _ hx8) rfl (xD (OD.mk [(20, (sV ((([115, 116, 111, 114, 121, 32] : List UInt8) ++ a1.Product) ++ ([32] : List UInt8)))), (23, (sV y7))] [] [(24, (sV (((([115, 116, 111, 114, 121, 32] : List UInt8) ++ a1.Product) ++ ([32] : List UInt8)) ++ y7)))] []) ⟨⟨rfl, rfl, trivial⟩, trivial⟩ (by exact fun S hn h hh => aops_binT (str (((([115, 116, 111, 114, 121, 32] : List UInt8) ++ a1.Product) ++ ([32] : List UInt8)) ++ y7)) wants_none h.1 h.2.1 (if_pos hc9) rfl (aops_nil ⟨rfl, rfl⟩)) rfl (xD (OD.mk [(24, (sV (((([115, 116, 111, 114, 121, 32] : List UInt8) ++ a1.Product) ++ ([32] : List UInt8)) ++ y7)))] [] [(25, (sV ((((([115, 116, 111, 114, 121, 32] : List UInt8) ++ a1.Product) ++ ([32] : List UInt8)) ++ y7) ++ ([10] : List UInt8))))] []) ⟨⟨rfl, trivial⟩, trivial⟩ (by exact fun S hn h hh => aops_binT (str ((((([115, 116, 111, 114, 121, 32] : List UInt8) ++ a1.Product) ++ ([32] : List UInt8)) ++ y7) ++ ([10] : List UInt8))) wants_none h.1 rfl (if_pos hc10) rfl (aops_nil ⟨rfl, rfl⟩)) rfl (xD (OD.mk [(5, (V.ptr 1 2 0 0)), (25, (sV ((((([115, 116, 111, 114, 121, 32] : List UInt8) ++ a1.Product) ++ ([32] : List UInt8)) ++ y7) ++ ([10] : List UInt8))))] [(1, (Ob.bld 59 5 ([] : List UInt8)))] [(26, (V.tup [(iV (((((([115, 116, 111, 114, 121, 32] : List UInt8) ++ a1.Product) ++ ([32] : List UInt8)) ++ y7) ++ ([10] : List UInt8)).length : Int)), (V.con .nilIface)]))] [(1, (Ob.bld 59 5 (([] : List UInt8) ++ ((((([115, 116, 111, 114, 121, 32] : List UInt8) ++ a1.Product) ++ ([32] : List UInt8)) ++ y7) ++ ([10] : List UInt8)))))]) ⟨⟨rfl, rfl, trivial⟩, ⟨rfl, trivial⟩⟩ (by exact fun S hn h hh => aops_mcall_atH [] hn (fun _ hx => nomatch hx) (V.tup [(iV (((((([115, 116, 111, 114, 121, 32] : List UInt8) ++ a1.Product) ++ ([32] : List UInt8)) ++ y7) ++ ([10] : List UInt8)).length : Int)), (V.con .nilIface)]) [(V.ptr 1 2 0 0), (sV ((((([115, 116, 111, 114, 121, 32] : List UInt8) ++ a1.Product) ++ ([32] : List UInt8)) ++ y7) ++ ([10] : List UInt8)))] (fun i => ([1] : List Nat).getD i 0) (fun i => ([1] : List Nat).getD i 0) [(1, (Ob.bld 59 5 (([] : List UInt8) ++ ((((([115, 116, 111, 114, 121, 32] : List UInt8) ++ a1.Product) ++ ([32] : List UInt8)) ++ y7) ++ ([10] : List UInt8)))))] fOk21 wants_none rfl (evm_cons h.1 (evm_cons h.2.1 evm_nil)) (.cons (Sub.ptr rfl rfl) (.cons (Sub.imm (Imm.con _)) .nil)) (HpSub.consE (id := 0) rfl hh.1 ObSub.bld .nil) (W21 F ((((([115, 116, 111, 114, 121, 32] : List UInt8) ++ a1.Product) ++ ([32] : List UInt8)) ++ y7) ++ ([10] : List UInt8)) ([] : List UInt8) y11 hx12) rfl rfl rfl rfl (Sub.immT (Imm.tup (.cons (Imm.con _) (.cons (Imm.con _) .nil)))) (.cons rfl ObSub.bld .nil) (aops_nil ⟨rfl, rfl⟩)) rfl .nil)))))))) (by kernel_rfl) ?_
 refine rn 5 rfl ?_
 refine ln rfl rfl ?_
 refine rn 2 rfl ?_
 refine jK h (fun (p : (List UInt8)) => (⟨[(1, (V.ptr 0 4 0 0)), (5, (V.ptr 1 2 0 0))], [(0, (Ob.arr 25 4 [(encTStory a1)])), (1, (Ob.bld 59 5 p))], 2⟩ : St)) (fun k13 p => k13 p = some r) (fun k13 h => ?_) ?_
 ·refine rn 1 rfl ?_
  refine wl (A := a1.Releases) 28 rfl (fun hA52 => ?_)
  refine lC (fun (p : Int × (List UInt8)) => (⟨[(1, (V.ptr 0 4 0 0)), (5, (V.ptr 1 2 0 0)), (28, (V.lst 3 (a1.Releases.map encTRelease))), (29, (iV ((a1.Releases.length : Nat) : Int))), (30, (iV (p.1)))], [(0, (Ob.arr 25 4 [(encTStory a1)])), (1, (Ob.bld 59 5 (p.2)))], 2⟩ : St)) (fun n p => RG a1.Releases (fun tl nn => M9_L1 F k13 tl p.2 = some r) n p.1) (fun p h => RG.zero h) (a1.Releases.length + 1) (0, (([] : List UInt8) ++ ((((([115, 116, 111, 114, 121, 32] : List UInt8) ++ a1.Product) ++ ([32] : List UInt8)) ++ y7) ++ ([10] : List UInt8)))) (RG.start h) (gr [0, 1] rfl (hB rfl rfl rfl (hU rfl rfl .nil)) rfl) (fun n p h => ?_)
  obtain ⟨n17, s18⟩ := p
  refine rn 5 rfl ?_
  refine spL rfl (fun hb19 => ?_) (fun hb19 => ?_)
  ·obtain ⟨x22, tl, hx23, h, hk1⟩ := RG.t hA52 h hb19
   unfold M9_L1 at h
   refine rn 2 rfl ?_
   refine jK h (fun (p : (List UInt8)) => (⟨[(1, (V.ptr 0 4 0 0)), (5, (V.ptr 1 2 0 0)), (28, (V.lst 3 (a1.Releases.map encTRelease))), (29, (iV ((a1.Releases.length : Nat) : Int))), (30, (iV n17))], [(0, (Ob.arr 25 4 [(encTStory a1)])), (1, (Ob.bld 59 5 p))], 2⟩ : St)) (fun k20 p => k20 p = some r) (fun k20 h => ?_) ?_
   ·refine rn 3 rfl ?_
    refine ixh hx23 rfl rfl ?_
    refine rn 5 rfl ?_
    refine ck h (fun hc24 h => ?_)
    refine ck h (fun hc25 h => ?_)
    obtain ⟨y26, hx27, h⟩ := bind_some h
    refine ck h (fun hc28 h => ?_)
    refine ck h (fun hc29 h => ?_)
    obtain ⟨y30, hx31, h⟩ := bind_some h
    refine dr mixed (vs 2 rfl (xD (OD.mk [(35, (sV x22.Version))] [] [(36, (sV (([114, 101, 108, 101, 97, 115, 101, 32] : List UInt8) ++ x22.Version)))] []) ⟨⟨rfl, trivial⟩, trivial⟩ (by exact fun S hn h hh => aops_binT (str (([114, 101, 108, 101, 97, 115, 101, 32] : List UInt8) ++ x22.Version)) wants_none rfl h.1 (if_pos hc24) rfl (aops_nil ⟨rfl, rfl⟩)) rfl (xD (OD.mk [(36, (sV (([114, 101, 108, 101, 97, 115, 101, 32] : List UInt8) ++ x22.Version)))] [] [(37, (sV ((([114, 101, 108, 101, 97, 115, 101, 32] : List UInt8) ++ x22.Version) ++ ([32] : List UInt8))))] []) ⟨⟨rfl, trivial⟩, trivial⟩ (by exact fun S hn h hh => aops_binT (str ((([114, 101, 108, 101, 97, 115, 101, 32] : List UInt8) ++ x22.Version) ++ ([32] : List UInt8))) wants_none h.1 rfl (if_pos hc25) rfl (aops_nil ⟨rfl, rfl⟩)) rfl (vs 2 rfl (cD rfl rfl rfl rfl (W22 _ _ _ hx27) rfl (xD (OD.mk [(37, (sV ((([114, 101, 108, 101, 97, 115, 101, 32] : List UInt8) ++ x22.Version) ++ ([32] : List UInt8)))), (40, (sV y26))] [] [(41, (sV (((([114, 101, 108, 101, 97, 115, 101, 32] : List UInt8) ++ x22.Version) ++ ([32] : List UInt8)) ++ y26)))] []) ⟨⟨rfl, rfl, trivial⟩, trivial⟩ (by exact fun S hn h hh => aops_binT (str (((([114, 101, 108, 101, 97, 115, 101, 32] : List UInt8) ++ x22.Version) ++ ([32] : List UInt8)) ++ y26)) wants_none h.1 h.2.1 (if_pos hc28) rfl (aops_nil ⟨rfl, rfl⟩)) rfl (xD (OD.mk [(41, (sV (((([114, 101, 108, 101, 97, 115, 101, 32] : List UInt8) ++ x22.Version) ++ ([32] : List UInt8)) ++ y26)))] [] [(42, (sV ((((([114, 101, 108, 101, 97, 115, 101, 32] : List UInt8) ++ x22.Version) ++ ([32] : List UInt8)) ++ y26) ++ ([10] : List UInt8))))] []) ⟨⟨rfl, trivial⟩, trivial⟩ (by exact fun S hn h hh => aops_binT (str ((((([114, 101, 108, 101, 97, 115, 101, 32] : List UInt8) ++ x22.Version) ++ ([32] : List UInt8)) ++ y26) ++ ([10] : List UInt8))) wants_none h.1 rfl (if_pos hc29) rfl (aops_nil ⟨rfl, rfl⟩)) rfl (xD (OD.mk [(5, (V.ptr 1 2 0 0)), (42, (sV ((((([114, 101, 108, 101, 97, 115, 101, 32] : List UInt8) ++ x22.Version) ++ ([32] : List UInt8)) ++ y26) ++ ([10] : List UInt8))))] [(1, (Ob.bld 59 5 s18))] [(43, (V.tup [(iV (((((([114, 101, 108, 101, 97, 115, 101, 32] : List UInt8) ++ x22.Version) ++ ([32] : List UInt8)) ++ y26) ++ ([10] : List UInt8)).length : Int)), (V.con .nilIface)]))] [(1, (Ob.bld 59 5 (s18 ++ ((((([114, 101, 108, 101, 97, 115, 101, 32] : List UInt8) ++ x22.Version) ++ ([32] : List UInt8)) ++ y26) ++ ([10] : List UInt8)))))]) ⟨⟨rfl, rfl, trivial⟩, ⟨rfl, trivial⟩⟩ (by exact fun S hn h hh => aops_mcall_atH [] hn (fun _ hx => nomatch hx) (V.tup [(iV (((((([114, 101, 108, 101, 97, 115, 101, 32] : List UInt8) ++ x22.Version) ++ ([32] : List UInt8)) ++ y26) ++ ([10] : List UInt8)).length : Int)), (V.con .nilIface)]) [(V.ptr 1 2 0 0), (sV ((((([114, 101, 108, 101, 97, 115, 101, 32] : List UInt8) ++ x22.Version) ++ ([32] : List UInt8)) ++ y26) ++ ([10] : List UInt8)))] (fun i => ([1] : List Nat).getD i 0) (fun i => ([1] : List Nat).getD i 0) [(1, (Ob.bld 59 5 (s18 ++ ((((([114, 101, 108, 101, 97, 115, 101, 32] : List UInt8) ++ x22.Version) ++ ([32] : List UInt8)) ++ y26) ++ ([10] : List UInt8)))))] fOk21 wants_none rfl (evm_cons h.1 (evm_cons h.2.1 evm_nil)) (.cons (Sub.ptr rfl rfl) (.cons (Sub.imm (Imm.con _)) .nil)) (HpSub.consE (id := 0) rfl hh.1 ObSub.bld .nil) (W21 F ((((([114, 101, 108, 101, 97, 115, 101, 32] : List UInt8) ++ x22.Version) ++ ([32] : List UInt8)) ++ y26) ++ ([10] : List UInt8)) s18 y30 hx31) rfl rfl rfl rfl (Sub.immT (Imm.tup (.cons (Imm.con _) (.cons (Imm.con _) .nil)))) (.cons rfl ObSub.bld .nil) (aops_nil ⟨rfl, rfl⟩)) rfl .nil)))))))) (by kernel_rfl) ?_
    refine rn 4 rfl ?_
    refine ln rfl rfl ?_
    refine rn 2 rfl ?_
    refine jK h (fun (p : (List UInt8)) => (⟨[(1, (V.ptr 0 4 0 0)), (5, (V.ptr 1 2 0 0)), (28, (V.lst 3 (a1.Releases.map encTRelease))), (29, (iV ((a1.Releases.length : Nat) : Int))), (30, (iV n17))], [(0, (Ob.arr 25 4 [(encTStory a1)])), (1, (Ob.bld 59 5 p))], 2⟩ : St)) (fun k32 p => k32 p = some r) (fun k32 h => ?_) ?_
    ·refine rn 1 rfl ?_
     refine wl (A := x22.Exposures) 45 rfl (fun hA51 => ?_)
     refine lC (fun (p : Int × (List UInt8)) => (⟨[(1, (V.ptr 0 4 0 0)), (5, (V.ptr 1 2 0 0)), (28, (V.lst 3 (a1.Releases.map encTRelease))), (29, (iV ((a1.Releases.length : Nat) : Int))), (30, (iV n17)), (45, (V.lst 3 (x22.Exposures.map encTExposure))), (46, (iV ((x22.Exposures.length : Nat) : Int))), (47, (iV (p.1)))], [(0, (Ob.arr 25 4 [(encTStory a1)])), (1, (Ob.bld 59 5 (p.2)))], 2⟩ : St)) (fun n p => RG x22.Exposures (fun tl nn => M9_L2 F k32 tl p.2 = some r) n p.1) (fun p h => RG.zero h) (x22.Exposures.length + 1) (0, (s18 ++ ((((([114, 101, 108, 101, 97, 115, 101, 32] : List UInt8) ++ x22.Version) ++ ([32] : List UInt8)) ++ y26) ++ ([10] : List UInt8)))) (RG.start h) (gr [0, 1] rfl (hB rfl rfl rfl (hU rfl rfl .nil)) rfl) (fun n p h => ?_)
     obtain ⟨n36, s37⟩ := p
     refine rn 5 rfl ?_
     refine spL rfl (fun hb38 => ?_) (fun hb38 => ?_)
     ·obtain ⟨x39, tl, hx40, h, hk2⟩ := RG.t hA51 h hb38
      unfold M9_L2 at h
      refine rn 5 rfl ?_
      refine ixh hx40 rfl rfl ?_
      refine rn 4 rfl ?_
      refine ck h (fun hc41 h => ?_)
      refine ck h (fun hc42 h => ?_)
      refine ck h (fun hc43 h => ?_)
      refine ck h (fun hc44 h => ?_)
      obtain ⟨y45, hx46, h⟩ := bind_some h
      refine ck h (fun hc47 h => ?_)
      refine ck h (fun hc48 h => ?_)
      obtain ⟨y49, hx50, h⟩ := bind_some h
      refine dr mixed (vs 2 rfl (xD (OD.mk [(52, (sV x39.Advisory))] [] [(53, (sV (([104, 97, 115, 32] : List UInt8) ++ x39.Advisory)))] []) ⟨⟨rfl, trivial⟩, trivial⟩ (by exact fun S hn h hh => aops_binT (str (([104, 97, 115, 32] : List UInt8) ++ x39.Advisory)) wants_none rfl h.1 (if_pos hc41) rfl (aops_nil ⟨rfl, rfl⟩)) rfl (xD (OD.mk [(53, (sV (([104, 97, 115, 32] : List UInt8) ++ x39.Advisory)))] [] [(54, (sV ((([104, 97, 115, 32] : List UInt8) ++ x39.Advisory) ++ ([32] : List UInt8))))] []) ⟨⟨rfl, trivial⟩, trivial⟩ (by exact fun S hn h hh => aops_binT (str ((([104, 97, 115, 32] : List UInt8) ++ x39.Advisory) ++ ([32] : List UInt8))) wants_none h.1 rfl (if_pos hc42) rfl (aops_nil ⟨rfl, rfl⟩)) rfl (vs 2 rfl (xD (OD.mk [(54, (sV ((([104, 97, 115, 32] : List UInt8) ++ x39.Advisory) ++ ([32] : List UInt8)))), (56, (sV x39.Component))] [] [(57, (sV (((([104, 97, 115, 32] : List UInt8) ++ x39.Advisory) ++ ([32] : List UInt8)) ++ x39.Component)))] []) ⟨⟨rfl, rfl, trivial⟩, trivial⟩ (by exact fun S hn h hh => aops_binT (str (((([104, 97, 115, 32] : List UInt8) ++ x39.Advisory) ++ ([32] : List UInt8)) ++ x39.Component)) wants_none h.1 h.2.1 (if_pos hc43) rfl (aops_nil ⟨rfl, rfl⟩)) rfl (xD (OD.mk [(57, (sV (((([104, 97, 115, 32] : List UInt8) ++ x39.Advisory) ++ ([32] : List UInt8)) ++ x39.Component)))] [] [(58, (sV ((((([104, 97, 115, 32] : List UInt8) ++ x39.Advisory) ++ ([32] : List UInt8)) ++ x39.Component) ++ ([32] : List UInt8))))] []) ⟨⟨rfl, trivial⟩, trivial⟩ (by exact fun S hn h hh => aops_binT (str ((((([104, 97, 115, 32] : List UInt8) ++ x39.Advisory) ++ ([32] : List UInt8)) ++ x39.Component) ++ ([32] : List UInt8))) wants_none h.1 rfl (if_pos hc44) rfl (aops_nil ⟨rfl, rfl⟩)) rfl (vs 2 rfl (cD rfl rfl rfl rfl (W22 _ _ _ hx46) rfl (xD (OD.mk [(58, (sV ((((([104, 97, 115, 32] : List UInt8) ++ x39.Advisory) ++ ([32] : List UInt8)) ++ x39.Component) ++ ([32] : List UInt8)))), (61, (sV y45))] [] [(62, (sV (((((([104, 97, 115, 32] : List UInt8) ++ x39.Advisory) ++ ([32] : List UInt8)) ++ x39.Component) ++ ([32] : List UInt8)) ++ y45)))] []) ⟨⟨rfl, rfl, trivial⟩, trivial⟩ (by exact fun S hn h hh => aops_binT (str (((((([104, 97, 115, 32] : List UInt8) ++ x39.Advisory) ++ ([32] : List UInt8)) ++ x39.Component) ++ ([32] : List UInt8)) ++ y45)) wants_none h.1 h.2.1 (if_pos hc47) rfl (aops_nil ⟨rfl, rfl⟩)) rfl (xD (OD.mk [(62, (sV (((((([104, 97, 115, 32] : List UInt8) ++ x39.Advisory) ++ ([32] : List UInt8)) ++ x39.Component) ++ ([32] : List UInt8)) ++ y45)))] [] [(63, (sV ((((((([104, 97, 115, 32] : List UInt8) ++ x39.Advisory) ++ ([32] : List UInt8)) ++ x39.Component) ++ ([32] : List UInt8)) ++ y45) ++ ([10] : List UInt8))))] []) ⟨⟨rfl, trivial⟩, trivial⟩ (by exact fun S hn h hh => aops_binT (str ((((((([104, 97, 115, 32] : List UInt8) ++ x39.Advisory) ++ ([32] : List UInt8)) ++ x39.Component) ++ ([32] : List UInt8)) ++ y45) ++ ([10] : List UInt8))) wants_none h.1 rfl (if_pos hc48) rfl (aops_nil ⟨rfl, rfl⟩)) rfl (xD (OD.mk [(5, (V.ptr 1 2 0 0)), (63, (sV ((((((([104, 97, 115, 32] : List UInt8) ++ x39.Advisory) ++ ([32] : List UInt8)) ++ x39.Component) ++ ([32] : List UInt8)) ++ y45) ++ ([10] : List UInt8))))] [(1, (Ob.bld 59 5 s37))] [(64, (V.tup [(iV (((((((([104, 97, 115, 32] : List UInt8) ++ x39.Advisory) ++ ([32] : List UInt8)) ++ x39.Component) ++ ([32] : List UInt8)) ++ y45) ++ ([10] : List UInt8)).length : Int)), (V.con .nilIface)]))] [(1, (Ob.bld 59 5 (s37 ++ ((((((([104, 97, 115, 32] : List UInt8) ++ x39.Advisory) ++ ([32] : List UInt8)) ++ x39.Component) ++ ([32] : List UInt8)) ++ y45) ++ ([10] : List UInt8)))))]) ⟨⟨rfl, rfl, trivial⟩, ⟨rfl, trivial⟩⟩ (by exact fun S hn h hh => aops_mcall_atH [] hn (fun _ hx => nomatch hx) (V.tup [(iV (((((((([104, 97, 115, 32] : List UInt8) ++ x39.Advisory) ++ ([32] : List UInt8)) ++ x39.Component) ++ ([32] : List UInt8)) ++ y45) ++ ([10] : List UInt8)).length : Int)), (V.con .nilIface)]) [(V.ptr 1 2 0 0), (sV ((((((([104, 97, 115, 32] : List UInt8) ++ x39.Advisory) ++ ([32] : List UInt8)) ++ x39.Component) ++ ([32] : List UInt8)) ++ y45) ++ ([10] : List UInt8)))] (fun i => ([1] : List Nat).getD i 0) (fun i => ([1] : List Nat).getD i 0) [(1, (Ob.bld 59 5 (s37 ++ ((((((([104, 97, 115, 32] : List UInt8) ++ x39.Advisory) ++ ([32] : List UInt8)) ++ x39.Component) ++ ([32] : List UInt8)) ++ y45) ++ ([10] : List UInt8)))))] fOk21 wants_none rfl (evm_cons h.1 (evm_cons h.2.1 evm_nil)) (.cons (Sub.ptr rfl rfl) (.cons (Sub.imm (Imm.con _)) .nil)) (HpSub.consE (id := 0) rfl hh.1 ObSub.bld .nil) (W21 F ((((((([104, 97, 115, 32] : List UInt8) ++ x39.Advisory) ++ ([32] : List UInt8)) ++ x39.Component) ++ ([32] : List UInt8)) ++ y45) ++ ([10] : List UInt8)) s37 y49 hx50) rfl rfl rfl rfl (Sub.immT (Imm.tup (.cons (Imm.con _) (.cons (Imm.con _) .nil)))) (.cons rfl ObSub.bld .nil) (aops_nil ⟨rfl, rfl⟩)) rfl .nil))))))))))) (by kernel_rfl) ?_
      refine rn 5 rfl ?_
      exact jX ((w64 (n36 + 1)), (s37 ++ ((((((([104, 97, 115, 32] : List UInt8) ++ x39.Advisory) ++ ([32] : List UInt8)) ++ x39.Component) ++ ([32] : List UInt8)) ++ y45) ++ ([10] : List UInt8)))) (hk2 _ h) (gr [0, 1] rfl (hB rfl rfl rfl (hU rfl rfl .nil)) rfl)
     replace h := RG.f h hb38
     unfold M9_L2 at h
     refine rn 1 rfl ?_
     exact jX s37 h (gr [0, 1] rfl (hB rfl rfl rfl (hU rfl rfl .nil)) rfl)
    intro s33 h
    refine rn 1 rfl ?_
    exact jX s33 h (gr [0, 1] rfl (hB rfl rfl rfl (hU rfl rfl .nil)) rfl)
   intro s21 h
   refine rn 4 rfl ?_
   exact jX ((w64 (n17 + 1)), s21) (hk1 _ h) (gr [0, 1] rfl (hB rfl rfl rfl (hU rfl rfl .nil)) rfl)
  replace h := RG.f h hb19
  unfold M9_L1 at h
  refine rn 1 rfl ?_
  exact jX s18 h (gr [0, 1] rfl (hB rfl rfl rfl (hU rfl rfl .nil)) rfl)
 intro s14 h
 refine rn 5 rfl ?_
 refine ln rfl rfl ?_
 refine rn 2 rfl ?_
 refine jK h (fun (p : (List UInt8)) => (⟨[(5, (V.ptr 0 2 0 0))], [(0, (Ob.bld 59 5 p))], 1⟩ : St)) (fun k53 p => k53 p = some r) (fun k53 h => ?_) ?_
 ·refine rn 1 rfl ?_
  refine wl (A := a1.Known) 68 rfl (fun hA79 => ?_)
  refine lC (fun (p : Int × (List UInt8)) => (⟨[(5, (V.ptr 0 2 0 0)), (68, (V.lst 3 (a1.Known.map encTPublished))), (69, (iV ((a1.Known.length : Nat) : Int))), (70, (iV (p.1)))], [(0, (Ob.bld 59 5 (p.2)))], 1⟩ : St)) (fun n p => RG a1.Known (fun tl nn => M9_L3 F k53 tl p.2 = some r) n p.1) (fun p h => RG.zero h) (a1.Known.length + 1) (0, s14) (RG.start h) (gr [1] rfl (hU rfl rfl .nil) rfl) (fun n p h => ?_)
  obtain ⟨n57, s58⟩ := p
  refine rn 5 rfl ?_
  refine spL rfl (fun hb59 => ?_) (fun hb59 => ?_)
  ·obtain ⟨x60, tl, hx61, h, hk3⟩ := RG.t hA79 h hb59
   unfold M9_L3 at h
   refine rn 5 rfl ?_
   refine ixh hx61 rfl rfl ?_
   refine rn 5 rfl ?_
   refine ck h (fun hc62 h => ?_)
   refine ck h (fun hc63 h => ?_)
   obtain ⟨y64, hx65, h⟩ := bind_some h
   refine ck h (fun hc66 h => ?_)
   obtain ⟨y67, hx68, h⟩ := bind_some h
   refine dr mixed (vs 2 rfl (xD (OD.mk [(75, (sV x60.Advisory))] [] [(76, (sV (([107, 110, 111, 119, 110, 32] : List UInt8) ++ x60.Advisory)))] []) ⟨⟨rfl, trivial⟩, trivial⟩ (by exact fun S hn h hh => aops_binT (str (([107, 110, 111, 119, 110, 32] : List UInt8) ++ x60.Advisory)) wants_none rfl h.1 (if_pos hc62) rfl (aops_nil ⟨rfl, rfl⟩)) rfl (xD (OD.mk [(76, (sV (([107, 110, 111, 119, 110, 32] : List UInt8) ++ x60.Advisory)))] [] [(77, (sV ((([107, 110, 111, 119, 110, 32] : List UInt8) ++ x60.Advisory) ++ ([32] : List UInt8))))] []) ⟨⟨rfl, trivial⟩, trivial⟩ (by exact fun S hn h hh => aops_binT (str ((([107, 110, 111, 119, 110, 32] : List UInt8) ++ x60.Advisory) ++ ([32] : List UInt8))) wants_none h.1 rfl (if_pos hc63) rfl (aops_nil ⟨rfl, rfl⟩)) rfl (vs 2 rfl (cD rfl rfl rfl rfl (W22 _ _ _ hx65) rfl (xD (OD.mk [(77, (sV ((([107, 110, 111, 119, 110, 32] : List UInt8) ++ x60.Advisory) ++ ([32] : List UInt8)))), (80, (sV y64))] [] [(81, (sV (((([107, 110, 111, 119, 110, 32] : List UInt8) ++ x60.Advisory) ++ ([32] : List UInt8)) ++ y64)))] []) ⟨⟨rfl, rfl, trivial⟩, trivial⟩ (by exact fun S hn h hh => aops_binT (str (((([107, 110, 111, 119, 110, 32] : List UInt8) ++ x60.Advisory) ++ ([32] : List UInt8)) ++ y64)) wants_none h.1 h.2.1 (if_pos hc66) rfl (aops_nil ⟨rfl, rfl⟩)) rfl (xD (OD.mk [(5, (V.ptr 0 2 0 0)), (81, (sV (((([107, 110, 111, 119, 110, 32] : List UInt8) ++ x60.Advisory) ++ ([32] : List UInt8)) ++ y64)))] [(0, (Ob.bld 59 5 s58))] [(82, (V.tup [(iV ((((([107, 110, 111, 119, 110, 32] : List UInt8) ++ x60.Advisory) ++ ([32] : List UInt8)) ++ y64).length : Int)), (V.con .nilIface)]))] [(0, (Ob.bld 59 5 (s58 ++ (((([107, 110, 111, 119, 110, 32] : List UInt8) ++ x60.Advisory) ++ ([32] : List UInt8)) ++ y64))))]) ⟨⟨rfl, rfl, trivial⟩, ⟨rfl, trivial⟩⟩ (by exact fun S hn h hh => aops_mcall_atH [] hn (fun _ hx => nomatch hx) (V.tup [(iV ((((([107, 110, 111, 119, 110, 32] : List UInt8) ++ x60.Advisory) ++ ([32] : List UInt8)) ++ y64).length : Int)), (V.con .nilIface)]) [(V.ptr 0 2 0 0), (sV (((([107, 110, 111, 119, 110, 32] : List UInt8) ++ x60.Advisory) ++ ([32] : List UInt8)) ++ y64))] (fun i => ([0] : List Nat).getD i 0) (fun i => ([0] : List Nat).getD i 0) [(0, (Ob.bld 59 5 (s58 ++ (((([107, 110, 111, 119, 110, 32] : List UInt8) ++ x60.Advisory) ++ ([32] : List UInt8)) ++ y64))))] fOk21 wants_none rfl (evm_cons h.1 (evm_cons h.2.1 evm_nil)) (.cons (Sub.ptr rfl rfl) (.cons (Sub.imm (Imm.con _)) .nil)) (HpSub.consE (id := 0) rfl hh.1 ObSub.bld .nil) (W21 F (((([107, 110, 111, 119, 110, 32] : List UInt8) ++ x60.Advisory) ++ ([32] : List UInt8)) ++ y64) s58 y67 hx68) rfl rfl rfl rfl (Sub.immT (Imm.tup (.cons (Imm.con _) (.cons (Imm.con _) .nil)))) (.cons rfl ObSub.bld .nil) (aops_nil ⟨rfl, rfl⟩)) rfl .nil))))))) (by kernel_rfl) ?_
   refine rn 7 rfl ?_
   refine jK h (fun (p : (List UInt8)) => (⟨[(5, (V.ptr 0 2 0 0)), (68, (V.lst 3 (a1.Known.map encTPublished))), (69, (iV ((a1.Known.length : Nat) : Int))), (70, (iV n57))], [(0, (Ob.bld 59 5 p))], 1⟩ : St)) (fun k69 p => k69 p = some r) (fun k69 h => ?_) ?_
   ·refine spC h rfl (fun hb71 h => ?_) (fun hb71 h => ?_)
    ·refine rn 3 rfl ?_
     refine cl h rfl rfl rfl (W22 _ _) rfl (fun y72 hx73 h => ?_)
     refine ck h (fun hc74 h => ?_)
     refine aops_binT (str (([32] : List UInt8) ++ y72)) wants_none rfl rfl (if_pos hc74) rfl ?_
     obtain ⟨y75, hx76, h⟩ := bind_some h
     refine aops_mcallS (V.tup [(iV ((([32] : List UInt8) ++ y72).length : Int)), (V.con .nilIface)]) [(V.ptr 0 2 0 0), (sV (([32] : List UInt8) ++ y72))] (fun i => ([0] : List Nat).getD i 0) (fun i => ([0] : List Nat).getD i 0) 2 2 [(0, (Ob.bld 59 5 ((s58 ++ (((([107, 110, 111, 119, 110, 32] : List UInt8) ++ x60.Advisory) ++ ([32] : List UInt8)) ++ y64)) ++ (([32] : List UInt8) ++ y72))))] fOk21 wants_none rfl (evm_cons rfl (evm_cons rfl evm_nil)) (.cons (Sub.ptr rfl rfl) (.cons (Sub.imm (Imm.con _)) .nil)) (.cons rfl ObSub.bld .nil) (W21 F (([32] : List UInt8) ++ y72) (s58 ++ (((([107, 110, 111, 119, 110, 32] : List UInt8) ++ x60.Advisory) ++ ([32] : List UInt8)) ++ y64)) y75 hx76) rfl rfl rfl rfl (Sub.immT (Imm.tup (.cons (Imm.con _) (.cons (Imm.con _) .nil)))) (.cons rfl ObSub.bld .nil) _ rfl ?_
     refine fo (rn 1 rfl ?_)
     exact jX ((s58 ++ (((([107, 110, 111, 119, 110, 32] : List UInt8) ++ x60.Advisory) ++ ([32] : List UInt8)) ++ y64)) ++ (([32] : List UInt8) ++ y72)) h (gr [0] rfl (hU rfl rfl .nil) rfl)
    refine rn 1 rfl ?_
    exact jX (s58 ++ (((([107, 110, 111, 119, 110, 32] : List UInt8) ++ x60.Advisory) ++ ([32] : List UInt8)) ++ y64)) h (gr [0] rfl (hU rfl rfl .nil) rfl)
   intro s70 h
   obtain ⟨y77, hx78, h⟩ := bind_some h
   refine rn 1 rfl ?_
   refine aops_mcallS (V.tup [(iV (([10] : List UInt8).length : Int)), (V.con .nilIface)]) [(V.ptr 0 2 0 0), (sV ([10] : List UInt8))] (fun i => ([0] : List Nat).getD i 0) (fun i => ([0] : List Nat).getD i 0) 1 1 [(0, (Ob.bld 59 5 (s70 ++ ([10] : List UInt8))))] fOk21 wants_none rfl (evm_cons rfl (evm_cons rfl evm_nil)) (.cons (Sub.ptr rfl rfl) (.cons (Sub.imm (Imm.con _)) .nil)) (.cons rfl ObSub.bld .nil) (W21 F ([10] : List UInt8) s70 y77 hx78) rfl rfl rfl rfl (Sub.immT (Imm.tup (.cons (Imm.con _) (.cons (Imm.con _) .nil)))) (.cons rfl ObSub.bld .nil) _ rfl ?_
   refine fo (rn 6 rfl ?_)
   exact jX ((w64 (n57 + 1)), (s70 ++ ([10] : List UInt8))) (hk3 _ h) (gr [0] rfl (hU rfl rfl .nil) rfl)
  replace h := RG.f h hb59
  unfold M9_L3 at h
  refine rn 1 rfl ?_
  exact jX s58 h (gr [0] rfl (hU rfl rfl .nil) rfl)
 intro s54 h
 obtain ⟨y80, hx81, h⟩ := bind_some h
 refine rn 3 rfl ?_
 refine aops_mcallS (iV ((s54.length : Nat) : Int)) [(V.ptr 0 2 0 0)] (fun i => ([0] : List Nat).getD i 0) (fun i => ([0] : List Nat).getD i 0) 1 1 [(0, (Ob.bld 59 5 s54))] fOk23 wants_none rfl (evm_cons rfl evm_nil) (.cons (Sub.ptr rfl rfl) .nil) (.cons rfl ObSub.bld .nil) (W23 F s54 y80 hx81) rfl rfl rfl rfl (Sub.immT (Imm.con _)) (.cons rfl ObSub.bld .nil) _ rfl ?_
 refine fo (rn 2 rfl ?_)
 refine spC h rfl (fun hb82 h => ?_) (fun hb82 h => ?_)
 ·refine rn 5 rfl ?_
  exact rt h rfl
 obtain ⟨y83, hx84, h⟩ := bind_some h
 refine rn 3 rfl ?_
 refine aops_mcallS (sV s54) [(V.ptr 0 2 0 0)] (fun i => ([0] : List Nat).getD i 0) (fun i => ([0] : List Nat).getD i 0) 1 1 [(0, Ob.dead)] fOk24 wants_none rfl (evm_cons rfl evm_nil) (.cons (Sub.ptr rfl rfl) .nil) (.cons rfl ObSub.bld .nil) (W24 F s54 y83 hx84) rfl rfl rfl rfl (Sub.immT (Imm.con _)) (.cons rfl ObSub.deadT .nil) _ rfl ?_
 refine fo (rn 3 rfl ?_)
 exact rt h rfl
theorem W35 (F : Nat) (a1 : (List UInt8)) (r : Bool) (h : M35 F a1 = some r) : PureG (gl mx) Tryd.prog 35 [(sV a1)] (bV r) := by
 refine pin (fun r => (bV r)) r rfl Tryd.func35 rfl rfl rfl rfl rfl (fun w0 m0 hg => ?_)
 unfold M35 at h
 refine rn 9 rfl ?_
 refine jK h (fun _ : Unit => (⟨[(0, (sV a1))], [], 0⟩ : St)) (fun k2 (_ : Unit) => k2 = some r) (fun k2 h => ?_) ?_
 ·refine rn 1 rfl ?_
  refine ck h (fun hA12 h => ?_)
  refine lC (fun (p : Int) => (⟨[(0, (sV a1)), (3, (iV p))], [], 0⟩ : St)) (fun n p => RC (a1.length : Int) (fun tl nn => M35_L1 F a1 k2 tl nn = some r) n p) (fun p h => RC.zero h) (Int.toNat (a1.length : Int) + 1) 0 (RC.start h) (g0 rfl rfl) (fun n n4 h => ?_)
  refine rn 8 rfl ?_
  refine spL rfl (fun hb5 => ?_) (fun hb5 => ?_)
  ·obtain ⟨tl, h, hk1⟩ := RC.t hA12 h hb5
   unfold M35_L1 at h
   refine rn 7 rfl ?_
   refine ixs h rfl rfl (fun c6 hx7 h => ?_)
   refine rn 2 rfl ?_
   refine spO 14 h rfl (fun hb8 h => ?_) (fun hb8 h => ?_)
   ·refine rn 11 rfl ?_
    exact rt h rfl
   refine rn 2 rfl ?_
   refine ixs h rfl rfl (fun c9 hx10 h => ?_)
   refine rn 3 rfl ?_
   refine spC h rfl (fun hb11 h => ?_) (fun hb11 h => ?_)
   ·refine rn 4 rfl ?_
    exact rt h rfl
   refine rn 7 rfl ?_
   exact jX (w64 (n4 + 1)) (hk1 _ h) (g0 rfl rfl)
  replace h := RC.f h hb5
  unfold M35_L1 at h
  refine rn 1 rfl ?_
  exact jX () h (g0 rfl rfl)
 intro _ h
 refine rn 6 rfl ?_
 refine spO 23 h rfl (fun hb13 h => ?_) (fun hb13 h => ?_)
 ·refine rn 6 rfl ?_
  exact rt h rfl
 refine rn 6 rfl ?_
 exact rt h rfl
theorem W36 (F : Nat) (a1 : Int) (r : Bool) (h : M36 F a1 = some r) : PureG (gl mx) Tryd.prog 36 [(iV a1)] (bV r) := by
 refine pin (fun r => (bV r)) r rfl Tryd.func36 rfl rfl rfl rfl rfl (fun w0 m0 hg => ?_)
 unfold M36 at h
 refine rn 9 rfl ?_
 refine spO 5 h rfl (fun hb2 h => ?_) (fun hb2 h => ?_)
 ·refine rn 5 rfl ?_
  exact rt h rfl
 refine rn 5 rfl ?_
 exact rt h rfl
theorem W51 (F : Nat) (a1 : TExposure) (a2 : TExposure) (r : Bool) (h : M51 F a1 a2 = some r) : PureG (gl mx) Tryd.prog 51 [(V.agg (encTExposure a1)), (V.agg (encTExposure a2))] (bV r) := by
 refine pin (fun r => (bV r)) r rfl Tryd.func51 rfl rfl rfl rfl rfl (fun w0 m0 hg => ?_)
 unfold M51 at h
 refine rn 14 rfl ?_
 refine spO 10 h rfl (fun hb3 h => ?_) (fun hb3 h => ?_)
 ·refine rn 15 rfl ?_
  exact rt h rfl
 refine rn 6 rfl ?_
 refine spO 16 h rfl (fun hb4 h => ?_) (fun hb4 h => ?_)
 ·refine rn 9 rfl ?_
  exact rt h rfl
 refine rn 9 rfl ?_
 exact rt h rfl
theorem W37 (F : Nat) (a1 : (List TExposure)) (r : Int) (h : M37 F a1 = some r) : PureG (gl mx) Tryd.prog 37 [(V.lst 3 (a1.map encTExposure))] (iV r) := by
 refine pin (fun r => (iV r)) r rfl Tryd.func37 rfl rfl rfl rfl rfl (fun w0 m0 hg => ?_)
 unfold M37 at h
 refine rn 8 rfl ?_
 refine ln rfl rfl ?_
 refine rn 2 rfl ?_
 refine spC h rfl (fun hb2 h => ?_) (fun hb2 h => ?_)
 ·refine rn 4 rfl ?_
  exact rt h rfl
 refine rn 5 rfl ?_
 refine ln rfl rfl ?_
 refine rn 2 rfl ?_
 refine jK h (fun _ : Unit => (⟨[], [], 0⟩ : St)) (fun k3 (_ : Unit) => k3 = some r) (fun k3 h => ?_) ?_
 ·refine rn 1 rfl ?_
  refine wl (A := a1) 0 rfl (fun hA24 => ?_)
  refine lC (fun (p : Int) => (⟨[(0, (V.lst 3 (a1.map encTExposure))), (8, (V.lst 3 (a1.map encTExposure))), (9, (iV ((a1.length : Nat) : Int))), (10, (iV p))], [], 0⟩ : St)) (fun n p => RG a1 (fun tl nn => M37_L1 F a1 k3 tl nn = some r) n p) (fun p h => RG.zero h) (a1.length + 1) 0 (RG.start h) (g0 rfl rfl) (fun n n5 h => ?_)
  refine rn 5 rfl ?_
  refine spL rfl (fun hb6 => ?_) (fun hb6 => ?_)
  ·obtain ⟨x7, tl, hx8, h, hk1⟩ := RG.t hA24 h hb6
   unfold M37_L1 at h
   refine rn 6 rfl ?_
   refine ixh hx8 rfl rfl ?_
   refine rn 10 rfl ?_
   refine cl h rfl rfl rfl (W35 _ _) rfl (fun y9 hx10 h => ?_)
   refine rn 2 rfl ?_
   refine spO 20 h rfl (fun hb11 h => ?_) (fun hb11 h => ?_)
   ·refine rn 12 rfl ?_
    exact rt h rfl
   refine rn 2 rfl ?_
   refine cl h rfl rfl rfl (W35 _ _) rfl (fun y12 hx13 h => ?_)
   refine rn 4 rfl ?_
   refine jK h (fun _ : Unit => (⟨[(0, (V.lst 3 (a1.map encTExposure))), (8, (V.lst 3 (a1.map encTExposure))), (9, (iV ((a1.length : Nat) : Int))), (10, (iV n5)), (24, (bV (!y12))), (33, (bV (decide (x7.Severity > 100))))], [], 0⟩ : St)) (fun k14 (_ : Unit) => k14 = some r) (fun k14 h => ?_) ?_
   ·refine spC h rfl (fun hb15 h => ?_) (fun hb15 h => ?_)
    ·refine rn 4 rfl ?_
     exact rt h rfl
    refine rn 6 rfl ?_
    refine spO 30 h rfl (fun hb16 h => ?_) (fun hb16 h => ?_)
    ·refine rn 11 rfl ?_
     exact rt h rfl
    refine rn 6 rfl ?_
    refine spC h rfl (fun hb17 h => ?_) (fun hb17 h => ?_)
    ·refine rn 4 rfl ?_
     exact rt h rfl
    refine rn 1 rfl ?_
    refine bs h (fun hb18 h => ?_) (fun hb18 h => ?_)
    ·obtain ⟨x19, hx20, h⟩ := bind_some h
     obtain ⟨y21, hx22, h⟩ := bind_some h
     refine dr mixed (vs 2 rfl (vb hb18 rfl (vs 3 rfl (iD hx20 rfl rfl rfl (vs 2 rfl (cD rfl rfl rfl rfl (W51 _ _ _ _ hx22) rfl (vs 3 rfl .nil))))))) (by kernel_rfl) ?_
     refine spC h rfl (fun hb23 h => ?_) (fun hb23 h => ?_)
     ·refine rn 4 rfl ?_
      exact rt h rfl
     refine rn 1 rfl ?_
     exact jX () h (g0 rfl rfl)
    refine dr mixed (vs 2 rfl (vb hb18 rfl (vs 10 rfl .nil))) (by kernel_rfl) ?_
    refine rn 2 rfl ?_
    exact jX () h (g0 rfl rfl)
   intro _ h
   refine rn 6 rfl ?_
   exact jX (w64 (n5 + 1)) (hk1 _ h) (g0 rfl rfl)
  replace h := RG.f h hb6
  unfold M37_L1 at h
  refine rn 1 rfl ?_
  exact jX () h (g0 rfl rfl)
 intro _ h
 refine rn 4 rfl ?_
 exact rt h rfl
theorem W38 (F : Nat) (a1 : (List TPublished)) (r : Int) (h : M38 F a1 = some r) : PureG (gl mx) Tryd.prog 38 [(V.lst 3 (a1.map encTPublished))] (iV r) := by
 refine pin (fun r => (iV r)) r rfl Tryd.func38 rfl rfl rfl rfl rfl (fun w0 m0 hg => ?_)
 unfold M38 at h
 refine rn 8 rfl ?_
 refine ln rfl rfl ?_
 refine rn 2 rfl ?_
 refine jK h (fun _ : Unit => (⟨[], [], 0⟩ : St)) (fun k2 (_ : Unit) => k2 = some r) (fun k2 h => ?_) ?_
 ·refine rn 1 rfl ?_
  refine wl (A := a1) 0 rfl (fun hA29 => ?_)
  refine lC (fun (p : Int) => (⟨[(0, (V.lst 3 (a1.map encTPublished))), (5, (V.lst 3 (a1.map encTPublished))), (6, (iV ((a1.length : Nat) : Int))), (7, (iV p))], [], 0⟩ : St)) (fun n p => RG a1 (fun tl nn => M38_L1 F a1 k2 tl nn = some r) n p) (fun p h => RG.zero h) (a1.length + 1) 0 (RG.start h) (g0 rfl rfl) (fun n n4 h => ?_)
  refine rn 5 rfl ?_
  refine spL rfl (fun hb5 => ?_) (fun hb5 => ?_)
  ·obtain ⟨x6, tl, hx7, h, hk1⟩ := RG.t hA29 h hb5
   unfold M38_L1 at h
   refine rn 6 rfl ?_
   refine ixh hx7 rfl rfl ?_
   refine rn 10 rfl ?_
   refine cl h rfl rfl rfl (W35 _ _) rfl (fun y8 hx9 h => ?_)
   refine rn 3 rfl ?_
   refine jK h (fun (p : Bool) => (⟨[(0, (V.lst 3 (a1.map encTPublished))), (5, (V.lst 3 (a1.map encTPublished))), (6, (iV ((a1.length : Nat) : Int))), (7, (iV n4)), (51, (bV p))], [], 0⟩ : St)) (fun k10 p => k10 p = some r) (fun k10 h => ?_) ?_
   ·refine spC h rfl (fun hb12 h => ?_) (fun hb12 h => ?_)
    ·refine rn 4 rfl ?_
     exact rt h rfl
    refine rn 1 rfl ?_
    refine bs h (fun hb13 h => ?_) (fun hb13 h => ?_)
    ·obtain ⟨x14, hx15, h⟩ := bind_some h
     refine dr mixed (vs 2 rfl (vb hb13 rfl (vs 5 rfl (iD hx15 rfl rfl rfl (vs 5 rfl .nil))))) (by kernel_rfl) ?_
     refine spC h rfl (fun hb16 h => ?_) (fun hb16 h => ?_)
     ·refine rn 4 rfl ?_
      exact rt h rfl
     refine rn 4 rfl ?_
     refine cl h rfl rfl rfl (W36 _ _) rfl (fun y17 hx18 h => ?_)
     refine rn 2 rfl ?_
     refine spO 36 h rfl (fun hb19 h => ?_) (fun hb19 h => ?_)
     ·refine rn 23 rfl ?_
      exact rt h rfl
     refine rn 4 rfl ?_
     refine spO 40 h rfl (fun hb20 h => ?_) (fun hb20 h => ?_)
     ·refine rn 6 rfl ?_
      refine spO 46 h rfl (fun hb21 h => ?_) (fun hb21 h => ?_)
      ·refine rn 13 rfl ?_
       exact rt h rfl
      refine rn 8 rfl ?_
      refine spC h rfl (fun hb22 h => ?_) (fun hb22 h => ?_)
      ·refine rn 4 rfl ?_
       exact rt h rfl
      refine rn 1 rfl ?_
      exact jX (decide (x6.Ended > 1000000)) h (g0 rfl rfl)
     refine rn 16 rfl ?_
     exact jX false h (g0 rfl rfl)
    refine dr mixed (vs 2 rfl (vb hb13 rfl (vs 11 rfl .nil))) (by kernel_rfl) ?_
    refine rn 5 rfl ?_
    refine cl h rfl rfl rfl (W36 _ _) rfl (fun y23 hx24 h => ?_)
    refine rn 2 rfl ?_
    refine spO 36 h rfl (fun hb25 h => ?_) (fun hb25 h => ?_)
    ·refine rn 23 rfl ?_
     exact rt h rfl
    refine rn 4 rfl ?_
    refine spO 40 h rfl (fun hb26 h => ?_) (fun hb26 h => ?_)
    ·refine rn 6 rfl ?_
     refine spO 46 h rfl (fun hb27 h => ?_) (fun hb27 h => ?_)
     ·refine rn 13 rfl ?_
      exact rt h rfl
     refine rn 8 rfl ?_
     refine spC h rfl (fun hb28 h => ?_) (fun hb28 h => ?_)
     ·refine rn 4 rfl ?_
      exact rt h rfl
     refine rn 1 rfl ?_
     exact jX (decide (x6.Ended > 1000000)) h (g0 rfl rfl)
    refine rn 16 rfl ?_
    exact jX false h (g0 rfl rfl)
   intro b11 h
   refine rn 6 rfl ?_
   exact jX (w64 (n4 + 1)) (hk1 _ h) (g0 rfl rfl)
  replace h := RG.f h hb5
  unfold M38_L1 at h
  refine rn 1 rfl ?_
  exact jX () h (g0 rfl rfl)
 intro _ h
 refine rn 4 rfl ?_
 exact rt h rfl
theorem W16 (F : Nat) (a1 : TStory) (r : Int) (h : M16 F a1 = some r) : PureG (gl mx) Tryd.prog 16 [(V.agg (encTStory a1))] (iV r) := by
 refine pin (fun r => (iV r)) r rfl Tryd.func16 rfl rfl rfl rfl rfl (fun w0 m0 hg => ?_)
 unfold M16 at h
 refine rn 11 rfl ?_
 refine cl h rfl rfl rfl (W35 _ _) rfl (fun y2 hx3 h => ?_)
 refine rn 3 rfl ?_
 refine spC h rfl (fun hb4 h => ?_) (fun hb4 h => ?_)
 ·refine rn 4 rfl ?_
  exact rt h rfl
 refine rn 4 rfl ?_
 refine cl h rfl rfl rfl (W36 _ _) rfl (fun y5 hx6 h => ?_)
 refine rn 3 rfl ?_
 refine spC h rfl (fun hb7 h => ?_) (fun hb7 h => ?_)
 ·refine rn 4 rfl ?_
  exact rt h rfl
 refine rn 4 rfl ?_
 refine ln rfl rfl ?_
 refine rn 2 rfl ?_
 refine spO 30 h rfl (fun hb8 h => ?_) (fun hb8 h => ?_)
 ·refine rn 12 rfl ?_
  exact rt h rfl
 refine rn 2 rfl ?_
 refine ln rfl rfl ?_
 refine rn 4 rfl ?_
 refine spC h rfl (fun hb9 h => ?_) (fun hb9 h => ?_)
 ·refine rn 4 rfl ?_
  exact rt h rfl
 refine rn 12 rfl ?_
 refine ln rfl rfl ?_
 refine rn 2 rfl ?_
 refine jK h (fun _ : Unit => (⟨[(1, (V.ptr 0 4 0 0))], [(0, (Ob.arr 25 4 [(encTStory a1)]))], 1⟩ : St)) (fun k10 (_ : Unit) => k10 = some r) (fun k10 h => ?_) ?_
 ·refine rn 1 rfl ?_
  refine wl (A := a1.Releases) 27 rfl (fun hA32 => ?_)
  refine lC (fun (p : Int × (List ((List UInt8) × Bool))) => (⟨[(1, (V.ptr 0 4 0 0)), (3, (V.map 1)), (38, (V.lst 3 (a1.Releases.map encTRelease))), (39, (iV ((a1.Releases.length : Nat) : Int))), (40, (iV (p.1)))], [(0, (Ob.arr 25 4 [(encTStory a1)])), (1, (Ob.map ((p.2).map encM9_4)))], 2⟩ : St)) (fun n p => RG a1.Releases (fun tl nn => M16_L1 F a1 k10 tl nn p.2 = some r) n p.1) (fun p h => RG.zero h) (a1.Releases.length + 1) (0, ([] : List ((List UInt8) × Bool))) (RG.start h) (gr [0, 1] rfl (hB rfl rfl rfl (hM rfl rfl .nil)) rfl) (fun n p h => ?_)
  obtain ⟨n13, m14⟩ := p
  refine rn 5 rfl ?_
  refine spL rfl (fun hb15 => ?_) (fun hb15 => ?_)
  ·obtain ⟨x16, tl, hx17, h, hk1⟩ := RG.t hA32 h hb15
   unfold M16_L1 at h
   refine rn 6 rfl ?_
   refine ixh hx17 rfl rfl ?_
   refine rn 11 rfl ?_
   refine cl h rfl rfl rfl (W35 _ _) rfl (fun y18 hx19 h => ?_)
   refine rn 3 rfl ?_
   refine jK h (fun _ : Unit => (⟨[(1, (V.ptr 0 4 0 0)), (3, (V.map 1)), (5, (V.ptr 2 3 0 0)), (38, (V.lst 3 (a1.Releases.map encTRelease))), (39, (iV ((a1.Releases.length : Nat) : Int))), (40, (iV n13)), (64, (bV (decide (x16.Day > a1.Until))))], [(0, (Ob.arr 25 4 [(encTStory a1)])), (1, (Ob.map (m14.map encM9_4))), (2, (Ob.arr 47 3 [(encTRelease x16)]))], 3⟩ : St)) (fun k20 (_ : Unit) => k20 = some r) (fun k20 h => ?_) ?_
   ·refine spC h rfl (fun hb21 h => ?_) (fun hb21 h => ?_)
    ·refine rn 4 rfl ?_
     exact rt h rfl
    refine rn 5 rfl ?_
    refine aops_lookup _ (bV false) (bV ((mget m14 x16.Version).getD false)) tMap78 tKey9 tZo4 (irel_con _) wants_none rfl (.own rfl) (.con rfl) ⟨_, rfl⟩ encM9_4_good (encM9_4_look m14 x16.Version) (getD_map (encM9_4_val) (mget m14 x16.Version) false) rfl ?_
    refine fo (rn 2 rfl ?_)
    refine spC h rfl (fun hb22 h => ?_) (fun hb22 h => ?_)
    ·refine rn 4 rfl ?_
     exact rt h rfl
    refine rn 6 rfl ?_
    refine spO 59 h rfl (fun hb23 h => ?_) (fun hb23 h => ?_)
    ·refine rn 13 rfl ?_
     exact rt h rfl
    refine rn 8 rfl ?_
    refine spC h rfl (fun hb24 h => ?_) (fun hb24 h => ?_)
    ·refine rn 4 rfl ?_
     exact rt h rfl
    refine rn 1 rfl ?_
    refine bs h (fun hb25 h => ?_) (fun hb25 h => ?_)
    ·obtain ⟨x26, hx27, h⟩ := bind_some h
     refine dr mixed (vs 2 rfl (vb hb25 rfl (vs 6 rfl (iD hx27 rfl rfl rfl (vs 5 rfl .nil))))) (by kernel_rfl) ?_
     refine spC h rfl (fun hb28 h => ?_) (fun hb28 h => ?_)
     ·refine rn 4 rfl ?_
      exact rt h rfl
     refine rn 1 rfl ?_
     exact jX () h (gr [0, 1, 2] rfl (hB rfl rfl rfl (hM rfl rfl (hB rfl rfl rfl .nil))) rfl)
    refine dr mixed (vs 2 rfl (vb hb25 rfl (vs 12 rfl .nil))) (by kernel_rfl) ?_
    refine rn 2 rfl ?_
    exact jX () h (gr [0, 1, 2] rfl (hB rfl rfl rfl (hM rfl rfl (hB rfl rfl rfl .nil))) rfl)
   intro _ h
   refine rn 6 rfl ?_
   refine aops_mapUpdate (es := m14.map encM9_4) ((mput m14 x16.Version true).map encM9_4) tMap78 tKey9 wants_none rfl rfl (.con rfl) ⟨_, rfl⟩ encM9_4_good rfl (encM9_4_puts m14 x16.Version true) ?_
   refine fo (rn 5 rfl ?_)
   refine cl h rfl rfl rfl (W37 _ _) rfl (fun y29 hx30 h => ?_)
   refine rn 7 rfl ?_
   refine spC h rfl (fun hb31 h => ?_) (fun hb31 h => ?_)
   ·refine rn 5 rfl ?_
    exact rt h rfl
   refine rn 6 rfl ?_
   exact jX ((w64 (n13 + 1)), (mput m14 x16.Version true)) (hk1 _ h) (gr [0, 1] rfl (hB rfl rfl rfl (hM rfl rfl .nil)) rfl)
  replace h := RG.f h hb15
  unfold M16_L1 at h
  refine rn 1 rfl ?_
  exact jX () h (gr [0] rfl (hB rfl rfl rfl .nil) rfl)
 intro _ h
 refine rn 5 rfl ?_
 refine cl h rfl rfl rfl (W38 _ _) rfl (fun y33 hx34 h => ?_)
 refine rn 7 rfl ?_
 refine spC h rfl (fun hb35 h => ?_) (fun hb35 h => ?_)
 ·refine rn 5 rfl ?_
  exact rt h rfl
 refine rn 11 rfl ?_
 refine ln rfl rfl ?_
 refine rn 2 rfl ?_
 refine jK h (fun (p : (List ((List UInt8) × Bool))) => (⟨[(1, (V.ptr 0 4 0 0)), (8, (V.map 1))], [(0, (Ob.arr 25 4 [(encTStory a1)])), (1, (Ob.map (p.map encM9_4)))], 2⟩ : St)) (fun k36 p => k36 p = some r) (fun k36 h => ?_) ?_
 ·refine rn 1 rfl ?_
  refine wl (A := a1.Known) 92 rfl (fun hA45 => ?_)
  refine lC (fun (p : Int × (List ((List UInt8) × Bool))) => (⟨[(1, (V.ptr 0 4 0 0)), (8, (V.map 1)), (99, (V.lst 3 (a1.Known.map encTPublished))), (100, (iV ((a1.Known.length : Nat) : Int))), (101, (iV (p.1)))], [(0, (Ob.arr 25 4 [(encTStory a1)])), (1, (Ob.map ((p.2).map encM9_4)))], 2⟩ : St)) (fun n p => RG a1.Known (fun tl nn => M16_L2 F k36 tl p.2 = some r) n p.1) (fun p h => RG.zero h) (a1.Known.length + 1) (0, ([] : List ((List UInt8) × Bool))) (RG.start h) (gr [0, 1] rfl (hB rfl rfl rfl (hM rfl rfl .nil)) rfl) (fun n p h => ?_)
  obtain ⟨n40, m41⟩ := p
  refine rn 5 rfl ?_
  refine spL rfl (fun hb42 => ?_) (fun hb42 => ?_)
  ·obtain ⟨x43, tl, hx44, h, hk2⟩ := RG.t hA45 h hb42
   unfold M16_L2 at h
   refine rn 5 rfl ?_
   refine ixh hx44 rfl rfl ?_
   refine rn 8 rfl ?_
   refine aops_mapUpdate (es := m41.map encM9_4) ((mput m41 x43.Advisory true).map encM9_4) tMap78 tKey9 wants_none rfl rfl (.con rfl) ⟨_, rfl⟩ encM9_4_good rfl (encM9_4_puts m41 x43.Advisory true) ?_
   refine fo (rn 6 rfl ?_)
   exact jX ((w64 (n40 + 1)), (mput m41 x43.Advisory true)) (hk2 _ h) (gr [0, 1] rfl (hB rfl rfl rfl (hM rfl rfl .nil)) rfl)
  replace h := RG.f h hb42
  unfold M16_L2 at h
  refine rn 1 rfl ?_
  exact jX m41 h (gr [0, 1] rfl (hB rfl rfl rfl (hM rfl rfl .nil)) rfl)
 intro m37 h
 refine rn 5 rfl ?_
 refine ln rfl rfl ?_
 refine rn 2 rfl ?_
 refine jK h (fun _ : Unit => (⟨[], [], 0⟩ : St)) (fun k46 (_ : Unit) => k46 = some r) (fun k46 h => ?_) ?_
 ·refine rn 1 rfl ?_
  refine wl (A := a1.Releases) 110 rfl (fun hA61 => ?_)
  refine lC (fun (p : Int) => (⟨[(8, (V.map 0)), (110, (V.lst 3 (a1.Releases.map encTRelease))), (111, (iV ((a1.Releases.length : Nat) : Int))), (112, (iV p))], [(0, (Ob.map (m37.map encM9_4)))], 1⟩ : St)) (fun n p => RG a1.Releases (fun tl nn => M16_L3 F m37 k46 tl = some r) n p) (fun p h => RG.zero h) (a1.Releases.length + 1) 0 (RG.start h) (gr [1] rfl (hM rfl rfl .nil) rfl) (fun n n48 h => ?_)
  refine rn 5 rfl ?_
  refine spL rfl (fun hb49 => ?_) (fun hb49 => ?_)
  ·obtain ⟨x51, tl, hx52, h, hk3⟩ := RG.t hA61 h hb49
   unfold M16_L3 at h
   refine rn 2 rfl ?_
   refine jK h (fun _ : Unit => (⟨[(8, (V.map 0)), (110, (V.lst 3 (a1.Releases.map encTRelease))), (111, (iV ((a1.Releases.length : Nat) : Int))), (112, (iV n48))], [(0, (Ob.map (m37.map encM9_4)))], 1⟩ : St)) (fun k50 (_ : Unit) => k50 = some r) (fun k50 h => ?_) ?_
   ·refine rn 3 rfl ?_
    refine ixh hx52 rfl rfl ?_
    refine rn 8 rfl ?_
    refine ln rfl rfl ?_
    refine rn 2 rfl ?_
    refine jK h (fun _ : Unit => (⟨[(8, (V.map 0)), (110, (V.lst 3 (a1.Releases.map encTRelease))), (111, (iV ((a1.Releases.length : Nat) : Int))), (112, (iV n48))], [(0, (Ob.map (m37.map encM9_4)))], 1⟩ : St)) (fun k53 (_ : Unit) => k53 = some r) (fun k53 h => ?_) ?_
    ·refine rn 1 rfl ?_
     refine wl (A := x51.Exposures) 117 rfl (fun hA60 => ?_)
     refine lC (fun (p : Int) => (⟨[(8, (V.map 0)), (110, (V.lst 3 (a1.Releases.map encTRelease))), (111, (iV ((a1.Releases.length : Nat) : Int))), (112, (iV n48)), (117, (V.lst 3 (x51.Exposures.map encTExposure))), (118, (iV ((x51.Exposures.length : Nat) : Int))), (119, (iV p))], [(0, (Ob.map (m37.map encM9_4)))], 1⟩ : St)) (fun n p => RG x51.Exposures (fun tl nn => M16_L4 F m37 k53 tl = some r) n p) (fun p h => RG.zero h) (x51.Exposures.length + 1) 0 (RG.start h) (gr [0] rfl (hM rfl rfl .nil) rfl) (fun n n55 h => ?_)
     refine rn 5 rfl ?_
     refine spL rfl (fun hb56 => ?_) (fun hb56 => ?_)
     ·obtain ⟨x57, tl, hx58, h, hk4⟩ := RG.t hA60 h hb56
      unfold M16_L4 at h
      refine rn 5 rfl ?_
      refine ixh hx58 rfl rfl ?_
      refine rn 9 rfl ?_
      refine aops_lookup _ (bV false) (bV ((mget m37 x57.Advisory).getD false)) tMap78 tKey9 tZo4 (irel_con _) wants_none rfl (.own rfl) (.con rfl) ⟨_, rfl⟩ encM9_4_good (encM9_4_look m37 x57.Advisory) (getD_map (encM9_4_val) (mget m37 x57.Advisory) false) rfl ?_
      refine fo (rn 2 rfl ?_)
      refine spC h rfl (fun hb59 h => ?_) (fun hb59 h => ?_)
      ·refine rn 4 rfl ?_
       exact rt h rfl
      refine rn 6 rfl ?_
      exact jX (w64 (n55 + 1)) (hk4 _ h) (gr [0] rfl (hM rfl rfl .nil) rfl)
     replace h := RG.f h hb56
     unfold M16_L4 at h
     refine rn 1 rfl ?_
     exact jX () h (gr [0] rfl (hM rfl rfl .nil) rfl)
    intro _ h
    refine rn 1 rfl ?_
    exact jX () h (gr [0] rfl (hM rfl rfl .nil) rfl)
   intro _ h
   refine rn 4 rfl ?_
   exact jX (w64 (n48 + 1)) (hk3 _ h) (gr [0] rfl (hM rfl rfl .nil) rfl)
  replace h := RG.f h hb49
  unfold M16_L3 at h
  refine rn 1 rfl ?_
  exact jX () h (g0 rfl rfl)
 intro _ h
 refine rn 4 rfl ?_
 exact rt h rfl
theorem W45 (F : Nat) (a1 : (List (List UInt8))) (a2 : (List UInt8)) (r : (List UInt8)) (h : M45 F a1 a2 = some r) : PureG (gl mx) Tryd.prog 45 [(V.lst 1 (a1.map encS)), (sV a2)] (sV r) := by
 unfold M45 at h
 obtain ⟨hc, h⟩ := chk_some h
 replace h := Option.some.inj h
 subst h
 exact pure_join (fun _ => rfl) hc.1 hc.2 (fun a c w => Go.Proofs.Tryd.strings_Join_none a c _ w) (fun bk o c w h1 h2 h3 h4 h5 => Go.Proofs.Tryd.strings_Join bk o c _ _ w h1 h2 h3 h4 h5)
theorem W25 (F : Nat) (a1 : (List (List UInt8))) (a2 : List Int) (r : (List Int)) (h : M25 F a1 a2 = some r) : MutG (gl mx) Tryd.prog 25 [(V.ptr 0 1 0 0), (V.lst 1 (a1.map encS))] 2 [(0, (Ob.arr 71 1 [[(V.own 1 a2.length)]])), (1, (Ob.arr 5 1 (a2.map encI_u8)))] (resV []) 3 [(0, (Ob.arr 71 1 [[(V.own 2 r.length)]])), (1, Ob.dead), (2, (Ob.arr 5 1 (r.map encI_u8)))] := by
 refine mut_enter Tryd.func25 rfl rfl (l := []) rfl rfl [(0, (V.ptr 0 1 0 0)), (1, (V.lst 1 (a1.map encS)))] rfl (fun w0 m0 β0 hg => en ?_)
 unfold M25 at h
 obtain ⟨y8, hx9, h⟩ := bind_some h
 refine ck h (fun hc10 h => ?_)
 refine ck h (fun hc11 h => ?_)
 refine awp_ghost ghost_res ?_
 refine awp_ghost ghost_res ?_
 refine fa ?_
 refine dr mixed (vs 6 rfl (cD rfl rfl rfl rfl (W45 _ _ _ _ hx9) rfl (xD (OD.mk [(8, (V.own 1 a2.length)), (10, (sV y8))] [(1, (Ob.arr 5 1 (a2.map encI_u8))), (2, Ob.res)] [(11, (V.own 2 (a2 ++ (y8.map fun c => (c.toNat : Int))).length))] [(2, (Ob.arr 5 1 ((a2 ++ (y8.map fun c => (c.toNat : Int))).map encI_u8))), (1, Ob.dead)]) ⟨⟨rfl, rfl, trivial⟩, ⟨rfl, rfl, trivial⟩⟩ (by exact fun S hn h hh => aops_appendT_at 2 rfl hn hh.2.1 (txt := y8) ((a2 ++ (y8.map fun c => (c.toNat : Int))).map encI_u8) tEl57 tStr9 rfl wants_none h.1 hh.1 (by simp) h.2.1 (rows_txt _ a2 y8 (fun _ => rfl)) (List.length_map ..) hc10 rfl (aops_nil ⟨rfl, rfl⟩)) rfl (xD (OD.mk [] [] [(12, (V.lst 1 (([10] : List Int).map encI_u8)))] []) ⟨trivial, trivial⟩ (by exact fun S hn h hh => aops_buildSlice_imm [(0, (V.con (.int .u8 10)))] [[(V.con (.int .u8 10))]] tEl57 tZ5 wants_none rfl rfl rfl rfl (evp_cons rfl evp_nil) rfl rfl (by simp) (imms_rows (.cons (.cons (Imm.con _) .nil) .nil)) rfl (aops_nil ⟨rfl, rfl⟩)) rfl (xD (OD.mk [(11, (V.own 2 (a2 ++ (y8.map fun c => (c.toNat : Int))).length)), (12, (V.lst 1 (([10] : List Int).map encI_u8)))] [(2, (Ob.arr 5 1 ((a2 ++ (y8.map fun c => (c.toNat : Int))).map encI_u8))), (3, Ob.res)] [(13, (V.own 3 ((a2 ++ (y8.map fun c => (c.toNat : Int))) ++ ([10] : List Int)).length))] [(3, (Ob.arr 5 1 (((a2 ++ (y8.map fun c => (c.toNat : Int))) ++ ([10] : List Int)).map encI_u8))), (2, Ob.dead)]) ⟨⟨rfl, rfl, trivial⟩, ⟨rfl, rfl, trivial⟩⟩ (by exact fun S hn h hh => aops_append_at 3 rfl hn hh.2.1 (([10] : List Int).map encI_u8) (((a2 ++ (y8.map fun c => (c.toNat : Int))) ++ ([10] : List Int)).map encI_u8) tEl57 tIsSl57 rfl rfl wants_none h.1 hh.1 (by simp) h.2.1 (.lst (rows_one one_encI_u8)) (map_snoc encI_u8 (a2 ++ (y8.map fun c => (c.toNat : Int))) ([10] : List Int)) (List.length_map ..) hc11 rfl (aops_nil ⟨rfl, rfl⟩)) rfl (vs 3 rfl .nil)))))) (by kernel_rfl) ?_
 replace h := Option.some.inj h
 subst h
 exact wE ⟨.inr rfl, [], (gr [0, 1, 3] rfl (hB rfl rfl rfl (hD rfl (hR rfl rfl .nil))) rfl), .nil⟩
theorem W10 (F : Nat) (a1 : TStory) (r : ((List UInt8) × Int)) (h : M10 F a1 = some r) : PureG (gl mx) Tryd.prog 10 [(V.agg (encTStory a1))] (V.tup [(sV (r.1)), (iV (r.2))]) := by
 refine pin (fun r => (V.tup [(sV (r.1)), (iV (r.2))])) r rfl Tryd.func10 rfl rfl rfl rfl rfl (fun w0 m0 hg => ?_)
 unfold M10 at h
 refine rn 10 rfl ?_
 refine cl h rfl rfl rfl (W16 _ _) rfl (fun y2 hx3 h => ?_)
 refine rn 7 rfl ?_
 refine spC h rfl (fun hb4 h => ?_) (fun hb4 h => ?_)
 ·refine rn 6 rfl ?_
  exact rt h rfl
 refine rn 8 rfl ?_
 refine awp_ghost (ghost_nilC 1 5 1 (Ob.arr 71 1 [[(V.own 2 0)]]) (ObSub.box (.cons Sub.mkNil .nil))) ?_
 obtain ⟨y5, hx6, h⟩ := bind_some h
 obtain ⟨y7, hx8, h⟩ := bind_some h
 refine awp_ghost ghost_res ?_
 refine fa ?_
 refine dr mixed (vs 5 rfl (cD rfl rfl rfl rfl (W22 _ _ _ hx6) rfl (xD (OD.mk [(22, (sV a1.Product)), (25, (sV y5))] [] [(26, (V.lst 1 (([([115, 116, 111, 114, 121] : List UInt8), a1.Product, y5] : List (List UInt8)).map encS)))] []) ⟨⟨rfl, rfl, trivial⟩, trivial⟩ (by exact fun S hn h hh => aops_buildSlice_imm [(0, (sV ([115, 116, 111, 114, 121] : List UInt8))), (1, (sV a1.Product)), (2, (sV y5))] [[(sV ([115, 116, 111, 114, 121] : List UInt8))], [(sV a1.Product)], [(sV y5)]] tEl35 tZ9 wants_none rfl rfl rfl rfl (evp_cons rfl (evp_cons h.1 (evp_cons h.2.1 evp_nil))) rfl rfl (by simp) (imms_rows (.cons (.cons (Imm.con _) .nil) (.cons (.cons (Imm.con _) .nil) (.cons (.cons (Imm.con _) .nil) .nil)))) rfl (aops_nil ⟨rfl, rfl⟩)) rfl (xD (OD.mk [(20, (V.ptr 1 1 0 0)), (26, (V.lst 1 (([([115, 116, 111, 114, 121] : List UInt8), a1.Product, y5] : List (List UInt8)).map encS)))] [(1, (Ob.arr 71 1 [[(V.own 2 0)]])), (2, (Ob.arr 5 1 (([] : List Int).map encI_u8))), (3, Ob.res)] [(27, (V.tup []))] [(1, (Ob.arr 71 1 [[(V.own 3 y7.length)]])), (2, Ob.dead), (3, (Ob.arr 5 1 (y7.map encI_u8)))]) ⟨⟨rfl, rfl, trivial⟩, ⟨rfl, rfl, rfl, trivial⟩⟩ (by exact fun S hn h hh => aops_mcall_atH [3] hn (List.forall_mem_cons.2 ⟨hh.2.2.1, (fun _ hx => nomatch hx)⟩) (V.tup []) [(V.ptr 1 1 0 0), (V.lst 1 (([([115, 116, 111, 114, 121] : List UInt8), a1.Product, y5] : List (List UInt8)).map encS))] (fun i => ([1, 2] : List Nat).getD i 0) (fun i => ([1, 2, 3] : List Nat).getD i 0) [(1, (Ob.arr 71 1 [[(V.own 3 y7.length)]])), (2, Ob.dead), (3, (Ob.arr 5 1 (y7.map encI_u8)))] fOk25 wants_none rfl (evm_cons h.1 (evm_cons h.2.1 evm_nil)) (.cons (Sub.ptr rfl rfl) (.cons (Sub.imm (Imm.lst _ _)) .nil)) (HpSub.consE (id := 0) rfl hh.1 (ObSub.box (.cons (Sub.ownE rfl rfl (by simp)) .nil)) (HpSub.consE (id := 1) rfl hh.2.1 (ObSub.rows (rows_imm imms_encI_u8)) .nil)) (W25 F ([([115, 116, 111, 114, 121] : List UInt8), a1.Product, y5] : List (List UInt8)) ([] : List Int) y7 hx8) rfl rfl rfl rfl (Sub.immT (Imm.tup .nil)) (.cons rfl (ObSub.box (.cons (Sub.ownT rfl rfl) .nil)) (.cons rfl ObSub.deadT (.cons rfl (ObSub.rowsT (rows_imm imms_encI_u8)) .nil))) (aops_nil ⟨rfl, rfl⟩)) rfl .nil)))) (by kernel_rfl) ?_
 refine rn 5 rfl ?_
 refine ln rfl rfl ?_
 refine rn 2 rfl ?_
 refine jK h (fun (p : (List Int)) => (⟨[(1, (V.ptr 0 4 0 0)), (5, (V.ptr 1 1 0 0))], [(0, (Ob.arr 25 4 [(encTStory a1)])), (1, (Ob.arr 71 1 [[(V.own 2 p.length)]])), (2, (Ob.arr 5 1 (p.map encI_u8)))], 3⟩ : St)) (fun k9 p => k9 p = some r) (fun k9 h => ?_) ?_
 ·refine rn 1 rfl ?_
  refine wl (A := a1.Releases) 29 rfl (fun hA38 => ?_)
  refine lC (fun (p : Int × (List Int)) => (⟨[(1, (V.ptr 0 4 0 0)), (5, (V.ptr 1 1 0 0)), (29, (V.lst 3 (a1.Releases.map encTRelease))), (30, (iV ((a1.Releases.length : Nat) : Int))), (31, (iV (p.1)))], [(0, (Ob.arr 25 4 [(encTStory a1)])), (1, (Ob.arr 71 1 [[(V.own 2 (p.2).length)]])), (2, (Ob.arr 5 1 ((p.2).map encI_u8)))], 3⟩ : St)) (fun n p => RG a1.Releases (fun tl nn => M10_L1 F k9 tl p.2 = some r) n p.1) (fun p h => RG.zero h) (a1.Releases.length + 1) (0, y7) (RG.start h) (gr [0, 1, 3] rfl (hB rfl rfl rfl (hB rfl rfl rfl (hR rfl rfl .nil))) rfl) (fun n p h => ?_)
  obtain ⟨n13, l14⟩ := p
  refine rn 5 rfl ?_
  refine spL rfl (fun hb15 => ?_) (fun hb15 => ?_)
  ·obtain ⟨x18, tl, hx19, h, hk1⟩ := RG.t hA38 h hb15
   unfold M10_L1 at h
   refine rn 2 rfl ?_
   refine jK h (fun (p : (List Int)) => (⟨[(1, (V.ptr 0 4 0 0)), (5, (V.ptr 1 1 0 0)), (29, (V.lst 3 (a1.Releases.map encTRelease))), (30, (iV ((a1.Releases.length : Nat) : Int))), (31, (iV n13))], [(0, (Ob.arr 25 4 [(encTStory a1)])), (1, (Ob.arr 71 1 [[(V.own 2 p.length)]])), (2, (Ob.arr 5 1 (p.map encI_u8)))], 3⟩ : St)) (fun k16 p => k16 p = some r) (fun k16 h => ?_) ?_
   ·refine rn 3 rfl ?_
    refine ixh hx19 rfl rfl ?_
    obtain ⟨y20, hx21, h⟩ := bind_some h
    obtain ⟨y22, hx23, h⟩ := bind_some h
    refine rn 5 rfl ?_
    refine awp_ghost ghost_res ?_
    refine fa ?_
    refine dr mixed (vs 5 rfl (cD rfl rfl rfl rfl (W22 _ _ _ hx21) rfl (xD (OD.mk [(37, (sV x18.Version)), (40, (sV y20))] [] [(41, (V.lst 1 (([([114, 101, 108, 101, 97, 115, 101] : List UInt8), x18.Version, y20] : List (List UInt8)).map encS)))] []) ⟨⟨rfl, rfl, trivial⟩, trivial⟩ (by exact fun S hn h hh => aops_buildSlice_imm [(0, (sV ([114, 101, 108, 101, 97, 115, 101] : List UInt8))), (1, (sV x18.Version)), (2, (sV y20))] [[(sV ([114, 101, 108, 101, 97, 115, 101] : List UInt8))], [(sV x18.Version)], [(sV y20)]] tEl35 tZ9 wants_none rfl rfl rfl rfl (evp_cons rfl (evp_cons h.1 (evp_cons h.2.1 evp_nil))) rfl rfl (by simp) (imms_rows (.cons (.cons (Imm.con _) .nil) (.cons (.cons (Imm.con _) .nil) (.cons (.cons (Imm.con _) .nil) .nil)))) rfl (aops_nil ⟨rfl, rfl⟩)) rfl (xD (OD.mk [(35, (V.ptr 1 1 0 0)), (41, (V.lst 1 (([([114, 101, 108, 101, 97, 115, 101] : List UInt8), x18.Version, y20] : List (List UInt8)).map encS)))] [(1, (Ob.arr 71 1 [[(V.own 2 l14.length)]])), (2, (Ob.arr 5 1 (l14.map encI_u8))), (4, Ob.res)] [(42, (V.tup []))] [(1, (Ob.arr 71 1 [[(V.own 4 y22.length)]])), (2, Ob.dead), (4, (Ob.arr 5 1 (y22.map encI_u8)))]) ⟨⟨rfl, rfl, trivial⟩, ⟨rfl, rfl, rfl, trivial⟩⟩ (by exact fun S hn h hh => aops_mcall_atH [4] hn (List.forall_mem_cons.2 ⟨hh.2.2.1, (fun _ hx => nomatch hx)⟩) (V.tup []) [(V.ptr 1 1 0 0), (V.lst 1 (([([114, 101, 108, 101, 97, 115, 101] : List UInt8), x18.Version, y20] : List (List UInt8)).map encS))] (fun i => ([1, 2] : List Nat).getD i 0) (fun i => ([1, 2, 4] : List Nat).getD i 0) [(1, (Ob.arr 71 1 [[(V.own 4 y22.length)]])), (2, Ob.dead), (4, (Ob.arr 5 1 (y22.map encI_u8)))] fOk25 wants_none rfl (evm_cons h.1 (evm_cons h.2.1 evm_nil)) (.cons (Sub.ptr rfl rfl) (.cons (Sub.imm (Imm.lst _ _)) .nil)) (HpSub.consE (id := 0) rfl hh.1 (ObSub.box (.cons (Sub.own rfl rfl) .nil)) (HpSub.consE (id := 1) rfl hh.2.1 (ObSub.rows (rows_imm imms_encI_u8)) .nil)) (W25 F ([([114, 101, 108, 101, 97, 115, 101] : List UInt8), x18.Version, y20] : List (List UInt8)) l14 y22 hx23) rfl rfl rfl rfl (Sub.immT (Imm.tup .nil)) (.cons rfl (ObSub.box (.cons (Sub.ownT rfl rfl) .nil)) (.cons rfl ObSub.deadT (.cons rfl (ObSub.rowsT (rows_imm imms_encI_u8)) .nil))) (aops_nil ⟨rfl, rfl⟩)) rfl .nil)))) (by kernel_rfl) ?_
    refine rn 4 rfl ?_
    refine ln rfl rfl ?_
    refine rn 2 rfl ?_
    refine jK h (fun (p : (List Int)) => (⟨[(1, (V.ptr 0 4 0 0)), (5, (V.ptr 1 1 0 0)), (29, (V.lst 3 (a1.Releases.map encTRelease))), (30, (iV ((a1.Releases.length : Nat) : Int))), (31, (iV n13))], [(0, (Ob.arr 25 4 [(encTStory a1)])), (1, (Ob.arr 71 1 [[(V.own 2 p.length)]])), (2, (Ob.arr 5 1 (p.map encI_u8)))], 3⟩ : St)) (fun k24 p => k24 p = some r) (fun k24 h => ?_) ?_
    ·refine rn 1 rfl ?_
     refine wl (A := x18.Exposures) 44 rfl (fun hA37 => ?_)
     refine lC (fun (p : Int × (List Int)) => (⟨[(1, (V.ptr 0 4 0 0)), (5, (V.ptr 1 1 0 0)), (29, (V.lst 3 (a1.Releases.map encTRelease))), (30, (iV ((a1.Releases.length : Nat) : Int))), (31, (iV n13)), (44, (V.lst 3 (x18.Exposures.map encTExposure))), (45, (iV ((x18.Exposures.length : Nat) : Int))), (46, (iV (p.1)))], [(0, (Ob.arr 25 4 [(encTStory a1)])), (1, (Ob.arr 71 1 [[(V.own 2 (p.2).length)]])), (2, (Ob.arr 5 1 ((p.2).map encI_u8)))], 3⟩ : St)) (fun n p => RG x18.Exposures (fun tl nn => M10_L2 F k24 tl p.2 = some r) n p.1) (fun p h => RG.zero h) (x18.Exposures.length + 1) (0, y22) (RG.start h) (gr [0, 1, 4] rfl (hB rfl rfl rfl (hB rfl rfl rfl (hR rfl rfl .nil))) rfl) (fun n p h => ?_)
     obtain ⟨n28, l29⟩ := p
     refine rn 5 rfl ?_
     refine spL rfl (fun hb30 => ?_) (fun hb30 => ?_)
     ·obtain ⟨x31, tl, hx32, h, hk2⟩ := RG.t hA37 h hb30
      unfold M10_L2 at h
      refine rn 5 rfl ?_
      refine ixh hx32 rfl rfl ?_
      obtain ⟨y33, hx34, h⟩ := bind_some h
      obtain ⟨y35, hx36, h⟩ := bind_some h
      refine rn 4 rfl ?_
      refine awp_ghost ghost_res ?_
      refine fa ?_
      refine dr mixed (vs 7 rfl (cD rfl rfl rfl rfl (W22 _ _ _ hx34) rfl (xD (OD.mk [(52, (sV x31.Advisory)), (54, (sV x31.Component)), (57, (sV y33))] [] [(58, (V.lst 1 (([([104, 97, 115] : List UInt8), x31.Advisory, x31.Component, y33] : List (List UInt8)).map encS)))] []) ⟨⟨rfl, rfl, rfl, trivial⟩, trivial⟩ (by exact fun S hn h hh => aops_buildSlice_imm [(0, (sV ([104, 97, 115] : List UInt8))), (1, (sV x31.Advisory)), (2, (sV x31.Component)), (3, (sV y33))] [[(sV ([104, 97, 115] : List UInt8))], [(sV x31.Advisory)], [(sV x31.Component)], [(sV y33)]] tEl35 tZ9 wants_none rfl rfl rfl rfl (evp_cons rfl (evp_cons h.1 (evp_cons h.2.1 (evp_cons h.2.2.1 evp_nil)))) rfl rfl (by simp) (imms_rows (.cons (.cons (Imm.con _) .nil) (.cons (.cons (Imm.con _) .nil) (.cons (.cons (Imm.con _) .nil) (.cons (.cons (Imm.con _) .nil) .nil))))) rfl (aops_nil ⟨rfl, rfl⟩)) rfl (xD (OD.mk [(50, (V.ptr 1 1 0 0)), (58, (V.lst 1 (([([104, 97, 115] : List UInt8), x31.Advisory, x31.Component, y33] : List (List UInt8)).map encS)))] [(1, (Ob.arr 71 1 [[(V.own 2 l29.length)]])), (2, (Ob.arr 5 1 (l29.map encI_u8))), (4, Ob.res)] [(59, (V.tup []))] [(1, (Ob.arr 71 1 [[(V.own 4 y35.length)]])), (2, Ob.dead), (4, (Ob.arr 5 1 (y35.map encI_u8)))]) ⟨⟨rfl, rfl, trivial⟩, ⟨rfl, rfl, rfl, trivial⟩⟩ (by exact fun S hn h hh => aops_mcall_atH [4] hn (List.forall_mem_cons.2 ⟨hh.2.2.1, (fun _ hx => nomatch hx)⟩) (V.tup []) [(V.ptr 1 1 0 0), (V.lst 1 (([([104, 97, 115] : List UInt8), x31.Advisory, x31.Component, y33] : List (List UInt8)).map encS))] (fun i => ([1, 2] : List Nat).getD i 0) (fun i => ([1, 2, 4] : List Nat).getD i 0) [(1, (Ob.arr 71 1 [[(V.own 4 y35.length)]])), (2, Ob.dead), (4, (Ob.arr 5 1 (y35.map encI_u8)))] fOk25 wants_none rfl (evm_cons h.1 (evm_cons h.2.1 evm_nil)) (.cons (Sub.ptr rfl rfl) (.cons (Sub.imm (Imm.lst _ _)) .nil)) (HpSub.consE (id := 0) rfl hh.1 (ObSub.box (.cons (Sub.own rfl rfl) .nil)) (HpSub.consE (id := 1) rfl hh.2.1 (ObSub.rows (rows_imm imms_encI_u8)) .nil)) (W25 F ([([104, 97, 115] : List UInt8), x31.Advisory, x31.Component, y33] : List (List UInt8)) l29 y35 hx36) rfl rfl rfl rfl (Sub.immT (Imm.tup .nil)) (.cons rfl (ObSub.box (.cons (Sub.ownT rfl rfl) .nil)) (.cons rfl ObSub.deadT (.cons rfl (ObSub.rowsT (rows_imm imms_encI_u8)) .nil))) (aops_nil ⟨rfl, rfl⟩)) rfl .nil)))) (by kernel_rfl) ?_
      refine rn 5 rfl ?_
      exact jX ((w64 (n28 + 1)), y35) (hk2 _ h) (gr [0, 1, 4] rfl (hB rfl rfl rfl (hB rfl rfl rfl (hR rfl rfl .nil))) rfl)
     replace h := RG.f h hb30
     unfold M10_L2 at h
     refine rn 1 rfl ?_
     exact jX l29 h (gr [0, 1, 2] rfl (hB rfl rfl rfl (hB rfl rfl rfl (hR rfl rfl .nil))) rfl)
    intro l25 h
    refine rn 1 rfl ?_
    exact jX l25 h (gr [0, 1, 2] rfl (hB rfl rfl rfl (hB rfl rfl rfl (hR rfl rfl .nil))) rfl)
   intro l17 h
   refine rn 4 rfl ?_
   exact jX ((w64 (n13 + 1)), l17) (hk1 _ h) (gr [0, 1, 2] rfl (hB rfl rfl rfl (hB rfl rfl rfl (hR rfl rfl .nil))) rfl)
  replace h := RG.f h hb15
  unfold M10_L1 at h
  refine rn 1 rfl ?_
  exact jX l14 h (gr [0, 1, 2] rfl (hB rfl rfl rfl (hB rfl rfl rfl (hR rfl rfl .nil))) rfl)
 intro l10 h
 refine rn 5 rfl ?_
 refine ln rfl rfl ?_
 refine rn 2 rfl ?_
 refine jK h (fun (p : (List Int)) => (⟨[(5, (V.ptr 0 1 0 0))], [(0, (Ob.arr 71 1 [[(V.own 1 p.length)]])), (1, (Ob.arr 5 1 (p.map encI_u8)))], 2⟩ : St)) (fun k39 p => k39 p = some r) (fun k39 h => ?_) ?_
 ·refine rn 1 rfl ?_
  refine wl (A := a1.Known) 63 rfl (fun hA58 => ?_)
  refine lC (fun (p : Int × (List Int)) => (⟨[(5, (V.ptr 0 1 0 0)), (63, (V.lst 3 (a1.Known.map encTPublished))), (64, (iV ((a1.Known.length : Nat) : Int))), (65, (iV (p.1)))], [(0, (Ob.arr 71 1 [[(V.own 1 (p.2).length)]])), (1, (Ob.arr 5 1 ((p.2).map encI_u8)))], 2⟩ : St)) (fun n p => RG a1.Known (fun tl nn => M10_L3 F k39 tl p.2 = some r) n p.1) (fun p h => RG.zero h) (a1.Known.length + 1) (0, l10) (RG.start h) (gr [1, 2] rfl (hB rfl rfl rfl (hR rfl rfl .nil)) rfl) (fun n p h => ?_)
  obtain ⟨n43, l44⟩ := p
  refine rn 5 rfl ?_
  refine spL rfl (fun hb45 => ?_) (fun hb45 => ?_)
  ·obtain ⟨x46, tl, hx47, h, hk3⟩ := RG.t hA58 h hb45
   unfold M10_L3 at h
   refine rn 5 rfl ?_
   refine ixh hx47 rfl rfl ?_
   obtain ⟨y48, hx49, h⟩ := bind_some h
   refine rn 5 rfl ?_
   refine awp_ghost ghost_res ?_
   refine fa ?_
   refine dr mixed (vs 4 rfl (cD rfl rfl rfl rfl (W22 _ _ _ hx49) rfl (xD (OD.mk [(70, (sV x46.Advisory)), (73, (sV y48))] [(3, Ob.res)] [(74, (V.own 3 3))] [(3, (Ob.arr 9 1 [[(sV ([107, 110, 111, 119, 110] : List UInt8))], [(sV x46.Advisory)], [(sV y48)]]))]) ⟨⟨rfl, rfl, trivial⟩, ⟨rfl, trivial⟩⟩ (by exact fun S hn h hh => aops_buildSlice_at 3 rfl hn hh.1 [(0, (sV ([107, 110, 111, 119, 110] : List UInt8))), (1, (sV x46.Advisory)), (2, (sV y48))] [[(sV ([107, 110, 111, 119, 110] : List UInt8))], [(sV x46.Advisory)], [(sV y48)]] tEl35 tZ9 wants_none rfl rfl rfl rfl (evp_cons rfl (evp_cons h.1 (evp_cons h.2.1 evp_nil))) rfl rfl (by simp) rfl (aops_nil ⟨rfl, rfl⟩)) rfl (vs 1 rfl .nil)))) (by kernel_rfl) ?_
   refine rn 7 rfl ?_
   refine jK h (fun (p : (List (List UInt8))) => (⟨[(5, (V.ptr 0 1 0 0)), (12, (V.own 1 p.length)), (63, (V.lst 3 (a1.Known.map encTPublished))), (64, (iV ((a1.Known.length : Nat) : Int))), (65, (iV n43))], [(0, (Ob.arr 71 1 [[(V.own 2 l44.length)]])), (1, (Ob.arr 9 1 (p.map encS))), (2, (Ob.arr 5 1 (l44.map encI_u8)))], 3⟩ : St)) (fun k50 p => k50 p = some r) (fun k50 h => ?_) ?_
   ·refine spC h rfl (fun hb52 h => ?_) (fun hb52 h => ?_)
    ·refine rn 4 rfl ?_
     refine cl h rfl rfl rfl (W22 _ _) rfl (fun y53 hx54 h => ?_)
     refine aops_buildSlice [(0, (sV y53))] [[(sV y53)]] tEl35 tZ9 rfl rfl rfl rfl wants_none (evp_cons rfl evp_nil) rfl rfl (by simp) rfl ?_
     refine fo ?_
     refine apO encS h rfl rfl rfl (by simp) rfl rfl rfl rfl (fun h => ?_)
     refine rn 2 rfl ?_
     exact jX (([([107, 110, 111, 119, 110] : List UInt8), x46.Advisory, y48] : List (List UInt8)) ++ ([y53] : List (List UInt8))) h (gr [0, 5, 1] rfl (hB rfl rfl rfl (hR rfl rfl (hR rfl rfl .nil))) rfl)
    refine rn 1 rfl ?_
    exact jX ([([107, 110, 111, 119, 110] : List UInt8), x46.Advisory, y48] : List (List UInt8)) h (ghost_ren 3 (fun i => ([0, 3, 1] : List Nat).getD i 0) _ _ (by decide) (EnvSub.get (.cons (Sub.ptr rfl rfl) (.cons (Sub.ownE rfl rfl (by simp)) (.cons (Sub.imm (Imm.lst _ _)) (.cons (Sub.imm (Imm.con _)) (.cons (Sub.imm (Imm.con _)) .nil)))))) (HpSub.get (.cons rfl (ObSub.box (.cons (Sub.own rfl rfl) .nil)) (.cons rfl (ObSub.rows (rows_imm imms_encS)) (.cons rfl (ObSub.rows (rows_imm imms_encI_u8)) .nil)))) rfl)
   intro l51 h
   obtain ⟨y56, hx57, h⟩ := bind_some h
   refine rn 3 rfl ?_
   refine aops_ghost (ghost_frzE 1 85 rfl (rows_imm imms_encS) rfl (List.length_map ..).symm) ?_
   refine aops_mcallS (V.tup []) [(V.ptr 0 1 0 0), (V.lst 1 (l51.map encS))] (fun i => ([0, 2] : List Nat).getD i 0) (fun i => ([0, 2, 3] : List Nat).getD i 0) 3 4 [(0, (Ob.arr 71 1 [[(V.own 3 y56.length)]])), (2, Ob.dead), (3, (Ob.arr 5 1 (y56.map encI_u8)))] fOk25 wants_none rfl (evm_cons rfl (evm_cons rfl evm_nil)) (.cons (Sub.ptr rfl rfl) (.cons (Sub.imm (Imm.lst _ _)) .nil)) (.cons rfl (ObSub.box (.cons (Sub.own rfl rfl) .nil)) (.cons rfl (ObSub.rows (rows_imm imms_encI_u8)) .nil)) (W25 F l51 l44 y56 hx57) rfl rfl rfl rfl (Sub.immT (Imm.tup .nil)) (.cons rfl (ObSub.box (.cons (Sub.ownT rfl rfl) .nil)) (.cons rfl ObSub.deadT (.cons rfl (ObSub.rowsT (rows_imm imms_encI_u8)) .nil))) _ rfl ?_
   refine fo (rn 6 rfl ?_)
   exact jX ((w64 (n43 + 1)), y56) (hk3 _ h) (gr [0, 3] rfl (hB rfl rfl rfl (hR rfl rfl .nil)) rfl)
  replace h := RG.f h hb45
  unfold M10_L3 at h
  refine rn 1 rfl ?_
  exact jX l44 h (gr [0, 1] rfl (hB rfl rfl rfl (hR rfl rfl .nil)) rfl)
 intro l40 h
 refine rn 10 rfl ?_
 refine spC h rfl (fun hb59 h => ?_) (fun hb59 h => ?_)
 ·refine rn 5 rfl ?_
  exact rt h rfl
 refine rn 7 rfl ?_
 refine aops_ghost (ghost_frzE 1 97 rfl (rows_imm imms_encI_u8) rfl (List.length_map ..).symm) ?_
 refine aops_bytesStr l40 tBy57 tStr9 wants_none rfl rfl ?_
 refine fo (rn 3 rfl ?_)
 exact rt h rfl
theorem W52 (F : Nat) (a1 : (List Int)) (a2 : Int) (r : Int) (h : M52 F a1 a2 = some r) : PureG (gl mx) Tryd.prog 52 [(V.lst 1 (a1.map encI_i64)), (iV a2)] (iV r) := by
 refine pin (fun r => (iV r)) r rfl Tryd.func52 rfl rfl rfl rfl rfl (fun w0 m0 hg => ?_)
 unfold M52 at h
 refine rn 8 rfl ?_
 refine ln rfl rfl ?_
 refine rn 2 rfl ?_
 refine jK h (fun _ : Unit => (⟨[], [], 0⟩ : St)) (fun k3 (_ : Unit) => k3 = some r) (fun k3 h => ?_) ?_
 ·refine rn 1 rfl ?_
  refine wl (A := a1) 0 rfl (fun hA16 => ?_)
  refine lC (fun (p : Int) => (⟨[(0, (V.lst 1 (a1.map encI_i64))), (1, (iV a2)), (7, (V.lst 1 (a1.map encI_i64))), (8, (iV ((a1.length : Nat) : Int))), (9, (iV p))], [], 0⟩ : St)) (fun n p => RG a1 (fun tl nn => M52_L1 F a1 a2 k3 tl nn = some r) n p) (fun p h => RG.zero h) (a1.length + 1) 0 (RG.start h) (g0 rfl rfl) (fun n n5 h => ?_)
  refine rn 5 rfl ?_
  refine spL rfl (fun hb6 => ?_) (fun hb6 => ?_)
  ·obtain ⟨x7, tl, hx8, h, hk1⟩ := RG.t hA16 h hb6
   unfold M52_L1 at h
   refine rn 6 rfl ?_
   refine ixh hx8 rfl rfl ?_
   refine rn 10 rfl ?_
   refine spO 17 h rfl (fun hb9 h => ?_) (fun hb9 h => ?_)
   ·refine rn 11 rfl ?_
    exact rt h rfl
   refine rn 6 rfl ?_
   refine jK h (fun _ : Unit => (⟨[(0, (V.lst 1 (a1.map encI_i64))), (1, (iV a2)), (7, (V.lst 1 (a1.map encI_i64))), (8, (iV ((a1.length : Nat) : Int))), (9, (iV n5)), (20, (bV (decide (x7 > a2))))], [], 0⟩ : St)) (fun k10 (_ : Unit) => k10 = some r) (fun k10 h => ?_) ?_
   ·refine spC h rfl (fun hb11 h => ?_) (fun hb11 h => ?_)
    ·refine rn 4 rfl ?_
     exact rt h rfl
    refine rn 5 rfl ?_
    refine spO 25 h rfl (fun hb12 h => ?_) (fun hb12 h => ?_)
    ·refine rn 4 rfl ?_
     refine ixl h rfl rfl (fun x13 hx14 h => ?_)
     refine rn 5 rfl ?_
     refine spC h rfl (fun hb15 h => ?_) (fun hb15 h => ?_)
     ·refine rn 4 rfl ?_
      exact rt h rfl
     refine rn 1 rfl ?_
     exact jX () h (g0 rfl rfl)
    refine rn 12 rfl ?_
    exact jX () h (g0 rfl rfl)
   intro _ h
   refine rn 6 rfl ?_
   exact jX (w64 (n5 + 1)) (hk1 _ h) (g0 rfl rfl)
  replace h := RG.f h hb6
  unfold M52_L1 at h
  refine rn 1 rfl ?_
  exact jX () h (g0 rfl rfl)
 intro _ h
 refine rn 4 rfl ?_
 exact rt h rfl
theorem W40 (F : Nat) (a1 : TCalendar) (r : Int) (h : M40 F a1 = some r) : PureG (gl mx) Tryd.prog 40 [(V.agg (encTCalendar a1))] (iV r) := by
 refine pin (fun r => (iV r)) r rfl Tryd.func40 rfl rfl rfl rfl rfl (fun w0 m0 hg => ?_)
 unfold M40 at h
 refine rn 10 rfl ?_
 refine ln rfl rfl ?_
 refine rn 2 rfl ?_
 refine spO 8 h rfl (fun hb2 h => ?_) (fun hb2 h => ?_)
 ·refine rn 11 rfl ?_
  exact rt h rfl
 refine rn 2 rfl ?_
 refine ln rfl rfl ?_
 refine rn 3 rfl ?_
 refine spC h rfl (fun hb3 h => ?_) (fun hb3 h => ?_)
 ·refine rn 4 rfl ?_
  exact rt h rfl
 refine rn 6 rfl ?_
 refine cl h rfl rfl rfl (W52 _ _ _) rfl (fun y4 hx5 h => ?_)
 refine rn 7 rfl ?_
 refine spC h rfl (fun hb6 h => ?_) (fun hb6 h => ?_)
 ·refine rn 5 rfl ?_
  exact rt h rfl
 refine rn 5 rfl ?_
 refine cl h rfl rfl rfl (W52 _ _ _) rfl (fun y7 hx8 h => ?_)
 refine rn 2 rfl ?_
 exact rt h rfl
theorem W41 (F : Nat) (a1 : TCalendar) (r : Thistory_week) (h : M41 F a1 = some r) : PureG (gl mx) Tryd.prog 41 [(V.agg (encTCalendar a1))] (V.agg [(bV (r.free 0)), (bV (r.free 1)), (bV (r.free 2)), (bV (r.free 3)), (bV (r.free 4)), (bV (r.free 5)), (bV (r.free 6)), (iV r.work), (V.lst 1 (r.holidays.map encI_i64))]) := by
 refine pin (fun r => (V.agg [(bV (r.free 0)), (bV (r.free 1)), (bV (r.free 2)), (bV (r.free 3)), (bV (r.free 4)), (bV (r.free 5)), (bV (r.free 6)), (iV r.work), (V.lst 1 (r.holidays.map encI_i64))])) r rfl Tryd.func41 rfl rfl rfl rfl rfl (fun w0 m0 hg => ?_)
 unfold M41 at h
 refine rn 9 rfl ?_
 refine ln rfl rfl ?_
 refine rn 10 rfl ?_
 refine ln rfl rfl ?_
 refine rn 2 rfl ?_
 refine jK h (fun (p : (Nat → Bool)) => (⟨[(1, (V.ptr 0 2 0 0)), (2, (V.ptr 1 9 0 0)), (3, (V.ptr 2 9 0 0))], [(0, (Ob.arr 55 2 [(encTCalendar a1)])), (1, (Ob.arr 85 9 [[(bV false), (bV false), (bV false), (bV false), (bV false), (bV false), (bV false), (iV 0), nV]])), (2, (Ob.arr 85 9 [[(bV (p 0)), (bV (p 1)), (bV (p 2)), (bV (p 3)), (bV (p 4)), (bV (p 5)), (bV (p 6)), (iV (w64 (7 - ((a1.Free.length : Nat) : Int)))), nV]]))], 3⟩ : St)) (fun k2 p => k2 p = some r) (fun k2 h => ?_) ?_
 ·refine rn 1 rfl ?_
  refine wl (A := a1.Free) 9 rfl (fun hA12 => ?_)
  refine lC (fun (p : Int × (Nat → Bool)) => (⟨[(1, (V.ptr 0 2 0 0)), (2, (V.ptr 1 9 0 0)), (3, (V.ptr 2 9 0 0)), (14, (V.lst 1 (a1.Free.map encI_i64))), (15, (iV ((a1.Free.length : Nat) : Int))), (16, (iV (p.1)))], [(0, (Ob.arr 55 2 [(encTCalendar a1)])), (1, (Ob.arr 85 9 [[(bV false), (bV false), (bV false), (bV false), (bV false), (bV false), (bV false), (iV 0), nV]])), (2, (Ob.arr 85 9 [[(bV ((p.2) 0)), (bV ((p.2) 1)), (bV ((p.2) 2)), (bV ((p.2) 3)), (bV ((p.2) 4)), (bV ((p.2) 5)), (bV ((p.2) 6)), (iV (w64 (7 - ((a1.Free.length : Nat) : Int)))), nV]]))], 3⟩ : St)) (fun n p => RG a1.Free (fun tl nn => M41_L1 F k2 tl p.2 = some r) n p.1) (fun p h => RG.zero h) (a1.Free.length + 1) (0, (fun _ => false)) (RG.start h) (gr [0, 1, 2] rfl (hB rfl rfl rfl (hB rfl rfl rfl (hB rfl rfl rfl .nil))) rfl) (fun n p h => ?_)
  obtain ⟨n6, f7⟩ := p
  refine rn 5 rfl ?_
  refine spL rfl (fun hb8 => ?_) (fun hb8 => ?_)
  ·obtain ⟨x9, tl, hx10, h, hk1⟩ := RG.t hA12 h hb8
   unfold M41_L1 at h
   refine rn 5 rfl ?_
   refine ixh hx10 rfl rfl ?_
   refine rn 6 rfl ?_
   refine ck h (fun hc11 h => ?_)
   refine aops_index_arr tArr83 wants_none rfl rfl hc11.1 hc11.2 rfl ?_
   refine aops_store [(bV true)] [[(bV ((upd f7 x9.toNat true) 0)), (bV ((upd f7 x9.toNat true) 1)), (bV ((upd f7 x9.toNat true) 2)), (bV ((upd f7 x9.toNat true) 3)), (bV ((upd f7 x9.toNat true) 4)), (bV ((upd f7 x9.toNat true) 5)), (bV ((upd f7 x9.toNat true) 6)), (iV (w64 (7 - ((a1.Free.length : Nat) : Int)))), nV]] tS4 wants_none rfl rfl rfl rfl rfl rfl (arr_ble hc11.2 (by simp)) (congrArg (fun r => [r]) (arr_set [] [(iV (w64 (7 - ((a1.Free.length : Nat) : Int)))), nV] (fun x => (bV x)) f7 true hc11.2 rfl (by simp))) ?_
   refine fo (rn 6 rfl ?_)
   exact jX ((w64 (n6 + 1)), (upd f7 x9.toNat true)) (hk1 _ h) (gr [0, 1, 2] rfl (hB rfl rfl rfl (hB rfl rfl rfl (hB rfl rfl rfl .nil))) rfl)
  replace h := RG.f h hb8
  unfold M41_L1 at h
  refine rn 1 rfl ?_
  exact jX f7 h (gr [0, 1, 2] rfl (hB rfl rfl rfl (hB rfl rfl rfl (hB rfl rfl rfl .nil))) rfl)
 intro f3 h
 refine rn 5 rfl ?_
 refine ln rfl rfl ?_
 refine rn 2 rfl ?_
 refine jK h (fun (p : (List Int)) => (⟨[(2, (V.ptr 0 9 0 0)), (3, (V.ptr 1 9 0 0))], [(0, (Ob.arr 85 9 [[(bV false), (bV false), (bV false), (bV false), (bV false), (bV false), (bV false), (iV 0), nV]])), (1, (Ob.arr 85 9 [[(bV (f3 0)), (bV (f3 1)), (bV (f3 2)), (bV (f3 3)), (bV (f3 4)), (bV (f3 5)), (bV (f3 6)), (iV (w64 (7 - ((a1.Free.length : Nat) : Int)))), (V.own 2 p.length)]])), (2, (Ob.arr 3 1 (p.map encI_i64)))], 3⟩ : St)) (fun k13 p => k13 p = some r) (fun k13 h => ?_) ?_
 ·refine rn 1 rfl ?_
  refine wl (A := a1.Holidays) 25 rfl (fun hA27 => ?_)
  refine lC (fun (p : Int × (List Int)) => (⟨[(2, (V.ptr 0 9 0 0)), (3, (V.ptr 1 9 0 0)), (25, (V.lst 1 (a1.Holidays.map encI_i64))), (26, (iV ((a1.Holidays.length : Nat) : Int))), (27, (iV (p.1)))], [(0, (Ob.arr 85 9 [[(bV false), (bV false), (bV false), (bV false), (bV false), (bV false), (bV false), (iV 0), nV]])), (1, (Ob.arr 85 9 [[(bV (f3 0)), (bV (f3 1)), (bV (f3 2)), (bV (f3 3)), (bV (f3 4)), (bV (f3 5)), (bV (f3 6)), (iV (w64 (7 - ((a1.Free.length : Nat) : Int)))), (V.own 2 (p.2).length)]])), (2, (Ob.arr 3 1 ((p.2).map encI_i64)))], 3⟩ : St)) (fun n p => RG a1.Holidays (fun tl nn => M41_L2 F f3 k13 tl p.2 = some r) n p.1) (fun p h => RG.zero h) (a1.Holidays.length + 1) (0, ([] : List Int)) (RG.start h) (Ghost.trans (ghost_nilC 2 3 1 (Ob.arr 85 9 [[(bV (f3 0)), (bV (f3 1)), (bV (f3 2)), (bV (f3 3)), (bV (f3 4)), (bV (f3 5)), (bV (f3 6)), (iV (w64 (7 - ((a1.Free.length : Nat) : Int)))), (V.own 3 0)]]) (ObSub.box (.cons Sub.keepNil (.cons Sub.keepNil (.cons Sub.keepNil (.cons Sub.keepNil (.cons Sub.keepNil (.cons Sub.keepNil (.cons Sub.keepNil (.cons Sub.keepNil (.cons Sub.mkNil .nil))))))))))) (ghost_ren 3 (fun i => ([1, 2, 3] : List Nat).getD i 0) _ _ (by decide) (EnvSub.get (.cons (Sub.ptr rfl rfl) (.cons (Sub.ptr rfl rfl) (.cons (Sub.imm (Imm.lst _ _)) (.cons (Sub.imm (Imm.con _)) (.cons (Sub.imm (Imm.con _)) .nil)))))) (HpSub.get (.cons rfl (ObSub.box (.cons (Sub.imm (Imm.con _)) (.cons (Sub.imm (Imm.con _)) (.cons (Sub.imm (Imm.con _)) (.cons (Sub.imm (Imm.con _)) (.cons (Sub.imm (Imm.con _)) (.cons (Sub.imm (Imm.con _)) (.cons (Sub.imm (Imm.con _)) (.cons (Sub.imm (Imm.con _)) (.cons (Sub.imm (Imm.con _)) .nil)))))))))) (.cons rfl (ObSub.box (.cons (Sub.imm (Imm.con _)) (.cons (Sub.imm (Imm.con _)) (.cons (Sub.imm (Imm.con _)) (.cons (Sub.imm (Imm.con _)) (.cons (Sub.imm (Imm.con _)) (.cons (Sub.imm (Imm.con _)) (.cons (Sub.imm (Imm.con _)) (.cons (Sub.imm (Imm.con _)) (.cons (Sub.ownE rfl rfl (by simp)) .nil)))))))))) (.cons rfl (ObSub.rows (rows_imm imms_encI_i64)) .nil)))) rfl)) (fun n p h => ?_)
  obtain ⟨n17, l18⟩ := p
  refine rn 5 rfl ?_
  refine spL rfl (fun hb19 => ?_) (fun hb19 => ?_)
  ·obtain ⟨x20, tl, hx21, h, hk2⟩ := RG.t hA27 h hb19
   unfold M41_L2 at h
   refine rn 5 rfl ?_
   refine ixh hx21 rfl rfl ?_
   refine rn 8 rfl ?_
   refine ck h (fun hc22 h => ?_)
   refine aops_index_arr tArr83 wants_none rfl rfl hc22.1 hc22.2 rfl ?_
   refine aops_load_cell (bV (f3 (Int.tmod x20 7).toNat)) tC4 wants_none rfl rfl rfl (arr_get [] [(iV (w64 (7 - ((a1.Free.length : Nat) : Int)))), (V.own 2 l18.length)] (fun i => (bV (f3 i))) hc22.2 rfl (by simp)) rfl rfl ?_
   refine fo (rn 2 rfl ?_)
   refine jK h (fun (p : (List Int)) => (⟨[(2, (V.ptr 0 9 0 0)), (3, (V.ptr 1 9 0 0)), (25, (V.lst 1 (a1.Holidays.map encI_i64))), (26, (iV ((a1.Holidays.length : Nat) : Int))), (27, (iV n17))], [(0, (Ob.arr 85 9 [[(bV false), (bV false), (bV false), (bV false), (bV false), (bV false), (bV false), (iV 0), nV]])), (1, (Ob.arr 85 9 [[(bV (f3 0)), (bV (f3 1)), (bV (f3 2)), (bV (f3 3)), (bV (f3 4)), (bV (f3 5)), (bV (f3 6)), (iV (w64 (7 - ((a1.Free.length : Nat) : Int)))), (V.own 2 p.length)]])), (2, (Ob.arr 3 1 (p.map encI_i64)))], 3⟩ : St)) (fun k23 p => k23 p = some r) (fun k23 h => ?_) ?_
   ·refine spC h rfl (fun hb25 h => ?_) (fun hb25 h => ?_)
    ·refine rn 4 rfl ?_
     refine aops_buildSlice [(0, (iV x20))] [[(iV x20)]] tEl39 tZ3 rfl rfl rfl rfl wants_none (evp_cons rfl evp_nil) rfl rfl (by simp) rfl ?_
     refine fo ?_
     refine apO encI_i64 h rfl rfl rfl rfl rfl rfl rfl rfl (fun h => ?_)
     refine rn 3 rfl ?_
     exact jX (l18 ++ ([x20] : List Int)) h (gr [0, 1, 4] rfl (hB rfl rfl rfl (hB rfl rfl rfl (hR rfl rfl .nil))) rfl)
    refine rn 1 rfl ?_
    exact jX l18 h (gr [0, 1, 2] rfl (hB rfl rfl rfl (hB rfl rfl rfl (hR rfl rfl .nil))) rfl)
   intro l24 h
   refine rn 5 rfl ?_
   exact jX ((w64 (n17 + 1)), l24) (hk2 _ h) (gr [0, 1, 2] rfl (hB rfl rfl rfl (hB rfl rfl rfl (hR rfl rfl .nil))) rfl)
  replace h := RG.f h hb19
  unfold M41_L2 at h
  refine rn 1 rfl ?_
  exact jX l18 h (gr [0, 1, 2] rfl (hB rfl rfl rfl (hB rfl rfl rfl (hR rfl rfl .nil))) rfl)
 intro l14 h
 refine rn 5 rfl ?_
 refine awp_ghost (ghost_frzC 2 0 (Ob.arr 85 9 [[(bV (f3 0)), (bV (f3 1)), (bV (f3 2)), (bV (f3 3)), (bV (f3 4)), (bV (f3 5)), (bV (f3 6)), (iV (w64 (7 - ((a1.Free.length : Nat) : Int)))), (V.lst 1 (l14.map encI_i64))]]) rfl (rows_imm imms_encI_i64) (ObSub.box (.cons Sub.keep (.cons Sub.keep (.cons Sub.keep (.cons Sub.keep (.cons Sub.keep (.cons Sub.keep (.cons Sub.keep (.cons Sub.keep (.cons (Sub.frzAll (rows := l14.map encI_i64) (List.length_map ..).symm) .nil))))))))))) ?_
 refine fa ?_
 exact rt h rfl
theorem W84 (F : Nat) (a1 : Int) (r : Bool) (h : M84 F a1 = some r) : PureG (gl mx) Tryd.prog 84 [(iV a1)] (bV r) := by
 refine pin (fun r => (bV r)) r rfl Tryd.func84 rfl rfl rfl rfl rfl (fun w0 m0 hg => ?_)
 unfold M84 at h
 refine rn 11 rfl ?_
 exact rt h rfl
theorem W65 (F : Nat) (a1 : Int) (a2 : Int) (r : Bool) (h : M65 F a1 a2 = some r) : PureG (gl mx) Tryd.prog 65 [(iV a1), (iV a2)] (bV r) := by
 refine pin (fun r => (bV r)) r rfl Tryd.func65 rfl rfl rfl rfl rfl (fun w0 m0 hg => ?_)
 unfold M65 at h
 refine rn 7 rfl ?_
 refine cl h rfl rfl rfl (W84 _ _) rfl (fun y3 hx4 h => ?_)
 refine rn 1 rfl ?_
 refine spO 7 h rfl (fun hb5 h => ?_) (fun hb5 h => ?_)
 ·refine rn 1 rfl ?_
  refine cl h rfl rfl rfl (W84 _ _) rfl (fun y6 hx7 h => ?_)
  refine rn 3 rfl ?_
  refine spO 12 h rfl (fun hb8 h => ?_) (fun hb8 h => ?_)
  ·refine rn 6 rfl ?_
   exact rt h rfl
  refine rn 6 rfl ?_
  exact rt h rfl
 refine rn 11 rfl ?_
 exact rt h rfl
theorem W66 (F : Nat) (a1 : Int) (r : Bool) (h : M66 F a1 = some r) : PureG (gl mx) Tryd.prog 66 [(iV a1)] (bV r) := by
 refine pin (fun r => (bV r)) r rfl Tryd.func66 rfl rfl rfl rfl rfl (fun w0 m0 hg => ?_)
 unfold M66 at h
 refine rn 11 rfl ?_
 exact rt h rfl
theorem W53 (F : Nat) (a1 : (List Int)) (a2 : Int) (r : (Int × Bool)) (h : M53 F a1 a2 = some r) : PureG (gl mx) Tryd.prog 53 [(V.lst 1 (a1.map encI_i64)), (iV a2)] (V.tup [(iV (r.1)), (bV (r.2))]) := by
 refine pin (fun r => (V.tup [(iV (r.1)), (bV (r.2))])) r rfl Tryd.func53 rfl rfl rfl rfl rfl (fun w0 m0 hg => ?_)
 unfold M53 at h
 refine rn 8 rfl ?_
 refine ln rfl rfl ?_
 refine rn 9 rfl ?_
 refine jK h (fun (p : Int) => (⟨[(0, (V.lst 1 (a1.map encI_i64))), (1, (iV a2)), (6, (iV ((a1.length : Nat) : Int))), (7, (iV p))], [], 0⟩ : St)) (fun k3 p => k3 p = some r) (fun k3 h => ?_) ?_
 ·refine rn 1 rfl ?_
  refine lC (fun (p : Int × Int) => (⟨[(0, (V.lst 1 (a1.map encI_i64))), (1, (iV a2)), (6, (iV ((a1.length : Nat) : Int))), (7, (iV (p.1))), (8, (iV (p.2)))], [], 0⟩ : St)) (fun n p => M53_L1 F a1 a2 k3 n p.1 p.2 = some r) (fun p h => by simp [M53_L1] at h) F (0, ((a1.length : Nat) : Int)) h (g0 rfl rfl) (fun n p h => ?_)
  obtain ⟨n7, n8⟩ := p
  unfold M53_L1 at h
  refine rn 7 rfl ?_
  refine spC h rfl (fun hb9 h => ?_) (fun hb9 h => ?_)
  ·refine rn 16 rfl ?_
   refine ixl h rfl rfl (fun x10 hx11 h => ?_)
   refine rn 2 rfl ?_
   refine cl h rfl rfl rfl (W65 _ _ _) rfl (fun y12 hx13 h => ?_)
   refine rn 1 rfl ?_
   refine jK h (fun (p : Int × Int) => (⟨[(0, (V.lst 1 (a1.map encI_i64))), (1, (iV a2)), (6, (iV ((a1.length : Nat) : Int))), (7, (iV (p.1))), (8, (iV (p.2)))], [], 0⟩ : St)) (fun k14 p => k14 p.1 p.2 = some r) (fun k14 h => ?_) ?_
   ·refine spC h rfl (fun hb17 h => ?_) (fun hb17 h => ?_)
    ·refine rn 5 rfl ?_
     exact jX ((w64 ((w64 (Int.fdiv (IntKind.wrap .u64 (w64 (n7 + n8))) (2 ^ (min (Int.toNat 1) (IntKind.bits .u64))))) + 1)), n8) h (g0 rfl rfl)
    refine rn 4 rfl ?_
    exact jX (n7, (w64 (Int.fdiv (IntKind.wrap .u64 (w64 (n7 + n8))) (2 ^ (min (Int.toNat 1) (IntKind.bits .u64)))))) h (g0 rfl rfl)
   rintro ⟨n15, n16⟩ h
   refine rn 1 rfl ?_
   exact jX (n15, n16) h (g0 rfl rfl)
  refine rn 1 rfl ?_
  exact jX n7 h (g0 rfl rfl)
 intro n4 h
 refine rn 7 rfl ?_
 refine spO 35 h rfl (fun hb18 h => ?_) (fun hb18 h => ?_)
 ·refine rn 2 rfl ?_
  refine ixl h rfl rfl (fun x19 hx20 h => ?_)
  refine rn 4 rfl ?_
  refine spO 42 h rfl (fun hb21 h => ?_) (fun hb21 h => ?_)
  ·refine rn 14 rfl ?_
   exact rt h rfl
  refine rn 2 rfl ?_
  refine ixl h rfl rfl (fun x22 hx23 h => ?_)
  refine rn 1 rfl ?_
  refine cl h rfl rfl rfl (W66 _ _) rfl (fun y24 hx25 h => ?_)
  refine rn 1 rfl ?_
  refine spO 48 h rfl (fun hb26 h => ?_) (fun hb26 h => ?_)
  ·refine rn 1 rfl ?_
   refine cl h rfl rfl rfl (W66 _ _) rfl (fun y27 hx28 h => ?_)
   refine rn 6 rfl ?_
   exact rt h rfl
  refine rn 8 rfl ?_
  exact rt h rfl
 refine rn 21 rfl ?_
 exact rt h rfl
theorem W42 (F : Nat) (a1 : Thistory_week) (a2 : Int) (r : Int) (h : M42 F a1 a2 = some r) : PureG (gl mx) Tryd.prog 42 [(V.agg [(bV (a1.free 0)), (bV (a1.free 1)), (bV (a1.free 2)), (bV (a1.free 3)), (bV (a1.free 4)), (bV (a1.free 5)), (bV (a1.free 6)), (iV a1.work), (V.lst 1 (a1.holidays.map encI_i64))]), (iV a2)] (iV r) := by
 refine pin (fun r => (iV r)) r rfl Tryd.func42 rfl rfl rfl rfl rfl (fun w0 m0 hg => ?_)
 unfold M42 at h
 refine rn 21 rfl ?_
 refine jK h (fun (p : Int) => (⟨[(1, (iV a2)), (2, (V.ptr 0 9 0 0)), (5, (iV p))], [(0, (Ob.arr 85 9 [[(bV (a1.free 0)), (bV (a1.free 1)), (bV (a1.free 2)), (bV (a1.free 3)), (bV (a1.free 4)), (bV (a1.free 5)), (bV (a1.free 6)), (iV a1.work), (V.lst 1 (a1.holidays.map encI_i64))]]))], 1⟩ : St)) (fun k3 p => k3 p = some r) (fun k3 h => ?_) ?_
 ·refine rn 1 rfl ?_
  refine ck h (fun hA14 h => ?_)
  refine lC (fun (p : Int × Int) => (⟨[(1, (iV a2)), (2, (V.ptr 0 9 0 0)), (5, (iV (p.1))), (15, (iV (Int.tmod a2 7))), (16, (iV (p.2)))], [(0, (Ob.arr 85 9 [[(bV (a1.free 0)), (bV (a1.free 1)), (bV (a1.free 2)), (bV (a1.free 3)), (bV (a1.free 4)), (bV (a1.free 5)), (bV (a1.free 6)), (iV a1.work), (V.lst 1 (a1.holidays.map encI_i64))]]))], 1⟩ : St)) (fun n p => RC (Int.tmod a2 7) (fun tl nn => M42_L1 F a1 k3 tl nn p.1 = some r) n p.2) (fun p h => RC.zero h) (Int.toNat (Int.tmod a2 7) + 1) ((w64 ((w64 (Int.tdiv a2 7)) * a1.work)), 0) (RC.start h) (gr [0] rfl (hB rfl rfl rfl .nil) rfl) (fun n p h => ?_)
  obtain ⟨n7, n8⟩ := p
  refine rn 5 rfl ?_
  refine spL rfl (fun hb9 => ?_) (fun hb9 => ?_)
  ·obtain ⟨tl, h, hk1⟩ := RC.t hA14 h hb9
   unfold M42_L1 at h
   refine rn 12 rfl ?_
   refine ck h (fun hc10 h => ?_)
   refine aops_index_arr tArr83 wants_none rfl rfl hc10.1 hc10.2 rfl ?_
   refine aops_load_cell (bV (a1.free n8.toNat)) tC4 wants_none rfl rfl rfl (arr_get [] [(iV a1.work), (V.lst 1 (a1.holidays.map encI_i64))] (fun i => (bV (a1.free i))) hc10.2 rfl (by simp)) rfl rfl ?_
   refine fo (rn 2 rfl ?_)
   refine jK h (fun (p : Int) => (⟨[(1, (iV a2)), (2, (V.ptr 0 9 0 0)), (5, (iV p)), (15, (iV (Int.tmod a2 7))), (16, (iV n8))], [(0, (Ob.arr 85 9 [[(bV (a1.free 0)), (bV (a1.free 1)), (bV (a1.free 2)), (bV (a1.free 3)), (bV (a1.free 4)), (bV (a1.free 5)), (bV (a1.free 6)), (iV a1.work), (V.lst 1 (a1.holidays.map encI_i64))]]))], 1⟩ : St)) (fun k11 p => k11 p = some r) (fun k11 h => ?_) ?_
   ·refine spC h rfl (fun hb13 h => ?_) (fun hb13 h => ?_)
    ·refine rn 5 rfl ?_
     exact jX (w64 (n7 + 1)) h (gr [0] rfl (hB rfl rfl rfl .nil) rfl)
    refine rn 1 rfl ?_
    exact jX n7 h (gr [0] rfl (hB rfl rfl rfl .nil) rfl)
   intro n12 h
   refine rn 5 rfl ?_
   exact jX (n12, (w64 (n8 + 1))) (hk1 _ h) (gr [0] rfl (hB rfl rfl rfl .nil) rfl)
  replace h := RC.f h hb9
  unfold M42_L1 at h
  refine rn 1 rfl ?_
  exact jX n7 h (gr [0] rfl (hB rfl rfl rfl .nil) rfl)
 intro n4 h
 refine rn 5 rfl ?_
 refine cl h rfl rfl rfl (W53 _ _ _) rfl (fun y15 hx16 h => ?_)
 refine rn 13 rfl ?_
 exact rt h rfl
theorem W20 (F : Nat) (a1 : TCalendar) (a2 : Int) (a3 : Int) (r : (Int × Int)) (h : M20 F a1 a2 a3 = some r) : PureG (gl mx) Tryd.prog 20 [(V.agg (encTCalendar a1)), (iV a2), (iV a3)] (V.tup [(iV (r.1)), (iV (r.2))]) := by
 refine pin (fun r => (V.tup [(iV (r.1)), (iV (r.2))])) r rfl Tryd.func20 rfl rfl rfl rfl rfl (fun w0 m0 hg => ?_)
 unfold M20 at h
 refine rn 10 rfl ?_
 refine cl h rfl rfl rfl (W40 _ _) rfl (fun y4 hx5 h => ?_)
 refine rn 7 rfl ?_
 refine spC h rfl (fun hb6 h => ?_) (fun hb6 h => ?_)
 ·refine rn 6 rfl ?_
  exact rt h rfl
 refine rn 5 rfl ?_
 refine cl h rfl rfl rfl (W31 _ _) rfl (fun y7 hx8 h => ?_)
 refine rn 2 rfl ?_
 refine spO 18 h rfl (fun hb9 h => ?_) (fun hb9 h => ?_)
 ·refine rn 16 rfl ?_
  exact rt h rfl
 refine rn 1 rfl ?_
 refine cl h rfl rfl rfl (W31 _ _) rfl (fun y10 hx11 h => ?_)
 refine rn 3 rfl ?_
 refine spO 23 h rfl (fun hb12 h => ?_) (fun hb12 h => ?_)
 ·refine rn 11 rfl ?_
  exact rt h rfl
 refine rn 5 rfl ?_
 refine spC h rfl (fun hb13 h => ?_) (fun hb13 h => ?_)
 ·refine rn 5 rfl ?_
  exact rt h rfl
 refine rn 4 rfl ?_
 refine cl h rfl rfl rfl (W41 _ _) rfl (fun y14 hx15 h => ?_)
 obtain ⟨y16, hx17, h⟩ := bind_some h
 obtain ⟨y18, hx19, h⟩ := bind_some h
 refine rn 4 rfl ?_
 refine dr mixed (vs 2 rfl (cD rfl rfl rfl rfl (W42 _ _ _ _ hx17) rfl (vs 2 rfl (cD rfl rfl rfl rfl (W42 _ _ _ _ hx19) rfl (vs 3 rfl .nil))))) (by kernel_rfl) ?_
 exact rt h rfl
theorem W8 (F : Nat) (r : Bool) (h : M8 F  = some r) : PureG (gl mx) Tryd.prog 8 [] (bV r) := by
 refine pin (fun r => (bV r)) r rfl Tryd.func8 rfl rfl rfl rfl rfl (fun w0 m0 hg => ?_)
 unfold M8 at h
 refine rn 6 rfl ?_
 refine aops_buildSlice [(0, (iV 5)), (1, (iV 6))] [[(iV 5)], [(iV 6)]] tEl39 tZ3 rfl rfl rfl rfl wants_none (evp_cons rfl (evp_cons rfl evp_nil)) rfl rfl (by simp) rfl ?_
 obtain ⟨y1, hx2, h⟩ := bind_some h
 refine fo (rn 1 rfl ?_)
 refine aops_lend_call (V.tup [(iV (y1.1)), (iV (y1.2))]) [(V.agg [(V.lst 1 (([5, 6] : List Int).map encI_i64)), (V.lst 1 (([] : List Int).map encI_i64))]), (iV 0), (iV 14)] fOk20 (Ghost.trans (ghost_frzV 0 5 (V.agg [(V.lst 1 (([5, 6] : List Int).map encI_i64)), nV]) rfl (imms_rows (.cons (.cons (Imm.con _) .nil) (.cons (.cons (Imm.con _) .nil) .nil))) rfl (Sub.agg (.cons (Sub.frzAll (rows := ([5, 6] : List Int).map encI_i64) rfl) (.cons Sub.keep .nil)))) (ghost_tell 5 (V.agg [(V.lst 1 (([5, 6] : List Int).map encI_i64)), (V.lst 1 (([] : List Int).map encI_i64))]) rfl (Sub.agg (.cons Sub.keepI (.cons (Sub.nil _) .nil))))) (Flat.tup (by simp)) wants_none (evm_cons rfl (evm_cons rfl (evm_cons rfl evm_nil))) (.cons (Imm.agg (.cons (Imm.lst _ _) (.cons (Imm.lst _ _) .nil))) (.cons (Imm.con _) (.cons (Imm.con _) .nil))) (W20 F (TCalendar.mk ([5, 6] : List Int) ([] : List Int)) 0 14 y1 hx2) rfl ?_
 refine fo (rn 11 rfl ?_)
 refine spO 11 h rfl (fun hb3 h => ?_) (fun hb3 h => ?_)
 ·refine rn 5 rfl ?_
  exact rt h rfl
 refine rn 5 rfl ?_
 exact rt h rfl
theorem W11 (F : Nat) (a1 : (List UInt8)) (a2 : (List UInt8)) (r : List (List UInt8)) (h : M11 F a1 a2 = some r) : PureG (gl mx) Tryd.prog 11 [(sV a1), (sV a2)] (V.lst 1 (r.map encS)) := by
 unfold M11 at h
 obtain ⟨hc, h⟩ := chk_some h
 replace h := Option.some.inj h
 subst h
 exact pure_split (g := 0) (T := 9) rfl hc (fun w h1 h2 h3 => Go.Proofs.Tryd.strings_Split _ _ _ w h1 h2 h3)
theorem W49 (F : Nat) (a1 : (List UInt8)) (r : Int × Unit) (h : M49 F a1 = some r) : PureG (gl mx) Tryd.prog 49 [(sV a1)] (V.tup [(iV r.1), V.con .nilIface]) := by
 unfold M49 at h
 cases hn : Lib.atoi a1 with
 | none => rw [hn] at h; cases h
 | some n =>
  rw [hn] at h
  obtain ⟨hc, h⟩ := chk_some h
  replace h := Option.some.inj h
  subst h
  exact pure_atoi hc (fun w h1 => Go.Proofs.Tryd.strconv_Atoi _ n h1 hn w)
theorem W29 (F : Nat) (a1 : (List UInt8)) (r : (Int × Bool)) (h : M29 F a1 = some r) : PureG (gl mx) Tryd.prog 29 [(sV a1)] (V.tup [(iV (r.1)), (bV (r.2))]) := by
 refine pin (fun r => (V.tup [(iV (r.1)), (bV (r.2))])) r rfl Tryd.func29 rfl rfl rfl rfl rfl (fun w0 m0 hg => ?_)
 unfold M29 at h
 refine rn 11 rfl ?_
 refine spO 9 h rfl (fun hb2 h => ?_) (fun hb2 h => ?_)
 ·refine rn 21 rfl ?_
  exact rt h rfl
 refine rn 5 rfl ?_
 refine spO 14 h rfl (fun hb3 h => ?_) (fun hb3 h => ?_)
 ·refine rn 16 rfl ?_
  exact rt h rfl
 refine rn 4 rfl ?_
 refine spO 18 h rfl (fun hb4 h => ?_) (fun hb4 h => ?_)
 ·refine rn 1 rfl ?_
  refine ixs h rfl rfl (fun c5 hx6 h => ?_)
  refine rn 4 rfl ?_
  refine spC h rfl (fun hb7 h => ?_) (fun hb7 h => ?_)
  ·refine rn 5 rfl ?_
   exact rt h rfl
  refine rn 8 rfl ?_
  refine jK h (fun _ : Unit => (⟨[(0, (sV a1))], [], 0⟩ : St)) (fun k8 (_ : Unit) => k8 = some r) (fun k8 h => ?_) ?_
  ·refine rn 1 rfl ?_
   refine ck h (fun hA18 h => ?_)
   refine lC (fun (p : Int) => (⟨[(0, (sV a1)), (25, (iV (a1.length : Int))), (26, (iV p))], [], 0⟩ : St)) (fun n p => RC (a1.length : Int) (fun tl nn => M29_L1 F a1 k8 tl nn = some r) n p) (fun p h => RC.zero h) (Int.toNat (a1.length : Int) + 1) 0 (RC.start h) (g0 rfl rfl) (fun n n10 h => ?_)
   refine rn 5 rfl ?_
   refine spL rfl (fun hb11 => ?_) (fun hb11 => ?_)
   ·obtain ⟨tl, h, hk1⟩ := RC.t hA18 h hb11
    unfold M29_L1 at h
    refine rn 12 rfl ?_
    refine ixs h rfl rfl (fun c12 hx13 h => ?_)
    refine rn 2 rfl ?_
    refine spO 33 h rfl (fun hb14 h => ?_) (fun hb14 h => ?_)
    ·refine rn 12 rfl ?_
     exact rt h rfl
    refine rn 2 rfl ?_
    refine ixs h rfl rfl (fun c15 hx16 h => ?_)
    refine rn 3 rfl ?_
    refine spC h rfl (fun hb17 h => ?_) (fun hb17 h => ?_)
    ·refine rn 5 rfl ?_
     exact rt h rfl
    refine rn 6 rfl ?_
    exact jX (w64 (n10 + 1)) (hk1 _ h) (g0 rfl rfl)
   replace h := RC.f h hb11
   unfold M29_L1 at h
   refine rn 1 rfl ?_
   exact jX () h (g0 rfl rfl)
  intro _ h
  refine rn 3 rfl ?_
  refine cl h rfl rfl rfl (W49 _ _) rfl (fun y19 hx20 h => ?_)
  refine rn 12 rfl ?_
  exact rt h rfl
 refine rn 15 rfl ?_
 refine jK h (fun _ : Unit => (⟨[(0, (sV a1))], [], 0⟩ : St)) (fun k21 (_ : Unit) => k21 = some r) (fun k21 h => ?_) ?_
 ·refine rn 1 rfl ?_
  refine ck h (fun hA31 h => ?_)
  refine lC (fun (p : Int) => (⟨[(0, (sV a1)), (25, (iV (a1.length : Int))), (26, (iV p))], [], 0⟩ : St)) (fun n p => RC (a1.length : Int) (fun tl nn => M29_L2 F a1 k21 tl nn = some r) n p) (fun p h => RC.zero h) (Int.toNat (a1.length : Int) + 1) 0 (RC.start h) (g0 rfl rfl) (fun n n23 h => ?_)
  refine rn 5 rfl ?_
  refine spL rfl (fun hb24 => ?_) (fun hb24 => ?_)
  ·obtain ⟨tl, h, hk2⟩ := RC.t hA31 h hb24
   unfold M29_L2 at h
   refine rn 12 rfl ?_
   refine ixs h rfl rfl (fun c25 hx26 h => ?_)
   refine rn 2 rfl ?_
   refine spO 33 h rfl (fun hb27 h => ?_) (fun hb27 h => ?_)
   ·refine rn 12 rfl ?_
    exact rt h rfl
   refine rn 2 rfl ?_
   refine ixs h rfl rfl (fun c28 hx29 h => ?_)
   refine rn 3 rfl ?_
   refine spC h rfl (fun hb30 h => ?_) (fun hb30 h => ?_)
   ·refine rn 5 rfl ?_
    exact rt h rfl
   refine rn 6 rfl ?_
   exact jX (w64 (n23 + 1)) (hk2 _ h) (g0 rfl rfl)
  replace h := RC.f h hb24
  unfold M29_L2 at h
  refine rn 1 rfl ?_
  exact jX () h (g0 rfl rfl)
 intro _ h
 refine rn 3 rfl ?_
 refine cl h rfl rfl rfl (W49 _ _) rfl (fun y32 hx33 h => ?_)
 refine rn 12 rfl ?_
 exact rt h rfl
theorem W13 (F : Nat) (a1 : (List (List UInt8))) (a2 : Int) (r : ((List Int) × Bool)) (h : M13 F a1 a2 = some r) : PureG (gl mx) Tryd.prog 13 [(V.lst 1 (a1.map encS)), (iV a2)] (V.tup [(V.lst 1 ((r.1).map encI_i64)), (bV (r.2))]) := by
 refine pin (fun r => (V.tup [(V.lst 1 ((r.1).map encI_i64)), (bV (r.2))])) r rfl Tryd.func13 rfl rfl rfl rfl rfl (fun w0 m0 hg => ?_)
 unfold M13 at h
 refine rn 13 rfl ?_
 refine ln rfl rfl ?_
 refine rn 2 rfl ?_
 refine jK h (fun (p : (List Int)) => (⟨[(6, (V.own 0 p.length))], [(0, (Ob.arr 3 1 (p.map encI_i64)))], 1⟩ : St)) (fun k3 p => k3 p = some r) (fun k3 h => ?_) ?_
 ·refine rn 1 rfl ?_
  refine wl (A := a1) 0 rfl (fun hA22 => ?_)
  refine lC (fun (p : Int × (List Int)) => (⟨[(1, (iV a2)), (6, (V.own 0 (p.2).length)), (11, (V.lst 1 (a1.map encS))), (12, (iV ((a1.length : Nat) : Int))), (13, (iV (p.1)))], [(0, (Ob.arr 3 1 ((p.2).map encI_i64)))], 1⟩ : St)) (fun n p => RG a1 (fun tl nn => M13_L1 F a2 k3 tl nn p.2 = some r) n p.1) (fun p h => RG.zero h) (a1.length + 1) (0, ([] : List Int)) (RG.start h) (Ghost.trans (ghost_nilE 6 3 1 rfl) (ghost_ren 1 (fun i => ([0] : List Nat).getD i 0) _ _ (by decide) (EnvSub.get (.cons (Sub.imm (Imm.con _)) (.cons (Sub.ownE rfl rfl (by simp)) (.cons (Sub.imm (Imm.lst _ _)) (.cons (Sub.imm (Imm.con _)) (.cons (Sub.imm (Imm.con _)) .nil)))))) (HpSub.get (.cons rfl (ObSub.rows (rows_imm imms_encI_i64)) .nil)) rfl)) (fun n p h => ?_)
  obtain ⟨n7, l8⟩ := p
  refine rn 5 rfl ?_
  refine spL rfl (fun hb9 => ?_) (fun hb9 => ?_)
  ·obtain ⟨x12, tl, hx13, h, hk1⟩ := RG.t hA22 h hb9
   unfold M13_L1 at h
   refine rn 2 rfl ?_
   refine jK h (fun (p : (List Int)) => (⟨[(1, (iV a2)), (6, (V.own 0 p.length)), (11, (V.lst 1 (a1.map encS))), (12, (iV ((a1.length : Nat) : Int))), (13, (iV n7))], [(0, (Ob.arr 3 1 (p.map encI_i64)))], 1⟩ : St)) (fun k10 p => k10 p = some r) (fun k10 h => ?_) ?_
   ·refine rn 4 rfl ?_
    refine ixh hx13 rfl rfl ?_
    refine rn 11 rfl ?_
    refine spC h rfl (fun hb14 h => ?_) (fun hb14 h => ?_)
    ·refine rn 4 rfl ?_
     refine cl h rfl rfl rfl (W28 _ _) rfl (fun y15 hx16 h => ?_)
     refine rn 2 rfl ?_
     refine spC h rfl (fun hb17 h => ?_) (fun hb17 h => ?_)
     ·refine rn 5 rfl ?_
      exact rt h rfl
     refine rn 2 rfl ?_
     exact jX l8 h (gr [0] rfl (hR rfl rfl .nil) rfl)
    refine rn 4 rfl ?_
    refine cl h rfl rfl rfl (W29 _ _) rfl (fun y18 hx19 h => ?_)
    refine rn 12 rfl ?_
    refine spC h rfl (fun hb20 h => ?_) (fun hb20 h => ?_)
    ·refine rn 5 rfl ?_
     exact rt h rfl
    refine rn 4 rfl ?_
    refine aops_buildSlice [(0, (iV (y18.1)))] [[(iV (y18.1))]] tEl39 tZ3 rfl rfl rfl rfl wants_none (evp_cons rfl evp_nil) rfl rfl (by simp) rfl ?_
    refine fo ?_
    refine apO encI_i64 h rfl rfl rfl rfl rfl rfl rfl rfl (fun h => ?_)
    refine rn 3 rfl ?_
    exact jX (l8 ++ ([(y18.1)] : List Int)) h (gr [2] rfl (hR rfl rfl .nil) rfl)
   intro l11 h
   refine rn 4 rfl ?_
   exact jX ((w64 (n7 + 1)), l11) (hk1 _ h) (gr [0] rfl (hR rfl rfl .nil) rfl)
  replace h := RG.f h hb9
  unfold M13_L1 at h
  refine rn 1 rfl ?_
  exact jX l8 h (gr [0] rfl (hR rfl rfl .nil) rfl)
 intro l4 h
 refine rn 6 rfl ?_
 refine awp_ghost (ghost_frzE 0 4 rfl (rows_imm imms_encI_i64) rfl (List.length_map ..).symm) ?_
 refine fa ?_
 exact rt h rfl
theorem W27 (F : Nat) (a1 : (List (List UInt8))) (a2 : (List UInt8)) (a3 : Int) (a4 : List TRelease) (a5 : List TPublished) (r : (Bool × (List TPublished))) (h : M27 F a1 a2 a3 a4 a5 = some r) : MutG (gl mx) Tryd.prog 27 [(V.ptr 0 4 0 0), (V.lst 1 (a1.map encS))] 3 [(0, (Ob.arr 25 4 [[(sV a2), (V.own 1 a4.length), (V.own 2 a5.length), (iV a3)]])), (1, (Ob.arr 47 3 (a4.map dencTRelease))), (2, (Ob.arr 51 3 (a5.map encTPublished)))] (resV [(bV (r.1))]) 4 [(0, (Ob.arr 25 4 [[(sV a2), (V.own 1 a4.length), (V.own 3 (r.2).length), (iV a3)]])), (1, (Ob.arr 47 3 (a4.map dencTRelease))), (2, Ob.dead), (3, (Ob.arr 51 3 ((r.2).map encTPublished)))] := by
 refine mut_enter Tryd.func27 rfl rfl (l := [.tmp 4]) rfl rfl [(0, (V.ptr 0 4 0 0)), (1, (V.lst 1 (a1.map encS)))] rfl (fun w0 m0 β0 hg => en ?_)
 unfold M27 at h
 refine rn 7 rfl ?_
 refine cl h rfl rfl rfl (W13 _ _ _) rfl (fun y23 hx24 h => ?_)
 refine rn 12 rfl ?_
 refine spO 15 h rfl (fun hb25 h => ?_) (fun hb25 h => ?_)
 ·refine rn 15 rfl ?_
  replace h := Option.some.inj h
  subst h
  exact wR ⟨.inl rfl, [(4, (bV false))], (Ghost.trans (ghost_mvC 2 0 3 51 3 (Ob.arr 25 4 [[(sV a2), (V.own 1 a4.length), (V.own 3 a5.length), (iV a3)]]) rfl rfl rfl (ObSub.box (.cons Sub.keepMv (.cons Sub.keepMv (.cons Sub.mv (.cons Sub.keepMv .nil))))) rfl rfl) (gr [0, 1, 2, 3] rfl (hB rfl rfl rfl (hR rfl rfl (hD rfl (hR rfl rfl .nil)))) rfl)), (.cons (.tmp rfl) .nil)⟩
 refine rn 1 rfl ?_
 refine ln rfl rfl ?_
 refine rn 3 rfl ?_
 refine spO 20 h rfl (fun hb26 h => ?_) (fun hb26 h => ?_)
 ·refine rn 10 rfl ?_
  replace h := Option.some.inj h
  subst h
  exact wR ⟨.inl rfl, [(4, (bV false))], (Ghost.trans (ghost_mvC 2 0 3 51 3 (Ob.arr 25 4 [[(sV a2), (V.own 1 a4.length), (V.own 3 a5.length), (iV a3)]]) rfl rfl rfl (ObSub.box (.cons Sub.keepMv (.cons Sub.keepMv (.cons Sub.mv (.cons Sub.keepMv .nil))))) rfl rfl) (gr [0, 1, 2, 3] rfl (hB rfl rfl rfl (hR rfl rfl (hD rfl (hR rfl rfl .nil)))) rfl)), (.cons (.tmp rfl) .nil)⟩
 refine rn 1 rfl ?_
 refine ln rfl rfl ?_
 refine rn 3 rfl ?_
 refine spC h rfl (fun hb27 h => ?_) (fun hb27 h => ?_)
 ·refine rn 4 rfl ?_
  replace h := Option.some.inj h
  subst h
  exact wR ⟨.inl rfl, [(4, (bV false))], (Ghost.trans (ghost_mvC 2 0 3 51 3 (Ob.arr 25 4 [[(sV a2), (V.own 1 a4.length), (V.own 3 a5.length), (iV a3)]]) rfl rfl rfl (ObSub.box (.cons Sub.keepMv (.cons Sub.keepMv (.cons Sub.mv (.cons Sub.keepMv .nil))))) rfl rfl) (gr [0, 1, 2, 3] rfl (hB rfl rfl rfl (hR rfl rfl (hD rfl (hR rfl rfl .nil)))) rfl)), (.cons (.tmp rfl) .nil)⟩
 obtain ⟨x28, hx29, h⟩ := bind_some h
 obtain ⟨x30, hx31, h⟩ := bind_some h
 refine rn 2 rfl ?_
 refine awp_ghost ghost_res ?_
 refine fa ?_
 refine dr mixed (vs 1 rfl (iD hx29 rfl rfl rfl (vs 2 rfl (iD hx31 rfl rfl rfl (vs 2 rfl (xD (OD.mk [] [(3, Ob.res)] [(7, (V.ptr 3 3 0 0))] [(3, (Ob.arr 51 3 [[(sV ([] : List UInt8)), (iV 0), (iV 0)]]))]) ⟨trivial, ⟨rfl, trivial⟩⟩ (by exact fun S hn h hh => aops_alloc_at 3 rfl hn hh.1 tZ51 rfl rfl wants_none rfl (aops_nil ⟨rfl, rfl⟩)) rfl (vs 1 rfl .nil))))))) (by kernel_rfl) ?_
 refine rn 4 rfl ?_
 refine ln rfl rfl ?_
 refine rn 2 rfl ?_
 refine jK h (fun (p : Int) => (⟨[(0, (V.ptr 0 4 0 0)), (7, (V.ptr 3 3 0 0))], [(0, (Ob.arr 25 4 [[(sV a2), (V.own 1 a4.length), (V.own 2 a5.length), (iV a3)]])), (1, (Ob.arr 47 3 (a4.map dencTRelease))), (2, (Ob.arr 51 3 (a5.map encTPublished))), (3, (Ob.arr 51 3 [[(sV x28), (iV x30), (iV p)]]))], 4⟩ : St)) (fun k32 p => k32 p = some r) (fun k32 h => ?_) ?_
 ·refine spC h rfl (fun hb34 h => ?_) (fun hb34 h => ?_)
  ·refine rn 2 rfl ?_
   refine ixl h rfl rfl (fun x35 hx36 h => ?_)
   refine rn 4 rfl ?_
   exact jX x35 h (gr [0, 1, 2, 3] rfl (hB rfl rfl rfl (hR rfl rfl (hR rfl rfl (hB rfl rfl rfl .nil)))) rfl)
  refine rn 1 rfl ?_
  exact jX (-1) h (gr [0, 1, 2, 3] rfl (hB rfl rfl rfl (hR rfl rfl (hR rfl rfl (hB rfl rfl rfl .nil)))) rfl)
 intro n33 h
 refine rn 1 rfl ?_
 refine ck h (fun hc37 h => ?_)
 refine awp_ghost ghost_res ?_
 refine fa ?_
 refine dr mixed (vs 6 rfl (xD (OD.mk [(44, (V.agg [(sV x28), (iV x30), (iV n33)]))] [] [(45, (V.lst 3 (([(TPublished.mk x28 x30 n33)] : List TPublished).map encTPublished)))] []) ⟨⟨rfl, trivial⟩, trivial⟩ (by exact fun S hn h hh => aops_buildSlice_imm [(0, (V.agg [(sV x28), (iV x30), (iV n33)]))] [[(sV x28), (iV x30), (iV n33)]] tEl23 tZ51 wants_none rfl rfl rfl rfl (evp_cons h.1 evp_nil) rfl rfl (by simp) (imms_rows (.cons (.cons (Imm.con _) (.cons (Imm.con _) (.cons (Imm.con _) .nil))) .nil)) rfl (aops_nil ⟨rfl, rfl⟩)) rfl (xD (OD.mk [(43, (V.own 2 a5.length)), (45, (V.lst 3 (([(TPublished.mk x28 x30 n33)] : List TPublished).map encTPublished)))] [(2, (Ob.arr 51 3 (a5.map encTPublished))), (4, Ob.res)] [(46, (V.own 4 (a5 ++ ([(TPublished.mk x28 x30 n33)] : List TPublished)).length))] [(4, (Ob.arr 51 3 ((a5 ++ ([(TPublished.mk x28 x30 n33)] : List TPublished)).map encTPublished))), (2, Ob.dead)]) ⟨⟨rfl, rfl, trivial⟩, ⟨rfl, rfl, trivial⟩⟩ (by exact fun S hn h hh => aops_append_at 4 rfl hn hh.2.1 (([(TPublished.mk x28 x30 n33)] : List TPublished).map encTPublished) ((a5 ++ ([(TPublished.mk x28 x30 n33)] : List TPublished)).map encTPublished) tEl23 tIsSl23 rfl rfl wants_none h.1 hh.1 (by simp) h.2.1 (.lst (rows_one one_encTPublished)) (map_snoc encTPublished a5 ([(TPublished.mk x28 x30 n33)] : List TPublished)) (List.length_map ..) hc37 rfl (aops_nil ⟨rfl, rfl⟩)) rfl (vs 3 rfl .nil)))) (by kernel_rfl) ?_
 refine rn 4 rfl ?_
 replace h := Option.some.inj h
 subst h
 exact wR ⟨.inl rfl, [(4, (bV true))], (gr [0, 1, 2, 4] rfl (hB rfl rfl rfl (hR rfl rfl (hD rfl (hR rfl rfl .nil)))) rfl), (.cons (.tmp rfl) .nil)⟩
theorem W12 (F : Nat) (a1 : (List (List UInt8))) (a2 : (List UInt8)) (a3 : Int) (a4 : List TRelease) (a5 : List TPublished) (r : (Bool × (List TRelease) × (List TPublished))) (h : M12 F a1 a2 a3 a4 a5 = some r) : MutG (gl mx) Tryd.prog 12 [(V.ptr 0 4 0 0), (V.lst 1 (a1.map encS))] 3 [(0, (Ob.arr 25 4 [[(sV a2), (V.own 1 a4.length), (V.own 2 a5.length), (iV a3)]])), (1, (Ob.arr 47 3 (a4.map dencTRelease))), (2, (Ob.arr 51 3 (a5.map encTPublished)))] (resV [(bV (r.1))]) 5 [(0, (Ob.arr 25 4 [[(sV a2), (V.own 3 (r.2.1).length), (V.own 4 (r.2.2).length), (iV a3)]])), (1, Ob.dead), (2, Ob.dead), (3, (Ob.arr 47 3 ((r.2.1).map dencTRelease))), (4, (Ob.arr 51 3 ((r.2.2).map encTPublished)))] := by
 refine mut_enter Tryd.func12 rfl rfl (l := [.tmp 4]) rfl rfl [(0, (V.ptr 0 4 0 0)), (1, (V.lst 1 (a1.map encS)))] rfl (fun w0 m0 β0 hg => en ?_)
 unfold M12 at h
 refine rn 5 rfl ?_
 refine jK h (fun _ : Unit => (⟨[], [(0, (Ob.arr 25 4 [[(sV a2), (V.own 1 a4.length), (V.own 2 a5.length), (iV a3)]])), (1, (Ob.arr 47 3 (a4.map dencTRelease))), (2, (Ob.arr 51 3 (a5.map encTPublished)))], 3⟩ : St)) (fun k139 (_ : Unit) => k139 = some r) (fun k139 h => ?_) ?_
 ·refine rn 4 rfl ?_
  refine ixl h rfl rfl (fun x140 hx141 h => ?_)
  refine rn 3 rfl ?_
  refine spO 15 h rfl (fun hb142 h => ?_) (fun hb142 h => ?_)
  ·refine rn 1 rfl ?_
   refine ln rfl rfl ?_
   refine rn 3 rfl ?_
   refine spO 20 h rfl (fun hb143 h => ?_) (fun hb143 h => ?_)
   ·refine rn 9 rfl ?_
    refine jK h (fun _ : Unit => (⟨[], [(0, (Ob.arr 25 4 [[(sV a2), (V.own 1 a4.length), (V.own 2 a5.length), (iV a3)]])), (1, (Ob.arr 47 3 (a4.map dencTRelease))), (2, (Ob.arr 51 3 (a5.map encTPublished)))], 3⟩ : St)) (fun k144 (_ : Unit) => k144 = some r) (fun k144 h => ?_) ?_
    ·refine spC h rfl (fun hb145 h => ?_) (fun hb145 h => ?_)
     ·refine rn 3 rfl ?_
      refine ck h (fun hc146 h => ?_)
      refine aops_slice_lst (1) (a1.length) ((a1.drop 1).map encS) tSl35 wants_none rfl ⟨_, rfl⟩ (List.length_map ..).symm hc146 (Nat.le_of_eq (List.length_map ..).symm) slL_hi rfl ?_
      refine fo ?_
      refine cl h rfl rfl rfl (W13 _ _ _) rfl (fun y147 hx148 h => ?_)
      refine rn 11 rfl ?_
      refine jK h (fun (p : (List TRelease)) => (⟨[(6, (bV (y147.2)))], [(0, (Ob.arr 25 4 [[(sV a2), (V.own 3 p.length), (V.own 2 a5.length), (iV a3)]])), (1, Ob.dead), (2, (Ob.arr 51 3 (a5.map encTPublished))), (3, (Ob.arr 47 3 (p.map dencTRelease)))], 4⟩ : St)) (fun k149 p => k149 p = some r) (fun k149 h => ?_) ?_
      ·refine spC h rfl (fun hb151 h => ?_) (fun hb151 h => ?_)
       ·obtain ⟨x152, hx153, h⟩ := bind_some h
        obtain ⟨x154, hx155, h⟩ := bind_some h
        refine ck h (fun hc156 h => ?_)
        refine awp_ghost ghost_res ?_
        refine awp_ghost ghost_res ?_
        refine fa ?_
        refine dr mixed (vs 6 rfl (iD hx153 rfl rfl rfl (vs 2 rfl (iD hx155 rfl rfl rfl (vs 2 rfl (xD (OD.mk [(46, (V.agg [(sV x152), (iV x154), nV]))] [(3, Ob.res)] [(47, (V.own 3 1))] [(3, (Ob.arr 47 3 [[(sV x152), (iV x154), nV]]))]) ⟨⟨rfl, trivial⟩, ⟨rfl, trivial⟩⟩ (by exact fun S hn h hh => aops_buildSlice_at 3 rfl hn hh.1 [(0, (V.agg [(sV x152), (iV x154), nV]))] [[(sV x152), (iV x154), nV]] tEl22 tZ47 wants_none rfl rfl rfl rfl (evp_cons h.1 evp_nil) rfl rfl (by simp) rfl (aops_nil ⟨rfl, rfl⟩)) rfl (xD (OD.mk [(39, (V.own 1 a4.length)), (47, (V.own 3 1))] [(1, (Ob.arr 47 3 (a4.map dencTRelease))), (3, (Ob.arr 47 3 [[(sV x152), (iV x154), nV]])), (4, Ob.res)] [(48, (V.own 4 (a4 ++ [(TRelease.mk x152 x154 ([] : List TExposure))]).length))] [(4, (Ob.arr 47 3 ((a4 ++ [(TRelease.mk x152 x154 ([] : List TExposure))]).map dencTRelease))), (1, Ob.dead)]) ⟨⟨rfl, rfl, trivial⟩, ⟨rfl, rfl, rfl, trivial⟩⟩ (by exact fun S hn h hh => aops_appendS_at 4 rfl hn hh.2.2.1 dencTRelease (TRelease.mk x152 x154 ([] : List TExposure)) tEl22 tIsSl22 rfl rfl wants_none h.1 hh.1 (by simp) h.2.1 hh.2.1 rfl (.cons (csub_keep _) (.cons (csub_keep _) (.cons (csub_nil 66 3) .nil))) rfl hc156 rfl (aops_nil ⟨rfl, rfl⟩)) rfl (vs 3 rfl .nil)))))))) (by kernel_rfl) ?_
        exact jX (a4 ++ [(TRelease.mk x152 x154 ([] : List TExposure))]) h (gr [0, 1, 2, 4] rfl (hB rfl rfl rfl (hD rfl (hR rfl rfl (hR rfl rfl .nil)))) rfl)
       refine rn 1 rfl ?_
       exact jX a4 h (Ghost.trans (ghost_mvC 1 0 3 47 3 (Ob.arr 25 4 [[(sV a2), (V.own 3 a4.length), (V.own 2 a5.length), (iV a3)]]) rfl rfl rfl (ObSub.box (.cons Sub.keepMv (.cons Sub.mv (.cons Sub.keepMv (.cons Sub.keepMv .nil))))) rfl rfl) (gr [0, 1, 2, 3] rfl (hB rfl rfl rfl (hD rfl (hR rfl rfl (hR rfl rfl .nil)))) rfl))
      intro l150 h
      refine rn 5 rfl ?_
      replace h := Option.some.inj h
      subst h
      exact wR ⟨.inl rfl, [(4, (bV (y147.2)))], (Ghost.trans (ghost_mvC 2 0 4 51 3 (Ob.arr 25 4 [[(sV a2), (V.own 3 l150.length), (V.own 4 a5.length), (iV a3)]]) rfl rfl rfl (ObSub.box (.cons Sub.keepMv (.cons Sub.keepMv (.cons Sub.mv (.cons Sub.keepMv .nil))))) rfl rfl) (gr [0, 1, 2, 3, 4] rfl (hB rfl rfl rfl (hD rfl (hD rfl (hR rfl rfl (hR rfl rfl .nil))))) rfl)), (.cons (.tmp rfl) .nil)⟩
     refine rn 3 rfl ?_
     refine ixl h rfl rfl (fun x157 hx158 h => ?_)
     refine rn 3 rfl ?_
     refine spO 57 h rfl (fun hb159 h => ?_) (fun hb159 h => ?_)
     ·refine rn 1 rfl ?_
      refine ln rfl rfl ?_
      refine rn 3 rfl ?_
      refine spO 62 h rfl (fun hb160 h => ?_) (fun hb160 h => ?_)
      ·refine rn 8 rfl ?_
       refine fxO 70 hb145 rfl ?_
       refine rn 13 rfl ?_
       refine ixl h rfl rfl (fun x161 hx162 h => ?_)
       refine rn 4 rfl ?_
       refine spC h rfl (fun hb163 h => ?_) (fun hb163 h => ?_)
       ·refine rn 4 rfl ?_
        refine ck h (fun hc164 h => ?_)
        refine aops_slice_lst (1) (a1.length) ((a1.drop 1).map encS) tSl35 wants_none rfl ⟨_, rfl⟩ (List.length_map ..).symm hc164 (Nat.le_of_eq (List.length_map ..).symm) slL_hi rfl ?_
        obtain ⟨y165, hx166, h⟩ := bind_some h
        refine aops_mcallS (bV (y165.1)) [(V.ptr 0 4 0 0), (V.lst 1 ((a1.drop 1).map encS))] (fun i => ([0, 1, 2] : List Nat).getD i 0) (fun i => ([0, 1, 2, 3] : List Nat).getD i 0) 3 4 [(0, (Ob.arr 25 4 [[(sV a2), (V.own 1 a4.length), (V.own 3 (y165.2).length), (iV a3)]])), (1, (Ob.arr 47 3 (a4.map dencTRelease))), (2, Ob.dead), (3, (Ob.arr 51 3 ((y165.2).map encTPublished)))] fOk27 wants_none rfl (evm_cons rfl (evm_cons rfl evm_nil)) (.cons (Sub.ptr rfl rfl) (.cons (Sub.imm (Imm.lst _ _)) .nil)) (.cons rfl (ObSub.box (.cons (Sub.imm (Imm.con _)) (.cons (Sub.own rfl rfl) (.cons (Sub.own rfl rfl) (.cons (Sub.imm (Imm.con _)) .nil))))) (.cons rfl (ObSub.rowsK RK.h) (.cons rfl (ObSub.rows (rows_imm imms_encTPublished)) .nil))) (W27 F (a1.drop 1) a2 a3 a4 a5 y165 hx166) rfl rfl rfl rfl (Sub.immT (Imm.con _)) (.cons rfl (ObSub.box (.cons (Sub.immT (Imm.con _)) (.cons (Sub.ownT rfl rfl) (.cons (Sub.ownT rfl rfl) (.cons (Sub.immT (Imm.con _)) .nil))))) (.cons rfl (ObSub.rowsTK RK.h) (.cons rfl ObSub.deadT (.cons rfl (ObSub.rowsT (rows_imm imms_encTPublished)) .nil)))) _ rfl ?_
        refine fo (rn 2 rfl ?_)
        replace h := Option.some.inj h
        subst h
        exact wR ⟨.inl rfl, [(4, (bV (y165.1)))], (Ghost.trans (ghost_mvC 1 0 4 47 3 (Ob.arr 25 4 [[(sV a2), (V.own 4 a4.length), (V.own 3 (y165.2).length), (iV a3)]]) rfl rfl rfl (ObSub.box (.cons Sub.keepMv (.cons Sub.mv (.cons Sub.keepMv (.cons Sub.keepMv .nil))))) rfl rfl) (gr [0, 1, 2, 4, 3] rfl (hB rfl rfl rfl (hD rfl (hD rfl (hR rfl rfl (hR rfl rfl .nil))))) rfl)), (.cons (.tmp rfl) .nil)⟩
       refine rn 1 rfl ?_
       exact jX () h (gr [0, 1, 2] rfl (hB rfl rfl rfl (hR rfl rfl (hR rfl rfl .nil))) rfl)
      refine rn 21 rfl ?_
      refine ixl h rfl rfl (fun x167 hx168 h => ?_)
      refine rn 4 rfl ?_
      refine spC h rfl (fun hb169 h => ?_) (fun hb169 h => ?_)
      ·refine rn 4 rfl ?_
       refine ck h (fun hc170 h => ?_)
       refine aops_slice_lst (1) (a1.length) ((a1.drop 1).map encS) tSl35 wants_none rfl ⟨_, rfl⟩ (List.length_map ..).symm hc170 (Nat.le_of_eq (List.length_map ..).symm) slL_hi rfl ?_
       obtain ⟨y171, hx172, h⟩ := bind_some h
       refine aops_mcallS (bV (y171.1)) [(V.ptr 0 4 0 0), (V.lst 1 ((a1.drop 1).map encS))] (fun i => ([0, 1, 2] : List Nat).getD i 0) (fun i => ([0, 1, 2, 3] : List Nat).getD i 0) 3 4 [(0, (Ob.arr 25 4 [[(sV a2), (V.own 1 a4.length), (V.own 3 (y171.2).length), (iV a3)]])), (1, (Ob.arr 47 3 (a4.map dencTRelease))), (2, Ob.dead), (3, (Ob.arr 51 3 ((y171.2).map encTPublished)))] fOk27 wants_none rfl (evm_cons rfl (evm_cons rfl evm_nil)) (.cons (Sub.ptr rfl rfl) (.cons (Sub.imm (Imm.lst _ _)) .nil)) (.cons rfl (ObSub.box (.cons (Sub.imm (Imm.con _)) (.cons (Sub.own rfl rfl) (.cons (Sub.own rfl rfl) (.cons (Sub.imm (Imm.con _)) .nil))))) (.cons rfl (ObSub.rowsK RK.h) (.cons rfl (ObSub.rows (rows_imm imms_encTPublished)) .nil))) (W27 F (a1.drop 1) a2 a3 a4 a5 y171 hx172) rfl rfl rfl rfl (Sub.immT (Imm.con _)) (.cons rfl (ObSub.box (.cons (Sub.immT (Imm.con _)) (.cons (Sub.ownT rfl rfl) (.cons (Sub.ownT rfl rfl) (.cons (Sub.immT (Imm.con _)) .nil))))) (.cons rfl (ObSub.rowsTK RK.h) (.cons rfl ObSub.deadT (.cons rfl (ObSub.rowsT (rows_imm imms_encTPublished)) .nil)))) _ rfl ?_
       refine fo (rn 2 rfl ?_)
       replace h := Option.some.inj h
       subst h
       exact wR ⟨.inl rfl, [(4, (bV (y171.1)))], (Ghost.trans (ghost_mvC 1 0 4 47 3 (Ob.arr 25 4 [[(sV a2), (V.own 4 a4.length), (V.own 3 (y171.2).length), (iV a3)]]) rfl rfl rfl (ObSub.box (.cons Sub.keepMv (.cons Sub.mv (.cons Sub.keepMv (.cons Sub.keepMv .nil))))) rfl rfl) (gr [0, 1, 2, 4, 3] rfl (hB rfl rfl rfl (hD rfl (hD rfl (hR rfl rfl (hR rfl rfl .nil))))) rfl)), (.cons (.tmp rfl) .nil)⟩
      refine rn 1 rfl ?_
      exact jX () h (gr [0, 1, 2] rfl (hB rfl rfl rfl (hR rfl rfl (hR rfl rfl .nil))) rfl)
     refine rn 26 rfl ?_
     refine ixl h rfl rfl (fun x173 hx174 h => ?_)
     refine rn 4 rfl ?_
     refine spC h rfl (fun hb175 h => ?_) (fun hb175 h => ?_)
     ·refine rn 4 rfl ?_
      refine ck h (fun hc176 h => ?_)
      refine aops_slice_lst (1) (a1.length) ((a1.drop 1).map encS) tSl35 wants_none rfl ⟨_, rfl⟩ (List.length_map ..).symm hc176 (Nat.le_of_eq (List.length_map ..).symm) slL_hi rfl ?_
      obtain ⟨y177, hx178, h⟩ := bind_some h
      refine aops_mcallS (bV (y177.1)) [(V.ptr 0 4 0 0), (V.lst 1 ((a1.drop 1).map encS))] (fun i => ([0, 1, 2] : List Nat).getD i 0) (fun i => ([0, 1, 2, 3] : List Nat).getD i 0) 3 4 [(0, (Ob.arr 25 4 [[(sV a2), (V.own 1 a4.length), (V.own 3 (y177.2).length), (iV a3)]])), (1, (Ob.arr 47 3 (a4.map dencTRelease))), (2, Ob.dead), (3, (Ob.arr 51 3 ((y177.2).map encTPublished)))] fOk27 wants_none rfl (evm_cons rfl (evm_cons rfl evm_nil)) (.cons (Sub.ptr rfl rfl) (.cons (Sub.imm (Imm.lst _ _)) .nil)) (.cons rfl (ObSub.box (.cons (Sub.imm (Imm.con _)) (.cons (Sub.own rfl rfl) (.cons (Sub.own rfl rfl) (.cons (Sub.imm (Imm.con _)) .nil))))) (.cons rfl (ObSub.rowsK RK.h) (.cons rfl (ObSub.rows (rows_imm imms_encTPublished)) .nil))) (W27 F (a1.drop 1) a2 a3 a4 a5 y177 hx178) rfl rfl rfl rfl (Sub.immT (Imm.con _)) (.cons rfl (ObSub.box (.cons (Sub.immT (Imm.con _)) (.cons (Sub.ownT rfl rfl) (.cons (Sub.ownT rfl rfl) (.cons (Sub.immT (Imm.con _)) .nil))))) (.cons rfl (ObSub.rowsTK RK.h) (.cons rfl ObSub.deadT (.cons rfl (ObSub.rowsT (rows_imm imms_encTPublished)) .nil)))) _ rfl ?_
      refine fo (rn 2 rfl ?_)
      replace h := Option.some.inj h
      subst h
      exact wR ⟨.inl rfl, [(4, (bV (y177.1)))], (Ghost.trans (ghost_mvC 1 0 4 47 3 (Ob.arr 25 4 [[(sV a2), (V.own 4 a4.length), (V.own 3 (y177.2).length), (iV a3)]]) rfl rfl rfl (ObSub.box (.cons Sub.keepMv (.cons Sub.mv (.cons Sub.keepMv (.cons Sub.keepMv .nil))))) rfl rfl) (gr [0, 1, 2, 4, 3] rfl (hB rfl rfl rfl (hD rfl (hD rfl (hR rfl rfl (hR rfl rfl .nil))))) rfl)), (.cons (.tmp rfl) .nil)⟩
     refine rn 1 rfl ?_
     exact jX () h (gr [0, 1, 2] rfl (hB rfl rfl rfl (hR rfl rfl (hR rfl rfl .nil))) rfl)
    intro _ h
    refine rn 1 rfl ?_
    exact jX () h (gr [0, 1, 2] rfl (hB rfl rfl rfl (hR rfl rfl (hR rfl rfl .nil))) rfl)
   refine rn 13 rfl ?_
   refine ixl h rfl rfl (fun x179 hx180 h => ?_)
   refine rn 3 rfl ?_
   refine spO 57 h rfl (fun hb181 h => ?_) (fun hb181 h => ?_)
   ·refine rn 1 rfl ?_
    refine ln rfl rfl ?_
    refine rn 3 rfl ?_
    refine spO 62 h rfl (fun hb182 h => ?_) (fun hb182 h => ?_)
    ·refine rn 8 rfl ?_
     refine spO 70 h rfl (fun hb183 h => ?_) (fun hb183 h => ?_)
     ·refine rn 9 rfl ?_
      refine spC h rfl (fun hb184 h => ?_) (fun hb184 h => ?_)
      ·refine rn 3 rfl ?_
       refine ck h (fun hc185 h => ?_)
       refine aops_slice_lst (1) (a1.length) ((a1.drop 1).map encS) tSl35 wants_none rfl ⟨_, rfl⟩ (List.length_map ..).symm hc185 (Nat.le_of_eq (List.length_map ..).symm) slL_hi rfl ?_
       refine fo ?_
       refine cl h rfl rfl rfl (W13 _ _ _) rfl (fun y186 hx187 h => ?_)
       refine rn 11 rfl ?_
       refine jK h (fun (p : (List TRelease)) => (⟨[(8, (bV (y186.2)))], [(0, (Ob.arr 25 4 [[(sV a2), (V.own 1 p.length), (V.own 2 a5.length), (iV a3)]])), (1, (Ob.arr 47 3 (p.map dencTRelease))), (2, (Ob.arr 51 3 (a5.map encTPublished)))], 3⟩ : St)) (fun k188 p => k188 p = some r) (fun k188 h => ?_) ?_
       ·refine spC h rfl (fun hb190 h => ?_) (fun hb190 h => ?_)
        ·obtain ⟨x191, hx192, h⟩ := bind_some h
         refine rn 1 rfl ?_
         refine dr mixed (vs 10 rfl (oD (a := a4) hx192 rfl rfl rfl rfl (vs 1 rfl .nil))) (by kernel_rfl) ?_
         obtain ⟨x193, hx194, h⟩ := bind_some h
         obtain ⟨x195, hx196, h⟩ := bind_some h
         obtain ⟨x197, hx198, h⟩ := bind_some h
         refine ck h (fun hc199 h => ?_)
         refine awp_ghost ghost_res ?_
         refine awp_ghost ghost_res ?_
         refine fa ?_
         refine dr mixed (vs 4 rfl (xD (OD.mk [(99, (V.ptr 1 3 (w64 (((a4.length : Nat) : Int) - 1)).toNat 2))] [(1, (Ob.arr 47 3 (a4.map dencTRelease))), (3, Ob.res)] [(100, (V.own 3 x191.Exposures.length))] [(1, (Ob.arr 47 3 (setC (a4.map dencTRelease) ((w64 (((a4.length : Nat) : Int) - 1)).toNat) (dencTRelease x191) 2 (V.own 3 x191.Exposures.length)))), (3, (Ob.arr 66 3 (x191.Exposures.map encTExposure)))]) ⟨⟨rfl, trivial⟩, ⟨rfl, rfl, trivial⟩⟩ (by exact fun S hn h hh => aops_load_takeS_at 3 rfl hn hh.2.1 dencTRelease encTExposure rfl tC45 wants_none h.1 hh.1 (idx_some hx192).2 rfl rfl (aops_nil ⟨rfl, rfl⟩)) rfl (vs 1 rfl (iD hx194 rfl rfl rfl (vs 2 rfl (iD hx196 rfl rfl rfl (vs 2 rfl (iD hx198 rfl rfl rfl (vs 2 rfl (xD (OD.mk [(110, (V.agg [(sV x193), (sV x195), (iV x197)]))] [] [(111, (V.lst 3 (([(TExposure.mk x193 x195 x197)] : List TExposure).map encTExposure)))] []) ⟨⟨rfl, trivial⟩, trivial⟩ (by exact fun S hn h hh => aops_buildSlice_imm [(0, (V.agg [(sV x193), (sV x195), (iV x197)]))] [[(sV x193), (sV x195), (iV x197)]] tEl45 tZ66 wants_none rfl rfl rfl rfl (evp_cons h.1 evp_nil) rfl rfl (by simp) (imms_rows (.cons (.cons (Imm.con _) (.cons (Imm.con _) (.cons (Imm.con _) .nil))) .nil)) rfl (aops_nil ⟨rfl, rfl⟩)) rfl (xD (OD.mk [(100, (V.own 3 x191.Exposures.length)), (111, (V.lst 3 (([(TExposure.mk x193 x195 x197)] : List TExposure).map encTExposure)))] [(3, (Ob.arr 66 3 (x191.Exposures.map encTExposure))), (4, Ob.res)] [(112, (V.own 4 (x191.Exposures ++ ([(TExposure.mk x193 x195 x197)] : List TExposure)).length))] [(4, (Ob.arr 66 3 ((x191.Exposures ++ ([(TExposure.mk x193 x195 x197)] : List TExposure)).map encTExposure))), (3, Ob.dead)]) ⟨⟨rfl, rfl, trivial⟩, ⟨rfl, rfl, trivial⟩⟩ (by exact fun S hn h hh => aops_append_at 4 rfl hn hh.2.1 (([(TExposure.mk x193 x195 x197)] : List TExposure).map encTExposure) ((x191.Exposures ++ ([(TExposure.mk x193 x195 x197)] : List TExposure)).map encTExposure) tEl45 tIsSl45 rfl rfl wants_none h.1 hh.1 (by simp) h.2.1 (.lst (rows_one one_encTExposure)) (map_snoc encTExposure x191.Exposures ([(TExposure.mk x193 x195 x197)] : List TExposure)) (List.length_map ..) hc199 rfl (aops_nil ⟨rfl, rfl⟩)) rfl (vs 2 rfl (xD (OD.mk [(114, (V.ptr 1 3 (w64 (((a4.length : Nat) : Int) - 1)).toNat 2)), (112, (V.own 4 (x191.Exposures ++ ([(TExposure.mk x193 x195 x197)] : List TExposure)).length))] [(1, (Ob.arr 47 3 (setC (a4.map dencTRelease) ((w64 (((a4.length : Nat) : Int) - 1)).toNat) (dencTRelease x191) 2 (V.own 3 x191.Exposures.length)))), (4, (Ob.arr 66 3 ((x191.Exposures ++ ([(TExposure.mk x193 x195 x197)] : List TExposure)).map encTExposure)))] [] [(1, (Ob.arr 47 3 ((a4.set ((w64 (((a4.length : Nat) : Int) - 1)).toNat) ({ x191 with Exposures := (x191.Exposures ++ ([(TExposure.mk x193 x195 x197)] : List TExposure)) } : TRelease)).map dencTRelease))), (4, Ob.dead)]) ⟨⟨rfl, rfl, trivial⟩, ⟨rfl, rfl, trivial⟩⟩ (by exact fun S hn h hh => aops_store_untakeS dencTRelease encTExposure (fun z => (imms_encTExposure z).keep) (a4.set ((w64 (((a4.length : Nat) : Int) - 1)).toNat) ({ x191 with Exposures := (x191.Exposures ++ ([(TExposure.mk x193 x195 x197)] : List TExposure)) } : TRelease)) tS45 wants_none h.1 h.2.1 hh.1 (Nat.le_of_ble_eq_true rfl) (by simpa using idx_lt hx192) hh.2.1 (by simp) rfl (by rw [List.map_set]; rfl) (aops_nil ⟨rfl, rfl⟩)) rfl .nil))))))))))))) (by kernel_rfl) ?_
         exact jX (a4.set ((w64 (((a4.length : Nat) : Int) - 1)).toNat) ({ x191 with Exposures := (x191.Exposures ++ ([(TExposure.mk x193 x195 x197)] : List TExposure)) } : TRelease)) h (ghost_ren 3 (fun i => ([0, 1, 2] : List Nat).getD i 0) _ _ (by decide) (EnvSub.get (.cons (Sub.imm (Imm.con _)) .nil)) (HpSub.get (.cons rfl (ObSub.box (.cons (Sub.imm (Imm.con _)) (.cons (Sub.ownE rfl rfl (by simp)) (.cons (Sub.own rfl rfl) (.cons (Sub.imm (Imm.con _)) .nil))))) (.cons rfl (ObSub.rowsK RK.h) (.cons rfl (ObSub.rows (rows_imm imms_encTPublished)) .nil)))) rfl)
        refine rn 1 rfl ?_
        exact jX a4 h (gr [0, 1, 2] rfl (hB rfl rfl rfl (hR rfl rfl (hR rfl rfl .nil))) rfl)
       intro l189 h
       refine rn 5 rfl ?_
       replace h := Option.some.inj h
       subst h
       exact wR ⟨.inl rfl, [(4, (bV (y186.2)))], (Ghost.trans (ghost_mvC 1 0 3 47 3 (Ob.arr 25 4 [[(sV a2), (V.own 3 l189.length), (V.own 2 a5.length), (iV a3)]]) rfl rfl rfl (ObSub.box (.cons Sub.keepMv (.cons Sub.mv (.cons Sub.keepMv (.cons Sub.keepMv .nil))))) rfl rfl) (Ghost.trans (ghost_mvC 2 0 4 51 3 (Ob.arr 25 4 [[(sV a2), (V.own 3 l189.length), (V.own 4 a5.length), (iV a3)]]) rfl rfl rfl (ObSub.box (.cons Sub.keepMv (.cons Sub.keepMv (.cons Sub.mv (.cons Sub.keepMv .nil))))) rfl rfl) (gr [0, 1, 2, 3, 4] rfl (hB rfl rfl rfl (hD rfl (hD rfl (hR rfl rfl (hR rfl rfl .nil))))) rfl))), (.cons (.tmp rfl) .nil)⟩
      refine rn 3 rfl ?_
      refine ixl h rfl rfl (fun x200 hx201 h => ?_)
      refine rn 4 rfl ?_
      refine spC h rfl (fun hb202 h => ?_) (fun hb202 h => ?_)
      ·refine rn 4 rfl ?_
       refine ck h (fun hc203 h => ?_)
       refine aops_slice_lst (1) (a1.length) ((a1.drop 1).map encS) tSl35 wants_none rfl ⟨_, rfl⟩ (List.length_map ..).symm hc203 (Nat.le_of_eq (List.length_map ..).symm) slL_hi rfl ?_
       obtain ⟨y204, hx205, h⟩ := bind_some h
       refine aops_mcallS (bV (y204.1)) [(V.ptr 0 4 0 0), (V.lst 1 ((a1.drop 1).map encS))] (fun i => ([0, 1, 2] : List Nat).getD i 0) (fun i => ([0, 1, 2, 3] : List Nat).getD i 0) 3 4 [(0, (Ob.arr 25 4 [[(sV a2), (V.own 1 a4.length), (V.own 3 (y204.2).length), (iV a3)]])), (1, (Ob.arr 47 3 (a4.map dencTRelease))), (2, Ob.dead), (3, (Ob.arr 51 3 ((y204.2).map encTPublished)))] fOk27 wants_none rfl (evm_cons rfl (evm_cons rfl evm_nil)) (.cons (Sub.ptr rfl rfl) (.cons (Sub.imm (Imm.lst _ _)) .nil)) (.cons rfl (ObSub.box (.cons (Sub.imm (Imm.con _)) (.cons (Sub.own rfl rfl) (.cons (Sub.own rfl rfl) (.cons (Sub.imm (Imm.con _)) .nil))))) (.cons rfl (ObSub.rowsK RK.h) (.cons rfl (ObSub.rows (rows_imm imms_encTPublished)) .nil))) (W27 F (a1.drop 1) a2 a3 a4 a5 y204 hx205) rfl rfl rfl rfl (Sub.immT (Imm.con _)) (.cons rfl (ObSub.box (.cons (Sub.immT (Imm.con _)) (.cons (Sub.ownT rfl rfl) (.cons (Sub.ownT rfl rfl) (.cons (Sub.immT (Imm.con _)) .nil))))) (.cons rfl (ObSub.rowsTK RK.h) (.cons rfl ObSub.deadT (.cons rfl (ObSub.rowsT (rows_imm imms_encTPublished)) .nil)))) _ rfl ?_
       refine fo (rn 2 rfl ?_)
       replace h := Option.some.inj h
       subst h
       exact wR ⟨.inl rfl, [(4, (bV (y204.1)))], (Ghost.trans (ghost_mvC 1 0 4 47 3 (Ob.arr 25 4 [[(sV a2), (V.own 4 a4.length), (V.own 3 (y204.2).length), (iV a3)]]) rfl rfl rfl (ObSub.box (.cons Sub.keepMv (.cons Sub.mv (.cons Sub.keepMv (.cons Sub.keepMv .nil))))) rfl rfl) (gr [0, 1, 2, 4, 3] rfl (hB rfl rfl rfl (hD rfl (hD rfl (hR rfl rfl (hR rfl rfl .nil))))) rfl)), (.cons (.tmp rfl) .nil)⟩
      refine rn 2 rfl ?_
      exact jX () h (gr [0, 1, 2] rfl (hB rfl rfl rfl (hR rfl rfl (hR rfl rfl .nil))) rfl)
     refine rn 13 rfl ?_
     refine ixl h rfl rfl (fun x206 hx207 h => ?_)
     refine rn 4 rfl ?_
     refine spC h rfl (fun hb208 h => ?_) (fun hb208 h => ?_)
     ·refine rn 4 rfl ?_
      refine ck h (fun hc209 h => ?_)
      refine aops_slice_lst (1) (a1.length) ((a1.drop 1).map encS) tSl35 wants_none rfl ⟨_, rfl⟩ (List.length_map ..).symm hc209 (Nat.le_of_eq (List.length_map ..).symm) slL_hi rfl ?_
      obtain ⟨y210, hx211, h⟩ := bind_some h
      refine aops_mcallS (bV (y210.1)) [(V.ptr 0 4 0 0), (V.lst 1 ((a1.drop 1).map encS))] (fun i => ([0, 1, 2] : List Nat).getD i 0) (fun i => ([0, 1, 2, 3] : List Nat).getD i 0) 3 4 [(0, (Ob.arr 25 4 [[(sV a2), (V.own 1 a4.length), (V.own 3 (y210.2).length), (iV a3)]])), (1, (Ob.arr 47 3 (a4.map dencTRelease))), (2, Ob.dead), (3, (Ob.arr 51 3 ((y210.2).map encTPublished)))] fOk27 wants_none rfl (evm_cons rfl (evm_cons rfl evm_nil)) (.cons (Sub.ptr rfl rfl) (.cons (Sub.imm (Imm.lst _ _)) .nil)) (.cons rfl (ObSub.box (.cons (Sub.imm (Imm.con _)) (.cons (Sub.own rfl rfl) (.cons (Sub.own rfl rfl) (.cons (Sub.imm (Imm.con _)) .nil))))) (.cons rfl (ObSub.rowsK RK.h) (.cons rfl (ObSub.rows (rows_imm imms_encTPublished)) .nil))) (W27 F (a1.drop 1) a2 a3 a4 a5 y210 hx211) rfl rfl rfl rfl (Sub.immT (Imm.con _)) (.cons rfl (ObSub.box (.cons (Sub.immT (Imm.con _)) (.cons (Sub.ownT rfl rfl) (.cons (Sub.ownT rfl rfl) (.cons (Sub.immT (Imm.con _)) .nil))))) (.cons rfl (ObSub.rowsTK RK.h) (.cons rfl ObSub.deadT (.cons rfl (ObSub.rowsT (rows_imm imms_encTPublished)) .nil)))) _ rfl ?_
      refine fo (rn 2 rfl ?_)
      replace h := Option.some.inj h
      subst h
      exact wR ⟨.inl rfl, [(4, (bV (y210.1)))], (Ghost.trans (ghost_mvC 1 0 4 47 3 (Ob.arr 25 4 [[(sV a2), (V.own 4 a4.length), (V.own 3 (y210.2).length), (iV a3)]]) rfl rfl rfl (ObSub.box (.cons Sub.keepMv (.cons Sub.mv (.cons Sub.keepMv (.cons Sub.keepMv .nil))))) rfl rfl) (gr [0, 1, 2, 4, 3] rfl (hB rfl rfl rfl (hD rfl (hD rfl (hR rfl rfl (hR rfl rfl .nil))))) rfl)), (.cons (.tmp rfl) .nil)⟩
     refine rn 2 rfl ?_
     exact jX () h (gr [0, 1, 2] rfl (hB rfl rfl rfl (hR rfl rfl (hR rfl rfl .nil))) rfl)
    refine rn 21 rfl ?_
    refine ixl h rfl rfl (fun x212 hx213 h => ?_)
    refine rn 4 rfl ?_
    refine spC h rfl (fun hb214 h => ?_) (fun hb214 h => ?_)
    ·refine rn 4 rfl ?_
     refine ck h (fun hc215 h => ?_)
     refine aops_slice_lst (1) (a1.length) ((a1.drop 1).map encS) tSl35 wants_none rfl ⟨_, rfl⟩ (List.length_map ..).symm hc215 (Nat.le_of_eq (List.length_map ..).symm) slL_hi rfl ?_
     obtain ⟨y216, hx217, h⟩ := bind_some h
     refine aops_mcallS (bV (y216.1)) [(V.ptr 0 4 0 0), (V.lst 1 ((a1.drop 1).map encS))] (fun i => ([0, 1, 2] : List Nat).getD i 0) (fun i => ([0, 1, 2, 3] : List Nat).getD i 0) 3 4 [(0, (Ob.arr 25 4 [[(sV a2), (V.own 1 a4.length), (V.own 3 (y216.2).length), (iV a3)]])), (1, (Ob.arr 47 3 (a4.map dencTRelease))), (2, Ob.dead), (3, (Ob.arr 51 3 ((y216.2).map encTPublished)))] fOk27 wants_none rfl (evm_cons rfl (evm_cons rfl evm_nil)) (.cons (Sub.ptr rfl rfl) (.cons (Sub.imm (Imm.lst _ _)) .nil)) (.cons rfl (ObSub.box (.cons (Sub.imm (Imm.con _)) (.cons (Sub.own rfl rfl) (.cons (Sub.own rfl rfl) (.cons (Sub.imm (Imm.con _)) .nil))))) (.cons rfl (ObSub.rowsK RK.h) (.cons rfl (ObSub.rows (rows_imm imms_encTPublished)) .nil))) (W27 F (a1.drop 1) a2 a3 a4 a5 y216 hx217) rfl rfl rfl rfl (Sub.immT (Imm.con _)) (.cons rfl (ObSub.box (.cons (Sub.immT (Imm.con _)) (.cons (Sub.ownT rfl rfl) (.cons (Sub.ownT rfl rfl) (.cons (Sub.immT (Imm.con _)) .nil))))) (.cons rfl (ObSub.rowsTK RK.h) (.cons rfl ObSub.deadT (.cons rfl (ObSub.rowsT (rows_imm imms_encTPublished)) .nil)))) _ rfl ?_
     refine fo (rn 2 rfl ?_)
     replace h := Option.some.inj h
     subst h
     exact wR ⟨.inl rfl, [(4, (bV (y216.1)))], (Ghost.trans (ghost_mvC 1 0 4 47 3 (Ob.arr 25 4 [[(sV a2), (V.own 4 a4.length), (V.own 3 (y216.2).length), (iV a3)]]) rfl rfl rfl (ObSub.box (.cons Sub.keepMv (.cons Sub.mv (.cons Sub.keepMv (.cons Sub.keepMv .nil))))) rfl rfl) (gr [0, 1, 2, 4, 3] rfl (hB rfl rfl rfl (hD rfl (hD rfl (hR rfl rfl (hR rfl rfl .nil))))) rfl)), (.cons (.tmp rfl) .nil)⟩
    refine rn 2 rfl ?_
    exact jX () h (gr [0, 1, 2] rfl (hB rfl rfl rfl (hR rfl rfl (hR rfl rfl .nil))) rfl)
   refine rn 26 rfl ?_
   refine ixl h rfl rfl (fun x218 hx219 h => ?_)
   refine rn 4 rfl ?_
   refine spC h rfl (fun hb220 h => ?_) (fun hb220 h => ?_)
   ·refine rn 4 rfl ?_
    refine ck h (fun hc221 h => ?_)
    refine aops_slice_lst (1) (a1.length) ((a1.drop 1).map encS) tSl35 wants_none rfl ⟨_, rfl⟩ (List.length_map ..).symm hc221 (Nat.le_of_eq (List.length_map ..).symm) slL_hi rfl ?_
    obtain ⟨y222, hx223, h⟩ := bind_some h
    refine aops_mcallS (bV (y222.1)) [(V.ptr 0 4 0 0), (V.lst 1 ((a1.drop 1).map encS))] (fun i => ([0, 1, 2] : List Nat).getD i 0) (fun i => ([0, 1, 2, 3] : List Nat).getD i 0) 3 4 [(0, (Ob.arr 25 4 [[(sV a2), (V.own 1 a4.length), (V.own 3 (y222.2).length), (iV a3)]])), (1, (Ob.arr 47 3 (a4.map dencTRelease))), (2, Ob.dead), (3, (Ob.arr 51 3 ((y222.2).map encTPublished)))] fOk27 wants_none rfl (evm_cons rfl (evm_cons rfl evm_nil)) (.cons (Sub.ptr rfl rfl) (.cons (Sub.imm (Imm.lst _ _)) .nil)) (.cons rfl (ObSub.box (.cons (Sub.imm (Imm.con _)) (.cons (Sub.own rfl rfl) (.cons (Sub.own rfl rfl) (.cons (Sub.imm (Imm.con _)) .nil))))) (.cons rfl (ObSub.rowsK RK.h) (.cons rfl (ObSub.rows (rows_imm imms_encTPublished)) .nil))) (W27 F (a1.drop 1) a2 a3 a4 a5 y222 hx223) rfl rfl rfl rfl (Sub.immT (Imm.con _)) (.cons rfl (ObSub.box (.cons (Sub.immT (Imm.con _)) (.cons (Sub.ownT rfl rfl) (.cons (Sub.ownT rfl rfl) (.cons (Sub.immT (Imm.con _)) .nil))))) (.cons rfl (ObSub.rowsTK RK.h) (.cons rfl ObSub.deadT (.cons rfl (ObSub.rowsT (rows_imm imms_encTPublished)) .nil)))) _ rfl ?_
    refine fo (rn 2 rfl ?_)
    replace h := Option.some.inj h
    subst h
    exact wR ⟨.inl rfl, [(4, (bV (y222.1)))], (Ghost.trans (ghost_mvC 1 0 4 47 3 (Ob.arr 25 4 [[(sV a2), (V.own 4 a4.length), (V.own 3 (y222.2).length), (iV a3)]]) rfl rfl rfl (ObSub.box (.cons Sub.keepMv (.cons Sub.mv (.cons Sub.keepMv (.cons Sub.keepMv .nil))))) rfl rfl) (gr [0, 1, 2, 4, 3] rfl (hB rfl rfl rfl (hD rfl (hD rfl (hR rfl rfl (hR rfl rfl .nil))))) rfl)), (.cons (.tmp rfl) .nil)⟩
   refine rn 2 rfl ?_
   exact jX () h (gr [0, 1, 2] rfl (hB rfl rfl rfl (hR rfl rfl (hR rfl rfl .nil))) rfl)
  refine rn 18 rfl ?_
  refine ixl h rfl rfl (fun x224 hx225 h => ?_)
  refine rn 3 rfl ?_
  refine spO 57 h rfl (fun hb226 h => ?_) (fun hb226 h => ?_)
  ·refine rn 1 rfl ?_
   refine ln rfl rfl ?_
   refine rn 3 rfl ?_
   refine spO 62 h rfl (fun hb227 h => ?_) (fun hb227 h => ?_)
   ·refine rn 8 rfl ?_
    refine spO 70 h rfl (fun hb228 h => ?_) (fun hb228 h => ?_)
    ·refine rn 9 rfl ?_
     refine spC h rfl (fun hb229 h => ?_) (fun hb229 h => ?_)
     ·refine rn 3 rfl ?_
      refine ck h (fun hc230 h => ?_)
      refine aops_slice_lst (1) (a1.length) ((a1.drop 1).map encS) tSl35 wants_none rfl ⟨_, rfl⟩ (List.length_map ..).symm hc230 (Nat.le_of_eq (List.length_map ..).symm) slL_hi rfl ?_
      refine fo ?_
      refine cl h rfl rfl rfl (W13 _ _ _) rfl (fun y231 hx232 h => ?_)
      refine rn 11 rfl ?_
      refine jK h (fun (p : (List TRelease)) => (⟨[(8, (bV (y231.2)))], [(0, (Ob.arr 25 4 [[(sV a2), (V.own 1 p.length), (V.own 2 a5.length), (iV a3)]])), (1, (Ob.arr 47 3 (p.map dencTRelease))), (2, (Ob.arr 51 3 (a5.map encTPublished)))], 3⟩ : St)) (fun k233 p => k233 p = some r) (fun k233 h => ?_) ?_
      ·refine spC h rfl (fun hb235 h => ?_) (fun hb235 h => ?_)
       ·obtain ⟨x236, hx237, h⟩ := bind_some h
        refine rn 1 rfl ?_
        refine dr mixed (vs 10 rfl (oD (a := a4) hx237 rfl rfl rfl rfl (vs 1 rfl .nil))) (by kernel_rfl) ?_
        obtain ⟨x238, hx239, h⟩ := bind_some h
        obtain ⟨x240, hx241, h⟩ := bind_some h
        obtain ⟨x242, hx243, h⟩ := bind_some h
        refine ck h (fun hc244 h => ?_)
        refine awp_ghost ghost_res ?_
        refine awp_ghost ghost_res ?_
        refine fa ?_
        refine dr mixed (vs 4 rfl (xD (OD.mk [(99, (V.ptr 1 3 (w64 (((a4.length : Nat) : Int) - 1)).toNat 2))] [(1, (Ob.arr 47 3 (a4.map dencTRelease))), (3, Ob.res)] [(100, (V.own 3 x236.Exposures.length))] [(1, (Ob.arr 47 3 (setC (a4.map dencTRelease) ((w64 (((a4.length : Nat) : Int) - 1)).toNat) (dencTRelease x236) 2 (V.own 3 x236.Exposures.length)))), (3, (Ob.arr 66 3 (x236.Exposures.map encTExposure)))]) ⟨⟨rfl, trivial⟩, ⟨rfl, rfl, trivial⟩⟩ (by exact fun S hn h hh => aops_load_takeS_at 3 rfl hn hh.2.1 dencTRelease encTExposure rfl tC45 wants_none h.1 hh.1 (idx_some hx237).2 rfl rfl (aops_nil ⟨rfl, rfl⟩)) rfl (vs 1 rfl (iD hx239 rfl rfl rfl (vs 2 rfl (iD hx241 rfl rfl rfl (vs 2 rfl (iD hx243 rfl rfl rfl (vs 2 rfl (xD (OD.mk [(110, (V.agg [(sV x238), (sV x240), (iV x242)]))] [] [(111, (V.lst 3 (([(TExposure.mk x238 x240 x242)] : List TExposure).map encTExposure)))] []) ⟨⟨rfl, trivial⟩, trivial⟩ (by exact fun S hn h hh => aops_buildSlice_imm [(0, (V.agg [(sV x238), (sV x240), (iV x242)]))] [[(sV x238), (sV x240), (iV x242)]] tEl45 tZ66 wants_none rfl rfl rfl rfl (evp_cons h.1 evp_nil) rfl rfl (by simp) (imms_rows (.cons (.cons (Imm.con _) (.cons (Imm.con _) (.cons (Imm.con _) .nil))) .nil)) rfl (aops_nil ⟨rfl, rfl⟩)) rfl (xD (OD.mk [(100, (V.own 3 x236.Exposures.length)), (111, (V.lst 3 (([(TExposure.mk x238 x240 x242)] : List TExposure).map encTExposure)))] [(3, (Ob.arr 66 3 (x236.Exposures.map encTExposure))), (4, Ob.res)] [(112, (V.own 4 (x236.Exposures ++ ([(TExposure.mk x238 x240 x242)] : List TExposure)).length))] [(4, (Ob.arr 66 3 ((x236.Exposures ++ ([(TExposure.mk x238 x240 x242)] : List TExposure)).map encTExposure))), (3, Ob.dead)]) ⟨⟨rfl, rfl, trivial⟩, ⟨rfl, rfl, trivial⟩⟩ (by exact fun S hn h hh => aops_append_at 4 rfl hn hh.2.1 (([(TExposure.mk x238 x240 x242)] : List TExposure).map encTExposure) ((x236.Exposures ++ ([(TExposure.mk x238 x240 x242)] : List TExposure)).map encTExposure) tEl45 tIsSl45 rfl rfl wants_none h.1 hh.1 (by simp) h.2.1 (.lst (rows_one one_encTExposure)) (map_snoc encTExposure x236.Exposures ([(TExposure.mk x238 x240 x242)] : List TExposure)) (List.length_map ..) hc244 rfl (aops_nil ⟨rfl, rfl⟩)) rfl (vs 2 rfl (xD (OD.mk [(114, (V.ptr 1 3 (w64 (((a4.length : Nat) : Int) - 1)).toNat 2)), (112, (V.own 4 (x236.Exposures ++ ([(TExposure.mk x238 x240 x242)] : List TExposure)).length))] [(1, (Ob.arr 47 3 (setC (a4.map dencTRelease) ((w64 (((a4.length : Nat) : Int) - 1)).toNat) (dencTRelease x236) 2 (V.own 3 x236.Exposures.length)))), (4, (Ob.arr 66 3 ((x236.Exposures ++ ([(TExposure.mk x238 x240 x242)] : List TExposure)).map encTExposure)))] [] [(1, (Ob.arr 47 3 ((a4.set ((w64 (((a4.length : Nat) : Int) - 1)).toNat) ({ x236 with Exposures := (x236.Exposures ++ ([(TExposure.mk x238 x240 x242)] : List TExposure)) } : TRelease)).map dencTRelease))), (4, Ob.dead)]) ⟨⟨rfl, rfl, trivial⟩, ⟨rfl, rfl, trivial⟩⟩ (by exact fun S hn h hh => aops_store_untakeS dencTRelease encTExposure (fun z => (imms_encTExposure z).keep) (a4.set ((w64 (((a4.length : Nat) : Int) - 1)).toNat) ({ x236 with Exposures := (x236.Exposures ++ ([(TExposure.mk x238 x240 x242)] : List TExposure)) } : TRelease)) tS45 wants_none h.1 h.2.1 hh.1 (Nat.le_of_ble_eq_true rfl) (by simpa using idx_lt hx237) hh.2.1 (by simp) rfl (by rw [List.map_set]; rfl) (aops_nil ⟨rfl, rfl⟩)) rfl .nil))))))))))))) (by kernel_rfl) ?_
        exact jX (a4.set ((w64 (((a4.length : Nat) : Int) - 1)).toNat) ({ x236 with Exposures := (x236.Exposures ++ ([(TExposure.mk x238 x240 x242)] : List TExposure)) } : TRelease)) h (ghost_ren 3 (fun i => ([0, 1, 2] : List Nat).getD i 0) _ _ (by decide) (EnvSub.get (.cons (Sub.imm (Imm.con _)) .nil)) (HpSub.get (.cons rfl (ObSub.box (.cons (Sub.imm (Imm.con _)) (.cons (Sub.ownE rfl rfl (by simp)) (.cons (Sub.own rfl rfl) (.cons (Sub.imm (Imm.con _)) .nil))))) (.cons rfl (ObSub.rowsK RK.h) (.cons rfl (ObSub.rows (rows_imm imms_encTPublished)) .nil)))) rfl)
       refine rn 1 rfl ?_
       exact jX a4 h (gr [0, 1, 2] rfl (hB rfl rfl rfl (hR rfl rfl (hR rfl rfl .nil))) rfl)
      intro l234 h
      refine rn 5 rfl ?_
      replace h := Option.some.inj h
      subst h
      exact wR ⟨.inl rfl, [(4, (bV (y231.2)))], (Ghost.trans (ghost_mvC 1 0 3 47 3 (Ob.arr 25 4 [[(sV a2), (V.own 3 l234.length), (V.own 2 a5.length), (iV a3)]]) rfl rfl rfl (ObSub.box (.cons Sub.keepMv (.cons Sub.mv (.cons Sub.keepMv (.cons Sub.keepMv .nil))))) rfl rfl) (Ghost.trans (ghost_mvC 2 0 4 51 3 (Ob.arr 25 4 [[(sV a2), (V.own 3 l234.length), (V.own 4 a5.length), (iV a3)]]) rfl rfl rfl (ObSub.box (.cons Sub.keepMv (.cons Sub.keepMv (.cons Sub.mv (.cons Sub.keepMv .nil))))) rfl rfl) (gr [0, 1, 2, 3, 4] rfl (hB rfl rfl rfl (hD rfl (hD rfl (hR rfl rfl (hR rfl rfl .nil))))) rfl))), (.cons (.tmp rfl) .nil)⟩
     refine rn 3 rfl ?_
     refine ixl h rfl rfl (fun x245 hx246 h => ?_)
     refine rn 4 rfl ?_
     refine spC h rfl (fun hb247 h => ?_) (fun hb247 h => ?_)
     ·refine rn 4 rfl ?_
      refine ck h (fun hc248 h => ?_)
      refine aops_slice_lst (1) (a1.length) ((a1.drop 1).map encS) tSl35 wants_none rfl ⟨_, rfl⟩ (List.length_map ..).symm hc248 (Nat.le_of_eq (List.length_map ..).symm) slL_hi rfl ?_
      obtain ⟨y249, hx250, h⟩ := bind_some h
      refine aops_mcallS (bV (y249.1)) [(V.ptr 0 4 0 0), (V.lst 1 ((a1.drop 1).map encS))] (fun i => ([0, 1, 2] : List Nat).getD i 0) (fun i => ([0, 1, 2, 3] : List Nat).getD i 0) 3 4 [(0, (Ob.arr 25 4 [[(sV a2), (V.own 1 a4.length), (V.own 3 (y249.2).length), (iV a3)]])), (1, (Ob.arr 47 3 (a4.map dencTRelease))), (2, Ob.dead), (3, (Ob.arr 51 3 ((y249.2).map encTPublished)))] fOk27 wants_none rfl (evm_cons rfl (evm_cons rfl evm_nil)) (.cons (Sub.ptr rfl rfl) (.cons (Sub.imm (Imm.lst _ _)) .nil)) (.cons rfl (ObSub.box (.cons (Sub.imm (Imm.con _)) (.cons (Sub.own rfl rfl) (.cons (Sub.own rfl rfl) (.cons (Sub.imm (Imm.con _)) .nil))))) (.cons rfl (ObSub.rowsK RK.h) (.cons rfl (ObSub.rows (rows_imm imms_encTPublished)) .nil))) (W27 F (a1.drop 1) a2 a3 a4 a5 y249 hx250) rfl rfl rfl rfl (Sub.immT (Imm.con _)) (.cons rfl (ObSub.box (.cons (Sub.immT (Imm.con _)) (.cons (Sub.ownT rfl rfl) (.cons (Sub.ownT rfl rfl) (.cons (Sub.immT (Imm.con _)) .nil))))) (.cons rfl (ObSub.rowsTK RK.h) (.cons rfl ObSub.deadT (.cons rfl (ObSub.rowsT (rows_imm imms_encTPublished)) .nil)))) _ rfl ?_
      refine fo (rn 2 rfl ?_)
      replace h := Option.some.inj h
      subst h
      exact wR ⟨.inl rfl, [(4, (bV (y249.1)))], (Ghost.trans (ghost_mvC 1 0 4 47 3 (Ob.arr 25 4 [[(sV a2), (V.own 4 a4.length), (V.own 3 (y249.2).length), (iV a3)]]) rfl rfl rfl (ObSub.box (.cons Sub.keepMv (.cons Sub.mv (.cons Sub.keepMv (.cons Sub.keepMv .nil))))) rfl rfl) (gr [0, 1, 2, 4, 3] rfl (hB rfl rfl rfl (hD rfl (hD rfl (hR rfl rfl (hR rfl rfl .nil))))) rfl)), (.cons (.tmp rfl) .nil)⟩
     refine rn 2 rfl ?_
     exact jX () h (gr [0, 1, 2] rfl (hB rfl rfl rfl (hR rfl rfl (hR rfl rfl .nil))) rfl)
    refine rn 13 rfl ?_
    refine ixl h rfl rfl (fun x251 hx252 h => ?_)
    refine rn 4 rfl ?_
    refine spC h rfl (fun hb253 h => ?_) (fun hb253 h => ?_)
    ·refine rn 4 rfl ?_
     refine ck h (fun hc254 h => ?_)
     refine aops_slice_lst (1) (a1.length) ((a1.drop 1).map encS) tSl35 wants_none rfl ⟨_, rfl⟩ (List.length_map ..).symm hc254 (Nat.le_of_eq (List.length_map ..).symm) slL_hi rfl ?_
     obtain ⟨y255, hx256, h⟩ := bind_some h
     refine aops_mcallS (bV (y255.1)) [(V.ptr 0 4 0 0), (V.lst 1 ((a1.drop 1).map encS))] (fun i => ([0, 1, 2] : List Nat).getD i 0) (fun i => ([0, 1, 2, 3] : List Nat).getD i 0) 3 4 [(0, (Ob.arr 25 4 [[(sV a2), (V.own 1 a4.length), (V.own 3 (y255.2).length), (iV a3)]])), (1, (Ob.arr 47 3 (a4.map dencTRelease))), (2, Ob.dead), (3, (Ob.arr 51 3 ((y255.2).map encTPublished)))] fOk27 wants_none rfl (evm_cons rfl (evm_cons rfl evm_nil)) (.cons (Sub.ptr rfl rfl) (.cons (Sub.imm (Imm.lst _ _)) .nil)) (.cons rfl (ObSub.box (.cons (Sub.imm (Imm.con _)) (.cons (Sub.own rfl rfl) (.cons (Sub.own rfl rfl) (.cons (Sub.imm (Imm.con _)) .nil))))) (.cons rfl (ObSub.rowsK RK.h) (.cons rfl (ObSub.rows (rows_imm imms_encTPublished)) .nil))) (W27 F (a1.drop 1) a2 a3 a4 a5 y255 hx256) rfl rfl rfl rfl (Sub.immT (Imm.con _)) (.cons rfl (ObSub.box (.cons (Sub.immT (Imm.con _)) (.cons (Sub.ownT rfl rfl) (.cons (Sub.ownT rfl rfl) (.cons (Sub.immT (Imm.con _)) .nil))))) (.cons rfl (ObSub.rowsTK RK.h) (.cons rfl ObSub.deadT (.cons rfl (ObSub.rowsT (rows_imm imms_encTPublished)) .nil)))) _ rfl ?_
     refine fo (rn 2 rfl ?_)
     replace h := Option.some.inj h
     subst h
     exact wR ⟨.inl rfl, [(4, (bV (y255.1)))], (Ghost.trans (ghost_mvC 1 0 4 47 3 (Ob.arr 25 4 [[(sV a2), (V.own 4 a4.length), (V.own 3 (y255.2).length), (iV a3)]]) rfl rfl rfl (ObSub.box (.cons Sub.keepMv (.cons Sub.mv (.cons Sub.keepMv (.cons Sub.keepMv .nil))))) rfl rfl) (gr [0, 1, 2, 4, 3] rfl (hB rfl rfl rfl (hD rfl (hD rfl (hR rfl rfl (hR rfl rfl .nil))))) rfl)), (.cons (.tmp rfl) .nil)⟩
    refine rn 2 rfl ?_
    exact jX () h (gr [0, 1, 2] rfl (hB rfl rfl rfl (hR rfl rfl (hR rfl rfl .nil))) rfl)
   refine rn 21 rfl ?_
   refine ixl h rfl rfl (fun x257 hx258 h => ?_)
   refine rn 4 rfl ?_
   refine spC h rfl (fun hb259 h => ?_) (fun hb259 h => ?_)
   ·refine rn 4 rfl ?_
    refine ck h (fun hc260 h => ?_)
    refine aops_slice_lst (1) (a1.length) ((a1.drop 1).map encS) tSl35 wants_none rfl ⟨_, rfl⟩ (List.length_map ..).symm hc260 (Nat.le_of_eq (List.length_map ..).symm) slL_hi rfl ?_
    obtain ⟨y261, hx262, h⟩ := bind_some h
    refine aops_mcallS (bV (y261.1)) [(V.ptr 0 4 0 0), (V.lst 1 ((a1.drop 1).map encS))] (fun i => ([0, 1, 2] : List Nat).getD i 0) (fun i => ([0, 1, 2, 3] : List Nat).getD i 0) 3 4 [(0, (Ob.arr 25 4 [[(sV a2), (V.own 1 a4.length), (V.own 3 (y261.2).length), (iV a3)]])), (1, (Ob.arr 47 3 (a4.map dencTRelease))), (2, Ob.dead), (3, (Ob.arr 51 3 ((y261.2).map encTPublished)))] fOk27 wants_none rfl (evm_cons rfl (evm_cons rfl evm_nil)) (.cons (Sub.ptr rfl rfl) (.cons (Sub.imm (Imm.lst _ _)) .nil)) (.cons rfl (ObSub.box (.cons (Sub.imm (Imm.con _)) (.cons (Sub.own rfl rfl) (.cons (Sub.own rfl rfl) (.cons (Sub.imm (Imm.con _)) .nil))))) (.cons rfl (ObSub.rowsK RK.h) (.cons rfl (ObSub.rows (rows_imm imms_encTPublished)) .nil))) (W27 F (a1.drop 1) a2 a3 a4 a5 y261 hx262) rfl rfl rfl rfl (Sub.immT (Imm.con _)) (.cons rfl (ObSub.box (.cons (Sub.immT (Imm.con _)) (.cons (Sub.ownT rfl rfl) (.cons (Sub.ownT rfl rfl) (.cons (Sub.immT (Imm.con _)) .nil))))) (.cons rfl (ObSub.rowsTK RK.h) (.cons rfl ObSub.deadT (.cons rfl (ObSub.rowsT (rows_imm imms_encTPublished)) .nil)))) _ rfl ?_
    refine fo (rn 2 rfl ?_)
    replace h := Option.some.inj h
    subst h
    exact wR ⟨.inl rfl, [(4, (bV (y261.1)))], (Ghost.trans (ghost_mvC 1 0 4 47 3 (Ob.arr 25 4 [[(sV a2), (V.own 4 a4.length), (V.own 3 (y261.2).length), (iV a3)]]) rfl rfl rfl (ObSub.box (.cons Sub.keepMv (.cons Sub.mv (.cons Sub.keepMv (.cons Sub.keepMv .nil))))) rfl rfl) (gr [0, 1, 2, 4, 3] rfl (hB rfl rfl rfl (hD rfl (hD rfl (hR rfl rfl (hR rfl rfl .nil))))) rfl)), (.cons (.tmp rfl) .nil)⟩
   refine rn 2 rfl ?_
   exact jX () h (gr [0, 1, 2] rfl (hB rfl rfl rfl (hR rfl rfl (hR rfl rfl .nil))) rfl)
  refine rn 26 rfl ?_
  refine ixl h rfl rfl (fun x263 hx264 h => ?_)
  refine rn 4 rfl ?_
  refine spC h rfl (fun hb265 h => ?_) (fun hb265 h => ?_)
  ·refine rn 4 rfl ?_
   refine ck h (fun hc266 h => ?_)
   refine aops_slice_lst (1) (a1.length) ((a1.drop 1).map encS) tSl35 wants_none rfl ⟨_, rfl⟩ (List.length_map ..).symm hc266 (Nat.le_of_eq (List.length_map ..).symm) slL_hi rfl ?_
   obtain ⟨y267, hx268, h⟩ := bind_some h
   refine aops_mcallS (bV (y267.1)) [(V.ptr 0 4 0 0), (V.lst 1 ((a1.drop 1).map encS))] (fun i => ([0, 1, 2] : List Nat).getD i 0) (fun i => ([0, 1, 2, 3] : List Nat).getD i 0) 3 4 [(0, (Ob.arr 25 4 [[(sV a2), (V.own 1 a4.length), (V.own 3 (y267.2).length), (iV a3)]])), (1, (Ob.arr 47 3 (a4.map dencTRelease))), (2, Ob.dead), (3, (Ob.arr 51 3 ((y267.2).map encTPublished)))] fOk27 wants_none rfl (evm_cons rfl (evm_cons rfl evm_nil)) (.cons (Sub.ptr rfl rfl) (.cons (Sub.imm (Imm.lst _ _)) .nil)) (.cons rfl (ObSub.box (.cons (Sub.imm (Imm.con _)) (.cons (Sub.own rfl rfl) (.cons (Sub.own rfl rfl) (.cons (Sub.imm (Imm.con _)) .nil))))) (.cons rfl (ObSub.rowsK RK.h) (.cons rfl (ObSub.rows (rows_imm imms_encTPublished)) .nil))) (W27 F (a1.drop 1) a2 a3 a4 a5 y267 hx268) rfl rfl rfl rfl (Sub.immT (Imm.con _)) (.cons rfl (ObSub.box (.cons (Sub.immT (Imm.con _)) (.cons (Sub.ownT rfl rfl) (.cons (Sub.ownT rfl rfl) (.cons (Sub.immT (Imm.con _)) .nil))))) (.cons rfl (ObSub.rowsTK RK.h) (.cons rfl ObSub.deadT (.cons rfl (ObSub.rowsT (rows_imm imms_encTPublished)) .nil)))) _ rfl ?_
   refine fo (rn 2 rfl ?_)
   replace h := Option.some.inj h
   subst h
   exact wR ⟨.inl rfl, [(4, (bV (y267.1)))], (Ghost.trans (ghost_mvC 1 0 4 47 3 (Ob.arr 25 4 [[(sV a2), (V.own 4 a4.length), (V.own 3 (y267.2).length), (iV a3)]]) rfl rfl rfl (ObSub.box (.cons Sub.keepMv (.cons Sub.mv (.cons Sub.keepMv (.cons Sub.keepMv .nil))))) rfl rfl) (gr [0, 1, 2, 4, 3] rfl (hB rfl rfl rfl (hD rfl (hD rfl (hR rfl rfl (hR rfl rfl .nil))))) rfl)), (.cons (.tmp rfl) .nil)⟩
  refine rn 2 rfl ?_
  exact jX () h (gr [0, 1, 2] rfl (hB rfl rfl rfl (hR rfl rfl (hR rfl rfl .nil))) rfl)
 intro _ h
 refine rn 4 rfl ?_
 replace h := Option.some.inj h
 subst h
 exact wR ⟨.inl rfl, [(4, (bV false))], (Ghost.trans (ghost_mvC 1 0 3 47 3 (Ob.arr 25 4 [[(sV a2), (V.own 3 a4.length), (V.own 2 a5.length), (iV a3)]]) rfl rfl rfl (ObSub.box (.cons Sub.keepMv (.cons Sub.mv (.cons Sub.keepMv (.cons Sub.keepMv .nil))))) rfl rfl) (Ghost.trans (ghost_mvC 2 0 4 51 3 (Ob.arr 25 4 [[(sV a2), (V.own 3 a4.length), (V.own 4 a5.length), (iV a3)]]) rfl rfl rfl (ObSub.box (.cons Sub.keepMv (.cons Sub.keepMv (.cons Sub.mv (.cons Sub.keepMv .nil))))) rfl rfl) (gr [0, 1, 2, 3, 4] rfl (hB rfl rfl rfl (hD rfl (hD rfl (hR rfl rfl (hR rfl rfl .nil))))) rfl))), (.cons (.tmp rfl) .nil)⟩
theorem W5 (F : Nat) (a1 : (List UInt8)) (r : (TStory × Int × Int)) (h : M5 F a1 = some r) : PureG (gl mx) Tryd.prog 5 [(sV a1)] (V.tup [(V.agg (encTStory (r.1))), (iV (r.2.1)), (iV (r.2.2))]) := by
 refine pin (fun r => (V.tup [(V.agg (encTStory (r.1))), (iV (r.2.1)), (iV (r.2.2))])) r rfl Tryd.func5 rfl rfl rfl rfl rfl (fun w0 m0 hg => ?_)
 unfold M5 at h
 refine rn 13 rfl ?_
 refine spC h rfl (fun hb2 h => ?_) (fun hb2 h => ?_)
 ·refine rn 7 rfl ?_
  exact rt h rfl
 refine rn 8 rfl ?_
 refine cl h rfl rfl rfl (W11 _ _ _) rfl (fun y3 hx4 h => ?_)
 refine rn 6 rfl ?_
 refine ln rfl rfl ?_
 refine rn 1 rfl ?_
 refine ixl h rfl rfl (fun x5 hx6 h => ?_)
 refine rn 9 rfl ?_
 refine jK h (fun (p : (List (List UInt8))) => (⟨[(2, (V.ptr 0 4 0 0)), (5, (V.ptr 1 4 0 0)), (6, (V.lst 1 (p.map encS))), (7, (bV (x5 == ([] : List UInt8))))], [(0, (Ob.arr 25 4 [[(sV ([] : List UInt8)), nV, nV, (iV 0)]])), (1, (Ob.arr 25 4 [[(sV ([] : List UInt8)), nV, nV, (iV 0)]]))], 2⟩ : St)) (fun k7 p => k7 p = some r) (fun k7 h => ?_) ?_
 ·refine spC h rfl (fun hb9 h => ?_) (fun hb9 h => ?_)
  ·refine rn 3 rfl ?_
   refine ln rfl rfl ?_
   refine rn 1 rfl ?_
   refine ck h (fun hc10 h => ?_)
   refine aops_slice_lst (0) ((w64 (((y3.length : Nat) : Int) - 1)).toNat) ((y3.take (w64 (((y3.length : Nat) : Int) - 1)).toNat).map encS) tSl35 wants_none rfl rfl ⟨_, (by rw [Int.toNat_of_nonneg hc10.1]; exact rfl)⟩ (Nat.zero_le _) (by simpa using hc10.2) slL_lo rfl ?_
   refine fo (rn 2 rfl ?_)
   exact jX (y3.take (w64 (((y3.length : Nat) : Int) - 1)).toNat) h (gr [0, 1] rfl (hB rfl rfl rfl (hB rfl rfl rfl .nil)) rfl)
  refine rn 1 rfl ?_
  exact jX y3 h (gr [0, 1] rfl (hB rfl rfl rfl (hB rfl rfl rfl .nil)) rfl)
 intro l8 h
 refine rn 4 rfl ?_
 refine ln rfl rfl ?_
 refine rn 2 rfl ?_
 refine jK h (fun (p : (List UInt8) × Int × (List TRelease) × (List TPublished)) => (⟨[(2, (V.ptr 0 4 0 0)), (5, (V.ptr 1 4 0 0)), (6, (V.lst 1 (l8.map encS))), (7, (bV (x5 == ([] : List UInt8))))], [(0, (Ob.arr 25 4 [[(sV ([] : List UInt8)), nV, nV, (iV 0)]])), (1, (Ob.arr 25 4 [[(sV (p.1)), (V.own 2 (p.2.2.1).length), (V.own 3 (p.2.2.2).length), (iV (p.2.1))]])), (2, (Ob.arr 47 3 ((p.2.2.1).map dencTRelease))), (3, (Ob.arr 51 3 ((p.2.2.2).map encTPublished)))], 4⟩ : St)) (fun k11 p => k11 p.1 p.2.1 p.2.2.1 p.2.2.2 = some r) (fun k11 h => ?_) ?_
 ·refine rn 1 rfl ?_
  refine wl (A := l8) 6 rfl (fun hA53 => ?_)
  refine lC (fun (p : Int × (List UInt8) × Int × (List TRelease) × (List TPublished)) => (⟨[(2, (V.ptr 0 4 0 0)), (5, (V.ptr 1 4 0 0)), (6, (V.lst 1 (l8.map encS))), (7, (bV (x5 == ([] : List UInt8)))), (33, (V.lst 1 (l8.map encS))), (34, (iV ((l8.length : Nat) : Int))), (35, (iV (p.1)))], [(0, (Ob.arr 25 4 [[(sV ([] : List UInt8)), nV, nV, (iV 0)]])), (1, (Ob.arr 25 4 [[(sV (p.2.1)), (V.own 2 (p.2.2.2.1).length), (V.own 3 (p.2.2.2.2).length), (iV (p.2.2.1))]])), (2, (Ob.arr 47 3 ((p.2.2.2.1).map dencTRelease))), (3, (Ob.arr 51 3 ((p.2.2.2.2).map encTPublished)))], 4⟩ : St)) (fun n p => RG l8 (fun tl nn => M5_L1 F k11 tl nn p.2.1 p.2.2.1 p.2.2.2.1 p.2.2.2.2 = some r) n p.1) (fun p h => RG.zero h) (l8.length + 1) (0, ([] : List UInt8), 0, ([] : List TRelease), ([] : List TPublished)) (RG.start h) (Ghost.trans (ghost_nilC 1 47 3 (Ob.arr 25 4 [[(sV ([] : List UInt8)), (V.own 2 0), nV, (iV 0)]]) (ObSub.box (.cons Sub.keepNil (.cons Sub.mkNil (.cons Sub.keepNil (.cons Sub.keepNil .nil)))))) (Ghost.trans (ghost_nilC 1 51 3 (Ob.arr 25 4 [[(sV ([] : List UInt8)), (V.own 2 0), (V.own 3 0), (iV 0)]]) (ObSub.box (.cons Sub.keepNil (.cons Sub.keepNil (.cons Sub.mkNil (.cons Sub.keepNil .nil)))))) (ghost_ren 4 (fun i => ([0, 1, 2, 3] : List Nat).getD i 0) _ _ (by decide) (EnvSub.get (.cons (Sub.ptr rfl rfl) (.cons (Sub.ptr rfl rfl) (.cons (Sub.imm (Imm.lst _ _)) (.cons (Sub.imm (Imm.con _)) (.cons (Sub.imm (Imm.lst _ _)) (.cons (Sub.imm (Imm.con _)) (.cons (Sub.imm (Imm.con _)) .nil)))))))) (HpSub.get (.cons rfl (ObSub.box (.cons (Sub.imm (Imm.con _)) (.cons (Sub.imm (Imm.con _)) (.cons (Sub.imm (Imm.con _)) (.cons (Sub.imm (Imm.con _)) .nil))))) (.cons rfl (ObSub.box (.cons (Sub.imm (Imm.con _)) (.cons (Sub.ownE rfl rfl (by simp)) (.cons (Sub.ownE rfl rfl (by simp)) (.cons (Sub.imm (Imm.con _)) .nil))))) (.cons rfl (ObSub.rowsK RK.h) (.cons rfl (ObSub.rows (rows_imm imms_encTPublished)) .nil))))) rfl))) (fun n p h => ?_)
  obtain ⟨n21, s22, n23, l24, l25⟩ := p
  refine rn 5 rfl ?_
  refine spL rfl (fun hb26 => ?_) (fun hb26 => ?_)
  ·obtain ⟨x27, tl, hx28, h, hk1⟩ := RG.t hA53 h hb26
   unfold M5_L1 at h
   refine rn 6 rfl ?_
   refine ixh hx28 rfl rfl ?_
   refine rn 7 rfl ?_
   refine cl h rfl rfl rfl (W11 _ _ _) rfl (fun y29 hx30 h => ?_)
   refine rn 12 rfl ?_
   refine jK h (fun (p : Bool × (List UInt8) × Int × (List TRelease) × (List TPublished)) => (⟨[(2, (V.ptr 0 4 0 0)), (5, (V.ptr 1 4 0 0)), (6, (V.lst 1 (l8.map encS))), (7, (bV (x5 == ([] : List UInt8)))), (8, (iV n21)), (11, (bV (p.1))), (33, (V.lst 1 (l8.map encS))), (34, (iV ((l8.length : Nat) : Int))), (35, (iV n21))], [(0, (Ob.arr 25 4 [[(sV ([] : List UInt8)), nV, nV, (iV 0)]])), (1, (Ob.arr 25 4 [[(sV (p.2.1)), (V.own 2 (p.2.2.2.1).length), (V.own 3 (p.2.2.2.2).length), (iV (p.2.2.1))]])), (2, (Ob.arr 47 3 ((p.2.2.2.1).map dencTRelease))), (3, (Ob.arr 51 3 ((p.2.2.2.2).map encTPublished)))], 4⟩ : St)) (fun k31 p => k31 p.1 p.2.1 p.2.2.1 p.2.2.2.1 p.2.2.2.2 = some r) (fun k31 h => ?_) ?_
   ·refine spC h rfl (fun hb37 h => ?_) (fun hb37 h => ?_)
    ·obtain ⟨y38, hx39, h⟩ := bind_some h
     refine rn 2 rfl ?_
     refine aops_mcallS (bV (y38.1)) [(V.ptr 1 4 0 0), (V.lst 1 (y29.map encS))] (fun i => ([1, 2, 3] : List Nat).getD i 0) (fun i => ([1, 2, 3, 4, 5] : List Nat).getD i 0) 4 6 [(1, (Ob.arr 25 4 [[(sV s22), (V.own 4 (y38.2.1).length), (V.own 5 (y38.2.2).length), (iV n23)]])), (2, Ob.dead), (3, Ob.dead), (4, (Ob.arr 47 3 ((y38.2.1).map dencTRelease))), (5, (Ob.arr 51 3 ((y38.2.2).map encTPublished)))] fOk12 wants_none rfl (evm_cons rfl (evm_cons rfl evm_nil)) (.cons (Sub.ptr rfl rfl) (.cons (Sub.imm (Imm.lst _ _)) .nil)) (.cons rfl (ObSub.box (.cons (Sub.imm (Imm.con _)) (.cons (Sub.own rfl rfl) (.cons (Sub.own rfl rfl) (.cons (Sub.imm (Imm.con _)) .nil))))) (.cons rfl (ObSub.rowsK RK.h) (.cons rfl (ObSub.rows (rows_imm imms_encTPublished)) .nil))) (W12 F y29 s22 n23 l24 l25 y38 hx39) rfl rfl rfl rfl (Sub.immT (Imm.con _)) (.cons rfl (ObSub.box (.cons (Sub.immT (Imm.con _)) (.cons (Sub.ownT rfl rfl) (.cons (Sub.ownT rfl rfl) (.cons (Sub.immT (Imm.con _)) .nil))))) (.cons rfl ObSub.deadT (.cons rfl ObSub.deadT (.cons rfl (ObSub.rowsTK RK.h) (.cons rfl (ObSub.rowsT (rows_imm imms_encTPublished)) .nil))))) _ rfl ?_
     refine fo (rn 2 rfl ?_)
     exact jX ((y38.1), s22, n23, (y38.2.1), (y38.2.2)) h (gr [0, 1, 4, 5] rfl (hB rfl rfl rfl (hB rfl rfl rfl (hR rfl rfl (hR rfl rfl .nil)))) rfl)
    refine rn 3 rfl ?_
    refine ixl h rfl rfl (fun x40 hx41 h => ?_)
    refine rn 3 rfl ?_
    refine spO 50 h rfl (fun hb42 h => ?_) (fun hb42 h => ?_)
    ·refine rn 1 rfl ?_
     refine ln rfl rfl ?_
     refine rn 3 rfl ?_
     refine spC h rfl (fun hb43 h => ?_) (fun hb43 h => ?_)
     ·refine rn 7 rfl ?_
      refine ck h (fun hc44 h => ?_)
      refine aops_slice_lst (1) (y29.length) ((y29.drop 1).map encS) tSl35 wants_none rfl ⟨_, rfl⟩ (List.length_map ..).symm hc44 (Nat.le_of_eq (List.length_map ..).symm) slL_hi rfl ?_
      refine fo ?_
      refine cl h rfl rfl rfl (W13 _ _ _) rfl (fun y45 hx46 h => ?_)
      refine rn 10 rfl ?_
      refine spC h rfl (fun hb47 h => ?_) (fun hb47 h => ?_)
      ·obtain ⟨x48, hx49, h⟩ := bind_some h
       obtain ⟨x50, hx51, h⟩ := bind_some h
       refine dr mixed (vs 1 rfl (iD hx49 rfl rfl rfl (vs 2 rfl (iD hx51 rfl rfl rfl (vs 5 rfl .nil))))) (by kernel_rfl) ?_
       exact jX ((y45.2), x48, x50, l24, l25) h (gr [0, 1, 2, 3] rfl (hB rfl rfl rfl (hB rfl rfl rfl (hR rfl rfl (hR rfl rfl .nil)))) rfl)
      refine rn 1 rfl ?_
      exact jX ((y45.2), s22, n23, l24, l25) h (gr [0, 1, 2, 3] rfl (hB rfl rfl rfl (hB rfl rfl rfl (hR rfl rfl (hR rfl rfl .nil)))) rfl)
     refine rn 1 rfl ?_
     exact jX (false, s22, n23, l24, l25) h (gr [0, 1, 2, 3] rfl (hB rfl rfl rfl (hB rfl rfl rfl (hR rfl rfl (hR rfl rfl .nil)))) rfl)
    refine rn 7 rfl ?_
    exact jX (false, s22, n23, l24, l25) h (gr [0, 1, 2, 3] rfl (hB rfl rfl rfl (hB rfl rfl rfl (hR rfl rfl (hR rfl rfl .nil)))) rfl)
   rintro ⟨b32, s33, n34, l35, l36⟩ h
   refine rn 5 rfl ?_
   refine spC h rfl (fun hb52 h => ?_) (fun hb52 h => ?_)
   ·refine rn 8 rfl ?_
    exact rt h rfl
   refine rn 6 rfl ?_
   exact jX ((w64 (n21 + 1)), s33, n34, l35, l36) (hk1 _ h) (gr [0, 1, 2, 3] rfl (hB rfl rfl rfl (hB rfl rfl rfl (hR rfl rfl (hR rfl rfl .nil)))) rfl)
  replace h := RG.f h hb26
  unfold M5_L1 at h
  refine rn 1 rfl ?_
  exact jX (s22, n23, l24, l25) h (gr [0, 1, 2, 3] rfl (hB rfl rfl rfl (hB rfl rfl rfl (hR rfl rfl (hR rfl rfl .nil)))) rfl)
 rintro ⟨s12, n13, l14, l15⟩ h
 refine rn 4 rfl ?_
 refine ln rfl rfl ?_
 refine rn 2 rfl ?_
 refine spO 78 h rfl (fun hb54 h => ?_) (fun hb54 h => ?_)
 ·refine rn 9 rfl ?_
  refine ln rfl rfl ?_
  refine rn 4 rfl ?_
  exact rt h rfl
 refine rn 4 rfl ?_
 refine spC h rfl (fun hb55 h => ?_) (fun hb55 h => ?_)
 ·refine rn 4 rfl ?_
  refine ln rfl rfl ?_
  refine rn 4 rfl ?_
  exact rt h rfl
 obtain ⟨y56, hx57, h⟩ := bind_some h
 refine rn 5 rfl ?_
 refine aops_lend_call (iV y56) [(V.agg [(sV s12), (V.lst 3 (l14.map encTRelease)), (V.lst 3 (l15.map encTPublished)), (iV n13)])] fOk14 (Ghost.trans (ghost_frzSV 2 85 (V.agg [(sV s12), (V.lst 3 (l14.map encTRelease)), (V.own 3 l15.length), (iV n13)]) rfl und_dencTRelease rfl (Sub.agg (.cons Sub.keep (.cons (Sub.frzAll (rows := l14.map encTRelease) (List.length_map ..).symm) (.cons Sub.keep (.cons Sub.keep .nil)))))) (ghost_frzV 3 85 (V.agg [(sV s12), (V.lst 3 (l14.map encTRelease)), (V.lst 3 (l15.map encTPublished)), (iV n13)]) rfl (rows_imm imms_encTPublished) rfl (Sub.agg (.cons Sub.keep (.cons Sub.keep (.cons (Sub.frzAll (rows := l15.map encTPublished) (List.length_map ..).symm) (.cons Sub.keep .nil))))))) (Flat.con _) wants_none (evm_cons rfl evm_nil) (.cons (Imm.agg (.cons (Imm.con _) (.cons (Imm.lst _ _) (.cons (Imm.lst _ _) (.cons (Imm.con _) .nil))))) .nil) (W14 F (TStory.mk s12 l14 l15 n13) y56 hx57) rfl ?_
 refine fo (rn 7 rfl ?_)
 refine spC h rfl (fun hb58 h => ?_) (fun hb58 h => ?_)
 ·refine rn 8 rfl ?_
  exact rt h rfl
 refine rn 8 rfl ?_
 refine awp_ghost (ghost_frzSC 2 0 (Ob.arr 25 4 [[(sV s12), (V.lst 3 (l14.map encTRelease)), (V.own 3 l15.length), (iV n13)]]) und_dencTRelease rfl (ObSub.box (.cons Sub.keep (.cons (Sub.frzAll (by simp)) (.cons Sub.keep (.cons Sub.keep .nil)))))) ?_
 refine awp_ghost (ghost_frzC 3 0 (Ob.arr 25 4 [[(sV s12), (V.lst 3 (l14.map encTRelease)), (V.lst 3 (l15.map encTPublished)), (iV n13)]]) rfl (rows_imm imms_encTPublished) (ObSub.box (.cons Sub.keep (.cons Sub.keep (.cons (Sub.frzAll (rows := l15.map encTPublished) (List.length_map ..).symm) (.cons Sub.keep .nil)))))) ?_
 refine fa ?_
 exact rt h rfl
theorem W39 (F : Nat) (a1 : (List TExposure)) (a2 : (List TExposure)) (r : Bool) (h : M39 F a1 a2 = some r) : PureG (gl mx) Tryd.prog 39 [(V.lst 3 (a1.map encTExposure)), (V.lst 3 (a2.map encTExposure))] (bV r) := by
 refine pin (fun r => (bV r)) r rfl Tryd.func39 rfl rfl rfl rfl rfl (fun w0 m0 hg => ?_)
 unfold M39 at h
 refine rn 8 rfl ?_
 refine ln rfl rfl ?_
 refine rn 1 rfl ?_
 refine ln rfl rfl ?_
 refine rn 2 rfl ?_
 refine spC h rfl (fun hb3 h => ?_) (fun hb3 h => ?_)
 ·refine rn 4 rfl ?_
  exact rt h rfl
 refine rn 5 rfl ?_
 refine ln rfl rfl ?_
 refine rn 2 rfl ?_
 refine jK h (fun _ : Unit => (⟨[], [], 0⟩ : St)) (fun k4 (_ : Unit) => k4 = some r) (fun k4 h => ?_) ?_
 ·refine rn 1 rfl ?_
  refine wl (A := a1) 0 rfl (fun hA13 => ?_)
  refine lC (fun (p : Int) => (⟨[(0, (V.lst 3 (a1.map encTExposure))), (1, (V.lst 3 (a2.map encTExposure))), (12, (iV ((a1.length : Nat) : Int))), (13, (iV p))], [], 0⟩ : St)) (fun n p => RG a1 (fun tl nn => M39_L1 F a2 k4 tl nn = some r) n p) (fun p h => RG.zero h) (a1.length + 1) 0 (RG.start h) (g0 rfl rfl) (fun n n6 h => ?_)
  refine rn 5 rfl ?_
  refine spL rfl (fun hb7 => ?_) (fun hb7 => ?_)
  ·obtain ⟨x8, tl, hx9, h, hk1⟩ := RG.t hA13 h hb7
   unfold M39_L1 at h
   obtain ⟨x10, hx11, h⟩ := bind_some h
   refine rn 9 rfl ?_
   refine dr mixed (vs 2 rfl (iD hx9 rfl rfl rfl (vs 3 rfl (iD hx11 rfl rfl rfl (vs 1 rfl (xD (OD.mk [(19, (V.agg (encTExposure x8))), (23, (V.agg (encTExposure x10)))] [] [(24, (bV (!(decide (x8 = x10)))))] []) ⟨⟨rfl, rfl, trivial⟩, trivial⟩ (by exact fun S hn h hh => aops_eqS true (xs := cv66 x8) (ys := cv66 x10) (b := (decide (x8 = x10))) eqk66 ⟨_, rfl⟩ ⟨_, rfl⟩ (eq_b cv66 _ _ (inj_cv66 _ _)) tEqG66 wants_none h.1 h.2.1 rfl (aops_nil ⟨rfl, rfl⟩)) rfl .nil)))))) (by kernel_rfl) ?_
   refine spC h rfl (fun hb12 h => ?_) (fun hb12 h => ?_)
   ·refine rn 4 rfl ?_
    exact rt h rfl
   refine rn 6 rfl ?_
   exact jX (w64 (n6 + 1)) (hk1 _ h) (g0 rfl rfl)
  replace h := RG.f h hb7
  unfold M39_L1 at h
  refine rn 1 rfl ?_
  exact jX () h (g0 rfl rfl)
 intro _ h
 refine rn 4 rfl ?_
 exact rt h rfl
theorem W18 (F : Nat) (a1 : TRelease) (a2 : TRelease) (r : Bool) (h : M18 F a1 a2 = some r) : PureG (gl mx) Tryd.prog 18 [(V.agg (encTRelease a1)), (V.agg (encTRelease a2))] (bV r) := by
 refine pin (fun r => (bV r)) r rfl Tryd.func18 rfl rfl rfl rfl rfl (fun w0 m0 hg => ?_)
 unfold M18 at h
 refine rn 14 rfl ?_
 refine spO 10 h rfl (fun hb3 h => ?_) (fun hb3 h => ?_)
 ·refine rn 7 rfl ?_
  refine spO 17 h rfl (fun hb4 h => ?_) (fun hb4 h => ?_)
  ·refine rn 4 rfl ?_
   refine cl h rfl rfl rfl (W39 _ _ _) rfl (fun y5 hx6 h => ?_)
   refine rn 3 rfl ?_
   exact rt h rfl
  refine rn 8 rfl ?_
  exact rt h rfl
 refine rn 15 rfl ?_
 exact rt h rfl
theorem W17 (F : Nat) (a1 : (List TRelease)) (a2 : (List TRelease)) (r : Bool) (h : M17 F a1 a2 = some r) : PureG (gl mx) Tryd.prog 17 [(V.lst 3 (a1.map encTRelease)), (V.lst 3 (a2.map encTRelease)), (V.fn (.func 18) [] [])] (bV r) := by
 refine pin (fun r => (bV r)) r rfl Tryd.func17 rfl rfl rfl rfl rfl (fun w0 m0 hg => ?_)
 unfold M17 at h
 refine rn 8 rfl ?_
 refine ln rfl rfl ?_
 refine rn 1 rfl ?_
 refine ln rfl rfl ?_
 refine rn 2 rfl ?_
 refine spC h rfl (fun hb3 h => ?_) (fun hb3 h => ?_)
 ·refine rn 4 rfl ?_
  exact rt h rfl
 refine rn 5 rfl ?_
 refine ln rfl rfl ?_
 refine rn 2 rfl ?_
 refine jK h (fun _ : Unit => (⟨[], [], 0⟩ : St)) (fun k4 (_ : Unit) => k4 = some r) (fun k4 h => ?_) ?_
 ·refine rn 1 rfl ?_
  refine wl (A := a1) 0 rfl (fun hA15 => ?_)
  refine lC (fun (p : Int) => (⟨[(1, (V.lst 3 (a2.map encTRelease))), (2, (V.fn (.func 18) [] [])), (15, (V.lst 3 (a1.map encTRelease))), (16, (iV ((a1.length : Nat) : Int))), (17, (iV p))], [], 0⟩ : St)) (fun n p => RG a1 (fun tl nn => M17_L1 F a2 k4 tl nn = some r) n p) (fun p h => RG.zero h) (a1.length + 1) 0 (RG.start h) (g0 rfl rfl) (fun n n6 h => ?_)
  refine rn 5 rfl ?_
  refine spL rfl (fun hb7 => ?_) (fun hb7 => ?_)
  ·obtain ⟨x8, tl, hx9, h, hk1⟩ := RG.t hA15 h hb7
   unfold M17_L1 at h
   refine rn 6 rfl ?_
   refine ixh hx9 rfl rfl ?_
   refine rn 9 rfl ?_
   refine ixl h rfl rfl (fun x10 hx11 h => ?_)
   refine rn 9 rfl ?_
   refine cl h rfl rfl rfl (W18 _ _ _) rfl (fun y12 hx13 h => ?_)
   refine rn 2 rfl ?_
   refine spC h rfl (fun hb14 h => ?_) (fun hb14 h => ?_)
   ·refine rn 4 rfl ?_
    exact rt h rfl
   refine rn 6 rfl ?_
   exact jX (w64 (n6 + 1)) (hk1 _ h) (g0 rfl rfl)
  replace h := RG.f h hb7
  unfold M17_L1 at h
  refine rn 1 rfl ?_
  exact jX () h (g0 rfl rfl)
 intro _ h
 refine rn 4 rfl ?_
 exact rt h rfl
theorem W19 (F : Nat) (a1 : (List TPublished)) (a2 : (List TPublished)) (r : Bool) (h : M19 F a1 a2 = some r) : PureG (gl mx) Tryd.prog 19 [(V.lst 3 (a1.map encTPublished)), (V.lst 3 (a2.map encTPublished))] (bV r) := by
 refine pin (fun r => (bV r)) r rfl Tryd.func19 rfl rfl rfl rfl rfl (fun w0 m0 hg => ?_)
 unfold M19 at h
 refine rn 8 rfl ?_
 refine ln rfl rfl ?_
 refine rn 1 rfl ?_
 refine ln rfl rfl ?_
 refine rn 2 rfl ?_
 refine spC h rfl (fun hb3 h => ?_) (fun hb3 h => ?_)
 ·refine rn 4 rfl ?_
  exact rt h rfl
 refine rn 5 rfl ?_
 refine ln rfl rfl ?_
 refine rn 2 rfl ?_
 refine jK h (fun _ : Unit => (⟨[], [], 0⟩ : St)) (fun k4 (_ : Unit) => k4 = some r) (fun k4 h => ?_) ?_
 ·refine rn 1 rfl ?_
  refine wl (A := a1) 0 rfl (fun hA13 => ?_)
  refine lC (fun (p : Int) => (⟨[(0, (V.lst 3 (a1.map encTPublished))), (1, (V.lst 3 (a2.map encTPublished))), (12, (iV ((a1.length : Nat) : Int))), (13, (iV p))], [], 0⟩ : St)) (fun n p => RG a1 (fun tl nn => M19_L1 F a2 k4 tl nn = some r) n p) (fun p h => RG.zero h) (a1.length + 1) 0 (RG.start h) (g0 rfl rfl) (fun n n6 h => ?_)
  refine rn 5 rfl ?_
  refine spL rfl (fun hb7 => ?_) (fun hb7 => ?_)
  ·obtain ⟨x8, tl, hx9, h, hk1⟩ := RG.t hA13 h hb7
   unfold M19_L1 at h
   obtain ⟨x10, hx11, h⟩ := bind_some h
   refine rn 9 rfl ?_
   refine dr mixed (vs 2 rfl (iD hx9 rfl rfl rfl (vs 3 rfl (iD hx11 rfl rfl rfl (vs 1 rfl (xD (OD.mk [(19, (V.agg (encTPublished x8))), (23, (V.agg (encTPublished x10)))] [] [(24, (bV (!(decide (x8 = x10)))))] []) ⟨⟨rfl, rfl, trivial⟩, trivial⟩ (by exact fun S hn h hh => aops_eqS true (xs := cv51 x8) (ys := cv51 x10) (b := (decide (x8 = x10))) eqk51 ⟨_, rfl⟩ ⟨_, rfl⟩ (eq_b cv51 _ _ (inj_cv51 _ _)) tEqG51 wants_none h.1 h.2.1 rfl (aops_nil ⟨rfl, rfl⟩)) rfl .nil)))))) (by kernel_rfl) ?_
   refine spC h rfl (fun hb12 h => ?_) (fun hb12 h => ?_)
   ·refine rn 4 rfl ?_
    exact rt h rfl
   refine rn 6 rfl ?_
   exact jX (w64 (n6 + 1)) (hk1 _ h) (g0 rfl rfl)
  replace h := RG.f h hb7
  unfold M19_L1 at h
  refine rn 1 rfl ?_
  exact jX () h (g0 rfl rfl)
 intro _ h
 refine rn 4 rfl ?_
 exact rt h rfl
theorem W7 (F : Nat) (a1 : TStory) (a2 : TStory) (r : Bool) (h : M7 F a1 a2 = some r) : PureG (gl mx) Tryd.prog 7 [(V.agg (encTStory a1)), (V.agg (encTStory a2))] (bV r) := by
 refine pin (fun r => (bV r)) r rfl Tryd.func7 rfl rfl rfl rfl rfl (fun w0 m0 hg => ?_)
 unfold M7 at h
 refine rn 14 rfl ?_
 refine spO 10 h rfl (fun hb3 h => ?_) (fun hb3 h => ?_)
 ·refine rn 7 rfl ?_
  refine spO 17 h rfl (fun hb4 h => ?_) (fun hb4 h => ?_)
  ·refine rn 4 rfl ?_
   refine cl h rfl rfl rfl (W17 _ _ _) rfl (fun y5 hx6 h => ?_)
   refine rn 2 rfl ?_
   refine spO 24 h rfl (fun hb7 h => ?_) (fun hb7 h => ?_)
   ·refine rn 4 rfl ?_
    refine cl h rfl rfl rfl (W19 _ _ _) rfl (fun y8 hx9 h => ?_)
    refine rn 3 rfl ?_
    exact rt h rfl
   refine rn 8 rfl ?_
   exact rt h rfl
  refine rn 15 rfl ?_
  exact rt h rfl
 refine rn 22 rfl ?_
 exact rt h rfl
theorem W4 (F : Nat) (a1 : TStory) (r : Bool) (h : M4 F a1 = some r) : PureG (gl mx) Tryd.prog 4 [(V.agg (encTStory a1))] (bV r) := by
 refine pin (fun r => (bV r)) r rfl Tryd.func4 rfl rfl rfl rfl rfl (fun w0 m0 hg => ?_)
 unfold M4 at h
 refine rn 8 rfl ?_
 refine cl h rfl rfl rfl (W9 _ _) rfl (fun y2 hx3 h => ?_)
 refine rn 9 rfl ?_
 refine cl h rfl rfl rfl (W10 _ _) rfl (fun y4 hx5 h => ?_)
 refine rn 13 rfl ?_
 refine spO 23 h rfl (fun hb6 h => ?_) (fun hb6 h => ?_)
 ·refine rn 10 rfl ?_
  exact rt h rfl
 refine rn 5 rfl ?_
 refine spC h rfl (fun hb7 h => ?_) (fun hb7 h => ?_)
 ·refine rn 4 rfl ?_
  exact rt h rfl
 refine rn 7 rfl ?_
 refine spC h rfl (fun hb8 h => ?_) (fun hb8 h => ?_)
 ·refine rn 2 rfl ?_
  refine cl h rfl rfl rfl (W8 _) rfl (fun y9 hx10 h => ?_)
  refine rn 2 rfl ?_
  exact rt h rfl
 refine rn 4 rfl ?_
 refine cl h rfl rfl rfl (W5 _ _) rfl (fun y11 hx12 h => ?_)
 refine rn 14 rfl ?_
 refine spO 39 h rfl (fun hb13 h => ?_) (fun hb13 h => ?_)
 ·refine rn 4 rfl ?_
  refine spO 43 h rfl (fun hb14 h => ?_) (fun hb14 h => ?_)
  ·refine rn 2 rfl ?_
   refine cl h rfl rfl rfl (W7 _ _ _) rfl (fun y15 hx16 h => ?_)
   refine rn 2 rfl ?_
   refine spO 48 h rfl (fun hb17 h => ?_) (fun hb17 h => ?_)
   ·refine cl h rfl rfl rfl (W8 _) rfl (fun y18 hx19 h => ?_)
    refine rn 3 rfl ?_
    exact rt h rfl
   refine rn 4 rfl ?_
   exact rt h rfl
  refine rn 9 rfl ?_
  exact rt h rfl
 refine rn 13 rfl ?_
 exact rt h rfl
end Go.Proofs.YtcoppoeibjkinaaDoor
