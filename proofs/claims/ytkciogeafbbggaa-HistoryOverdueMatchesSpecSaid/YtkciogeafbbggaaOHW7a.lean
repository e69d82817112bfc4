/- Part of the proof: HW7a. -/
import Derived.Test.YtkciogeafbbggaaOHM
import Derived.Test.YtkciogeafbbggaaOHW6a
import Derived.Test.YtkciogeafbbggaaOHW3a
import Derived.KernelRfl
namespace Go.Proofs.Ytkciogeafbbggaa
open Go Go.Pv
set_option linter.unusedVariables false
set_option maxRecDepth 100000
theorem W94 (F : Nat) (a1 : TStory) (r : Int) (h : M94 F a1 = some r) : Pure Try.prog 94 [(V.agg (encTStory a1))] (iV r) := by
  refine pin (fun r => (iV r)) r rfl Try.func94 rfl rfl rfl rfl rfl (fun w0 m0 => ?_)
  unfold M94 at h
  refine rn 15 rfl ?_
  refine ln rfl rfl ?_
  refine rn 2 rfl ?_
  refine jK h (fun _ : Unit => (⟨[], [], 0⟩ : St)) (fun k2 (_ : Unit) => k2 = some r) (fun k2 h => ?_) ?_
  · refine rn 1 rfl ?_
    refine wl (A := a1.Releases) 9 rfl (fun hA24 => ?_)
    refine lC (fun (p : Int × (List ((List UInt8) × Bool))) => (⟨[(1, (V.ptr 0 4 0 0)), (3, (V.map 1)), (9, (V.lst 3 (a1.Releases.map encTRelease))), (10, (iV ((a1.Releases.length : Nat) : Int))), (11, (iV (p.1)))], [(0, (Ob.arr 52 4 [(encTStory a1)])), (1, (Ob.map ((p.2).map encM9_4)))], 2⟩ : St)) (fun n (p : Int × (List ((List UInt8) × Bool))) => RG a1.Releases (fun tl nn => M94_L1 F a1 k2 tl nn p.2 = some r) n p.1) (fun p h => RG.zero h) (a1.Releases.length + 1) (0, ([] : List ((List UInt8) × Bool))) (RG.start h) (gr [0, 1] rfl (hB rfl rfl rfl (hM rfl rfl .nil)) rfl) (fun n p h => ?_)
    obtain ⟨n5, m6⟩ := p
    refine rn 5 rfl ?_
    refine spL rfl (fun hb7 => ?_) (fun hb7 => ?_)
    · obtain ⟨x8, tl, hx9, h, hk1⟩ := RG.t hA24 h hb7
      unfold M94_L1 at h
      refine rn 6 rfl ?_
      refine ixh hx9 rfl rfl ?_
      refine rn 11 rfl ?_
      refine cl h rfl rfl rfl (W93 _ _) rfl (fun y10 hx11 h => ?_)
      refine rn 3 rfl ?_
      refine jK h (fun _ : Unit => (⟨[(1, (V.ptr 0 4 0 0)), (3, (V.map 1)), (5, (V.ptr 2 3 0 0)), (9, (V.lst 3 (a1.Releases.map encTRelease))), (10, (iV ((a1.Releases.length : Nat) : Int))), (11, (iV n5)), (31, (V.ptr 2 3 0 1)), (32, (iV x8.Day)), (33, (V.ptr 0 4 0 3)), (34, (iV a1.Until)), (35, (bV (decide (x8.Day > a1.Until))))], [(0, (Ob.arr 52 4 [(encTStory a1)])), (1, (Ob.map (m6.map encM9_4))), (2, (Ob.arr 42 3 [(encTRelease x8)]))], 3⟩ : St)) (fun k12 (_ : Unit) => k12 = some r) (fun k12 h => ?_) ?_
      · refine spC h rfl (fun hb13 h => ?_) (fun hb13 h => ?_)
        · refine rn 4 rfl ?_
          exact rt h rfl
        refine rn 5 rfl ?_
        refine aops_lookup _ (bV false) (bV ((mget m6 x8.Version).getD false)) tMap135 tKey9 tZo4 (irel_con _) wants_none rfl (.own rfl) (.con rfl) ⟨_, rfl⟩ encM9_4_good (encM9_4_look m6 x8.Version) (getD_map (encM9_4_val) (mget m6 x8.Version) false) rfl ?_
        refine fo (rn 2 rfl ?_)
        refine spC h rfl (fun hb14 h => ?_) (fun hb14 h => ?_)
        · refine rn 4 rfl ?_
          exact rt h rfl
        refine rn 6 rfl ?_
        refine spO 30 h rfl (fun hb15 h => ?_) (fun hb15 h => ?_)
        · refine rn 13 rfl ?_
          exact rt h rfl
        refine rn 8 rfl ?_
        refine spC h rfl (fun hb16 h => ?_) (fun hb16 h => ?_)
        · refine rn 4 rfl ?_
          exact rt h rfl
        refine rn 1 rfl ?_
        refine bs h (fun hb17 h => ?_) (fun hb17 h => ?_)
        · obtain ⟨x18, hx19, h⟩ := bind_some h
          refine dr mixed (vs 2 rfl (vb hb17 rfl (vs 6 rfl (iD hx19 rfl rfl rfl (vs 5 rfl .nil))))) (by kernel_rfl) ?_
          refine spC h rfl (fun hb20 h => ?_) (fun hb20 h => ?_)
          · refine rn 4 rfl ?_
            exact rt h rfl
          refine rn 1 rfl ?_
          exact jX () h (gr [0, 1, 2] rfl (hB rfl rfl rfl (hM rfl rfl (hB rfl rfl rfl .nil))) rfl)
        refine dr mixed (vs 2 rfl (vb hb17 rfl (vs 12 rfl .nil))) (by kernel_rfl) ?_
        refine rn 2 rfl ?_
        exact jX () h (gr [0, 1, 2] rfl (hB rfl rfl rfl (hM rfl rfl (hB rfl rfl rfl .nil))) rfl)
      intro _ h
      refine rn 6 rfl ?_
      refine aops_mapUpdate ((mput m6 x8.Version true).map encM9_4) tMap135 tKey9 wants_none rfl rfl (.con rfl) ⟨_, rfl⟩ encM9_4_good rfl (encM9_4_puts m6 x8.Version true) ?_
      refine fo (rn 5 rfl ?_)
      refine cl h rfl rfl rfl (W127 _ _) rfl (fun y21 hx22 h => ?_)
      refine rn 7 rfl ?_
      refine spC h rfl (fun hb23 h => ?_) (fun hb23 h => ?_)
      · refine rn 5 rfl ?_
        exact rt h rfl
      refine rn 6 rfl ?_
      exact jX ((w64 (n5 + 1)), (mput m6 x8.Version true)) (hk1 _ h) (gr [0, 1] rfl (hB rfl rfl rfl (hM rfl rfl .nil)) rfl)
    replace h := RG.f h hb7
    unfold M94_L1 at h
    refine rn 1 rfl ?_
    exact jX () h (g0 rfl rfl)
  intro _ h
  refine rn 4 rfl ?_
  exact rt h rfl
theorem W35 (F : Nat) (a1 : TStory) (r : Int) (h : M35 F a1 = some r) : Pure Try.prog 35 [(V.agg (encTStory a1))] (iV r) := by
  refine pin (fun r => (iV r)) r rfl Try.func35 rfl rfl rfl rfl rfl (fun w0 m0 => ?_)
  unfold M35 at h
  refine rn 11 rfl ?_
  refine cl h rfl rfl rfl (W93 _ _) rfl (fun y2 hx3 h => ?_)
  refine rn 3 rfl ?_
  refine spC h rfl (fun hb4 h => ?_) (fun hb4 h => ?_)
  · refine rn 4 rfl ?_
    exact rt h rfl
  refine rn 4 rfl ?_
  refine cl h rfl rfl rfl (W69 _ _) rfl (fun y5 hx6 h => ?_)
  refine rn 3 rfl ?_
  refine spC h rfl (fun hb7 h => ?_) (fun hb7 h => ?_)
  · refine rn 4 rfl ?_
    exact rt h rfl
  refine rn 4 rfl ?_
  refine ln rfl rfl ?_
  refine rn 2 rfl ?_
  refine spO 26 h rfl (fun hb8 h => ?_) (fun hb8 h => ?_)
  · refine rn 12 rfl ?_
    exact rt h rfl
  refine rn 2 rfl ?_
  refine ln rfl rfl ?_
  refine rn 4 rfl ?_
  refine spC h rfl (fun hb9 h => ?_) (fun hb9 h => ?_)
  · refine rn 4 rfl ?_
    exact rt h rfl
  refine rn 6 rfl ?_
  refine cl h rfl rfl rfl (W94 _ _) rfl (fun y10 hx11 h => ?_)
  refine rn 7 rfl ?_
  refine spC h rfl (fun hb12 h => ?_) (fun hb12 h => ?_)
  · refine rn 5 rfl ?_
    exact rt h rfl
  refine rn 11 rfl ?_
  refine ln rfl rfl ?_
  refine rn 2 rfl ?_
  refine jK h (fun (p : (List ((List UInt8) × Bool))) => (⟨[(1, (V.ptr 0 4 0 0)), (4, (V.map 1))], [(0, (Ob.arr 52 4 [(encTStory a1)])), (1, (Ob.map (p.map encM9_4)))], 2⟩ : St)) (fun k13 (p : (List ((List UInt8) × Bool))) => k13 p = some r) (fun k13 h => ?_) ?_
  · refine rn 1 rfl ?_
    refine wl (A := a1.Known) 28 rfl (fun hA44 => ?_)
    refine lC (fun (p : Int × (List ((List UInt8) × Bool))) => (⟨[(1, (V.ptr 0 4 0 0)), (4, (V.map 1)), (39, (V.lst 3 (a1.Known.map encTPublished))), (40, (iV ((a1.Known.length : Nat) : Int))), (41, (iV (p.1)))], [(0, (Ob.arr 52 4 [(encTStory a1)])), (1, (Ob.map ((p.2).map encM9_4)))], 2⟩ : St)) (fun n (p : Int × (List ((List UInt8) × Bool))) => RG a1.Known (fun tl nn => M35_L1 F a1 k13 tl nn p.2 = some r) n p.1) (fun p h => RG.zero h) (a1.Known.length + 1) (0, ([] : List ((List UInt8) × Bool))) (RG.start h) (gr [0, 1] rfl (hB rfl rfl rfl (hM rfl rfl .nil)) rfl) (fun n p h => ?_)
    obtain ⟨n17, m18⟩ := p
    refine rn 5 rfl ?_
    refine spL rfl (fun hb19 => ?_) (fun hb19 => ?_)
    · obtain ⟨x20, tl, hx21, h, hk1⟩ := RG.t hA44 h hb19
      unfold M35_L1 at h
      refine rn 6 rfl ?_
      refine ixh hx21 rfl rfl ?_
      refine rn 11 rfl ?_
      refine cl h rfl rfl rfl (W93 _ _) rfl (fun y22 hx23 h => ?_)
      refine rn 3 rfl ?_
      refine jK h (fun (p : Bool × Bool) => (⟨[(1, (V.ptr 0 4 0 0)), (4, (V.map 1)), (6, (V.ptr 2 3 0 0)), (39, (V.lst 3 (a1.Known.map encTPublished))), (40, (iV ((a1.Known.length : Nat) : Int))), (41, (iV n17)), (72, (V.ptr 2 3 0 2)), (73, (iV x20.Ended)), (74, (bV (x20.Ended != (-1)))), (75, (bV (p.1))), (86, (bV (p.2)))], [(0, (Ob.arr 52 4 [(encTStory a1)])), (1, (Ob.map (m18.map encM9_4))), (2, (Ob.arr 137 3 [(encTPublished x20)]))], 3⟩ : St)) (fun k24 (p : Bool × Bool) => k24 p.1 p.2 = some r) (fun k24 h => ?_) ?_
      · refine spC h rfl (fun hb27 h => ?_) (fun hb27 h => ?_)
        · refine rn 4 rfl ?_
          exact rt h rfl
        refine rn 1 rfl ?_
        refine bs h (fun hb28 h => ?_) (fun hb28 h => ?_)
        · obtain ⟨x29, hx30, h⟩ := bind_some h
          refine dr mixed (vs 2 rfl (vb hb28 rfl (vs 6 rfl (iD hx30 rfl rfl rfl (vs 5 rfl .nil))))) (by kernel_rfl) ?_
          refine spC h rfl (fun hb31 h => ?_) (fun hb31 h => ?_)
          · refine rn 4 rfl ?_
            exact rt h rfl
          refine rn 4 rfl ?_
          refine cl h rfl rfl rfl (W69 _ _) rfl (fun y32 hx33 h => ?_)
          refine rn 2 rfl ?_
          refine spO 71 h rfl (fun hb34 h => ?_) (fun hb34 h => ?_)
          · refine rn 23 rfl ?_
            exact rt h rfl
          refine rn 4 rfl ?_
          refine spO 75 h rfl (fun hb35 h => ?_) (fun hb35 h => ?_)
          · refine rn 6 rfl ?_
            refine spO 81 h rfl (fun hb36 h => ?_) (fun hb36 h => ?_)
            · refine rn 13 rfl ?_
              exact rt h rfl
            refine rn 8 rfl ?_
            refine spC h rfl (fun hb37 h => ?_) (fun hb37 h => ?_)
            · refine rn 4 rfl ?_
              exact rt h rfl
            refine rn 1 rfl ?_
            exact jX (true, (decide (x20.Ended > 1000000))) h (gr [0, 1, 2] rfl (hB rfl rfl rfl (hM rfl rfl (hB rfl rfl rfl .nil))) rfl)
          refine rn 16 rfl ?_
          exact jX (false, false) h (gr [0, 1, 2] rfl (hB rfl rfl rfl (hM rfl rfl (hB rfl rfl rfl .nil))) rfl)
        refine dr mixed (vs 2 rfl (vb hb28 rfl (vs 12 rfl .nil))) (by kernel_rfl) ?_
        refine rn 5 rfl ?_
        refine cl h rfl rfl rfl (W69 _ _) rfl (fun y38 hx39 h => ?_)
        refine rn 2 rfl ?_
        refine spO 71 h rfl (fun hb40 h => ?_) (fun hb40 h => ?_)
        · refine rn 23 rfl ?_
          exact rt h rfl
        refine rn 4 rfl ?_
        refine spO 75 h rfl (fun hb41 h => ?_) (fun hb41 h => ?_)
        · refine rn 6 rfl ?_
          refine spO 81 h rfl (fun hb42 h => ?_) (fun hb42 h => ?_)
          · refine rn 13 rfl ?_
            exact rt h rfl
          refine rn 8 rfl ?_
          refine spC h rfl (fun hb43 h => ?_) (fun hb43 h => ?_)
          · refine rn 4 rfl ?_
            exact rt h rfl
          refine rn 1 rfl ?_
          exact jX (true, (decide (x20.Ended > 1000000))) h (gr [0, 1, 2] rfl (hB rfl rfl rfl (hM rfl rfl (hB rfl rfl rfl .nil))) rfl)
        refine rn 16 rfl ?_
        exact jX (false, false) h (gr [0, 1, 2] rfl (hB rfl rfl rfl (hM rfl rfl (hB rfl rfl rfl .nil))) rfl)
      rintro ⟨b25, b26⟩ h
      refine rn 5 rfl ?_
      refine aops_mapUpdate ((mput m18 x20.Advisory true).map encM9_4) tMap135 tKey9 wants_none rfl rfl (.con rfl) ⟨_, rfl⟩ encM9_4_good rfl (encM9_4_puts m18 x20.Advisory true) ?_
      refine fo (rn 6 rfl ?_)
      exact jX ((w64 (n17 + 1)), (mput m18 x20.Advisory true)) (hk1 _ h) (gr [0, 1] rfl (hB rfl rfl rfl (hM rfl rfl .nil)) rfl)
    replace h := RG.f h hb19
    unfold M35_L1 at h
    refine rn 1 rfl ?_
    exact jX m18 h (gr [0, 1] rfl (hB rfl rfl rfl (hM rfl rfl .nil)) rfl)
  intro m14 h
  refine rn 5 rfl ?_
  refine ln rfl rfl ?_
  refine rn 2 rfl ?_
  refine jK h (fun _ : Unit => (⟨[], [], 0⟩ : St)) (fun k45 (_ : Unit) => k45 = some r) (fun k45 h => ?_) ?_
  · refine rn 1 rfl ?_
    refine wl (A := a1.Releases) 93 rfl (fun hA60 => ?_)
    refine lC (fun (p : Int) => (⟨[(4, (V.map 0)), (93, (V.lst 3 (a1.Releases.map encTRelease))), (94, (iV ((a1.Releases.length : Nat) : Int))), (95, (iV p))], [(0, (Ob.map (m14.map encM9_4)))], 1⟩ : St)) (fun n (p : Int) => RG a1.Releases (fun tl nn => M35_L2 F m14 k45 tl = some r) n p) (fun p h => RG.zero h) (a1.Releases.length + 1) 0 (RG.start h) (gr [1] rfl (hM rfl rfl .nil) rfl) (fun n n47 h => ?_)
    refine rn 5 rfl ?_
    refine spL rfl (fun hb48 => ?_) (fun hb48 => ?_)
    · obtain ⟨x50, tl, hx51, h, hk2⟩ := RG.t hA60 h hb48
      unfold M35_L2 at h
      refine rn 2 rfl ?_
      refine jK h (fun _ : Unit => (⟨[(4, (V.map 0)), (93, (V.lst 3 (a1.Releases.map encTRelease))), (94, (iV ((a1.Releases.length : Nat) : Int))), (95, (iV n47))], [(0, (Ob.map (m14.map encM9_4)))], 1⟩ : St)) (fun k49 (_ : Unit) => k49 = some r) (fun k49 h => ?_) ?_
      · refine rn 3 rfl ?_
        refine ixh hx51 rfl rfl ?_
        refine rn 8 rfl ?_
        refine ln rfl rfl ?_
        refine rn 2 rfl ?_
        refine jK h (fun _ : Unit => (⟨[(4, (V.map 0)), (93, (V.lst 3 (a1.Releases.map encTRelease))), (94, (iV ((a1.Releases.length : Nat) : Int))), (95, (iV n47))], [(0, (Ob.map (m14.map encM9_4)))], 1⟩ : St)) (fun k52 (_ : Unit) => k52 = some r) (fun k52 h => ?_) ?_
        · refine rn 1 rfl ?_
          refine wl (A := x50.Exposures) 100 rfl (fun hA59 => ?_)
          refine lC (fun (p : Int) => (⟨[(4, (V.map 0)), (93, (V.lst 3 (a1.Releases.map encTRelease))), (94, (iV ((a1.Releases.length : Nat) : Int))), (95, (iV n47)), (100, (V.lst 3 (x50.Exposures.map encTExposure))), (101, (iV ((x50.Exposures.length : Nat) : Int))), (102, (iV p))], [(0, (Ob.map (m14.map encM9_4)))], 1⟩ : St)) (fun n (p : Int) => RG x50.Exposures (fun tl nn => M35_L3 F m14 k52 tl = some r) n p) (fun p h => RG.zero h) (x50.Exposures.length + 1) 0 (RG.start h) (gr [0] rfl (hM rfl rfl .nil) rfl) (fun n n54 h => ?_)
          refine rn 5 rfl ?_
          refine spL rfl (fun hb55 => ?_) (fun hb55 => ?_)
          · obtain ⟨x56, tl, hx57, h, hk3⟩ := RG.t hA59 h hb55
            unfold M35_L3 at h
            refine rn 5 rfl ?_
            refine ixh hx57 rfl rfl ?_
            refine rn 9 rfl ?_
            refine aops_lookup _ (bV false) (bV ((mget m14 x56.Advisory).getD false)) tMap135 tKey9 tZo4 (irel_con _) wants_none rfl (.own rfl) (.con rfl) ⟨_, rfl⟩ encM9_4_good (encM9_4_look m14 x56.Advisory) (getD_map (encM9_4_val) (mget m14 x56.Advisory) false) rfl ?_
            refine fo (rn 2 rfl ?_)
            refine spC h rfl (fun hb58 h => ?_) (fun hb58 h => ?_)
            · refine rn 4 rfl ?_
              exact rt h rfl
            refine rn 6 rfl ?_
            exact jX (w64 (n54 + 1)) (hk3 _ h) (gr [0] rfl (hM rfl rfl .nil) rfl)
          replace h := RG.f h hb55
          unfold M35_L3 at h
          refine rn 1 rfl ?_
          exact jX () h (gr [0] rfl (hM rfl rfl .nil) rfl)
        intro _ h
        refine rn 1 rfl ?_
        exact jX () h (gr [0] rfl (hM rfl rfl .nil) rfl)
      intro _ h
      refine rn 4 rfl ?_
      exact jX (w64 (n47 + 1)) (hk2 _ h) (gr [0] rfl (hM rfl rfl .nil) rfl)
    replace h := RG.f h hb48
    unfold M35_L2 at h
    refine rn 1 rfl ?_
    exact jX () h (g0 rfl rfl)
  intro _ h
  refine rn 4 rfl ?_
  exact rt h rfl
theorem W97 (F : Nat) (a1 : (List TPublished)) (r : Int) (h : M97 F a1 = some r) : Pure Try.prog 97 [(V.lst 3 (a1.map encTPublished))] (iV r) := by
  refine pin (fun r => (iV r)) r rfl Try.func97 rfl rfl rfl rfl rfl (fun w0 m0 => ?_)
  unfold M97 at h
  refine rn 8 rfl ?_
  refine ln rfl rfl ?_
  refine rn 2 rfl ?_
  refine jK h (fun _ : Unit => (⟨[], [], 0⟩ : St)) (fun k2 (_ : Unit) => k2 = some r) (fun k2 h => ?_) ?_
  · refine rn 1 rfl ?_
    refine wl (A := a1) 0 rfl (fun hA30 => ?_)
    refine lC (fun (p : Int) => (⟨[(0, (V.lst 3 (a1.map encTPublished))), (5, (V.lst 3 (a1.map encTPublished))), (6, (iV ((a1.length : Nat) : Int))), (7, (iV p))], [], 0⟩ : St)) (fun n (p : Int) => RG a1 (fun tl nn => M97_L1 F a1 k2 tl nn = some r) n p) (fun p h => RG.zero h) (a1.length + 1) 0 (RG.start h) (g0 rfl rfl) (fun n n4 h => ?_)
    refine rn 5 rfl ?_
    refine spL rfl (fun hb5 => ?_) (fun hb5 => ?_)
    · obtain ⟨x6, tl, hx7, h, hk1⟩ := RG.t hA30 h hb5
      unfold M97_L1 at h
      refine rn 6 rfl ?_
      refine ixh hx7 rfl rfl ?_
      refine rn 10 rfl ?_
      refine cl h rfl rfl rfl (W95 _ _) rfl (fun y8 hx9 h => ?_)
      refine rn 3 rfl ?_
      refine jK h (fun (p : Bool × Bool) => (⟨[(0, (V.lst 3 (a1.map encTPublished))), (5, (V.lst 3 (a1.map encTPublished))), (6, (iV ((a1.length : Nat) : Int))), (7, (iV n4)), (37, (V.ptr 0 3 0 2)), (38, (iV x6.Ended)), (39, (bV (x6.Ended != (-1)))), (40, (bV (p.1))), (51, (bV (p.2)))], [(0, (Ob.arr 137 3 [(encTPublished x6)]))], 1⟩ : St)) (fun k10 (p : Bool × Bool) => k10 p.1 p.2 = some r) (fun k10 h => ?_) ?_
      · refine spC h rfl (fun hb13 h => ?_) (fun hb13 h => ?_)
        · refine rn 4 rfl ?_
          exact rt h rfl
        refine rn 1 rfl ?_
        refine bs h (fun hb14 h => ?_) (fun hb14 h => ?_)
        · obtain ⟨x15, hx16, h⟩ := bind_some h
          refine dr mixed (vs 2 rfl (vb hb14 rfl (vs 5 rfl (iD hx16 rfl rfl rfl (vs 5 rfl .nil))))) (by kernel_rfl) ?_
          refine spC h rfl (fun hb17 h => ?_) (fun hb17 h => ?_)
          · refine rn 4 rfl ?_
            exact rt h rfl
          refine rn 4 rfl ?_
          refine cl h rfl rfl rfl (W72 _ _) rfl (fun y18 hx19 h => ?_)
          refine rn 2 rfl ?_
          refine spO 36 h rfl (fun hb20 h => ?_) (fun hb20 h => ?_)
          · refine rn 23 rfl ?_
            exact rt h rfl
          refine rn 4 rfl ?_
          refine spO 40 h rfl (fun hb21 h => ?_) (fun hb21 h => ?_)
          · refine rn 6 rfl ?_
            refine spO 46 h rfl (fun hb22 h => ?_) (fun hb22 h => ?_)
            · refine rn 13 rfl ?_
              exact rt h rfl
            refine rn 8 rfl ?_
            refine spC h rfl (fun hb23 h => ?_) (fun hb23 h => ?_)
            · refine rn 4 rfl ?_
              exact rt h rfl
            refine rn 1 rfl ?_
            exact jX (true, (decide (x6.Ended > 1000000))) h (gr [0] rfl (hB rfl rfl rfl .nil) rfl)
          refine rn 16 rfl ?_
          exact jX (false, false) h (gr [0] rfl (hB rfl rfl rfl .nil) rfl)
        refine dr mixed (vs 2 rfl (vb hb14 rfl (vs 11 rfl .nil))) (by kernel_rfl) ?_
        refine rn 5 rfl ?_
        refine cl h rfl rfl rfl (W72 _ _) rfl (fun y24 hx25 h => ?_)
        refine rn 2 rfl ?_
        refine spO 36 h rfl (fun hb26 h => ?_) (fun hb26 h => ?_)
        · refine rn 23 rfl ?_
          exact rt h rfl
        refine rn 4 rfl ?_
        refine spO 40 h rfl (fun hb27 h => ?_) (fun hb27 h => ?_)
        · refine rn 6 rfl ?_
          refine spO 46 h rfl (fun hb28 h => ?_) (fun hb28 h => ?_)
          · refine rn 13 rfl ?_
            exact rt h rfl
          refine rn 8 rfl ?_
          refine spC h rfl (fun hb29 h => ?_) (fun hb29 h => ?_)
          · refine rn 4 rfl ?_
            exact rt h rfl
          refine rn 1 rfl ?_
          exact jX (true, (decide (x6.Ended > 1000000))) h (gr [0] rfl (hB rfl rfl rfl .nil) rfl)
        refine rn 16 rfl ?_
        exact jX (false, false) h (gr [0] rfl (hB rfl rfl rfl .nil) rfl)
      rintro ⟨b11, b12⟩ h
      refine rn 6 rfl ?_
      exact jX (w64 (n4 + 1)) (hk1 _ h) (g0 rfl rfl)
    replace h := RG.f h hb5
    unfold M97_L1 at h
    refine rn 1 rfl ?_
    exact jX () h (g0 rfl rfl)
  intro _ h
  refine rn 4 rfl ?_
  exact rt h rfl
theorem W36 (F : Nat) (a1 : TStory) (r : Int) (h : M36 F a1 = some r) : Pure Try.prog 36 [(V.agg (encTStory a1))] (iV r) := by
  refine pin (fun r => (iV r)) r rfl Try.func36 rfl rfl rfl rfl rfl (fun w0 m0 => ?_)
  unfold M36 at h
  refine rn 11 rfl ?_
  refine cl h rfl rfl rfl (W95 _ _) rfl (fun y2 hx3 h => ?_)
  refine rn 3 rfl ?_
  refine spC h rfl (fun hb4 h => ?_) (fun hb4 h => ?_)
  · refine rn 4 rfl ?_
    exact rt h rfl
  refine rn 4 rfl ?_
  refine cl h rfl rfl rfl (W72 _ _) rfl (fun y5 hx6 h => ?_)
  refine rn 3 rfl ?_
  refine spC h rfl (fun hb7 h => ?_) (fun hb7 h => ?_)
  · refine rn 4 rfl ?_
    exact rt h rfl
  refine rn 4 rfl ?_
  refine ln rfl rfl ?_
  refine rn 2 rfl ?_
  refine spO 30 h rfl (fun hb8 h => ?_) (fun hb8 h => ?_)
  · refine rn 12 rfl ?_
    exact rt h rfl
  refine rn 2 rfl ?_
  refine ln rfl rfl ?_
  refine rn 4 rfl ?_
  refine spC h rfl (fun hb9 h => ?_) (fun hb9 h => ?_)
  · refine rn 4 rfl ?_
    exact rt h rfl
  refine rn 12 rfl ?_
  refine ln rfl rfl ?_
  refine rn 2 rfl ?_
  refine jK h (fun _ : Unit => (⟨[(1, (V.ptr 0 4 0 0))], [(0, (Ob.arr 52 4 [(encTStory a1)]))], 1⟩ : St)) (fun k10 (_ : Unit) => k10 = some r) (fun k10 h => ?_) ?_
  · refine rn 1 rfl ?_
    refine wl (A := a1.Releases) 27 rfl (fun hA32 => ?_)
    refine lC (fun (p : Int × (List ((List UInt8) × Bool))) => (⟨[(1, (V.ptr 0 4 0 0)), (3, (V.map 1)), (38, (V.lst 3 (a1.Releases.map encTRelease))), (39, (iV ((a1.Releases.length : Nat) : Int))), (40, (iV (p.1)))], [(0, (Ob.arr 52 4 [(encTStory a1)])), (1, (Ob.map ((p.2).map encM9_4)))], 2⟩ : St)) (fun n (p : Int × (List ((List UInt8) × Bool))) => RG a1.Releases (fun tl nn => M36_L1 F a1 k10 tl nn p.2 = some r) n p.1) (fun p h => RG.zero h) (a1.Releases.length + 1) (0, ([] : List ((List UInt8) × Bool))) (RG.start h) (gr [0, 1] rfl (hB rfl rfl rfl (hM rfl rfl .nil)) rfl) (fun n p h => ?_)
    obtain ⟨n13, m14⟩ := p
    refine rn 5 rfl ?_
    refine spL rfl (fun hb15 => ?_) (fun hb15 => ?_)
    · obtain ⟨x16, tl, hx17, h, hk1⟩ := RG.t hA32 h hb15
      unfold M36_L1 at h
      refine rn 6 rfl ?_
      refine ixh hx17 rfl rfl ?_
      refine rn 11 rfl ?_
      refine cl h rfl rfl rfl (W95 _ _) rfl (fun y18 hx19 h => ?_)
      refine rn 3 rfl ?_
      refine jK h (fun _ : Unit => (⟨[(1, (V.ptr 0 4 0 0)), (3, (V.map 1)), (5, (V.ptr 2 3 0 0)), (38, (V.lst 3 (a1.Releases.map encTRelease))), (39, (iV ((a1.Releases.length : Nat) : Int))), (40, (iV n13)), (60, (V.ptr 2 3 0 1)), (61, (iV x16.Day)), (62, (V.ptr 0 4 0 3)), (63, (iV a1.Until)), (64, (bV (decide (x16.Day > a1.Until))))], [(0, (Ob.arr 52 4 [(encTStory a1)])), (1, (Ob.map (m14.map encM9_4))), (2, (Ob.arr 42 3 [(encTRelease x16)]))], 3⟩ : St)) (fun k20 (_ : Unit) => k20 = some r) (fun k20 h => ?_) ?_
      · refine spC h rfl (fun hb21 h => ?_) (fun hb21 h => ?_)
        · refine rn 4 rfl ?_
          exact rt h rfl
        refine rn 5 rfl ?_
        refine aops_lookup _ (bV false) (bV ((mget m14 x16.Version).getD false)) tMap135 tKey9 tZo4 (irel_con _) wants_none rfl (.own rfl) (.con rfl) ⟨_, rfl⟩ encM9_4_good (encM9_4_look m14 x16.Version) (getD_map (encM9_4_val) (mget m14 x16.Version) false) rfl ?_
        refine fo (rn 2 rfl ?_)
        refine spC h rfl (fun hb22 h => ?_) (fun hb22 h => ?_)
        · refine rn 4 rfl ?_
          exact rt h rfl
        refine rn 6 rfl ?_
        refine spO 59 h rfl (fun hb23 h => ?_) (fun hb23 h => ?_)
        · refine rn 13 rfl ?_
          exact rt h rfl
        refine rn 8 rfl ?_
        refine spC h rfl (fun hb24 h => ?_) (fun hb24 h => ?_)
        · refine rn 4 rfl ?_
          exact rt h rfl
        refine rn 1 rfl ?_
        refine bs h (fun hb25 h => ?_) (fun hb25 h => ?_)
        · obtain ⟨x26, hx27, h⟩ := bind_some h
          refine dr mixed (vs 2 rfl (vb hb25 rfl (vs 6 rfl (iD hx27 rfl rfl rfl (vs 5 rfl .nil))))) (by kernel_rfl) ?_
          refine spC h rfl (fun hb28 h => ?_) (fun hb28 h => ?_)
          · refine rn 4 rfl ?_
            exact rt h rfl
          refine rn 1 rfl ?_
          exact jX () h (gr [0, 1, 2] rfl (hB rfl rfl rfl (hM rfl rfl (hB rfl rfl rfl .nil))) rfl)
        refine dr mixed (vs 2 rfl (vb hb25 rfl (vs 12 rfl .nil))) (by kernel_rfl) ?_
        refine rn 2 rfl ?_
        exact jX () h (gr [0, 1, 2] rfl (hB rfl rfl rfl (hM rfl rfl (hB rfl rfl rfl .nil))) rfl)
      intro _ h
      refine rn 6 rfl ?_
      refine aops_mapUpdate ((mput m14 x16.Version true).map encM9_4) tMap135 tKey9 wants_none rfl rfl (.con rfl) ⟨_, rfl⟩ encM9_4_good rfl (encM9_4_puts m14 x16.Version true) ?_
      refine fo (rn 5 rfl ?_)
      refine cl h rfl rfl rfl (W96 _ _) rfl (fun y29 hx30 h => ?_)
      refine rn 7 rfl ?_
      refine spC h rfl (fun hb31 h => ?_) (fun hb31 h => ?_)
      · refine rn 5 rfl ?_
        exact rt h rfl
      refine rn 6 rfl ?_
      exact jX ((w64 (n13 + 1)), (mput m14 x16.Version true)) (hk1 _ h) (gr [0, 1] rfl (hB rfl rfl rfl (hM rfl rfl .nil)) rfl)
    replace h := RG.f h hb15
    unfold M36_L1 at h
    refine rn 1 rfl ?_
    exact jX () h (gr [0] rfl (hB rfl rfl rfl .nil) rfl)
  intro _ h
  refine rn 5 rfl ?_
  refine cl h rfl rfl rfl (W97 _ _) rfl (fun y33 hx34 h => ?_)
  refine rn 7 rfl ?_
  refine spC h rfl (fun hb35 h => ?_) (fun hb35 h => ?_)
  · refine rn 5 rfl ?_
    exact rt h rfl
  refine rn 11 rfl ?_
  refine ln rfl rfl ?_
  refine rn 2 rfl ?_
  refine jK h (fun (p : (List ((List UInt8) × Bool))) => (⟨[(1, (V.ptr 0 4 0 0)), (8, (V.map 1))], [(0, (Ob.arr 52 4 [(encTStory a1)])), (1, (Ob.map (p.map encM9_4)))], 2⟩ : St)) (fun k36 (p : (List ((List UInt8) × Bool))) => k36 p = some r) (fun k36 h => ?_) ?_
  · refine rn 1 rfl ?_
    refine wl (A := a1.Known) 92 rfl (fun hA45 => ?_)
    refine lC (fun (p : Int × (List ((List UInt8) × Bool))) => (⟨[(1, (V.ptr 0 4 0 0)), (8, (V.map 1)), (99, (V.lst 3 (a1.Known.map encTPublished))), (100, (iV ((a1.Known.length : Nat) : Int))), (101, (iV (p.1)))], [(0, (Ob.arr 52 4 [(encTStory a1)])), (1, (Ob.map ((p.2).map encM9_4)))], 2⟩ : St)) (fun n (p : Int × (List ((List UInt8) × Bool))) => RG a1.Known (fun tl nn => M36_L2 F k36 tl p.2 = some r) n p.1) (fun p h => RG.zero h) (a1.Known.length + 1) (0, ([] : List ((List UInt8) × Bool))) (RG.start h) (gr [0, 1] rfl (hB rfl rfl rfl (hM rfl rfl .nil)) rfl) (fun n p h => ?_)
    obtain ⟨n40, m41⟩ := p
    refine rn 5 rfl ?_
    refine spL rfl (fun hb42 => ?_) (fun hb42 => ?_)
    · obtain ⟨x43, tl, hx44, h, hk2⟩ := RG.t hA45 h hb42
      unfold M36_L2 at h
      refine rn 5 rfl ?_
      refine ixh hx44 rfl rfl ?_
      refine rn 8 rfl ?_
      refine aops_mapUpdate ((mput m41 x43.Advisory true).map encM9_4) tMap135 tKey9 wants_none rfl rfl (.con rfl) ⟨_, rfl⟩ encM9_4_good rfl (encM9_4_puts m41 x43.Advisory true) ?_
      refine fo (rn 6 rfl ?_)
      exact jX ((w64 (n40 + 1)), (mput m41 x43.Advisory true)) (hk2 _ h) (gr [0, 1] rfl (hB rfl rfl rfl (hM rfl rfl .nil)) rfl)
    replace h := RG.f h hb42
    unfold M36_L2 at h
    refine rn 1 rfl ?_
    exact jX m41 h (gr [0, 1] rfl (hB rfl rfl rfl (hM rfl rfl .nil)) rfl)
  intro m37 h
  refine rn 5 rfl ?_
  refine ln rfl rfl ?_
  refine rn 2 rfl ?_
  refine jK h (fun _ : Unit => (⟨[], [], 0⟩ : St)) (fun k46 (_ : Unit) => k46 = some r) (fun k46 h => ?_) ?_
  · refine rn 1 rfl ?_
    refine wl (A := a1.Releases) 110 rfl (fun hA61 => ?_)
    refine lC (fun (p : Int) => (⟨[(8, (V.map 0)), (110, (V.lst 3 (a1.Releases.map encTRelease))), (111, (iV ((a1.Releases.length : Nat) : Int))), (112, (iV p))], [(0, (Ob.map (m37.map encM9_4)))], 1⟩ : St)) (fun n (p : Int) => RG a1.Releases (fun tl nn => M36_L3 F m37 k46 tl = some r) n p) (fun p h => RG.zero h) (a1.Releases.length + 1) 0 (RG.start h) (gr [1] rfl (hM rfl rfl .nil) rfl) (fun n n48 h => ?_)
    refine rn 5 rfl ?_
    refine spL rfl (fun hb49 => ?_) (fun hb49 => ?_)
    · obtain ⟨x51, tl, hx52, h, hk3⟩ := RG.t hA61 h hb49
      unfold M36_L3 at h
      refine rn 2 rfl ?_
      refine jK h (fun _ : Unit => (⟨[(8, (V.map 0)), (110, (V.lst 3 (a1.Releases.map encTRelease))), (111, (iV ((a1.Releases.length : Nat) : Int))), (112, (iV n48))], [(0, (Ob.map (m37.map encM9_4)))], 1⟩ : St)) (fun k50 (_ : Unit) => k50 = some r) (fun k50 h => ?_) ?_
      · refine rn 3 rfl ?_
        refine ixh hx52 rfl rfl ?_
        refine rn 8 rfl ?_
        refine ln rfl rfl ?_
        refine rn 2 rfl ?_
        refine jK h (fun _ : Unit => (⟨[(8, (V.map 0)), (110, (V.lst 3 (a1.Releases.map encTRelease))), (111, (iV ((a1.Releases.length : Nat) : Int))), (112, (iV n48))], [(0, (Ob.map (m37.map encM9_4)))], 1⟩ : St)) (fun k53 (_ : Unit) => k53 = some r) (fun k53 h => ?_) ?_
        · refine rn 1 rfl ?_
          refine wl (A := x51.Exposures) 117 rfl (fun hA60 => ?_)
          refine lC (fun (p : Int) => (⟨[(8, (V.map 0)), (110, (V.lst 3 (a1.Releases.map encTRelease))), (111, (iV ((a1.Releases.length : Nat) : Int))), (112, (iV n48)), (117, (V.lst 3 (x51.Exposures.map encTExposure))), (118, (iV ((x51.Exposures.length : Nat) : Int))), (119, (iV p))], [(0, (Ob.map (m37.map encM9_4)))], 1⟩ : St)) (fun n (p : Int) => RG x51.Exposures (fun tl nn => M36_L4 F m37 k53 tl = some r) n p) (fun p h => RG.zero h) (x51.Exposures.length + 1) 0 (RG.start h) (gr [0] rfl (hM rfl rfl .nil) rfl) (fun n n55 h => ?_)
          refine rn 5 rfl ?_
          refine spL rfl (fun hb56 => ?_) (fun hb56 => ?_)
          · obtain ⟨x57, tl, hx58, h, hk4⟩ := RG.t hA60 h hb56
            unfold M36_L4 at h
            refine rn 5 rfl ?_
            refine ixh hx58 rfl rfl ?_
            refine rn 9 rfl ?_
            refine aops_lookup _ (bV false) (bV ((mget m37 x57.Advisory).getD false)) tMap135 tKey9 tZo4 (irel_con _) wants_none rfl (.own rfl) (.con rfl) ⟨_, rfl⟩ encM9_4_good (encM9_4_look m37 x57.Advisory) (getD_map (encM9_4_val) (mget m37 x57.Advisory) false) rfl ?_
            refine fo (rn 2 rfl ?_)
            refine spC h rfl (fun hb59 h => ?_) (fun hb59 h => ?_)
            · refine rn 4 rfl ?_
              exact rt h rfl
            refine rn 6 rfl ?_
            exact jX (w64 (n55 + 1)) (hk4 _ h) (gr [0] rfl (hM rfl rfl .nil) rfl)
          replace h := RG.f h hb56
          unfold M36_L4 at h
          refine rn 1 rfl ?_
          exact jX () h (gr [0] rfl (hM rfl rfl .nil) rfl)
        intro _ h
        refine rn 1 rfl ?_
        exact jX () h (gr [0] rfl (hM rfl rfl .nil) rfl)
      intro _ h
      refine rn 4 rfl ?_
      exact jX (w64 (n48 + 1)) (hk3 _ h) (gr [0] rfl (hM rfl rfl .nil) rfl)
    replace h := RG.f h hb49
    unfold M36_L3 at h
    refine rn 1 rfl ?_
    exact jX () h (g0 rfl rfl)
  intro _ h
  refine rn 4 rfl ?_
  exact rt h rfl
theorem W90 (F : Nat) (a1 : TStory) (r : (List Thistory_piece)) (h : M90 F a1 = some r) : Pure Try.prog 90 [(V.agg (encTStory a1))] (V.lst 5 (r.map encThistory_piece)) := by
  refine pin (fun r => (V.lst 5 (r.map encThistory_piece))) r rfl Try.func90 rfl rfl rfl rfl rfl (fun w0 m0 => ?_)
  unfold M90 at h
  refine rn 15 rfl ?_
  refine ln rfl rfl ?_
  refine rn 2 rfl ?_
  refine jK h (fun (p : (List ((List UInt8) × TPublished))) => (⟨[(1, (V.ptr 0 4 0 0)), (3, (V.map 1))], [(0, (Ob.arr 52 4 [(encTStory a1)])), (1, (Ob.map (p.map encM9_137)))], 2⟩ : St)) (fun k2 (p : (List ((List UInt8) × TPublished))) => k2 p = some r) (fun k2 h => ?_) ?_
  · refine rn 1 rfl ?_
    refine wl (A := a1.Known) 16 rfl (fun hA11 => ?_)
    refine lC (fun (p : Int × (List ((List UInt8) × TPublished))) => (⟨[(1, (V.ptr 0 4 0 0)), (3, (V.map 1)), (16, (V.lst 3 (a1.Known.map encTPublished))), (17, (iV ((a1.Known.length : Nat) : Int))), (18, (iV (p.1)))], [(0, (Ob.arr 52 4 [(encTStory a1)])), (1, (Ob.map ((p.2).map encM9_137)))], 2⟩ : St)) (fun n (p : Int × (List ((List UInt8) × TPublished))) => RG a1.Known (fun tl nn => M90_L1 F k2 tl p.2 = some r) n p.1) (fun p h => RG.zero h) (a1.Known.length + 1) (0, ([] : List ((List UInt8) × TPublished))) (RG.start h) (gr [0, 1] rfl (hB rfl rfl rfl (hM rfl rfl .nil)) rfl) (fun n p h => ?_)
    obtain ⟨n6, m7⟩ := p
    refine rn 5 rfl ?_
    refine spL rfl (fun hb8 => ?_) (fun hb8 => ?_)
    · obtain ⟨x9, tl, hx10, h, hk1⟩ := RG.t hA11 h hb8
      unfold M90_L1 at h
      refine rn 5 rfl ?_
      refine ixh hx10 rfl rfl ?_
      refine rn 9 rfl ?_
      refine aops_mapUpdate ((mput m7 x9.Advisory x9).map encM9_137) tMap129 tKey9 wants_none rfl rfl (.con rfl) ⟨_, rfl⟩ encM9_137_good rfl (encM9_137_puts m7 x9.Advisory x9) ?_
      refine fo (rn 6 rfl ?_)
      exact jX ((w64 (n6 + 1)), (mput m7 x9.Advisory x9)) (hk1 _ h) (gr [0, 1] rfl (hB rfl rfl rfl (hM rfl rfl .nil)) rfl)
    replace h := RG.f h hb8
    unfold M90_L1 at h
    refine rn 1 rfl ?_
    exact jX m7 h (gr [0, 1] rfl (hB rfl rfl rfl (hM rfl rfl .nil)) rfl)
  intro m3 h
  refine rn 9 rfl ?_
  refine ln rfl rfl ?_
  refine rn 2 rfl ?_
  refine jK h (fun (p : (List Thistory_piece)) => (⟨[(6, (V.own 0 p.length))], [(0, (Ob.arr 128 5 (p.map encThistory_piece)))], 1⟩ : St)) (fun k12 (p : (List Thistory_piece)) => k12 p = some r) (fun k12 h => ?_) ?_
  · refine rn 1 rfl ?_
    refine wl (A := a1.Releases) 28 rfl (fun hA45 => ?_)
    refine lC (fun (p : Int × (List Thistory_piece)) => (⟨[(1, (V.ptr 0 4 0 0)), (3, (V.map 1)), (6, (V.own 2 (p.2).length)), (28, (V.lst 3 (a1.Releases.map encTRelease))), (29, (iV ((a1.Releases.length : Nat) : Int))), (30, (iV (p.1)))], [(0, (Ob.arr 52 4 [(encTStory a1)])), (1, (Ob.map (m3.map encM9_137))), (2, (Ob.arr 128 5 ((p.2).map encThistory_piece)))], 3⟩ : St)) (fun n (p : Int × (List Thistory_piece)) => RG a1.Releases (fun tl nn => M90_L2 F a1 m3 k12 tl nn p.2 = some r) n p.1) (fun p h => RG.zero h) (a1.Releases.length + 1) (0, ([] : List Thistory_piece)) (RG.start h) (Ghost.trans (ghost_nilE 6 128 5 rfl) (ghost_ren 3 (fun i => ([0, 1, 2] : List Nat).getD i 0) _ _ (by decide) (EnvSub.get (.cons (Sub.ptr rfl rfl) (.cons (Sub.map rfl rfl) (.cons (Sub.ownE rfl rfl (by simp)) (.cons (Sub.imm (Imm.lst _ _)) (.cons (Sub.imm (Imm.con _)) (.cons (Sub.imm (Imm.con _)) .nil))))))) (HpSub.get (.cons rfl (ObSub.box (.cons (Sub.imm (Imm.con _)) (.cons (Sub.imm (Imm.lst _ _)) (.cons (Sub.imm (Imm.lst _ _)) (.cons (Sub.imm (Imm.con _)) .nil))))) (.cons rfl (ObSub.maps encM9_137_imm) (.cons rfl (ObSub.rows (rows_imm imms_encThistory_piece)) .nil)))) rfl)) (fun n p h => ?_)
    obtain ⟨n16, l17⟩ := p
    refine rn 5 rfl ?_
    refine spL rfl (fun hb18 => ?_) (fun hb18 => ?_)
    · obtain ⟨x21, tl, hx22, h, hk2⟩ := RG.t hA45 h hb18
      unfold M90_L2 at h
      refine rn 2 rfl ?_
      refine jK h (fun (p : (List Thistory_piece)) => (⟨[(1, (V.ptr 0 4 0 0)), (3, (V.map 1)), (6, (V.own 2 p.length)), (28, (V.lst 3 (a1.Releases.map encTRelease))), (29, (iV ((a1.Releases.length : Nat) : Int))), (30, (iV n16))], [(0, (Ob.arr 52 4 [(encTStory a1)])), (1, (Ob.map (m3.map encM9_137))), (2, (Ob.arr 128 5 (p.map encThistory_piece)))], 3⟩ : St)) (fun k19 (p : (List Thistory_piece)) => k19 p = some r) (fun k19 h => ?_) ?_
      · refine rn 4 rfl ?_
        refine ixh hx22 rfl rfl ?_
        refine rn 18 rfl ?_
        refine ln rfl rfl ?_
        refine rn 2 rfl ?_
        refine jK h (fun (p : Int) => (⟨[(1, (V.ptr 0 4 0 0)), (3, (V.map 1)), (6, (V.own 2 l17.length)), (8, (V.ptr 3 3 0 0)), (9, (iV p)), (28, (V.lst 3 (a1.Releases.map encTRelease))), (29, (iV ((a1.Releases.length : Nat) : Int))), (30, (iV n16))], [(0, (Ob.arr 52 4 [(encTStory a1)])), (1, (Ob.map (m3.map encM9_137))), (2, (Ob.arr 128 5 (l17.map encThistory_piece))), (3, (Ob.arr 42 3 [(encTRelease x21)]))], 4⟩ : St)) (fun k23 (p : Int) => k23 p = some r) (fun k23 h => ?_) ?_
        · refine spC h rfl (fun hb25 h => ?_) (fun hb25 h => ?_)
          · refine rn 5 rfl ?_
            refine ixl h rfl rfl (fun x26 hx27 h => ?_)
            refine rn 4 rfl ?_
            exact jX x26.Day h (gr [0, 1, 2, 3] rfl (hB rfl rfl rfl (hM rfl rfl (hR rfl rfl (hB rfl rfl rfl .nil)))) rfl)
          refine rn 1 rfl ?_
          exact jX a1.Until h (gr [0, 1, 2, 3] rfl (hB rfl rfl rfl (hM rfl rfl (hR rfl rfl (hB rfl rfl rfl .nil)))) rfl)
        intro n24 h
        refine rn 4 rfl ?_
        refine ln rfl rfl ?_
        refine rn 2 rfl ?_
        refine jK h (fun (p : (List Thistory_piece)) => (⟨[(1, (V.ptr 0 4 0 0)), (3, (V.map 1)), (6, (V.own 2 p.length)), (28, (V.lst 3 (a1.Releases.map encTRelease))), (29, (iV ((a1.Releases.length : Nat) : Int))), (30, (iV n16))], [(0, (Ob.arr 52 4 [(encTStory a1)])), (1, (Ob.map (m3.map encM9_137))), (2, (Ob.arr 128 5 (p.map encThistory_piece)))], 3⟩ : St)) (fun k28 (p : (List Thistory_piece)) => k28 p = some r) (fun k28 h => ?_) ?_
        · refine rn 1 rfl ?_
          refine wl (A := x21.Exposures) 51 rfl (fun hA44 => ?_)
          refine lC (fun (p : Int × (List Thistory_piece)) => (⟨[(1, (V.ptr 0 4 0 0)), (3, (V.map 1)), (6, (V.own 2 (p.2).length)), (8, (V.ptr 3 3 0 0)), (9, (iV n24)), (28, (V.lst 3 (a1.Releases.map encTRelease))), (29, (iV ((a1.Releases.length : Nat) : Int))), (30, (iV n16)), (51, (V.lst 3 (x21.Exposures.map encTExposure))), (52, (iV ((x21.Exposures.length : Nat) : Int))), (53, (iV (p.1)))], [(0, (Ob.arr 52 4 [(encTStory a1)])), (1, (Ob.map (m3.map encM9_137))), (2, (Ob.arr 128 5 ((p.2).map encThistory_piece))), (3, (Ob.arr 42 3 [(encTRelease x21)]))], 4⟩ : St)) (fun n (p : Int × (List Thistory_piece)) => RG x21.Exposures (fun tl nn => M90_L3 F m3 x21 n24 k28 tl p.2 = some r) n p.1) (fun p h => RG.zero h) (x21.Exposures.length + 1) (0, l17) (RG.start h) (gr [0, 1, 2, 3] rfl (hB rfl rfl rfl (hM rfl rfl (hR rfl rfl (hB rfl rfl rfl .nil)))) rfl) (fun n p h => ?_)
          obtain ⟨n32, l33⟩ := p
          refine rn 5 rfl ?_
          refine spL rfl (fun hb34 => ?_) (fun hb34 => ?_)
          · obtain ⟨x35, tl, hx36, h, hk3⟩ := RG.t hA44 h hb34
            unfold M90_L3 at h
            refine rn 5 rfl ?_
            refine ixh hx36 rfl rfl ?_
            refine rn 9 rfl ?_
            refine aops_lookup _ (V.agg [(sV ([] : List UInt8)), (iV 0), (iV 0)]) (V.agg (encTPublished ((mget m3 x35.Advisory).getD (TPublished.mk ([] : List UInt8) 0 0)))) tMap129 tKey9 tZo137 (irel_conAgg [str ([] : List UInt8), .int .i64 0, .int .i64 0]) wants_none rfl (.own rfl) (.con rfl) ⟨_, rfl⟩ encM9_137_good (encM9_137_look m3 x35.Advisory) (getD_map (encM9_137_val) (mget m3 x35.Advisory) (TPublished.mk ([] : List UInt8) 0 0)) rfl ?_
            refine fo (rn 23 rfl ?_)
            refine jK h (fun (p : Int) => (⟨[(1, (V.ptr 0 4 0 0)), (3, (V.map 1)), (6, (V.own 2 l33.length)), (8, (V.ptr 3 3 0 0)), (9, (iV n24)), (13, (V.ptr 4 5 0 0)), (28, (V.lst 3 (a1.Releases.map encTRelease))), (29, (iV ((a1.Releases.length : Nat) : Int))), (30, (iV n16)), (51, (V.lst 3 (x21.Exposures.map encTExposure))), (52, (iV ((x21.Exposures.length : Nat) : Int))), (53, (iV n32))], [(0, (Ob.arr 52 4 [(encTStory a1)])), (1, (Ob.map (m3.map encM9_137))), (2, (Ob.arr 128 5 (l33.map encThistory_piece))), (3, (Ob.arr 42 3 [(encTRelease x21)])), (4, (Ob.arr 128 5 [[(sV x35.Advisory), (sV x35.Component), (iV x35.Severity), (iV (if ((mget m3 x35.Advisory).getD (TPublished.mk ([] : List UInt8) 0 0)).Day > x21.Day then ((mget m3 x35.Advisory).getD (TPublished.mk ([] : List UInt8) 0 0)).Day else x21.Day)), (iV p)]]))], 5⟩ : St)) (fun k37 (p : Int) => k37 p = some r) (fun k37 h => ?_) ?_
            · refine spC h rfl (fun hb39 h => ?_) (fun hb39 h => ?_)
              · refine rn 8 rfl ?_
                exact jX (if ((mget m3 x35.Advisory).getD (TPublished.mk ([] : List UInt8) 0 0)).Ended < n24 then ((mget m3 x35.Advisory).getD (TPublished.mk ([] : List UInt8) 0 0)).Ended else n24) h (gr [0, 1, 2, 3, 6] rfl (hB rfl rfl rfl (hM rfl rfl (hR rfl rfl (hB rfl rfl rfl (hB rfl rfl rfl .nil))))) rfl)
              refine rn 1 rfl ?_
              exact jX n24 h (gr [0, 1, 2, 3, 6] rfl (hB rfl rfl rfl (hM rfl rfl (hR rfl rfl (hB rfl rfl rfl (hB rfl rfl rfl .nil))))) rfl)
            intro n38 h
            refine rn 8 rfl ?_
            refine jK h (fun (p : (List Thistory_piece)) => (⟨[(1, (V.ptr 0 4 0 0)), (3, (V.map 1)), (6, (V.own 2 p.length)), (8, (V.ptr 3 3 0 0)), (9, (iV n24)), (28, (V.lst 3 (a1.Releases.map encTRelease))), (29, (iV ((a1.Releases.length : Nat) : Int))), (30, (iV n16)), (51, (V.lst 3 (x21.Exposures.map encTExposure))), (52, (iV ((x21.Exposures.length : Nat) : Int))), (53, (iV n32))], [(0, (Ob.arr 52 4 [(encTStory a1)])), (1, (Ob.map (m3.map encM9_137))), (2, (Ob.arr 128 5 (p.map encThistory_piece))), (3, (Ob.arr 42 3 [(encTRelease x21)]))], 4⟩ : St)) (fun k40 (p : (List Thistory_piece)) => k40 p = some r) (fun k40 h => ?_) ?_
            · refine spC h rfl (fun hb42 h => ?_) (fun hb42 h => ?_)
              · refine rn 3 rfl ?_
                refine aops_buildSlice [(0, (V.agg [(sV x35.Advisory), (sV x35.Component), (iV x35.Severity), (iV (if ((mget m3 x35.Advisory).getD (TPublished.mk ([] : List UInt8) 0 0)).Day > x21.Day then ((mget m3 x35.Advisory).getD (TPublished.mk ([] : List UInt8) 0 0)).Day else x21.Day)), (iV n38)]))] [[(sV x35.Advisory), (sV x35.Component), (iV x35.Severity), (iV (if ((mget m3 x35.Advisory).getD (TPublished.mk ([] : List UInt8) 0 0)).Day > x21.Day then ((mget m3 x35.Advisory).getD (TPublished.mk ([] : List UInt8) 0 0)).Day else x21.Day)), (iV n38)]] tEl125 tZ128 rfl rfl rfl rfl wants_none (evp_cons rfl evp_nil) rfl rfl (by simp) rfl ?_
                refine fo ?_
                refine apO encThistory_piece h rfl rfl rfl rfl rfl rfl rfl rfl (fun h => ?_)
                refine rn 2 rfl ?_
                exact jX (l33 ++ ([(Thistory_piece.mk x35 (if ((mget m3 x35.Advisory).getD (TPublished.mk ([] : List UInt8) 0 0)).Day > x21.Day then ((mget m3 x35.Advisory).getD (TPublished.mk ([] : List UInt8) 0 0)).Day else x21.Day) n38)] : List Thistory_piece)) h (gr [0, 1, 6, 3] rfl (hB rfl rfl rfl (hM rfl rfl (hR rfl rfl (hB rfl rfl rfl .nil)))) rfl)
              refine rn 1 rfl ?_
              exact jX l33 h (gr [0, 1, 2, 3] rfl (hB rfl rfl rfl (hM rfl rfl (hR rfl rfl (hB rfl rfl rfl .nil)))) rfl)
            intro l41 h
            refine rn 5 rfl ?_
            exact jX ((w64 (n32 + 1)), l41) (hk3 _ h) (gr [0, 1, 2, 3] rfl (hB rfl rfl rfl (hM rfl rfl (hR rfl rfl (hB rfl rfl rfl .nil)))) rfl)
          replace h := RG.f h hb34
          unfold M90_L3 at h
          refine rn 1 rfl ?_
          exact jX l33 h (gr [0, 1, 2] rfl (hB rfl rfl rfl (hM rfl rfl (hR rfl rfl .nil))) rfl)
        intro l29 h
        refine rn 1 rfl ?_
        exact jX l29 h (gr [0, 1, 2] rfl (hB rfl rfl rfl (hM rfl rfl (hR rfl rfl .nil))) rfl)
      intro l20 h
      refine rn 4 rfl ?_
      exact jX ((w64 (n16 + 1)), l20) (hk2 _ h) (gr [0, 1, 2] rfl (hB rfl rfl rfl (hM rfl rfl (hR rfl rfl .nil))) rfl)
    replace h := RG.f h hb18
    unfold M90_L2 at h
    refine rn 1 rfl ?_
    exact jX l17 h (gr [2] rfl (hR rfl rfl .nil) rfl)
  intro l13 h
  refine rn 5 rfl ?_
  refine awp_ghost (ghost_frzE 0 2 rfl (rows_imm imms_encThistory_piece) rfl (List.length_map ..).symm) ?_
  refine fa ?_
  exact rt h rfl
theorem W91 (F : Nat) (a1 : TStory) (r : Tprovenderref11_view) (h : M91 F a1 = some r) : Pure Try.prog 91 [(V.agg (encTStory a1))] (V.agg (encTprovenderref11_view r)) := by
  refine pin (fun r => (V.agg (encTprovenderref11_view r))) r rfl Try.func91 rfl rfl rfl rfl rfl (fun w0 m0 => ?_)
  unfold M91 at h
  refine rn 18 rfl ?_
  refine ln rfl rfl ?_
  refine rn 2 rfl ?_
  refine jK h (fun (p : (List ((List UInt8) × TPublished))) => (⟨[(2, (V.ptr 0 5 0 0)), (3, (V.ptr 1 5 0 0))], [(0, (Ob.arr 131 5 [[(sV ([] : List UInt8)), nV, nV, (iV 0), (V.con (.map none))]])), (1, (Ob.arr 131 5 [[(sV a1.Product), (V.lst 3 (a1.Releases.map encTRelease)), (V.lst 3 (a1.Known.map encTPublished)), (iV a1.Until), (V.map 2)]])), (2, (Ob.map (p.map encM9_137)))], 3⟩ : St)) (fun k2 (p : (List ((List UInt8) × TPublished))) => k2 p = some r) (fun k2 h => ?_) ?_
  · refine rn 1 rfl ?_
    refine wl (A := a1.Known) 10 rfl (fun hA11 => ?_)
    refine lC (fun (p : Int × (List ((List UInt8) × TPublished))) => (⟨[(2, (V.ptr 0 5 0 0)), (3, (V.ptr 1 5 0 0)), (10, (V.lst 3 (a1.Known.map encTPublished))), (11, (iV ((a1.Known.length : Nat) : Int))), (12, (iV (p.1)))], [(0, (Ob.arr 131 5 [[(sV ([] : List UInt8)), nV, nV, (iV 0), (V.con (.map none))]])), (1, (Ob.arr 131 5 [[(sV a1.Product), (V.lst 3 (a1.Releases.map encTRelease)), (V.lst 3 (a1.Known.map encTPublished)), (iV a1.Until), (V.map 2)]])), (2, (Ob.map ((p.2).map encM9_137)))], 3⟩ : St)) (fun n (p : Int × (List ((List UInt8) × TPublished))) => RG a1.Known (fun tl nn => M91_L1 F k2 tl p.2 = some r) n p.1) (fun p h => RG.zero h) (a1.Known.length + 1) (0, ([] : List ((List UInt8) × TPublished))) (RG.start h) (gr [1, 3, 2] rfl (hB rfl rfl rfl (hB rfl rfl rfl (hM rfl rfl .nil))) rfl) (fun n p h => ?_)
    obtain ⟨n6, m7⟩ := p
    refine rn 5 rfl ?_
    refine spL rfl (fun hb8 => ?_) (fun hb8 => ?_)
    · obtain ⟨x9, tl, hx10, h, hk1⟩ := RG.t hA11 h hb8
      unfold M91_L1 at h
      refine rn 5 rfl ?_
      refine ixh hx10 rfl rfl ?_
      refine rn 10 rfl ?_
      refine aops_mapUpdate ((mput m7 x9.Advisory x9).map encM9_137) tMap129 tKey9 wants_none rfl rfl (.con rfl) ⟨_, rfl⟩ encM9_137_good rfl (encM9_137_puts m7 x9.Advisory x9) ?_
      refine fo (rn 6 rfl ?_)
      exact jX ((w64 (n6 + 1)), (mput m7 x9.Advisory x9)) (hk1 _ h) (gr [0, 1, 2] rfl (hB rfl rfl rfl (hB rfl rfl rfl (hM rfl rfl .nil))) rfl)
    replace h := RG.f h hb8
    unfold M91_L1 at h
    refine rn 1 rfl ?_
    exact jX m7 h (gr [0, 1, 2] rfl (hB rfl rfl rfl (hB rfl rfl rfl (hM rfl rfl .nil))) rfl)
  intro m3 h
  refine rn 5 rfl ?_
  refine awp_ghost (ghost_frzMC 2 0 (Ob.arr 131 5 [[(sV a1.Product), (V.lst 3 (a1.Releases.map encTRelease)), (V.lst 3 (a1.Known.map encTPublished)), (iV a1.Until), (V.imap (m3.map encM9_137))]]) rfl encM9_137_imm (ObSub.box (.cons Sub.keepM (.cons Sub.keepM (.cons Sub.keepM (.cons Sub.keepM (.cons Sub.frzM .nil))))))) ?_
  refine fa ?_
  exact rt h rfl
end Go.Proofs.Ytkciogeafbbggaa
