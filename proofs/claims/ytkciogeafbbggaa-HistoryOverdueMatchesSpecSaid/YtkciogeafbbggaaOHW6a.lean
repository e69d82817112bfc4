/- Part of the proof: HW6a. -/
import Derived.Test.YtkciogeafbbggaaOHM
import Derived.Test.YtkciogeafbbggaaOHW3a
import Derived.KernelRfl
namespace Go.Proofs.Ytkciogeafbbggaa
open Go Go.Pv
set_option linter.unusedVariables false
set_option maxRecDepth 100000
theorem W131 (F : Nat) (a1 : (List UInt8)) (r : Bool) (h : M131 F a1 = some r) : Pure Try.prog 131 [(sV a1)] (bV r) := by
  refine pin (fun r => (bV r)) r rfl Try.func131 rfl rfl rfl rfl rfl (fun w0 m0 => ?_)
  unfold M131 at h
  refine rn 11 rfl ?_
  refine jK h (fun _ : Unit => (⟨[(0, (sV a1))], [], 0⟩ : St)) (fun k2 (_ : Unit) => k2 = some r) (fun k2 h => ?_) ?_
  · refine rn 1 rfl ?_
    refine ck h (fun hA12 h => ?_)
    refine lC (fun (p : Int) => (⟨[(0, (sV a1)), (5, (iV (a1.length : Int))), (6, (iV p))], [], 0⟩ : St)) (fun n (p : Int) => RC (a1.length : Int) (fun tl nn => M131_L1 F a1 k2 tl nn = some r) n p) (fun p h => RC.zero h) (Int.toNat (a1.length : Int) + 1) 0 (RC.start h) (g0 rfl rfl) (fun n n4 h => ?_)
    refine rn 5 rfl ?_
    refine spL rfl (fun hb5 => ?_) (fun hb5 => ?_)
    · obtain ⟨tl, h, hk1⟩ := RC.t hA12 h hb5
      unfold M131_L1 at h
      refine rn 12 rfl ?_
      refine ixs h rfl rfl (fun c6 hx7 h => ?_)
      refine rn 2 rfl ?_
      refine spO 13 h rfl (fun hb8 h => ?_) (fun hb8 h => ?_)
      · refine rn 11 rfl ?_
        exact rt h rfl
      refine rn 2 rfl ?_
      refine ixs h rfl rfl (fun c9 hx10 h => ?_)
      refine rn 3 rfl ?_
      refine spC h rfl (fun hb11 h => ?_) (fun hb11 h => ?_)
      · refine rn 4 rfl ?_
        exact rt h rfl
      refine rn 6 rfl ?_
      exact jX (w64 (n4 + 1)) (hk1 _ h) (g0 rfl rfl)
    replace h := RC.f h hb5
    unfold M131_L1 at h
    refine rn 1 rfl ?_
    exact jX () h (g0 rfl rfl)
  intro _ h
  refine rn 6 rfl ?_
  exact rt h rfl
theorem W93 (F : Nat) (a1 : (List UInt8)) (r : Bool) (h : M93 F a1 = some r) : Pure Try.prog 93 [(sV a1)] (bV r) := by
  refine pin (fun r => (bV r)) r rfl Try.func93 rfl rfl rfl rfl rfl (fun w0 m0 => ?_)
  unfold M93 at h
  refine rn 7 rfl ?_
  refine cl h rfl rfl rfl (W131 _ _) rfl (fun y2 hx3 h => ?_)
  refine rn 1 rfl ?_
  refine spO 5 h rfl (fun hb4 h => ?_) (fun hb4 h => ?_)
  · refine rn 6 rfl ?_
    exact rt h rfl
  refine rn 6 rfl ?_
  exact rt h rfl
theorem W84 (F : Nat) (a1 : TExposure) (r : Thistory_key) (h : M84 F a1 = some r) : Pure Try.prog 84 [(V.agg (encTExposure a1))] (V.agg (encThistory_key r)) := by
  refine pin (fun r => (V.agg (encThistory_key r))) r rfl Try.func84 rfl rfl rfl rfl rfl (fun w0 m0 => ?_)
  unfold M84 at h
  refine rn 14 rfl ?_
  exact rt h rfl
theorem W152 (F : Nat) (a1 : (List UInt8)) (r : Bool) (h : M152 F a1 = some r) : Pure Try.prog 152 [(sV a1)] (bV r) := by
  refine pin (fun r => (bV r)) r rfl Try.func152 rfl rfl rfl rfl rfl (fun w0 m0 => ?_)
  unfold M152 at h
  refine rn 11 rfl ?_
  exact rt h rfl
theorem W138 (F : Nat) (a1 : (List UInt8)) (a2 : (List UInt8)) (r : Int) (h : M138 F a1 a2 = some r) : Pure Try.prog 138 [(sV a1), (sV a2)] (iV r) := by
  refine pin (fun r => (iV r)) r rfl Try.func138 rfl rfl rfl rfl rfl (fun w0 m0 => ?_)
  unfold M138 at h
  refine rn 7 rfl ?_
  refine cl h rfl rfl rfl (W152 _ _) rfl (fun y3 hx4 h => ?_)
  refine rn 5 rfl ?_
  refine cl h rfl rfl rfl (W152 _ _) rfl (fun y5 hx6 h => ?_)
  refine rn 7 rfl ?_
  refine spC h rfl (fun hb7 h => ?_) (fun hb7 h => ?_)
  · refine rn 5 rfl ?_
    refine spC h rfl (fun hb8 h => ?_) (fun hb8 h => ?_)
    · refine rn 4 rfl ?_
      exact rt h rfl
    refine rn 5 rfl ?_
    exact rt h rfl
  refine rn 6 rfl ?_
  refine spC h rfl (fun hb9 h => ?_) (fun hb9 h => ?_)
  · refine rn 4 rfl ?_
    exact rt h rfl
  refine rn 8 rfl ?_
  refine spC h rfl (fun hb10 h => ?_) (fun hb10 h => ?_)
  · refine rn 4 rfl ?_
    exact rt h rfl
  refine rn 8 rfl ?_
  refine spC h rfl (fun hb11 h => ?_) (fun hb11 h => ?_)
  · refine rn 4 rfl ?_
    exact rt h rfl
  refine rn 5 rfl ?_
  exact rt h rfl
theorem W149 (F : Nat) (a1 : (List Int)) (r : Int) (h : M149 F a1 = some r) : Pure Try.prog 149 [(V.lst 1 (a1.map encI_i64))] (iV r) := by
  refine pin (fun r => (iV r)) r rfl Try.func149 rfl rfl rfl rfl rfl (fun w0 m0 => ?_)
  unfold M149 at h
  refine rn 12 rfl ?_
  refine ln rfl rfl ?_
  refine rn 2 rfl ?_
  refine jK h (fun _ : Unit => (⟨[(3, (iV 0))], [], 0⟩ : St)) (fun k2 (_ : Unit) => k2 = some r) (fun k2 h => ?_) ?_
  · refine rn 1 rfl ?_
    refine wl (A := a1) 0 rfl (fun hA9 => ?_)
    refine lC (fun (p : Int) => (⟨[(3, (iV 0)), (6, (V.lst 1 (a1.map encI_i64))), (7, (iV ((a1.length : Nat) : Int))), (8, (iV p))], [], 0⟩ : St)) (fun n (p : Int) => RG a1 (fun tl nn => M149_L1 F k2 tl = some r) n p) (fun p h => RG.zero h) (a1.length + 1) 0 (RG.start h) (g0 rfl rfl) (fun n n4 h => ?_)
    refine rn 5 rfl ?_
    refine spL rfl (fun hb5 => ?_) (fun hb5 => ?_)
    · obtain ⟨x6, tl, hx7, h, hk1⟩ := RG.t hA9 h hb5
      unfold M149_L1 at h
      refine rn 5 rfl ?_
      refine ixh hx7 rfl rfl ?_
      refine rn 9 rfl ?_
      refine spC h rfl (fun hb8 h => ?_) (fun hb8 h => ?_)
      · refine rn 5 rfl ?_
        exact rt h rfl
      refine rn 6 rfl ?_
      exact jX (w64 (n4 + 1)) (hk1 _ h) (g0 rfl rfl)
    replace h := RG.f h hb5
    unfold M149_L1 at h
    refine rn 1 rfl ?_
    exact jX () h (g0 rfl rfl)
  intro _ h
  refine rn 5 rfl ?_
  exact rt h rfl
theorem W146 (F : Nat) (a1 : Thistory_key) (a2 : Thistory_key) (r : Int) (h : M146 F a1 a2 = some r) : Pure Try.prog 146 [(V.agg (encThistory_key a1)), (V.agg (encThistory_key a2))] (iV r) := by
  refine pin (fun r => (iV r)) r rfl Try.func146 rfl rfl rfl rfl rfl (fun w0 m0 => ?_)
  unfold M146 at h
  obtain ⟨y3, hx4, h⟩ := bind_some h
  obtain ⟨y5, hx6, h⟩ := bind_some h
  obtain ⟨y7, hx8, h⟩ := bind_some h
  refine rn 7 rfl ?_
  refine dr mixed (vs 4 rfl (cD rfl rfl rfl rfl (W138 _ _ _ _ hx4) rfl (vs 4 rfl (cD rfl rfl rfl rfl (W138 _ _ _ _ hx6) rfl (xD (OD.mk [(9, (iV y3)), (14, (iV y5))] [] [(15, (V.lst 1 (([y3, y5] : List Int).map encI_i64)))] []) ⟨⟨rfl, rfl, trivial⟩, trivial⟩ (by exact fun S hn h hh => aops_buildSlice_imm [(0, (iV y3)), (1, (iV y5))] [[(iV y3)], [(iV y5)]] tEl22 tZ3 wants_none rfl rfl rfl rfl (evp_cons h.1 (evp_cons h.2.1 evp_nil)) rfl rfl (by simp) (imms_rows (.cons (.cons (Imm.con _) .nil) (.cons (.cons (Imm.con _) .nil) .nil))) rfl (aops_nil ⟨rfl, rfl⟩)) rfl (cD rfl rfl rfl rfl (W149 _ _ _ hx8) rfl (vs 1 rfl .nil))))))) (by kernel_rfl) ?_
  exact rt h rfl
theorem W127 (F : Nat) (a1 : (List TExposure)) (r : Int) (h : M127 F a1 = some r) : Pure Try.prog 127 [(V.lst 3 (a1.map encTExposure))] (iV r) := by
  refine pin (fun r => (iV r)) r rfl Try.func127 rfl rfl rfl rfl rfl (fun w0 m0 => ?_)
  unfold M127 at h
  refine rn 8 rfl ?_
  refine ln rfl rfl ?_
  refine rn 2 rfl ?_
  refine spC h rfl (fun hb2 h => ?_) (fun hb2 h => ?_)
  · refine rn 4 rfl ?_
    exact rt h rfl
  refine rn 5 rfl ?_
  refine ln rfl rfl ?_
  refine rn 2 rfl ?_
  refine jK h (fun _ : Unit => (⟨[], [], 0⟩ : St)) (fun k3 (_ : Unit) => k3 = some r) (fun k3 h => ?_) ?_
  · refine rn 1 rfl ?_
    refine wl (A := a1) 0 rfl (fun hA28 => ?_)
    refine lC (fun (p : Int) => (⟨[(0, (V.lst 3 (a1.map encTExposure))), (8, (V.lst 3 (a1.map encTExposure))), (9, (iV ((a1.length : Nat) : Int))), (10, (iV p))], [], 0⟩ : St)) (fun n (p : Int) => RG a1 (fun tl nn => M127_L1 F a1 k3 tl nn = some r) n p) (fun p h => RG.zero h) (a1.length + 1) 0 (RG.start h) (g0 rfl rfl) (fun n n5 h => ?_)
    refine rn 5 rfl ?_
    refine spL rfl (fun hb6 => ?_) (fun hb6 => ?_)
    · obtain ⟨x7, tl, hx8, h, hk1⟩ := RG.t hA28 h hb6
      unfold M127_L1 at h
      refine rn 6 rfl ?_
      refine ixh hx8 rfl rfl ?_
      refine rn 10 rfl ?_
      refine cl h rfl rfl rfl (W93 _ _) rfl (fun y9 hx10 h => ?_)
      refine rn 2 rfl ?_
      refine spO 20 h rfl (fun hb11 h => ?_) (fun hb11 h => ?_)
      · refine rn 12 rfl ?_
        exact rt h rfl
      refine rn 2 rfl ?_
      refine cl h rfl rfl rfl (W93 _ _) rfl (fun y12 hx13 h => ?_)
      refine rn 4 rfl ?_
      refine jK h (fun _ : Unit => (⟨[(0, (V.lst 3 (a1.map encTExposure))), (8, (V.lst 3 (a1.map encTExposure))), (9, (iV ((a1.length : Nat) : Int))), (10, (iV n5)), (21, (V.ptr 0 3 0 1)), (22, (sV x7.Component)), (23, (bV y12)), (24, (bV (!y12))), (31, (V.ptr 0 3 0 2)), (32, (iV x7.Severity)), (33, (bV (decide (x7.Severity > 100))))], [(0, (Ob.arr 47 3 [(encTExposure x7)]))], 1⟩ : St)) (fun k14 (_ : Unit) => k14 = some r) (fun k14 h => ?_) ?_
      · refine spC h rfl (fun hb15 h => ?_) (fun hb15 h => ?_)
        · refine rn 4 rfl ?_
          exact rt h rfl
        refine rn 6 rfl ?_
        refine spO 30 h rfl (fun hb16 h => ?_) (fun hb16 h => ?_)
        · refine rn 11 rfl ?_
          exact rt h rfl
        refine rn 6 rfl ?_
        refine spC h rfl (fun hb17 h => ?_) (fun hb17 h => ?_)
        · refine rn 4 rfl ?_
          exact rt h rfl
        refine rn 1 rfl ?_
        refine bs h (fun hb18 h => ?_) (fun hb18 h => ?_)
        · obtain ⟨x19, hx20, h⟩ := bind_some h
          obtain ⟨y21, hx22, h⟩ := bind_some h
          obtain ⟨y23, hx24, h⟩ := bind_some h
          obtain ⟨y25, hx26, h⟩ := bind_some h
          refine dr mixed (vs 2 rfl (vb hb18 rfl (vs 3 rfl (iD hx20 rfl rfl rfl (vs 1 rfl (cD rfl rfl rfl rfl (W84 _ _ _ hx22) rfl (vs 1 rfl (cD rfl rfl rfl rfl (W84 _ _ _ hx24) rfl (cD rfl rfl rfl rfl (W146 _ _ _ _ hx26) rfl (vs 3 rfl .nil)))))))))) (by kernel_rfl) ?_
          refine spC h rfl (fun hb27 h => ?_) (fun hb27 h => ?_)
          · refine rn 4 rfl ?_
            exact rt h rfl
          refine rn 1 rfl ?_
          exact jX () h (gr [0] rfl (hB rfl rfl rfl .nil) rfl)
        refine dr mixed (vs 2 rfl (vb hb18 rfl (vs 12 rfl .nil))) (by kernel_rfl) ?_
        refine rn 2 rfl ?_
        exact jX () h (gr [0] rfl (hB rfl rfl rfl .nil) rfl)
      intro _ h
      refine rn 6 rfl ?_
      exact jX (w64 (n5 + 1)) (hk1 _ h) (g0 rfl rfl)
    replace h := RG.f h hb6
    unfold M127_L1 at h
    refine rn 1 rfl ?_
    exact jX () h (g0 rfl rfl)
  intro _ h
  refine rn 4 rfl ?_
  exact rt h rfl
theorem W95 (F : Nat) (a1 : (List UInt8)) (r : Bool) (h : M95 F a1 = some r) : Pure Try.prog 95 [(sV a1)] (bV r) := by
  refine pin (fun r => (bV r)) r rfl Try.func95 rfl rfl rfl rfl rfl (fun w0 m0 => ?_)
  unfold M95 at h
  refine rn 9 rfl ?_
  refine jK h (fun _ : Unit => (⟨[(0, (sV a1))], [], 0⟩ : St)) (fun k2 (_ : Unit) => k2 = some r) (fun k2 h => ?_) ?_
  · refine rn 1 rfl ?_
    refine ck h (fun hA12 h => ?_)
    refine lC (fun (p : Int) => (⟨[(0, (sV a1)), (3, (iV p))], [], 0⟩ : St)) (fun n (p : Int) => RC (a1.length : Int) (fun tl nn => M95_L1 F a1 k2 tl nn = some r) n p) (fun p h => RC.zero h) (Int.toNat (a1.length : Int) + 1) 0 (RC.start h) (g0 rfl rfl) (fun n n4 h => ?_)
    refine rn 8 rfl ?_
    refine spL rfl (fun hb5 => ?_) (fun hb5 => ?_)
    · obtain ⟨tl, h, hk1⟩ := RC.t hA12 h hb5
      unfold M95_L1 at h
      refine rn 7 rfl ?_
      refine ixs h rfl rfl (fun c6 hx7 h => ?_)
      refine rn 2 rfl ?_
      refine spO 14 h rfl (fun hb8 h => ?_) (fun hb8 h => ?_)
      · refine rn 11 rfl ?_
        exact rt h rfl
      refine rn 2 rfl ?_
      refine ixs h rfl rfl (fun c9 hx10 h => ?_)
      refine rn 3 rfl ?_
      refine spC h rfl (fun hb11 h => ?_) (fun hb11 h => ?_)
      · refine rn 4 rfl ?_
        exact rt h rfl
      refine rn 7 rfl ?_
      exact jX (w64 (n4 + 1)) (hk1 _ h) (g0 rfl rfl)
    replace h := RC.f h hb5
    unfold M95_L1 at h
    refine rn 1 rfl ?_
    exact jX () h (g0 rfl rfl)
  intro _ h
  refine rn 6 rfl ?_
  refine spO 23 h rfl (fun hb13 h => ?_) (fun hb13 h => ?_)
  · refine rn 6 rfl ?_
    exact rt h rfl
  refine rn 6 rfl ?_
  exact rt h rfl
theorem W132 (F : Nat) (a1 : TExposure) (a2 : TExposure) (r : Bool) (h : M132 F a1 a2 = some r) : Pure Try.prog 132 [(V.agg (encTExposure a1)), (V.agg (encTExposure a2))] (bV r) := by
  refine pin (fun r => (bV r)) r rfl Try.func132 rfl rfl rfl rfl rfl (fun w0 m0 => ?_)
  unfold M132 at h
  refine rn 14 rfl ?_
  refine spO 10 h rfl (fun hb3 h => ?_) (fun hb3 h => ?_)
  · refine rn 15 rfl ?_
    exact rt h rfl
  refine rn 6 rfl ?_
  refine spO 16 h rfl (fun hb4 h => ?_) (fun hb4 h => ?_)
  · refine rn 9 rfl ?_
    exact rt h rfl
  refine rn 9 rfl ?_
  exact rt h rfl
theorem W96 (F : Nat) (a1 : (List TExposure)) (r : Int) (h : M96 F a1 = some r) : Pure Try.prog 96 [(V.lst 3 (a1.map encTExposure))] (iV r) := by
  refine pin (fun r => (iV r)) r rfl Try.func96 rfl rfl rfl rfl rfl (fun w0 m0 => ?_)
  unfold M96 at h
  refine rn 8 rfl ?_
  refine ln rfl rfl ?_
  refine rn 2 rfl ?_
  refine spC h rfl (fun hb2 h => ?_) (fun hb2 h => ?_)
  · refine rn 4 rfl ?_
    exact rt h rfl
  refine rn 5 rfl ?_
  refine ln rfl rfl ?_
  refine rn 2 rfl ?_
  refine jK h (fun _ : Unit => (⟨[], [], 0⟩ : St)) (fun k3 (_ : Unit) => k3 = some r) (fun k3 h => ?_) ?_
  · refine rn 1 rfl ?_
    refine wl (A := a1) 0 rfl (fun hA24 => ?_)
    refine lC (fun (p : Int) => (⟨[(0, (V.lst 3 (a1.map encTExposure))), (8, (V.lst 3 (a1.map encTExposure))), (9, (iV ((a1.length : Nat) : Int))), (10, (iV p))], [], 0⟩ : St)) (fun n (p : Int) => RG a1 (fun tl nn => M96_L1 F a1 k3 tl nn = some r) n p) (fun p h => RG.zero h) (a1.length + 1) 0 (RG.start h) (g0 rfl rfl) (fun n n5 h => ?_)
    refine rn 5 rfl ?_
    refine spL rfl (fun hb6 => ?_) (fun hb6 => ?_)
    · obtain ⟨x7, tl, hx8, h, hk1⟩ := RG.t hA24 h hb6
      unfold M96_L1 at h
      refine rn 6 rfl ?_
      refine ixh hx8 rfl rfl ?_
      refine rn 10 rfl ?_
      refine cl h rfl rfl rfl (W95 _ _) rfl (fun y9 hx10 h => ?_)
      refine rn 2 rfl ?_
      refine spO 20 h rfl (fun hb11 h => ?_) (fun hb11 h => ?_)
      · refine rn 12 rfl ?_
        exact rt h rfl
      refine rn 2 rfl ?_
      refine cl h rfl rfl rfl (W95 _ _) rfl (fun y12 hx13 h => ?_)
      refine rn 4 rfl ?_
      refine jK h (fun _ : Unit => (⟨[(0, (V.lst 3 (a1.map encTExposure))), (8, (V.lst 3 (a1.map encTExposure))), (9, (iV ((a1.length : Nat) : Int))), (10, (iV n5)), (21, (V.ptr 0 3 0 1)), (22, (sV x7.Component)), (23, (bV y12)), (24, (bV (!y12))), (31, (V.ptr 0 3 0 2)), (32, (iV x7.Severity)), (33, (bV (decide (x7.Severity > 100))))], [(0, (Ob.arr 47 3 [(encTExposure x7)]))], 1⟩ : St)) (fun k14 (_ : Unit) => k14 = some r) (fun k14 h => ?_) ?_
      · refine spC h rfl (fun hb15 h => ?_) (fun hb15 h => ?_)
        · refine rn 4 rfl ?_
          exact rt h rfl
        refine rn 6 rfl ?_
        refine spO 30 h rfl (fun hb16 h => ?_) (fun hb16 h => ?_)
        · refine rn 11 rfl ?_
          exact rt h rfl
        refine rn 6 rfl ?_
        refine spC h rfl (fun hb17 h => ?_) (fun hb17 h => ?_)
        · refine rn 4 rfl ?_
          exact rt h rfl
        refine rn 1 rfl ?_
        refine bs h (fun hb18 h => ?_) (fun hb18 h => ?_)
        · obtain ⟨x19, hx20, h⟩ := bind_some h
          obtain ⟨y21, hx22, h⟩ := bind_some h
          refine dr mixed (vs 2 rfl (vb hb18 rfl (vs 3 rfl (iD hx20 rfl rfl rfl (vs 2 rfl (cD rfl rfl rfl rfl (W132 _ _ _ _ hx22) rfl (vs 3 rfl .nil))))))) (by kernel_rfl) ?_
          refine spC h rfl (fun hb23 h => ?_) (fun hb23 h => ?_)
          · refine rn 4 rfl ?_
            exact rt h rfl
          refine rn 1 rfl ?_
          exact jX () h (gr [0] rfl (hB rfl rfl rfl .nil) rfl)
        refine dr mixed (vs 2 rfl (vb hb18 rfl (vs 10 rfl .nil))) (by kernel_rfl) ?_
        refine rn 2 rfl ?_
        exact jX () h (gr [0] rfl (hB rfl rfl rfl .nil) rfl)
      intro _ h
      refine rn 6 rfl ?_
      exact jX (w64 (n5 + 1)) (hk1 _ h) (g0 rfl rfl)
    replace h := RG.f h hb6
    unfold M96_L1 at h
    refine rn 1 rfl ?_
    exact jX () h (g0 rfl rfl)
  intro _ h
  refine rn 4 rfl ?_
  exact rt h rfl
end Go.Proofs.Ytkciogeafbbggaa
