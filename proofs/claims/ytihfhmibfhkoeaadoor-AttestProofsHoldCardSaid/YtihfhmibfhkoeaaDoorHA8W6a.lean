/- Part of the proof: A8W6a. -/
import Derived.Test.YtihfhmibfhkoeaaDoorHA8M
import Derived.Test.YtihfhmibfhkoeaaDoorHA8W3a
import Derived.KernelRfl
namespace Go.Proofs.YtihfhmibfhkoeaaDoor
open Go Go.Pv
set_option linter.unusedVariables false
set_option maxRecDepth 100000
theorem W74 (F : Nat) (a1 : (List (List UInt8))) (a2 : Int) (r : Int) (h : M74 F a1 a2 = some r) : PureG gl Tryd.prog 74 [(V.lst 1 (a1.map encS)), (iV a2)] (iV r) := by
  refine pin (fun r => (iV r)) r rfl Tryd.func74 rfl rfl rfl rfl rfl (fun w0 m0 hg => ?_)
  unfold M74 at h
  refine rn 8 rfl ?_
  refine ln rfl rfl ?_
  refine rn 3 rfl ?_
  refine spC h rfl (fun hb3 h => ?_) (fun hb3 h => ?_)
  · refine rn 4 rfl ?_
    exact rt h rfl
  refine rn 5 rfl ?_
  refine ln rfl rfl ?_
  refine rn 2 rfl ?_
  refine jK h (fun _ : Unit => (⟨[], [], 0⟩ : St)) (fun k4 (_ : Unit) => k4 = some r) (fun k4 h => ?_) ?_
  · refine rn 1 rfl ?_
    refine wl (A := a1) 0 rfl (fun hA13 => ?_)
    refine lC (fun (p : Int) => (⟨[(11, (V.lst 1 (a1.map encS))), (12, (iV ((a1.length : Nat) : Int))), (13, (iV p))], [], 0⟩ : St)) (fun n (p : Int) => RG a1 (fun tl nn => M74_L1 F k4 tl = some r) n p) (fun p h => RG.zero h) (a1.length + 1) 0 (RG.start h) (g0 rfl rfl) (fun n n6 h => ?_)
    refine rn 5 rfl ?_
    refine spL rfl (fun hb7 => ?_) (fun hb7 => ?_)
    · obtain ⟨x8, tl, hx9, h, hk1⟩ := RG.t hA13 h hb7
      unfold M74_L1 at h
      refine rn 5 rfl ?_
      refine ixh hx9 rfl rfl ?_
      refine rn 6 rfl ?_
      refine cl h rfl rfl rfl (W73 _ _) rfl (fun y10 hx11 h => ?_)
      refine rn 2 rfl ?_
      refine spC h rfl (fun hb12 h => ?_) (fun hb12 h => ?_)
      · refine rn 4 rfl ?_
        exact rt h rfl
      refine rn 6 rfl ?_
      exact jX (w64 (n6 + 1)) (hk1 _ h) (g0 rfl rfl)
    replace h := RG.f h hb7
    unfold M74_L1 at h
    refine rn 1 rfl ?_
    exact jX () h (g0 rfl rfl)
  intro _ h
  refine rn 4 rfl ?_
  exact rt h rfl
theorem W116 (F : Nat) (a1 : Int) (r : Int) (h : M116 F a1 = some r) : PureG gl Tryd.prog 116 [(iV a1)] (iV r) := by
  refine pin (fun r => (iV r)) r rfl Tryd.func116 rfl rfl rfl rfl rfl (fun w0 m0 hg => ?_)
  unfold M116 at h
  refine rn 9 rfl ?_
  refine jK h (fun (p : Int) => (⟨[(3, (iV p))], [], 0⟩ : St)) (fun k2 (p : Int) => k2 p = some r) (fun k2 h => ?_) ?_
  · refine rn 1 rfl ?_
    refine lC (fun (p : Int) => (⟨[(0, (iV a1)), (3, (iV p))], [], 0⟩ : St)) (fun n (p : Int) => M116_L1 F a1 k2 n p = some r) (fun p h => by simp [M116_L1] at h) F 1 h (g0 rfl rfl) (fun n n5 h => ?_)
    unfold M116_L1 at h
    refine rn 8 rfl ?_
    refine spC h rfl (fun hb6 h => ?_) (fun hb6 h => ?_)
    · refine rn 8 rfl ?_
      exact jX (w64 (n5 * 2)) h (g0 rfl rfl)
    refine rn 1 rfl ?_
    exact jX n5 h (g0 rfl rfl)
  intro n3 h
  refine rn 5 rfl ?_
  exact rt h rfl
theorem W117 (F : Nat) (a1 : (List UInt8)) (a2 : (List UInt8)) (r : (List UInt8)) (h : M117 F a1 a2 = some r) : PureG gl Tryd.prog 117 [(sV a1), (sV a2)] (sV r) := by
  refine pin (fun r => (sV r)) r rfl Tryd.func117 rfl rfl rfl rfl rfl (fun w0 m0 hg => ?_)
  unfold M117 at h
  refine rn 7 rfl ?_
  refine ck h (fun hc3 h => ?_)
  refine aops_binT (str (([1] : List UInt8) ++ a1)) wants_none rfl rfl (if_pos hc3) rfl ?_
  refine fo (rn 1 rfl ?_)
  refine ck h (fun hc4 h => ?_)
  refine aops_binT (str ((([1] : List UInt8) ++ a1) ++ a2)) wants_none rfl rfl (if_pos hc4) rfl ?_
  refine fo ?_
  refine cl h rfl rfl rfl (W114 _ _) rfl (fun y5 hx6 h => ?_)
  refine rn 2 rfl ?_
  exact rt h rfl
theorem W75_B (R75 : (List UInt8) → Int → Int → (List (List UInt8)) → Option ((List UInt8) × Bool)) (hR75 : ∀ (a1 : (List UInt8)) (a2 : Int) (a3 : Int) (a4 : (List (List UInt8))) (r : ((List UInt8) × Bool)), R75 a1 a2 a3 a4 = some r → PureG gl Tryd.prog 75 [(sV a1), (iV a2), (iV a3), (V.lst 1 (a4.map encS))] (V.tup [(sV (r.1)), (bV (r.2))])) (F : Nat) (a1 : (List UInt8)) (a2 : Int) (a3 : Int) (a4 : (List (List UInt8))) (r : ((List UInt8) × Bool)) (h : M75_B R75 F a1 a2 a3 a4 = some r) : PureG gl Tryd.prog 75 [(sV a1), (iV a2), (iV a3), (V.lst 1 (a4.map encS))] (V.tup [(sV (r.1)), (bV (r.2))]) := by
  refine pin (fun r => (V.tup [(sV (r.1)), (bV (r.2))])) r rfl Tryd.func75 rfl rfl rfl rfl rfl (fun w0 m0 hg => ?_)
  unfold M75_B at h
  refine rn 8 rfl ?_
  refine ln rfl rfl ?_
  refine rn 9 rfl ?_
  refine spO 21 h rfl (fun hb5 h => ?_) (fun hb5 h => ?_)
  · refine rn 11 rfl ?_
    refine fxO 28 hb5 rfl ?_
    refine rn 6 rfl ?_
    exact rt h rfl
  refine rn 4 rfl ?_
  refine spC h rfl (fun hb6 h => ?_) (fun hb6 h => ?_)
  · refine rn 6 rfl ?_
    refine fxO 28 hb5 rfl ?_
    refine rn 6 rfl ?_
    exact rt h rfl
  refine rn 4 rfl ?_
  refine cl h rfl rfl rfl (W116 _ _) rfl (fun y7 hx8 h => ?_)
  refine rn 9 rfl ?_
  refine spC h rfl (fun hb9 h => ?_) (fun hb9 h => ?_)
  · refine rn 7 rfl ?_
    refine ck h (fun hc10 h => ?_)
    refine aops_slice_lst (0) ((w64 (((a4.length : Nat) : Int) - 1)).toNat) ((a4.take (w64 (((a4.length : Nat) : Int) - 1)).toNat).map encS) tSl42 wants_none rfl rfl ⟨_, (by rw [Int.toNat_of_nonneg hc10.1]; exact rfl)⟩ (Nat.zero_le _) (by simpa using hc10.2) slL_lo rfl ?_
    refine fo ?_
    refine cl h rfl rfl rfl (hR75 _ _ _ _) rfl (fun y11 hx12 h => ?_)
    refine rn 11 rfl ?_
    refine ixl h rfl rfl (fun x13 hx14 h => ?_)
    refine rn 1 rfl ?_
    refine cl h rfl rfl rfl (W117 _ _ _) rfl (fun y15 hx16 h => ?_)
    refine rn 4 rfl ?_
    exact rt h rfl
  refine rn 12 rfl ?_
  refine ck h (fun hc17 h => ?_)
  refine aops_slice_lst (0) ((w64 (((a4.length : Nat) : Int) - 1)).toNat) ((a4.take (w64 (((a4.length : Nat) : Int) - 1)).toNat).map encS) tSl42 wants_none rfl rfl ⟨_, (by rw [Int.toNat_of_nonneg hc17.1]; exact rfl)⟩ (Nat.zero_le _) (by simpa using hc17.2) slL_lo rfl ?_
  refine fo ?_
  refine cl h rfl rfl rfl (hR75 _ _ _ _) rfl (fun y18 hx19 h => ?_)
  refine rn 10 rfl ?_
  refine ixl h rfl rfl (fun x20 hx21 h => ?_)
  refine rn 2 rfl ?_
  refine cl h rfl rfl rfl (W117 _ _ _) rfl (fun y22 hx23 h => ?_)
  refine rn 4 rfl ?_
  exact rt h rfl
theorem W75 : ∀ (F : Nat) (a1 : (List UInt8)) (a2 : Int) (a3 : Int) (a4 : (List (List UInt8))) (r : ((List UInt8) × Bool)) (h : M75 F a1 a2 a3 a4 = some r), PureG gl Tryd.prog 75 [(sV a1), (iV a2), (iV a3), (V.lst 1 (a4.map encS))] (V.tup [(sV (r.1)), (bV (r.2))]) := by
  intro F
  induction F with
  | zero => intros; simp [M75] at *
  | succ F ih => exact fun a1 a2 a3 a4 r h => W75_B (M75 F) ih F a1 a2 a3 a4 r h
theorem W23 (F : Nat) (a1 : (List UInt8)) (a2 : (List UInt8)) (a3 : Int) (a4 : Int) (a5 : (List (List UInt8))) (r : (Bool × Int)) (h : M23 F a1 a2 a3 a4 a5 = some r) : PureG gl Tryd.prog 23 [(sV a1), (sV a2), (iV a3), (iV a4), (V.lst 1 (a5.map encS))] (V.tup [(bV (r.1)), (iV (r.2))]) := by
  refine pin (fun r => (V.tup [(bV (r.1)), (iV (r.2))])) r rfl Tryd.func23 rfl rfl rfl rfl rfl (fun w0 m0 hg => ?_)
  unfold M23 at h
  refine rn 10 rfl ?_
  refine cl h rfl rfl rfl (W73 _ _) rfl (fun y6 hx7 h => ?_)
  refine rn 2 rfl ?_
  refine spO 19 h rfl (fun hb8 h => ?_) (fun hb8 h => ?_)
  · refine rn 12 rfl ?_
    exact rt h rfl
  refine rn 1 rfl ?_
  refine cl h rfl rfl rfl (W73 _ _) rfl (fun y9 hx10 h => ?_)
  refine rn 4 rfl ?_
  refine spC h rfl (fun hb11 h => ?_) (fun hb11 h => ?_)
  · refine rn 5 rfl ?_
    exact rt h rfl
  refine rn 5 rfl ?_
  refine spO 27 h rfl (fun hb12 h => ?_) (fun hb12 h => ?_)
  · refine rn 20 rfl ?_
    exact rt h rfl
  refine rn 4 rfl ?_
  refine spO 31 h rfl (fun hb13 h => ?_) (fun hb13 h => ?_)
  · refine rn 16 rfl ?_
    exact rt h rfl
  refine rn 4 rfl ?_
  refine spO 35 h rfl (fun hb14 h => ?_) (fun hb14 h => ?_)
  · refine rn 12 rfl ?_
    exact rt h rfl
  refine rn 6 rfl ?_
  refine spC h rfl (fun hb15 h => ?_) (fun hb15 h => ?_)
  · refine rn 5 rfl ?_
    exact rt h rfl
  refine rn 6 rfl ?_
  refine cl h rfl rfl rfl (W74 _ _ _) rfl (fun y16 hx17 h => ?_)
  refine rn 7 rfl ?_
  refine spC h rfl (fun hb18 h => ?_) (fun hb18 h => ?_)
  · refine rn 6 rfl ?_
    exact rt h rfl
  refine rn 7 rfl ?_
  refine cl h rfl rfl rfl (W75 _ _ _ _ _) rfl (fun y19 hx20 h => ?_)
  refine rn 10 rfl ?_
  refine spO 54 h rfl (fun hb21 h => ?_) (fun hb21 h => ?_)
  · refine rn 2 rfl ?_
    refine cl h rfl rfl rfl (W76 _ _ _) rfl (fun y22 hx23 h => ?_)
    refine rn 4 rfl ?_
    exact rt h rfl
  refine rn 7 rfl ?_
  exact rt h rfl
theorem W119 (F : Nat) (a1 : Int) (r : Int) (h : M119 F a1 = some r) : PureG gl Tryd.prog 119 [(iV a1)] (iV r) := by
  refine pin (fun r => (iV r)) r rfl Tryd.func119 rfl rfl rfl rfl rfl (fun w0 m0 hg => ?_)
  unfold M119 at h
  refine rn 9 rfl ?_
  refine jK h (fun (p : Int) => (⟨[(3, (iV p))], [], 0⟩ : St)) (fun k2 (p : Int) => k2 p = some r) (fun k2 h => ?_) ?_
  · refine rn 1 rfl ?_
    refine lC (fun (p : Int) => (⟨[(0, (iV a1)), (3, (iV p))], [], 0⟩ : St)) (fun n (p : Int) => M119_L1 F a1 k2 n p = some r) (fun p h => by simp [M119_L1] at h) F 1 h (g0 rfl rfl) (fun n n5 h => ?_)
    unfold M119_L1 at h
    refine rn 8 rfl ?_
    refine spC h rfl (fun hb6 h => ?_) (fun hb6 h => ?_)
    · refine rn 8 rfl ?_
      exact jX (w64 (n5 * 2)) h (g0 rfl rfl)
    refine rn 1 rfl ?_
    exact jX n5 h (g0 rfl rfl)
  intro n3 h
  refine rn 5 rfl ?_
  exact rt h rfl
theorem W120 (F : Nat) (a1 : (List UInt8)) (a2 : (List UInt8)) (r : (List UInt8)) (h : M120 F a1 a2 = some r) : PureG gl Tryd.prog 120 [(sV a1), (sV a2)] (sV r) := by
  refine pin (fun r => (sV r)) r rfl Tryd.func120 rfl rfl rfl rfl rfl (fun w0 m0 hg => ?_)
  unfold M120 at h
  refine rn 7 rfl ?_
  refine ck h (fun hc3 h => ?_)
  refine aops_binT (str (([1] : List UInt8) ++ a1)) wants_none rfl rfl (if_pos hc3) rfl ?_
  refine fo (rn 1 rfl ?_)
  refine ck h (fun hc4 h => ?_)
  refine aops_binT (str ((([1] : List UInt8) ++ a1) ++ a2)) wants_none rfl rfl (if_pos hc4) rfl ?_
  refine fo ?_
  refine cl h rfl rfl rfl (W64 _ _) rfl (fun y5 hx6 h => ?_)
  refine rn 2 rfl ?_
  exact rt h rfl
theorem W80_B (R80 : (List UInt8) → Int → Int → Bool → (List (List UInt8)) → Option ((List UInt8) × (List UInt8) × Bool)) (hR80 : ∀ (a1 : (List UInt8)) (a2 : Int) (a3 : Int) (a4 : Bool) (a5 : (List (List UInt8))) (r : ((List UInt8) × (List UInt8) × Bool)), R80 a1 a2 a3 a4 a5 = some r → PureG gl Tryd.prog 80 [(sV a1), (iV a2), (iV a3), (bV a4), (V.lst 1 (a5.map encS))] (V.tup [(sV (r.1)), (sV (r.2.1)), (bV (r.2.2))])) (F : Nat) (a1 : (List UInt8)) (a2 : Int) (a3 : Int) (a4 : Bool) (a5 : (List (List UInt8))) (r : ((List UInt8) × (List UInt8) × Bool)) (h : M80_B R80 F a1 a2 a3 a4 a5 = some r) : PureG gl Tryd.prog 80 [(sV a1), (iV a2), (iV a3), (bV a4), (V.lst 1 (a5.map encS))] (V.tup [(sV (r.1)), (sV (r.2.1)), (bV (r.2.2))]) := by
  refine pin (fun r => (V.tup [(sV (r.1)), (sV (r.2.1)), (bV (r.2.2))])) r rfl Tryd.func80 rfl rfl rfl rfl rfl (fun w0 m0 hg => ?_)
  unfold M80_B at h
  refine rn 9 rfl ?_
  refine ln rfl rfl ?_
  refine rn 11 rfl ?_
  refine spO 28 h rfl (fun hb6 h => ?_) (fun hb6 h => ?_)
  · refine rn 4 rfl ?_
    refine spC h rfl (fun hb7 h => ?_) (fun hb7 h => ?_)
    · refine rn 10 rfl ?_
      exact rt h rfl
    refine rn 6 rfl ?_
    refine fxO 39 hb6 rfl ?_
    refine rn 5 rfl ?_
    refine spC h rfl (fun hb8 h => ?_) (fun hb8 h => ?_)
    · obtain ⟨x9, hx10, h⟩ := bind_some h
      obtain ⟨x11, hx12, h⟩ := bind_some h
      refine rn 1 rfl ?_
      refine dr mixed (vs 1 rfl (iD hx10 rfl rfl rfl (vs 2 rfl (iD hx12 rfl rfl rfl (vs 4 rfl .nil))))) (by kernel_rfl) ?_
      exact rt h rfl
    refine rn 6 rfl ?_
    refine fxO 53 hb6 rfl ?_
    refine rn 12 rfl ?_
    exact rt h rfl
  refine rn 11 rfl ?_
  refine fxO 39 hb6 rfl ?_
  refine rn 12 rfl ?_
  refine fxO 53 hb6 rfl ?_
  refine rn 5 rfl ?_
  refine spC h rfl (fun hb13 h => ?_) (fun hb13 h => ?_)
  · refine rn 6 rfl ?_
    exact rt h rfl
  refine rn 5 rfl ?_
  refine cl h rfl rfl rfl (W116 _ _) rfl (fun y14 hx15 h => ?_)
  refine rn 9 rfl ?_
  refine spC h rfl (fun hb16 h => ?_) (fun hb16 h => ?_)
  · refine rn 8 rfl ?_
    refine ck h (fun hc17 h => ?_)
    refine aops_slice_lst (0) ((w64 (((a5.length : Nat) : Int) - 1)).toNat) ((a5.take (w64 (((a5.length : Nat) : Int) - 1)).toNat).map encS) tSl42 wants_none rfl rfl ⟨_, (by rw [Int.toNat_of_nonneg hc17.1]; exact rfl)⟩ (Nat.zero_le _) (by simpa using hc17.2) slL_lo rfl ?_
    refine fo ?_
    refine cl h rfl rfl rfl (hR80 _ _ _ _ _) rfl (fun y18 hx19 h => ?_)
    refine rn 14 rfl ?_
    refine ixl h rfl rfl (fun x20 hx21 h => ?_)
    refine rn 1 rfl ?_
    refine cl h rfl rfl rfl (W117 _ _ _) rfl (fun y22 hx23 h => ?_)
    refine rn 5 rfl ?_
    exact rt h rfl
  refine rn 12 rfl ?_
  refine ck h (fun hc24 h => ?_)
  refine aops_slice_lst (0) ((w64 (((a5.length : Nat) : Int) - 1)).toNat) ((a5.take (w64 (((a5.length : Nat) : Int) - 1)).toNat).map encS) tSl42 wants_none rfl rfl ⟨_, (by rw [Int.toNat_of_nonneg hc24.1]; exact rfl)⟩ (Nat.zero_le _) (by simpa using hc24.2) slL_lo rfl ?_
  refine fo ?_
  refine cl h rfl rfl rfl (hR80 _ _ _ _ _) rfl (fun y25 hx26 h => ?_)
  obtain ⟨x27, hx28, h⟩ := bind_some h
  obtain ⟨y29, hx30, h⟩ := bind_some h
  obtain ⟨x31, hx32, h⟩ := bind_some h
  obtain ⟨y33, hx34, h⟩ := bind_some h
  refine rn 9 rfl ?_
  refine dr mixed (vs 2 rfl (iD hx28 rfl rfl rfl (vs 2 rfl (cD rfl rfl rfl rfl (W117 _ _ _ _ hx30) rfl (vs 2 rfl (iD hx32 rfl rfl rfl (vs 2 rfl (cD rfl rfl rfl rfl (W117 _ _ _ _ hx34) rfl (vs 4 rfl .nil))))))))) (by kernel_rfl) ?_
  exact rt h rfl
theorem W80 : ∀ (F : Nat) (a1 : (List UInt8)) (a2 : Int) (a3 : Int) (a4 : Bool) (a5 : (List (List UInt8))) (r : ((List UInt8) × (List UInt8) × Bool)) (h : M80 F a1 a2 a3 a4 a5 = some r), PureG gl Tryd.prog 80 [(sV a1), (iV a2), (iV a3), (bV a4), (V.lst 1 (a5.map encS))] (V.tup [(sV (r.1)), (sV (r.2.1)), (bV (r.2.2))]) := by
  intro F
  induction F with
  | zero => intros; simp [M80] at *
  | succ F ih => exact fun a1 a2 a3 a4 a5 r h => W80_B (M80 F) ih F a1 a2 a3 a4 a5 r h
theorem W25 (F : Nat) (a1 : (List UInt8)) (a2 : (List UInt8)) (a3 : Int) (a4 : Int) (a5 : (List (List UInt8))) (r : (Bool × Int)) (h : M25 F a1 a2 a3 a4 a5 = some r) : PureG gl Tryd.prog 25 [(sV a1), (sV a2), (iV a3), (iV a4), (V.lst 1 (a5.map encS))] (V.tup [(bV (r.1)), (iV (r.2))]) := by
  refine pin (fun r => (V.tup [(bV (r.1)), (iV (r.2))])) r rfl Tryd.func25 rfl rfl rfl rfl rfl (fun w0 m0 hg => ?_)
  unfold M25 at h
  refine rn 10 rfl ?_
  refine cl h rfl rfl rfl (W73 _ _) rfl (fun y6 hx7 h => ?_)
  refine rn 2 rfl ?_
  refine spO 20 h rfl (fun hb8 h => ?_) (fun hb8 h => ?_)
  · refine rn 12 rfl ?_
    exact rt h rfl
  refine rn 1 rfl ?_
  refine cl h rfl rfl rfl (W73 _ _) rfl (fun y9 hx10 h => ?_)
  refine rn 4 rfl ?_
  refine spC h rfl (fun hb11 h => ?_) (fun hb11 h => ?_)
  · refine rn 5 rfl ?_
    exact rt h rfl
  refine rn 5 rfl ?_
  refine spO 28 h rfl (fun hb12 h => ?_) (fun hb12 h => ?_)
  · refine rn 20 rfl ?_
    exact rt h rfl
  refine rn 4 rfl ?_
  refine spO 32 h rfl (fun hb13 h => ?_) (fun hb13 h => ?_)
  · refine rn 16 rfl ?_
    exact rt h rfl
  refine rn 4 rfl ?_
  refine spO 36 h rfl (fun hb14 h => ?_) (fun hb14 h => ?_)
  · refine rn 12 rfl ?_
    exact rt h rfl
  refine rn 6 rfl ?_
  refine spC h rfl (fun hb15 h => ?_) (fun hb15 h => ?_)
  · refine rn 5 rfl ?_
    exact rt h rfl
  refine rn 6 rfl ?_
  refine cl h rfl rfl rfl (W74 _ _ _) rfl (fun y16 hx17 h => ?_)
  refine rn 7 rfl ?_
  refine spC h rfl (fun hb18 h => ?_) (fun hb18 h => ?_)
  · refine rn 6 rfl ?_
    exact rt h rfl
  refine rn 7 rfl ?_
  refine cl h rfl rfl rfl (W80 _ _ _ _ _ _) rfl (fun y19 hx20 h => ?_)
  refine rn 12 rfl ?_
  refine spO 56 h rfl (fun hb21 h => ?_) (fun hb21 h => ?_)
  · refine rn 2 rfl ?_
    refine cl h rfl rfl rfl (W76 _ _ _) rfl (fun y22 hx23 h => ?_)
    refine rn 2 rfl ?_
    refine spO 61 h rfl (fun hb24 h => ?_) (fun hb24 h => ?_)
    · refine rn 2 rfl ?_
      refine cl h rfl rfl rfl (W76 _ _ _) rfl (fun y25 hx26 h => ?_)
      refine rn 4 rfl ?_
      exact rt h rfl
    refine rn 7 rfl ?_
    exact rt h rfl
  refine rn 12 rfl ?_
  exact rt h rfl
end Go.Proofs.YtihfhmibfhkoeaaDoor
