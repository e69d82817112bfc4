/- Part of the proof: A8W10a. -/
import Derived.Test.YtihfhmibfhkoeaaDoorHA8M
import Derived.Test.YtihfhmibfhkoeaaDoorHA8W7a
import Derived.Test.YtihfhmibfhkoeaaDoorHA8W6a
import Derived.Test.YtihfhmibfhkoeaaDoorHA8W3a
import Derived.KernelRfl
namespace Go.Proofs.YtihfhmibfhkoeaaDoor
open Go Go.Pv
set_option linter.unusedVariables false
set_option maxRecDepth 100000
theorem W10 (F : Nat) (a1 : (List (List UInt8))) (a2 : Int) (a3 : Int) (a4 : Int) (r : Bool) (h : M10 F a1 a2 a3 a4 = some r) : PureG gl Tryd.prog 10 [(V.lst 1 (a1.map encS)), (iV a2), (iV a3), (iV a4)] (bV r) := by
  refine pin (fun r => (bV r)) r rfl Tryd.func10 rfl rfl rfl rfl rfl (fun w0 m0 hg => ?_)
  unfold M10 at h
  refine rn 9 rfl ?_
  refine cl h rfl rfl rfl (W31 _ _ _ _) rfl (fun y5 hx6 h => ?_)
  refine rn 11 rfl ?_
  refine cl h rfl rfl rfl (W33 _ _ _ _) rfl (fun y7 hx8 h => ?_)
  refine rn 11 rfl ?_
  refine cl h rfl rfl rfl (W32 _ _ _ _) rfl (fun y9 hx10 h => ?_)
  refine rn 11 rfl ?_
  refine cl h rfl rfl rfl (W34 _ _ _ _) rfl (fun y11 hx12 h => ?_)
  refine rn 13 rfl ?_
  refine spO 58 h rfl (fun hb13 h => ?_) (fun hb13 h => ?_)
  · refine rn 10 rfl ?_
    exact rt h rfl
  refine rn 5 rfl ?_
  refine spC h rfl (fun hb14 h => ?_) (fun hb14 h => ?_)
  · refine rn 4 rfl ?_
    exact rt h rfl
  refine rn 7 rfl ?_
  refine jK h (fun _ : Unit => (⟨[(0, (V.lst 1 (a1.map encS))), (2, (iV a3)), (3, (iV a4)), (11, (V.lst 1 ((y7.1).map encS))), (12, (iV (y7.2)))], [], 0⟩ : St)) (fun k15 (_ : Unit) => k15 = some r) (fun k15 h => ?_) ?_
  · refine spC h rfl (fun hb16 h => ?_) (fun hb16 h => ?_)
    · refine rn 4 rfl ?_
      refine ck h (fun hc17 h => ?_)
      refine aops_slice_lst (0) (a4.toNat) ((a1.take a4.toNat).map encS) tSl42 wants_none rfl rfl ⟨_, (by rw [Int.toNat_of_nonneg hc17.1]; exact rfl)⟩ (Nat.zero_le _) (by simpa using hc17.2) slL_lo rfl ?_
      refine fo ?_
      refine cl h rfl rfl rfl (W29 _ _) rfl (fun y18 hx19 h => ?_)
      refine rn 11 rfl ?_
      refine ixl h rfl rfl (fun x20 hx21 h => ?_)
      refine rn 4 rfl ?_
      refine cl h rfl rfl rfl (W23 _ _ _ _ _ _) rfl (fun y22 hx23 h => ?_)
      refine rn 11 rfl ?_
      refine spO 86 h rfl (fun hb24 h => ?_) (fun hb24 h => ?_)
      · refine rn 13 rfl ?_
        exact rt h rfl
      refine rn 4 rfl ?_
      refine spO 90 h rfl (fun hb25 h => ?_) (fun hb25 h => ?_)
      · refine rn 9 rfl ?_
        exact rt h rfl
      refine rn 4 rfl ?_
      refine spC h rfl (fun hb26 h => ?_) (fun hb26 h => ?_)
      · refine rn 4 rfl ?_
        exact rt h rfl
      refine rn 1 rfl ?_
      exact jX () h (g0 rfl rfl)
    refine rn 1 rfl ?_
    exact jX () h (g0 rfl rfl)
  intro _ h
  refine rn 6 rfl ?_
  refine jK h (fun _ : Unit => (⟨[], [], 0⟩ : St)) (fun k27 (_ : Unit) => k27 = some r) (fun k27 h => ?_) ?_
  · refine spC h rfl (fun hb28 h => ?_) (fun hb28 h => ?_)
    · refine rn 4 rfl ?_
      refine ck h (fun hc29 h => ?_)
      refine aops_slice_lst (0) (a4.toNat) ((a1.take a4.toNat).map encS) tSl42 wants_none rfl rfl ⟨_, (by rw [Int.toNat_of_nonneg hc29.1]; exact rfl)⟩ (Nat.zero_le _) (by simpa using hc29.2) slL_lo rfl ?_
      refine fo ?_
      refine cl h rfl rfl rfl (W29 _ _) rfl (fun y30 hx31 h => ?_)
      refine rn 10 rfl ?_
      refine ck h (fun hc32 h => ?_)
      refine aops_slice_lst (0) (a3.toNat) ((a1.take a3.toNat).map encS) tSl42 wants_none rfl rfl ⟨_, (by rw [Int.toNat_of_nonneg hc32.1]; exact rfl)⟩ (Nat.zero_le _) (by simpa using hc32.2) slL_lo rfl ?_
      refine fo ?_
      refine cl h rfl rfl rfl (W29 _ _) rfl (fun y33 hx34 h => ?_)
      refine rn 13 rfl ?_
      refine cl h rfl rfl rfl (W25 _ _ _ _ _ _) rfl (fun y35 hx36 h => ?_)
      refine rn 11 rfl ?_
      refine spO 121 h rfl (fun hb37 h => ?_) (fun hb37 h => ?_)
      · refine rn 17 rfl ?_
        exact rt h rfl
      refine rn 4 rfl ?_
      refine spO 125 h rfl (fun hb38 h => ?_) (fun hb38 h => ?_)
      · refine rn 13 rfl ?_
        exact rt h rfl
      refine rn 4 rfl ?_
      refine spO 129 h rfl (fun hb39 h => ?_) (fun hb39 h => ?_)
      · refine rn 9 rfl ?_
        exact rt h rfl
      refine rn 4 rfl ?_
      refine spC h rfl (fun hb40 h => ?_) (fun hb40 h => ?_)
      · refine rn 4 rfl ?_
        exact rt h rfl
      refine rn 1 rfl ?_
      exact jX () h (g0 rfl rfl)
    refine rn 1 rfl ?_
    exact jX () h (g0 rfl rfl)
  intro _ h
  refine rn 2 rfl ?_
  refine cl h rfl rfl rfl (W18 _) rfl (fun y41 hx42 h => ?_)
  refine rn 2 rfl ?_
  exact rt h rfl
end Go.Proofs.YtihfhmibfhkoeaaDoor
