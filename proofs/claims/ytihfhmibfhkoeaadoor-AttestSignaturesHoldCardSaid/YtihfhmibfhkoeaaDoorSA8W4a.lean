/- Part of the proof: A8W4a. -/
import Derived.Test.YtihfhmibfhkoeaaDoorSA8M
import Derived.Test.YtihfhmibfhkoeaaDoorSA8W3a
import Derived.KernelRfl
namespace Go.Proofs.YtihfhmibfhkoeaaDoor
open Go Go.Pv
set_option linter.unusedVariables false
set_option maxRecDepth 100000
theorem W4 (F : Nat) (a1 : (List UInt8)) (a2 : (List UInt8)) (a3 : (List UInt8)) (a4 : (List UInt8)) (a5 : TKey) (r : Bool) (h : M4 F a1 a2 a3 a4 a5 = some r) : PureG gl Tryd.prog 4 [(sV a1), (sV a2), (sV a3), (sV a4), (V.agg (encTKey a5))] (bV r) := by
  refine pin (fun r => (bV r)) r rfl Tryd.func4 rfl rfl rfl rfl rfl (fun w0 m0 hg => ?_)
  unfold M4 at h
  refine rn 9 rfl ?_
  refine cl h rfl rfl rfl (W12 _ _ _) rfl (fun y6 hx7 h => ?_)
  refine rn 13 rfl ?_
  refine spC h rfl (fun hb8 h => ?_) (fun hb8 h => ?_)
  · refine rn 4 rfl ?_
    refine cl h rfl rfl rfl (W13 _ _ _) rfl (fun y9 hx10 h => ?_)
    refine rn 13 rfl ?_
    refine spO 43 h rfl (fun hb11 h => ?_) (fun hb11 h => ?_)
    · refine cl h rfl rfl rfl (W18 _) rfl (fun y12 hx13 h => ?_)
      refine rn 3 rfl ?_
      exact rt h rfl
    refine rn 4 rfl ?_
    exact rt h rfl
  refine rn 5 rfl ?_
  refine cl h rfl rfl rfl (W14 _ _ _) rfl (fun y14 hx15 h => ?_)
  refine rn 13 rfl ?_
  refine spC h rfl (fun hb16 h => ?_) (fun hb16 h => ?_)
  · refine rn 5 rfl ?_
    refine spO 56 h rfl (fun hb17 h => ?_) (fun hb17 h => ?_)
    · refine cl h rfl rfl rfl (W18 _) rfl (fun y18 hx19 h => ?_)
      refine rn 3 rfl ?_
      exact rt h rfl
    refine rn 4 rfl ?_
    exact rt h rfl
  refine rn 11 rfl ?_
  refine cl h rfl rfl rfl (W16 _ _ _ _) rfl (fun y20 hx21 h => ?_)
  refine rn 11 rfl ?_
  refine cl h rfl rfl rfl (W16 _ _ _ _) rfl (fun y22 hx23 h => ?_)
  refine rn 11 rfl ?_
  refine cl h rfl rfl rfl (W17 _ _ _ _) rfl (fun y24 hx25 h => ?_)
  refine rn 11 rfl ?_
  refine cl h rfl rfl rfl (W16 _ _ _ _) rfl (fun y26 hx27 h => ?_)
  refine rn 11 rfl ?_
  refine cl h rfl rfl rfl (W17 _ _ _ _) rfl (fun y28 hx29 h => ?_)
  refine rn 10 rfl ?_
  refine spO 96 h rfl (fun hb30 h => ?_) (fun hb30 h => ?_)
  · refine rn 4 rfl ?_
    refine spO 100 h rfl (fun hb31 h => ?_) (fun hb31 h => ?_)
    · refine rn 3 rfl ?_
      refine spO 103 h rfl (fun hb32 h => ?_) (fun hb32 h => ?_)
      · refine rn 11 rfl ?_
        refine spO 114 h rfl (fun hb33 h => ?_) (fun hb33 h => ?_)
        · refine rn 5 rfl ?_
          refine spO 119 h rfl (fun hb34 h => ?_) (fun hb34 h => ?_)
          · refine cl h rfl rfl rfl (W18 _) rfl (fun y35 hx36 h => ?_)
            refine rn 3 rfl ?_
            exact rt h rfl
          refine rn 4 rfl ?_
          exact rt h rfl
        refine rn 9 rfl ?_
        exact rt h rfl
      refine rn 6 rfl ?_
      refine spO 109 h rfl (fun hb37 h => ?_) (fun hb37 h => ?_)
      · refine rn 5 rfl ?_
        refine spO 114 h rfl (fun hb38 h => ?_) (fun hb38 h => ?_)
        · refine rn 5 rfl ?_
          refine spO 119 h rfl (fun hb39 h => ?_) (fun hb39 h => ?_)
          · refine cl h rfl rfl rfl (W18 _) rfl (fun y40 hx41 h => ?_)
            refine rn 3 rfl ?_
            exact rt h rfl
          refine rn 4 rfl ?_
          exact rt h rfl
        refine rn 9 rfl ?_
        exact rt h rfl
      refine rn 14 rfl ?_
      exact rt h rfl
    refine rn 23 rfl ?_
    exact rt h rfl
  refine rn 27 rfl ?_
  exact rt h rfl
end Go.Proofs.YtihfhmibfhkoeaaDoor
