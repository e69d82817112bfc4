/- Part of the proof: A8W6a. -/
import Derived.Test.YtihfhmibfhkoeaaDoorRA8M
import Derived.Test.YtihfhmibfhkoeaaDoorRA8W3a
import Derived.KernelRfl
namespace Go.Proofs.YtihfhmibfhkoeaaDoor
open Go Go.Pv
set_option linter.unusedVariables false
set_option maxRecDepth 100000
theorem W74 (F : Nat) (a1 : (List (List UInt8))) (a2 : Int) (r : Int) (h : M74 F a1 a2 = some r) : PureG gl Tryd.prog 74 [(V.lst 1 (a1.map encS)), (iV a2)] (iV r) := by
  refine pin (fun r => (iV r)) r rfl Tryd.func74 rfl rfl rfl rfl rfl (fun w0 m0 hg => ?_)
  unfold M74 at h
  refine rn 8 rfl ?_
  refine ln rfl rfl ?_
  refine rn 3 rfl ?_
  refine spC h rfl (fun hb3 h => ?_) (fun hb3 h => ?_)
  · refine rn 4 rfl ?_
    exact rt h rfl
  refine rn 5 rfl ?_
  refine ln rfl rfl ?_
  refine rn 2 rfl ?_
  refine jK h (fun _ : Unit => (⟨[], [], 0⟩ : St)) (fun k4 (_ : Unit) => k4 = some r) (fun k4 h => ?_) ?_
  · refine rn 1 rfl ?_
    refine wl (A := a1) 0 rfl (fun hA13 => ?_)
    refine lC (fun (p : Int) => (⟨[(11, (V.lst 1 (a1.map encS))), (12, (iV ((a1.length : Nat) : Int))), (13, (iV p))], [], 0⟩ : St)) (fun n (p : Int) => RG a1 (fun tl nn => M74_L1 F k4 tl = some r) n p) (fun p h => RG.zero h) (a1.length + 1) 0 (RG.start h) (g0 rfl rfl) (fun n n6 h => ?_)
    refine rn 5 rfl ?_
    refine spL rfl (fun hb7 => ?_) (fun hb7 => ?_)
    · obtain ⟨x8, tl, hx9, h, hk1⟩ := RG.t hA13 h hb7
      unfold M74_L1 at h
      refine rn 5 rfl ?_
      refine ixh hx9 rfl rfl ?_
      refine rn 6 rfl ?_
      refine cl h rfl rfl rfl (W73 _ _) rfl (fun y10 hx11 h => ?_)
      refine rn 2 rfl ?_
      refine spC h rfl (fun hb12 h => ?_) (fun hb12 h => ?_)
      · refine rn 4 rfl ?_
        exact rt h rfl
      refine rn 6 rfl ?_
      exact jX (w64 (n6 + 1)) (hk1 _ h) (g0 rfl rfl)
    replace h := RG.f h hb7
    unfold M74_L1 at h
    refine rn 1 rfl ?_
    exact jX () h (g0 rfl rfl)
  intro _ h
  refine rn 4 rfl ?_
  exact rt h rfl
theorem W116 (F : Nat) (a1 : Int) (r : Int) (h : M116 F a1 = some r) : PureG gl Tryd.prog 116 [(iV a1)] (iV r) := by
  refine pin (fun r => (iV r)) r rfl Tryd.func116 rfl rfl rfl rfl rfl (fun w0 m0 hg => ?_)
  unfold M116 at h
  refine rn 9 rfl ?_
  refine jK h (fun (p : Int) => (⟨[(3, (iV p))], [], 0⟩ : St)) (fun k2 (p : Int) => k2 p = some r) (fun k2 h => ?_) ?_
  · refine rn 1 rfl ?_
    refine lC (fun (p : Int) => (⟨[(0, (iV a1)), (3, (iV p))], [], 0⟩ : St)) (fun n (p : Int) => M116_L1 F a1 k2 n p = some r) (fun p h => by simp [M116_L1] at h) F 1 h (g0 rfl rfl) (fun n n5 h => ?_)
    unfold M116_L1 at h
    refine rn 8 rfl ?_
    refine spC h rfl (fun hb6 h => ?_) (fun hb6 h => ?_)
    · refine rn 8 rfl ?_
      exact jX (w64 (n5 * 2)) h (g0 rfl rfl)
    refine rn 1 rfl ?_
    exact jX n5 h (g0 rfl rfl)
  intro n3 h
  refine rn 5 rfl ?_
  exact rt h rfl
theorem W117 (F : Nat) (a1 : (List UInt8)) (a2 : (List UInt8)) (r : (List UInt8)) (h : M117 F a1 a2 = some r) : PureG gl Tryd.prog 117 [(sV a1), (sV a2)] (sV r) := by
  refine pin (fun r => (sV r)) r rfl Tryd.func117 rfl rfl rfl rfl rfl (fun w0 m0 hg => ?_)
  unfold M117 at h
  refine rn 7 rfl ?_
  refine ck h (fun hc3 h => ?_)
  refine aops_binT (str (([1] : List UInt8) ++ a1)) wants_none rfl rfl (if_pos hc3) rfl ?_
  refine fo (rn 1 rfl ?_)
  refine ck h (fun hc4 h => ?_)
  refine aops_binT (str ((([1] : List UInt8) ++ a1) ++ a2)) wants_none rfl rfl (if_pos hc4) rfl ?_
  refine fo ?_
  refine cl h rfl rfl rfl (W114 _ _) rfl (fun y5 hx6 h => ?_)
  refine rn 2 rfl ?_
  exact rt h rfl
theorem W119 (F : Nat) (a1 : Int) (r : Int) (h : M119 F a1 = some r) : PureG gl Tryd.prog 119 [(iV a1)] (iV r) := by
  refine pin (fun r => (iV r)) r rfl Tryd.func119 rfl rfl rfl rfl rfl (fun w0 m0 hg => ?_)
  unfold M119 at h
  refine rn 9 rfl ?_
  refine jK h (fun (p : Int) => (⟨[(3, (iV p))], [], 0⟩ : St)) (fun k2 (p : Int) => k2 p = some r) (fun k2 h => ?_) ?_
  · refine rn 1 rfl ?_
    refine lC (fun (p : Int) => (⟨[(0, (iV a1)), (3, (iV p))], [], 0⟩ : St)) (fun n (p : Int) => M119_L1 F a1 k2 n p = some r) (fun p h => by simp [M119_L1] at h) F 1 h (g0 rfl rfl) (fun n n5 h => ?_)
    unfold M119_L1 at h
    refine rn 8 rfl ?_
    refine spC h rfl (fun hb6 h => ?_) (fun hb6 h => ?_)
    · refine rn 8 rfl ?_
      exact jX (w64 (n5 * 2)) h (g0 rfl rfl)
    refine rn 1 rfl ?_
    exact jX n5 h (g0 rfl rfl)
  intro n3 h
  refine rn 5 rfl ?_
  exact rt h rfl
theorem W120 (F : Nat) (a1 : (List UInt8)) (a2 : (List UInt8)) (r : (List UInt8)) (h : M120 F a1 a2 = some r) : PureG gl Tryd.prog 120 [(sV a1), (sV a2)] (sV r) := by
  refine pin (fun r => (sV r)) r rfl Tryd.func120 rfl rfl rfl rfl rfl (fun w0 m0 hg => ?_)
  unfold M120 at h
  refine rn 7 rfl ?_
  refine ck h (fun hc3 h => ?_)
  refine aops_binT (str (([1] : List UInt8) ++ a1)) wants_none rfl rfl (if_pos hc3) rfl ?_
  refine fo (rn 1 rfl ?_)
  refine ck h (fun hc4 h => ?_)
  refine aops_binT (str ((([1] : List UInt8) ++ a1) ++ a2)) wants_none rfl rfl (if_pos hc4) rfl ?_
  refine fo ?_
  refine cl h rfl rfl rfl (W64 _ _) rfl (fun y5 hx6 h => ?_)
  refine rn 2 rfl ?_
  exact rt h rfl
end Go.Proofs.YtihfhmibfhkoeaaDoor
