/- Part of the proof: Z6W3c. -/
import Derived.Test.YtpbkggamiipdmaaGreatR3Z6M
import Derived.Test.YtpbkggamiipdmaaGreatR3REz
import Derived.Test.YtpbkggamiipdmaaGreatR3Z6W3b
import Derived.KernelRfl
namespace Go.Proofs.YtpbkggamiipdmaaGreat
open Go Go.Pv
set_option linter.unusedVariables false
set_option maxRecDepth 100000
theorem W55 (F : Nat) (a1 : (List TIface)) (a2 : (List TIface)) (r : Bool) (h : M55 F a1 a2 = some r) : Pure Tryz.prog 55 [(V.lst 2 (a1.map encTIface)), (V.lst 2 (a2.map encTIface)), (V.fn (.func 52) [] [])] (bV r) := by
  refine pin (fun r => (bV r)) r rfl Tryz.func55 rfl rfl rfl rfl rfl (fun w0 m0 hg => ?_)
  unfold M55 at h
  refine rn 8 rfl ?_
  refine ln rfl rfl ?_
  refine rn 1 rfl ?_
  refine ln rfl rfl ?_
  refine rn 2 rfl ?_
  refine spC h rfl (fun hb3 h => ?_) (fun hb3 h => ?_)
  · refine rn 4 rfl ?_
    exact rt h rfl
  refine rn 5 rfl ?_
  refine ln rfl rfl ?_
  refine rn 2 rfl ?_
  refine jK h (fun _ : Unit => (⟨[], [], 0⟩ : St)) (fun k4 (_ : Unit) => k4 = some r) (fun k4 h => ?_) ?_
  · refine rn 1 rfl ?_
    refine wl (A := a1) 0 rfl (fun hA15 => ?_)
    refine lC (fun (p : Int) => (⟨[(1, (V.lst 2 (a2.map encTIface))), (2, (V.fn (.func 52) [] [])), (15, (V.lst 2 (a1.map encTIface))), (16, (iV ((a1.length : Nat) : Int))), (17, (iV p))], [], 0⟩ : St)) (fun n (p : Int) => RG a1 (fun tl nn => M55_L1 F a2 k4 tl nn = some r) n p) (fun p h => RG.zero h) (a1.length + 1) 0 (RG.start h) (g0 rfl rfl) (fun n n6 h => ?_)
    refine rn 5 rfl ?_
    refine spL rfl (fun hb7 => ?_) (fun hb7 => ?_)
    · obtain ⟨x8, tl, hx9, h, hk1⟩ := RG.t hA15 h hb7
      unfold M55_L1 at h
      refine rn 6 rfl ?_
      refine ixh hx9 rfl rfl ?_
      refine rn 9 rfl ?_
      refine ixl h rfl rfl (fun x10 hx11 h => ?_)
      refine rn 9 rfl ?_
      refine cl h rfl rfl rfl (W52 _ _ _) rfl (fun y12 hx13 h => ?_)
      refine rn 2 rfl ?_
      refine spC h rfl (fun hb14 h => ?_) (fun hb14 h => ?_)
      · refine rn 4 rfl ?_
        exact rt h rfl
      refine rn 6 rfl ?_
      exact jX (w64 (n6 + 1)) (hk1 _ h) (g0 rfl rfl)
    replace h := RG.f h hb7
    unfold M55_L1 at h
    refine rn 1 rfl ?_
    exact jX () h (g0 rfl rfl)
  intro _ h
  refine rn 4 rfl ?_
  exact rt h rfl
theorem W54 (F : Nat) (a1 : (List TMethod)) (a2 : (List TMethod)) (r : Bool) (h : M54 F a1 a2 = some r) : Pure Tryz.prog 54 [(V.lst 2 (a1.map encTMethod)), (V.lst 2 (a2.map encTMethod))] (bV r) := by
  refine pin (fun r => (bV r)) r rfl Tryz.func54 rfl rfl rfl rfl rfl (fun w0 m0 hg => ?_)
  unfold M54 at h
  refine rn 8 rfl ?_
  refine ln rfl rfl ?_
  refine rn 1 rfl ?_
  refine ln rfl rfl ?_
  refine rn 2 rfl ?_
  refine spC h rfl (fun hb3 h => ?_) (fun hb3 h => ?_)
  · refine rn 4 rfl ?_
    exact rt h rfl
  refine rn 5 rfl ?_
  refine ln rfl rfl ?_
  refine rn 2 rfl ?_
  refine jK h (fun _ : Unit => (⟨[], [], 0⟩ : St)) (fun k4 (_ : Unit) => k4 = some r) (fun k4 h => ?_) ?_
  · refine rn 1 rfl ?_
    refine wl (A := a1) 0 rfl (fun hA13 => ?_)
    refine lC (fun (p : Int) => (⟨[(0, (V.lst 2 (a1.map encTMethod))), (1, (V.lst 2 (a2.map encTMethod))), (12, (iV ((a1.length : Nat) : Int))), (13, (iV p))], [], 0⟩ : St)) (fun n (p : Int) => RG a1 (fun tl nn => M54_L1 F a2 k4 tl nn = some r) n p) (fun p h => RG.zero h) (a1.length + 1) 0 (RG.start h) (g0 rfl rfl) (fun n n6 h => ?_)
    refine rn 5 rfl ?_
    refine spL rfl (fun hb7 => ?_) (fun hb7 => ?_)
    · obtain ⟨x8, tl, hx9, h, hk1⟩ := RG.t hA13 h hb7
      unfold M54_L1 at h
      obtain ⟨x10, hx11, h⟩ := bind_some h
      refine rn 9 rfl ?_
      refine dr mixed (vs 2 rfl (iD hx9 rfl rfl rfl (vs 3 rfl (iD hx11 rfl rfl rfl (vs 1 rfl (xD (OD.mk [(19, (V.agg (encTMethod x8))), (23, (V.agg (encTMethod x10)))] [] [(24, (bV (!(decide (x8 = x10)))))] []) ⟨⟨rfl, rfl, trivial⟩, trivial⟩ (by exact fun S hn h hh => aops_eqS true (xs := cv116 x8) (ys := cv116 x10) (b := (decide (x8 = x10))) eqk116 ⟨_, rfl⟩ ⟨_, rfl⟩ (eq_b cv116 _ _ (inj_cv116 _ _)) tEqG116 wants_none h.1 h.2.1 rfl (aops_nil ⟨rfl, rfl⟩)) rfl .nil)))))) (by kernel_rfl) ?_
      refine spC h rfl (fun hb12 h => ?_) (fun hb12 h => ?_)
      · refine rn 4 rfl ?_
        exact rt h rfl
      refine rn 6 rfl ?_
      exact jX (w64 (n6 + 1)) (hk1 _ h) (g0 rfl rfl)
    replace h := RG.f h hb7
    unfold M54_L1 at h
    refine rn 1 rfl ?_
    exact jX () h (g0 rfl rfl)
  intro _ h
  refine rn 4 rfl ?_
  exact rt h rfl
theorem W53 (F : Nat) (a1 : TType) (a2 : TType) (r : Bool) (h : M53 F a1 a2 = some r) : Pure Tryz.prog 53 [(V.agg (encTType a1)), (V.agg (encTType a2))] (bV r) := by
  refine pin (fun r => (bV r)) r rfl Tryz.func53 rfl rfl rfl rfl rfl (fun w0 m0 hg => ?_)
  unfold M53 at h
  refine rn 14 rfl ?_
  refine spO 10 h rfl (fun hb3 h => ?_) (fun hb3 h => ?_)
  · refine rn 4 rfl ?_
    refine cl h rfl rfl rfl (W54 _ _ _) rfl (fun y4 hx5 h => ?_)
    refine rn 3 rfl ?_
    exact rt h rfl
  refine rn 8 rfl ?_
  exact rt h rfl
theorem W56 (F : Nat) (a1 : (List TType)) (a2 : (List TType)) (r : Bool) (h : M56 F a1 a2 = some r) : Pure Tryz.prog 56 [(V.lst 2 (a1.map encTType)), (V.lst 2 (a2.map encTType)), (V.fn (.func 53) [] [])] (bV r) := by
  refine pin (fun r => (bV r)) r rfl Tryz.func56 rfl rfl rfl rfl rfl (fun w0 m0 hg => ?_)
  unfold M56 at h
  refine rn 8 rfl ?_
  refine ln rfl rfl ?_
  refine rn 1 rfl ?_
  refine ln rfl rfl ?_
  refine rn 2 rfl ?_
  refine spC h rfl (fun hb3 h => ?_) (fun hb3 h => ?_)
  · refine rn 4 rfl ?_
    exact rt h rfl
  refine rn 5 rfl ?_
  refine ln rfl rfl ?_
  refine rn 2 rfl ?_
  refine jK h (fun _ : Unit => (⟨[], [], 0⟩ : St)) (fun k4 (_ : Unit) => k4 = some r) (fun k4 h => ?_) ?_
  · refine rn 1 rfl ?_
    refine wl (A := a1) 0 rfl (fun hA15 => ?_)
    refine lC (fun (p : Int) => (⟨[(1, (V.lst 2 (a2.map encTType))), (2, (V.fn (.func 53) [] [])), (15, (V.lst 2 (a1.map encTType))), (16, (iV ((a1.length : Nat) : Int))), (17, (iV p))], [], 0⟩ : St)) (fun n (p : Int) => RG a1 (fun tl nn => M56_L1 F a2 k4 tl nn = some r) n p) (fun p h => RG.zero h) (a1.length + 1) 0 (RG.start h) (g0 rfl rfl) (fun n n6 h => ?_)
    refine rn 5 rfl ?_
    refine spL rfl (fun hb7 => ?_) (fun hb7 => ?_)
    · obtain ⟨x8, tl, hx9, h, hk1⟩ := RG.t hA15 h hb7
      unfold M56_L1 at h
      refine rn 6 rfl ?_
      refine ixh hx9 rfl rfl ?_
      refine rn 9 rfl ?_
      refine ixl h rfl rfl (fun x10 hx11 h => ?_)
      refine rn 9 rfl ?_
      refine cl h rfl rfl rfl (W53 _ _ _) rfl (fun y12 hx13 h => ?_)
      refine rn 2 rfl ?_
      refine spC h rfl (fun hb14 h => ?_) (fun hb14 h => ?_)
      · refine rn 4 rfl ?_
        exact rt h rfl
      refine rn 6 rfl ?_
      exact jX (w64 (n6 + 1)) (hk1 _ h) (g0 rfl rfl)
    replace h := RG.f h hb7
    unfold M56_L1 at h
    refine rn 1 rfl ?_
    exact jX () h (g0 rfl rfl)
  intro _ h
  refine rn 4 rfl ?_
  exact rt h rfl
theorem W126 (F : Nat) (a1 : (List TCall)) (a2 : (List TCall)) (r : Bool) (h : M126 F a1 a2 = some r) : Pure Tryz.prog 126 [(V.lst 4 (a1.map encTCall)), (V.lst 4 (a2.map encTCall))] (bV r) := by
  refine pin (fun r => (bV r)) r rfl Tryz.func126 rfl rfl rfl rfl rfl (fun w0 m0 hg => ?_)
  unfold M126 at h
  refine rn 8 rfl ?_
  refine ln rfl rfl ?_
  refine rn 1 rfl ?_
  refine ln rfl rfl ?_
  refine rn 2 rfl ?_
  refine spC h rfl (fun hb3 h => ?_) (fun hb3 h => ?_)
  · refine rn 4 rfl ?_
    exact rt h rfl
  refine rn 5 rfl ?_
  refine ln rfl rfl ?_
  refine rn 2 rfl ?_
  refine jK h (fun _ : Unit => (⟨[], [], 0⟩ : St)) (fun k4 (_ : Unit) => k4 = some r) (fun k4 h => ?_) ?_
  · refine rn 1 rfl ?_
    refine wl (A := a1) 0 rfl (fun hA13 => ?_)
    refine lC (fun (p : Int) => (⟨[(0, (V.lst 4 (a1.map encTCall))), (1, (V.lst 4 (a2.map encTCall))), (12, (iV ((a1.length : Nat) : Int))), (13, (iV p))], [], 0⟩ : St)) (fun n (p : Int) => RG a1 (fun tl nn => M126_L1 F a2 k4 tl nn = some r) n p) (fun p h => RG.zero h) (a1.length + 1) 0 (RG.start h) (g0 rfl rfl) (fun n n6 h => ?_)
    refine rn 5 rfl ?_
    refine spL rfl (fun hb7 => ?_) (fun hb7 => ?_)
    · obtain ⟨x8, tl, hx9, h, hk1⟩ := RG.t hA13 h hb7
      unfold M126_L1 at h
      obtain ⟨x10, hx11, h⟩ := bind_some h
      refine rn 9 rfl ?_
      refine dr mixed (vs 2 rfl (iD hx9 rfl rfl rfl (vs 3 rfl (iD hx11 rfl rfl rfl (vs 1 rfl (xD (OD.mk [(19, (V.agg (encTCall x8))), (23, (V.agg (encTCall x10)))] [] [(24, (bV (!(decide (x8 = x10)))))] []) ⟨⟨rfl, rfl, trivial⟩, trivial⟩ (by exact fun S hn h hh => aops_eqS true (xs := cv109 x8) (ys := cv109 x10) (b := (decide (x8 = x10))) eqk109 ⟨_, rfl⟩ ⟨_, rfl⟩ (eq_b cv109 _ _ (inj_cv109 _ _)) tEqG109 wants_none h.1 h.2.1 rfl (aops_nil ⟨rfl, rfl⟩)) rfl .nil)))))) (by kernel_rfl) ?_
      refine spC h rfl (fun hb12 h => ?_) (fun hb12 h => ?_)
      · refine rn 4 rfl ?_
        exact rt h rfl
      refine rn 6 rfl ?_
      exact jX (w64 (n6 + 1)) (hk1 _ h) (g0 rfl rfl)
    replace h := RG.f h hb7
    unfold M126_L1 at h
    refine rn 1 rfl ?_
    exact jX () h (g0 rfl rfl)
  intro _ h
  refine rn 4 rfl ?_
  exact rt h rfl
theorem W58 (F : Nat) (a1 : TFunc) (a2 : TFunc) (r : Bool) (h : M58 F a1 a2 = some r) : Pure Tryz.prog 58 [(V.agg (encTFunc a1)), (V.agg (encTFunc a2))] (bV r) := by
  refine pin (fun r => (bV r)) r rfl Tryz.func58 rfl rfl rfl rfl rfl (fun w0 m0 hg => ?_)
  unfold M58 at h
  refine rn 14 rfl ?_
  refine spO 10 h rfl (fun hb3 h => ?_) (fun hb3 h => ?_)
  · refine rn 7 rfl ?_
    refine spO 17 h rfl (fun hb4 h => ?_) (fun hb4 h => ?_)
    · refine rn 4 rfl ?_
      refine cl h rfl rfl rfl (W126 _ _ _) rfl (fun y5 hx6 h => ?_)
      refine rn 2 rfl ?_
      refine spO 24 h rfl (fun hb7 h => ?_) (fun hb7 h => ?_)
      · refine rn 4 rfl ?_
        refine cl h rfl rfl rfl (W26 _ _ _) rfl (fun y8 hx9 h => ?_)
        refine rn 3 rfl ?_
        exact rt h rfl
      refine rn 8 rfl ?_
      exact rt h rfl
    refine rn 15 rfl ?_
    exact rt h rfl
  refine rn 22 rfl ?_
  exact rt h rfl
theorem W57 (F : Nat) (a1 : (List TFunc)) (a2 : (List TFunc)) (r : Bool) (h : M57 F a1 a2 = some r) : Pure Tryz.prog 57 [(V.lst 4 (a1.map encTFunc)), (V.lst 4 (a2.map encTFunc)), (V.fn (.func 58) [] [])] (bV r) := by
  refine pin (fun r => (bV r)) r rfl Tryz.func57 rfl rfl rfl rfl rfl (fun w0 m0 hg => ?_)
  unfold M57 at h
  refine rn 8 rfl ?_
  refine ln rfl rfl ?_
  refine rn 1 rfl ?_
  refine ln rfl rfl ?_
  refine rn 2 rfl ?_
  refine spC h rfl (fun hb3 h => ?_) (fun hb3 h => ?_)
  · refine rn 4 rfl ?_
    exact rt h rfl
  refine rn 5 rfl ?_
  refine ln rfl rfl ?_
  refine rn 2 rfl ?_
  refine jK h (fun _ : Unit => (⟨[], [], 0⟩ : St)) (fun k4 (_ : Unit) => k4 = some r) (fun k4 h => ?_) ?_
  · refine rn 1 rfl ?_
    refine wl (A := a1) 0 rfl (fun hA15 => ?_)
    refine lC (fun (p : Int) => (⟨[(1, (V.lst 4 (a2.map encTFunc))), (2, (V.fn (.func 58) [] [])), (15, (V.lst 4 (a1.map encTFunc))), (16, (iV ((a1.length : Nat) : Int))), (17, (iV p))], [], 0⟩ : St)) (fun n (p : Int) => RG a1 (fun tl nn => M57_L1 F a2 k4 tl nn = some r) n p) (fun p h => RG.zero h) (a1.length + 1) 0 (RG.start h) (g0 rfl rfl) (fun n n6 h => ?_)
    refine rn 5 rfl ?_
    refine spL rfl (fun hb7 => ?_) (fun hb7 => ?_)
    · obtain ⟨x8, tl, hx9, h, hk1⟩ := RG.t hA15 h hb7
      unfold M57_L1 at h
      refine rn 6 rfl ?_
      refine ixh hx9 rfl rfl ?_
      refine rn 9 rfl ?_
      refine ixl h rfl rfl (fun x10 hx11 h => ?_)
      refine rn 9 rfl ?_
      refine cl h rfl rfl rfl (W58 _ _ _) rfl (fun y12 hx13 h => ?_)
      refine rn 2 rfl ?_
      refine spC h rfl (fun hb14 h => ?_) (fun hb14 h => ?_)
      · refine rn 4 rfl ?_
        exact rt h rfl
      refine rn 6 rfl ?_
      exact jX (w64 (n6 + 1)) (hk1 _ h) (g0 rfl rfl)
    replace h := RG.f h hb7
    unfold M57_L1 at h
    refine rn 1 rfl ?_
    exact jX () h (g0 rfl rfl)
  intro _ h
  refine rn 4 rfl ?_
  exact rt h rfl
theorem W13 (F : Nat) (a1 : TGraph) (a2 : TGraph) (r : Bool) (h : M13 F a1 a2 = some r) : Pure Tryz.prog 13 [(V.agg (encTGraph a1)), (V.agg (encTGraph a2))] (bV r) := by
  refine pin (fun r => (bV r)) r rfl Tryz.func13 rfl rfl rfl rfl rfl (fun w0 m0 hg => ?_)
  unfold M13 at h
  refine rn 21 rfl ?_
  refine cl h rfl rfl rfl (W55 _ _ _) rfl (fun y3 hx4 h => ?_)
  refine rn 1 rfl ?_
  refine spO 13 h rfl (fun hb5 h => ?_) (fun hb5 h => ?_)
  · refine rn 5 rfl ?_
    refine cl h rfl rfl rfl (W56 _ _ _) rfl (fun y6 hx7 h => ?_)
    refine rn 2 rfl ?_
    refine spO 21 h rfl (fun hb8 h => ?_) (fun hb8 h => ?_)
    · refine rn 4 rfl ?_
      refine cl h rfl rfl rfl (W57 _ _ _) rfl (fun y9 hx10 h => ?_)
      refine rn 2 rfl ?_
      refine spO 28 h rfl (fun hb11 h => ?_) (fun hb11 h => ?_)
      · refine rn 4 rfl ?_
        refine cl h rfl rfl rfl (W26 _ _ _) rfl (fun y12 hx13 h => ?_)
        refine rn 3 rfl ?_
        exact rt h rfl
      refine rn 8 rfl ?_
      exact rt h rfl
    refine rn 15 rfl ?_
    exact rt h rfl
  refine rn 23 rfl ?_
  exact rt h rfl
theorem W14 (F : Nat) (r : Bool) (h : M14 F = some r) : Pure Tryz.prog 14 [] (bV r) := by
  unfold M14 at h
  replace h := Option.some.inj h
  subst h
  exact told_pure
theorem W3 (F : Nat) (a1 : TGraph) (a2 : (List TSite)) (r : Bool) (h : M3 F a1 a2 = some r) : Pure Tryz.prog 3 [(V.agg (encTGraph a1)), (V.lst 2 (a2.map encTSite))] (bV r) := by
  refine pin (fun r => (bV r)) r rfl Tryz.func3 rfl rfl rfl rfl rfl (fun w0 m0 hg => ?_)
  unfold M3 at h
  refine rn 9 rfl ?_
  refine cl h rfl rfl rfl (W11 _ _ _) rfl (fun y3 hx4 h => ?_)
  refine rn 11 rfl ?_
  refine cl h rfl rfl rfl (W12 _ _ _) rfl (fun y5 hx6 h => ?_)
  refine rn 13 rfl ?_
  refine spO 24 h rfl (fun hb7 h => ?_) (fun hb7 h => ?_)
  · refine rn 2 rfl ?_
    refine cl h rfl rfl rfl (W13 _ _ _) rfl (fun y8 hx9 h => ?_)
    refine rn 2 rfl ?_
    refine spO 29 h rfl (fun hb10 h => ?_) (fun hb10 h => ?_)
    · refine cl h rfl rfl rfl (W14 _) rfl (fun y11 hx12 h => ?_)
      refine rn 3 rfl ?_
      exact rt h rfl
    refine rn 4 rfl ?_
    exact rt h rfl
  refine rn 9 rfl ?_
  exact rt h rfl
end Go.Proofs.YtpbkggamiipdmaaGreat
