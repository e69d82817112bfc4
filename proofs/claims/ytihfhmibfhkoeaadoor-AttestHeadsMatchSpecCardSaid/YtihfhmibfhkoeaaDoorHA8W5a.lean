/- Part of the proof: A8W5a. -/
import Derived.Test.YtihfhmibfhkoeaaDoorHA8M
import Derived.Test.YtihfhmibfhkoeaaDoorHA8Rep
import Derived.Test.YtihfhmibfhkoeaaDoorHA8W3a
import Derived.KernelRfl
namespace Go.Proofs.YtihfhmibfhkoeaaDoor
open Go Go.Pv
set_option linter.unusedVariables false
set_option maxRecDepth 100000
theorem W69 (F : Nat) (a1 : Int) (a2 : (List UInt8)) (r : Int) (h : M69 F a1 a2 = some r) : PureG gl Tryd.prog 69 [(iV a1), (sV a2)] (iV r) := by
  refine pin (fun r => (iV r)) r rfl Tryd.func69 rfl rfl rfl rfl rfl (fun w0 m0 hg => ?_)
  unfold M69 at h
  refine rn 11 rfl ?_
  refine spO 8 h rfl (fun hb3 h => ?_) (fun hb3 h => ?_)
  · refine rn 10 rfl ?_
    exact rt h rfl
  refine rn 5 rfl ?_
  refine spC h rfl (fun hb4 h => ?_) (fun hb4 h => ?_)
  · refine rn 4 rfl ?_
    exact rt h rfl
  refine rn 3 rfl ?_
  refine cl h rfl rfl rfl (W73 _ _) rfl (fun y5 hx6 h => ?_)
  refine rn 3 rfl ?_
  refine spC h rfl (fun hb7 h => ?_) (fun hb7 h => ?_)
  · refine rn 4 rfl ?_
    exact rt h rfl
  refine rn 6 rfl ?_
  exact rt h rfl
theorem W107 (F : Nat) (a1 : Int) (r : (List UInt8)) (h : M107 F a1 = some r) : PureG gl Tryd.prog 107 [(iV a1)] (sV r) := by
  unfold M107 at h
  obtain ⟨hc, h⟩ := chk_some h
  replace h := Option.some.inj h
  subst h
  exact pure_itoa (g := 0) rfl (by kernel_rfl) hc (fun w ht => Go.Proofs.Tryd.strconv_Itoa _ hc.1 hc.2 w ht)
theorem W70 (F : Nat) (a1 : Int) (a2 : (List UInt8)) (r : (List UInt8)) (h : M70 F a1 a2 = some r) : PureG gl Tryd.prog 70 [(iV a1), (sV a2)] (sV r) := by
  refine pin (fun r => (sV r)) r rfl Tryd.func70 rfl rfl rfl rfl rfl (fun w0 m0 hg => ?_)
  unfold M70 at h
  refine rn 7 rfl ?_
  refine cl h rfl rfl rfl (W107 _ _) rfl (fun y3 hx4 h => ?_)
  refine ck h (fun hc5 h => ?_)
  refine aops_binT (str (([104, 101, 97, 100, 32] : List UInt8) ++ y3)) wants_none rfl rfl (if_pos hc5) rfl ?_
  refine ck h (fun hc6 h => ?_)
  refine aops_binT (str ((([104, 101, 97, 100, 32] : List UInt8) ++ y3) ++ ([32] : List UInt8))) wants_none rfl rfl (if_pos hc6) rfl ?_
  refine fo (rn 1 rfl ?_)
  refine ck h (fun hc7 h => ?_)
  refine aops_binT (str (((([104, 101, 97, 100, 32] : List UInt8) ++ y3) ++ ([32] : List UInt8)) ++ a2)) wants_none rfl rfl (if_pos hc7) rfl ?_
  refine fo (rn 2 rfl ?_)
  exact rt h rfl
theorem W19 (F : Nat) (a1 : TKey) (a2 : Int) (a3 : (List UInt8)) (r : (THead × Int)) (h : M19 F a1 a2 a3 = some r) : PureG gl Tryd.prog 19 [(V.agg (encTKey a1)), (iV a2), (sV a3)] (V.tup [(V.agg (encTHead (r.1))), (iV (r.2))]) := by
  refine pin (fun r => (V.tup [(V.agg (encTHead (r.1))), (iV (r.2))])) r rfl Tryd.func19 rfl rfl rfl rfl rfl (fun w0 m0 hg => ?_)
  unfold M19 at h
  refine rn 11 rfl ?_
  refine cl h rfl rfl rfl (W69 _ _ _) rfl (fun y4 hx5 h => ?_)
  refine rn 7 rfl ?_
  refine spC h rfl (fun hb6 h => ?_) (fun hb6 h => ?_)
  · refine rn 7 rfl ?_
    exact rt h rfl
  obtain ⟨y7, hx8, h⟩ := bind_some h
  obtain ⟨y9, hx10, h⟩ := bind_some h
  refine rn 2 rfl ?_
  refine awp_ghost ghost_res ?_
  refine fa ?_
  refine dr mixed (vs 3 rfl (cD rfl rfl rfl rfl (W70 _ _ _ _ hx8) rfl (cD rfl rfl rfl rfl (W14 _ _ _ _ hx10) rfl (vs 3 rfl (xD (OD.mk [] [(2, Ob.res)] [(9, (V.ptr 2 2 0 0))] [(2, (Ob.arr 25 2 [[(sV ([] : List UInt8)), (sV ([] : List UInt8))]]))]) ⟨trivial, ⟨rfl, trivial⟩⟩ (by exact fun S hn h hh => aops_alloc_at 2 rfl hn hh.1 tZ25 rfl rfl wants_none rfl (aops_nil ⟨rfl, rfl⟩)) rfl (vs 2 rfl .nil)))))) (by kernel_rfl) ?_
  refine rn 6 rfl ?_
  refine spC h rfl (fun hb11 h => ?_) (fun hb11 h => ?_)
  · refine rn 7 rfl ?_
    exact rt h rfl
  refine rn 10 rfl ?_
  exact rt h rfl
theorem W71 (F : Nat) (a1 : Int) (a2 : (List UInt8)) (r : Int) (h : M71 F a1 a2 = some r) : PureG gl Tryd.prog 71 [(iV a1), (sV a2)] (iV r) := by
  refine pin (fun r => (iV r)) r rfl Tryd.func71 rfl rfl rfl rfl rfl (fun w0 m0 hg => ?_)
  unfold M71 at h
  refine rn 10 rfl ?_
  refine spO 7 h rfl (fun hb3 h => ?_) (fun hb3 h => ?_)
  · refine rn 9 rfl ?_
    exact rt h rfl
  refine rn 4 rfl ?_
  refine spC h rfl (fun hb4 h => ?_) (fun hb4 h => ?_)
  · refine rn 4 rfl ?_
    exact rt h rfl
  refine rn 5 rfl ?_
  refine cl h rfl rfl rfl (W77 _ _) rfl (fun y5 hx6 h => ?_)
  refine rn 2 rfl ?_
  refine spC h rfl (fun hb7 h => ?_) (fun hb7 h => ?_)
  · refine rn 4 rfl ?_
    exact rt h rfl
  refine rn 5 rfl ?_
  exact rt h rfl
theorem W72 (F : Nat) (a1 : Int) (a2 : (List UInt8)) (r : (List UInt8)) (h : M72 F a1 a2 = some r) : PureG gl Tryd.prog 72 [(iV a1), (sV a2)] (sV r) := by
  refine pin (fun r => (sV r)) r rfl Tryd.func72 rfl rfl rfl rfl rfl (fun w0 m0 hg => ?_)
  unfold M72 at h
  refine rn 7 rfl ?_
  refine cl h rfl rfl rfl (W107 _ _) rfl (fun y3 hx4 h => ?_)
  refine ck h (fun hc5 h => ?_)
  refine aops_binT (str (([104, 101, 97, 100, 32] : List UInt8) ++ y3)) wants_none rfl rfl (if_pos hc5) rfl ?_
  refine ck h (fun hc6 h => ?_)
  refine aops_binT (str ((([104, 101, 97, 100, 32] : List UInt8) ++ y3) ++ ([32] : List UInt8))) wants_none rfl rfl (if_pos hc6) rfl ?_
  refine fo (rn 1 rfl ?_)
  refine ck h (fun hc7 h => ?_)
  refine aops_binT (str (((([104, 101, 97, 100, 32] : List UInt8) ++ y3) ++ ([32] : List UInt8)) ++ a2)) wants_none rfl rfl (if_pos hc7) rfl ?_
  refine fo (rn 2 rfl ?_)
  exact rt h rfl
theorem W20 (F : Nat) (a1 : TKey) (a2 : Int) (a3 : (List UInt8)) (r : (THead × Int)) (h : M20 F a1 a2 a3 = some r) : PureG gl Tryd.prog 20 [(V.agg (encTKey a1)), (iV a2), (sV a3)] (V.tup [(V.agg (encTHead (r.1))), (iV (r.2))]) := by
  refine pin (fun r => (V.tup [(V.agg (encTHead (r.1))), (iV (r.2))])) r rfl Tryd.func20 rfl rfl rfl rfl rfl (fun w0 m0 hg => ?_)
  unfold M20 at h
  refine rn 11 rfl ?_
  refine cl h rfl rfl rfl (W71 _ _ _) rfl (fun y4 hx5 h => ?_)
  refine rn 7 rfl ?_
  refine spC h rfl (fun hb6 h => ?_) (fun hb6 h => ?_)
  · refine rn 7 rfl ?_
    exact rt h rfl
  obtain ⟨y7, hx8, h⟩ := bind_some h
  obtain ⟨y9, hx10, h⟩ := bind_some h
  refine rn 2 rfl ?_
  refine awp_ghost ghost_res ?_
  refine fa ?_
  refine dr mixed (vs 3 rfl (cD rfl rfl rfl rfl (W72 _ _ _ _ hx8) rfl (cD rfl rfl rfl rfl (W15 _ _ _ _ hx10) rfl (vs 3 rfl (xD (OD.mk [] [(2, Ob.res)] [(9, (V.ptr 2 2 0 0))] [(2, (Ob.arr 25 2 [[(sV ([] : List UInt8)), (sV ([] : List UInt8))]]))]) ⟨trivial, ⟨rfl, trivial⟩⟩ (by exact fun S hn h hh => aops_alloc_at 2 rfl hn hh.1 tZ25 rfl rfl wants_none rfl (aops_nil ⟨rfl, rfl⟩)) rfl (vs 2 rfl .nil)))))) (by kernel_rfl) ?_
  refine rn 6 rfl ?_
  refine spC h rfl (fun hb11 h => ?_) (fun hb11 h => ?_)
  · refine rn 7 rfl ?_
    exact rt h rfl
  refine rn 10 rfl ?_
  exact rt h rfl
theorem W21 (F : Nat) (a1 : TKey) (a2 : THead) (r : (Bool × Int)) (h : M21 F a1 a2 = some r) : PureG gl Tryd.prog 21 [(V.agg (encTKey a1)), (V.agg (encTHead a2))] (V.tup [(bV (r.1)), (iV (r.2))]) := by
  refine pin (fun r => (V.tup [(bV (r.1)), (iV (r.2))])) r rfl Tryd.func21 rfl rfl rfl rfl rfl (fun w0 m0 hg => ?_)
  unfold M21 at h
  refine rn 14 rfl ?_
  refine cl h rfl rfl rfl (W69 _ _ _) rfl (fun y3 hx4 h => ?_)
  refine rn 7 rfl ?_
  refine spC h rfl (fun hb5 h => ?_) (fun hb5 h => ?_)
  · refine rn 6 rfl ?_
    exact rt h rfl
  obtain ⟨y6, hx7, h⟩ := bind_some h
  obtain ⟨y8, hx9, h⟩ := bind_some h
  refine rn 2 rfl ?_
  refine dr mixed (vs 5 rfl (cD rfl rfl rfl rfl (W70 _ _ _ _ hx7) rfl (vs 2 rfl (cD rfl rfl rfl rfl (W16 _ _ _ _ _ hx9) rfl (vs 4 rfl .nil))))) (by kernel_rfl) ?_
  exact rt h rfl
theorem W22 (F : Nat) (a1 : TKey) (a2 : THead) (r : (Bool × Int)) (h : M22 F a1 a2 = some r) : PureG gl Tryd.prog 22 [(V.agg (encTKey a1)), (V.agg (encTHead a2))] (V.tup [(bV (r.1)), (iV (r.2))]) := by
  refine pin (fun r => (V.tup [(bV (r.1)), (iV (r.2))])) r rfl Tryd.func22 rfl rfl rfl rfl rfl (fun w0 m0 hg => ?_)
  unfold M22 at h
  refine rn 14 rfl ?_
  refine cl h rfl rfl rfl (W71 _ _ _) rfl (fun y3 hx4 h => ?_)
  refine rn 7 rfl ?_
  refine spC h rfl (fun hb5 h => ?_) (fun hb5 h => ?_)
  · refine rn 6 rfl ?_
    exact rt h rfl
  obtain ⟨y6, hx7, h⟩ := bind_some h
  obtain ⟨y8, hx9, h⟩ := bind_some h
  refine rn 2 rfl ?_
  refine dr mixed (vs 5 rfl (cD rfl rfl rfl rfl (W72 _ _ _ _ hx7) rfl (vs 2 rfl (cD rfl rfl rfl rfl (W17 _ _ _ _ _ hx9) rfl (vs 4 rfl .nil))))) (by kernel_rfl) ?_
  exact rt h rfl
theorem W5 (F : Nat) (a1 : TKey) (a2 : Int) (a3 : (List UInt8)) (a4 : THead) (r : Bool) (h : M5 F a1 a2 a3 a4 = some r) : PureG gl Tryd.prog 5 [(V.agg (encTKey a1)), (iV a2), (sV a3), (V.agg (encTHead a4))] (bV r) := by
  refine pin (fun r => (bV r)) r rfl Tryd.func5 rfl rfl rfl rfl rfl (fun w0 m0 hg => ?_)
  unfold M5 at h
  refine rn 11 rfl ?_
  refine cl h rfl rfl rfl (W19 _ _ _ _) rfl (fun y5 hx6 h => ?_)
  refine rn 12 rfl ?_
  refine cl h rfl rfl rfl (W20 _ _ _ _) rfl (fun y7 hx8 h => ?_)
  refine rn 11 rfl ?_
  refine cl h rfl rfl rfl (W21 _ _ _) rfl (fun y9 hx10 h => ?_)
  refine rn 10 rfl ?_
  refine cl h rfl rfl rfl (W22 _ _ _) rfl (fun y11 hx12 h => ?_)
  refine rn 11 rfl ?_
  refine aops_eqS true (xs := cv37 (y5.1)) (ys := cv37 (y7.1)) (b := (decide ((y5.1) = (y7.1)))) eqk37 ⟨_, rfl⟩ ⟨_, rfl⟩ (eq_b cv37 _ _ (inj_cv37 _ _)) tEqG37 wants_none rfl rfl rfl ?_
  refine fo (rn 1 rfl ?_)
  refine spO 48 h rfl (fun hb13 h => ?_) (fun hb13 h => ?_)
  · refine rn 20 rfl ?_
    exact rt h rfl
  refine rn 5 rfl ?_
  refine spO 53 h rfl (fun hb14 h => ?_) (fun hb14 h => ?_)
  · refine rn 15 rfl ?_
    exact rt h rfl
  refine rn 5 rfl ?_
  refine spO 58 h rfl (fun hb15 h => ?_) (fun hb15 h => ?_)
  · refine rn 10 rfl ?_
    exact rt h rfl
  refine rn 5 rfl ?_
  refine spC h rfl (fun hb16 h => ?_) (fun hb16 h => ?_)
  · refine rn 4 rfl ?_
    exact rt h rfl
  refine rn 7 rfl ?_
  refine jK h (fun _ : Unit => (⟨[], [], 0⟩ : St)) (fun k17 (_ : Unit) => k17 = some r) (fun k17 h => ?_) ?_
  · refine spC h rfl (fun hb18 h => ?_) (fun hb18 h => ?_)
    · refine rn 4 rfl ?_
      refine cl h rfl rfl rfl (W21 _ _ _) rfl (fun y19 hx20 h => ?_)
      refine rn 11 rfl ?_
      refine spO 73 h rfl (fun hb21 h => ?_) (fun hb21 h => ?_)
      · refine rn 9 rfl ?_
        exact rt h rfl
      refine rn 4 rfl ?_
      refine spC h rfl (fun hb22 h => ?_) (fun hb22 h => ?_)
      · refine rn 4 rfl ?_
        exact rt h rfl
      refine rn 1 rfl ?_
      exact jX () h (g0 rfl rfl)
    refine rn 1 rfl ?_
    exact jX () h (g0 rfl rfl)
  intro _ h
  refine rn 2 rfl ?_
  refine cl h rfl rfl rfl (W18 _) rfl (fun y23 hx24 h => ?_)
  refine rn 2 rfl ?_
  exact rt h rfl
end Go.Proofs.YtihfhmibfhkoeaaDoor
