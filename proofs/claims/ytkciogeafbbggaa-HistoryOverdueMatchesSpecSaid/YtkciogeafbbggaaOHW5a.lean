/- Part of the proof: HW5a. -/
import Derived.Test.YtkciogeafbbggaaOHM
import Derived.Test.YtkciogeafbbggaaOHW3a
import Derived.KernelRfl
namespace Go.Proofs.Ytkciogeafbbggaa
open Go Go.Pv
set_option linter.unusedVariables false
set_option maxRecDepth 100000
theorem W26 (F : Nat) (a1 : (List TTerm)) (r : Int) (h : M26 F a1 = some r) : Pure Try.prog 26 [(V.lst 2 (a1.map encTTerm))] (iV r) := by
  refine pin (fun r => (iV r)) r rfl Try.func26 rfl rfl rfl rfl rfl (fun w0 m0 => ?_)
  unfold M26 at h
  refine rn 9 rfl ?_
  refine ln rfl rfl ?_
  refine rn 3 rfl ?_
  refine spC h rfl (fun hb2 h => ?_) (fun hb2 h => ?_)
  · refine rn 4 rfl ?_
    exact rt h rfl
  refine rn 3 rfl ?_
  refine ln rfl rfl ?_
  refine rn 3 rfl ?_
  refine spC h rfl (fun hb3 h => ?_) (fun hb3 h => ?_)
  · refine rn 4 rfl ?_
    exact rt h rfl
  refine rn 6 rfl ?_
  refine ln rfl rfl ?_
  refine rn 2 rfl ?_
  refine jK h (fun _ : Unit => (⟨[], [], 0⟩ : St)) (fun k4 (_ : Unit) => k4 = some r) (fun k4 h => ?_) ?_
  · refine rn 1 rfl ?_
    refine lC (fun (p : Int) => (⟨[(0, (V.lst 2 (a1.map encTTerm))), (13, (V.lst 2 (a1.map encTTerm))), (14, (iV ((a1.length : Nat) : Int))), (15, (iV p))], [], 0⟩ : St)) (fun n (p : Int) => M26_L1 F a1 k4 n p = some r) (fun p h => by simp [M26_L1] at h) F 0 h (g0 rfl rfl) (fun n n6 h => ?_)
    unfold M26_L1 at h
    refine rn 5 rfl ?_
    refine spC h rfl (fun hb7 h => ?_) (fun hb7 h => ?_)
    · refine rn 6 rfl ?_
      refine ixl h rfl rfl (fun x8 hx9 h => ?_)
      refine rn 12 rfl ?_
      refine spO 24 h rfl (fun hb10 h => ?_) (fun hb10 h => ?_)
      · refine rn 21 rfl ?_
        exact rt h rfl
      refine rn 5 rfl ?_
      refine spO 29 h rfl (fun hb11 h => ?_) (fun hb11 h => ?_)
      · refine rn 16 rfl ?_
        exact rt h rfl
      refine rn 5 rfl ?_
      refine spO 34 h rfl (fun hb12 h => ?_) (fun hb12 h => ?_)
      · refine rn 11 rfl ?_
        exact rt h rfl
      refine rn 6 rfl ?_
      refine jK h (fun _ : Unit => (⟨[(0, (V.lst 2 (a1.map encTTerm))), (13, (V.lst 2 (a1.map encTTerm))), (14, (iV ((a1.length : Nat) : Int))), (15, (iV n6)), (25, (V.ptr 0 2 0 0)), (26, (iV x8.Severity)), (27, (bV (decide (x8.Severity > 100)))), (30, (V.ptr 0 2 0 1)), (31, (iV x8.Days)), (32, (bV (decide (x8.Days < 0)))), (35, (V.ptr 0 2 0 1)), (36, (iV x8.Days)), (37, (bV (decide (x8.Days > 10000))))], [(0, (Ob.arr 113 2 [(encTTerm x8)]))], 1⟩ : St)) (fun k13 (_ : Unit) => k13 = some r) (fun k13 h => ?_) ?_
      · refine spC h rfl (fun hb14 h => ?_) (fun hb14 h => ?_)
        · refine rn 4 rfl ?_
          exact rt h rfl
        refine rn 1 rfl ?_
        refine bs h (fun hb15 h => ?_) (fun hb15 h => ?_)
        · obtain ⟨x16, hx17, h⟩ := bind_some h
          refine dr mixed (vs 2 rfl (vb hb15 rfl (vs 5 rfl (iD hx17 rfl rfl rfl (vs 5 rfl .nil))))) (by kernel_rfl) ?_
          refine spC h rfl (fun hb18 h => ?_) (fun hb18 h => ?_)
          · refine rn 4 rfl ?_
            exact rt h rfl
          refine rn 1 rfl ?_
          exact jX () h (gr [0] rfl (hB rfl rfl rfl .nil) rfl)
        refine dr mixed (vs 2 rfl (vb hb15 rfl (vs 11 rfl .nil))) (by kernel_rfl) ?_
        refine rn 2 rfl ?_
        exact jX () h (gr [0] rfl (hB rfl rfl rfl .nil) rfl)
      intro _ h
      refine rn 6 rfl ?_
      exact jX (w64 (n6 + 1)) h (g0 rfl rfl)
    refine rn 1 rfl ?_
    exact jX () h (g0 rfl rfl)
  intro _ h
  refine rn 4 rfl ?_
  exact rt h rfl
theorem W79 (F : Nat) (a1 : Thistory_week) (a2 : (List TTerm)) (a3 : TWindow) (r : (Int × Bool × Int)) (h : M79 F a1 a2 a3 = some r) : Pure Try.prog 79 [(V.agg [(bV (a1.free 0)), (bV (a1.free 1)), (bV (a1.free 2)), (bV (a1.free 3)), (bV (a1.free 4)), (bV (a1.free 5)), (bV (a1.free 6)), (iV a1.work), (V.lst 1 (a1.holidays.map encI_i64))]), (V.lst 2 (a2.map encTTerm)), (V.agg (encTWindow a3))] (V.tup [(iV (r.1)), (bV (r.2.1)), (iV (r.2.2))]) := by
  refine pin (fun r => (V.tup [(iV (r.1)), (bV (r.2.1)), (iV (r.2.2))])) r rfl Try.func79 rfl rfl rfl rfl rfl (fun w0 m0 => ?_)
  unfold M79 at h
  refine rn 16 rfl ?_
  refine ln rfl rfl ?_
  refine rn 2 rfl ?_
  refine jK h (fun (p : Int) => (⟨[(3, (V.ptr 0 9 0 0)), (5, (V.ptr 1 6 0 0)), (9, (iV p))], [(0, (Ob.arr 101 9 [[(bV (a1.free 0)), (bV (a1.free 1)), (bV (a1.free 2)), (bV (a1.free 3)), (bV (a1.free 4)), (bV (a1.free 5)), (bV (a1.free 6)), (iV a1.work), (V.lst 1 (a1.holidays.map encI_i64))]])), (1, (Ob.arr 35 6 [(encTWindow a3)]))], 2⟩ : St)) (fun k4 (p : Int) => k4 p = some r) (fun k4 h => ?_) ?_
  · refine rn 1 rfl ?_
    refine lC (fun (p : Int × Int) => (⟨[(3, (V.ptr 0 9 0 0)), (5, (V.ptr 1 6 0 0)), (9, (iV (p.1))), (14, (V.lst 2 (a2.map encTTerm))), (15, (iV ((a2.length : Nat) : Int))), (16, (iV (p.2)))], [(0, (Ob.arr 101 9 [[(bV (a1.free 0)), (bV (a1.free 1)), (bV (a1.free 2)), (bV (a1.free 3)), (bV (a1.free 4)), (bV (a1.free 5)), (bV (a1.free 6)), (iV a1.work), (V.lst 1 (a1.holidays.map encI_i64))]])), (1, (Ob.arr 35 6 [(encTWindow a3)]))], 2⟩ : St)) (fun n (p : Int × Int) => M79_L1 F a2 a3 k4 n p.1 p.2 = some r) (fun p h => by simp [M79_L1] at h) F ((-1), 0) h (gr [0, 1] rfl (hB rfl rfl rfl (hB rfl rfl rfl .nil)) rfl) (fun n p h => ?_)
    obtain ⟨n8, n9⟩ := p
    unfold M79_L1 at h
    refine rn 5 rfl ?_
    refine spC h rfl (fun hb10 h => ?_) (fun hb10 h => ?_)
    · refine rn 5 rfl ?_
      refine ixl h rfl rfl (fun x11 hx12 h => ?_)
      refine rn 12 rfl ?_
      refine jK h (fun (p : Int) => (⟨[(3, (V.ptr 0 9 0 0)), (5, (V.ptr 1 6 0 0)), (9, (iV p)), (14, (V.lst 2 (a2.map encTTerm))), (15, (iV ((a2.length : Nat) : Int))), (16, (iV n9))], [(0, (Ob.arr 101 9 [[(bV (a1.free 0)), (bV (a1.free 1)), (bV (a1.free 2)), (bV (a1.free 3)), (bV (a1.free 4)), (bV (a1.free 5)), (bV (a1.free 6)), (iV a1.work), (V.lst 1 (a1.holidays.map encI_i64))]])), (1, (Ob.arr 35 6 [(encTWindow a3)]))], 2⟩ : St)) (fun k13 (p : Int) => k13 p = some r) (fun k13 h => ?_) ?_
      · refine spC h rfl (fun hb15 h => ?_) (fun hb15 h => ?_)
        · refine rn 5 rfl ?_
          exact jX x11.Days h (gr [0, 1] rfl (hB rfl rfl rfl (hB rfl rfl rfl .nil)) rfl)
        refine rn 1 rfl ?_
        exact jX n8 h (gr [0, 1] rfl (hB rfl rfl rfl (hB rfl rfl rfl .nil)) rfl)
      intro n14 h
      refine rn 5 rfl ?_
      exact jX (n14, (w64 (n9 + 1))) h (gr [0, 1] rfl (hB rfl rfl rfl (hB rfl rfl rfl .nil)) rfl)
    refine rn 1 rfl ?_
    exact jX n8 h (gr [0, 1] rfl (hB rfl rfl rfl (hB rfl rfl rfl .nil)) rfl)
  intro n5 h
  refine rn 6 rfl ?_
  refine spC h rfl (fun hb16 h => ?_) (fun hb16 h => ?_)
  · refine rn 6 rfl ?_
    exact rt h rfl
  refine rn 7 rfl ?_
  refine cl h rfl rfl rfl (W76 _ _ _ _) rfl (fun y17 hx18 h => ?_)
  refine rn 12 rfl ?_
  refine spC h rfl (fun hb19 h => ?_) (fun hb19 h => ?_)
  · refine rn 6 rfl ?_
    exact rt h rfl
  refine rn 8 rfl ?_
  exact rt h rfl
theorem W27 (F : Nat) (a1 : (List TTerm)) (r : Int) (h : M27 F a1 = some r) : Pure Try.prog 27 [(V.lst 2 (a1.map encTTerm))] (iV r) := by
  refine pin (fun r => (iV r)) r rfl Try.func27 rfl rfl rfl rfl rfl (fun w0 m0 => ?_)
  unfold M27 at h
  refine rn 8 rfl ?_
  refine ln rfl rfl ?_
  refine rn 2 rfl ?_
  refine spC h rfl (fun hb2 h => ?_) (fun hb2 h => ?_)
  · refine rn 4 rfl ?_
    exact rt h rfl
  refine rn 5 rfl ?_
  refine ln rfl rfl ?_
  refine rn 2 rfl ?_
  refine spC h rfl (fun hb3 h => ?_) (fun hb3 h => ?_)
  · refine rn 4 rfl ?_
    exact rt h rfl
  refine rn 5 rfl ?_
  refine ln rfl rfl ?_
  refine rn 2 rfl ?_
  refine jK h (fun _ : Unit => (⟨[], [], 0⟩ : St)) (fun k4 (_ : Unit) => k4 = some r) (fun k4 h => ?_) ?_
  · refine rn 1 rfl ?_
    refine lC (fun (p : Int) => (⟨[(0, (V.lst 2 (a1.map encTTerm))), (11, (V.lst 2 (a1.map encTTerm))), (12, (iV ((a1.length : Nat) : Int))), (13, (iV p))], [], 0⟩ : St)) (fun n (p : Int) => M27_L1 F a1 k4 n p = some r) (fun p h => by simp [M27_L1] at h) F 0 h (g0 rfl rfl) (fun n n6 h => ?_)
    unfold M27_L1 at h
    refine rn 5 rfl ?_
    refine spC h rfl (fun hb7 h => ?_) (fun hb7 h => ?_)
    · refine rn 2 rfl ?_
      refine jK h (fun (p : Int × Bool × Int × Bool × Int × Bool × Int × Int) => (⟨[(0, (V.lst 2 (a1.map encTTerm))), (11, (V.lst 2 (a1.map encTTerm))), (12, (iV ((a1.length : Nat) : Int))), (13, (iV n6)), (22, (V.ptr 0 2 0 0)), (23, (iV (p.1))), (24, (bV (p.2.1))), (27, (V.ptr 0 2 0 1)), (28, (iV (p.2.2.1))), (29, (bV (p.2.2.2.1))), (32, (V.ptr 0 2 0 1)), (33, (iV (p.2.2.2.2.1))), (34, (bV (p.2.2.2.2.2.1)))], [(0, (Ob.arr 113 2 [[(iV (p.2.2.2.2.2.2.1)), (iV (p.2.2.2.2.2.2.2))]]))], 1⟩ : St)) (fun k8 (p : Int × Bool × Int × Bool × Int × Bool × Int × Int) => k8 p.1 p.2.1 p.2.2.1 p.2.2.2.1 p.2.2.2.2.1 p.2.2.2.2.2.1 p.2.2.2.2.2.2.1 p.2.2.2.2.2.2.2 = some r) (fun k8 h => ?_) ?_
      · refine rn 4 rfl ?_
        refine ixl h rfl rfl (fun x17 hx18 h => ?_)
        refine rn 12 rfl ?_
        refine spO 21 h rfl (fun hb19 h => ?_) (fun hb19 h => ?_)
        · refine rn 20 rfl ?_
          exact rt h rfl
        refine rn 5 rfl ?_
        refine spO 26 h rfl (fun hb20 h => ?_) (fun hb20 h => ?_)
        · refine rn 15 rfl ?_
          exact rt h rfl
        refine rn 5 rfl ?_
        refine spO 31 h rfl (fun hb21 h => ?_) (fun hb21 h => ?_)
        · refine rn 10 rfl ?_
          exact rt h rfl
        refine rn 5 rfl ?_
        refine spC h rfl (fun hb22 h => ?_) (fun hb22 h => ?_)
        · refine rn 4 rfl ?_
          exact rt h rfl
        refine rn 2 rfl ?_
        refine bs h (fun hb23 h => ?_) (fun hb23 h => ?_)
        · obtain ⟨x24, hx25, h⟩ := bind_some h
          refine dr mixed (vs 2 rfl (vb hb23 rfl (vs 5 rfl (iD hx25 rfl rfl rfl (vs 4 rfl .nil))))) (by kernel_rfl) ?_
          refine spC h rfl (fun hb26 h => ?_) (fun hb26 h => ?_)
          · refine rn 4 rfl ?_
            exact rt h rfl
          refine rn 2 rfl ?_
          exact jX (x17.Severity, (decide (x17.Severity > 100)), x17.Days, (decide (x17.Days < 0)), x17.Days, (decide (x17.Days > 10000)), x17.Severity, x17.Days) h (gr [0] rfl (hB rfl rfl rfl .nil) rfl)
        refine dr mixed (vs 2 rfl (vb hb23 rfl (vs 10 rfl .nil))) (by kernel_rfl) ?_
        refine rn 3 rfl ?_
        exact jX (x17.Severity, (decide (x17.Severity > 100)), x17.Days, (decide (x17.Days < 0)), x17.Days, (decide (x17.Days > 10000)), x17.Severity, x17.Days) h (gr [0] rfl (hB rfl rfl rfl .nil) rfl)
      rintro ⟨n9, b10, n11, b12, n13, b14, n15, n16⟩ h
      refine rn 4 rfl ?_
      exact jX (w64 (n6 + 1)) h (g0 rfl rfl)
    refine rn 1 rfl ?_
    exact jX () h (g0 rfl rfl)
  intro _ h
  refine rn 4 rfl ?_
  exact rt h rfl
theorem W80 (F : Nat) (a1 : (List TTerm)) (a2 : Int) (r : (TTerm × Bool)) (h : M80 F a1 a2 = some r) : Pure Try.prog 80 [(V.lst 2 (a1.map encTTerm)), (iV a2)] (V.tup [(V.agg (encTTerm (r.1))), (bV (r.2))]) := by
  refine pin (fun r => (V.tup [(V.agg (encTTerm (r.1))), (bV (r.2))])) r rfl Try.func80 rfl rfl rfl rfl rfl (fun w0 m0 => ?_)
  unfold M80 at h
  refine rn 16 rfl ?_
  refine ln rfl rfl ?_
  refine rn 2 rfl ?_
  refine jK h (fun (p : Bool × Int × Int) => (⟨[(4, (V.ptr 0 2 0 0)), (6, (V.ptr 1 2 0 0)), (7, (bV (p.1)))], [(0, (Ob.arr 113 2 [[(iV 0), (iV 0)]])), (1, (Ob.arr 113 2 [[(iV (p.2.1)), (iV (p.2.2))]]))], 2⟩ : St)) (fun k3 (p : Bool × Int × Int) => k3 p.1 p.2.1 p.2.2 = some r) (fun k3 h => ?_) ?_
  · refine rn 1 rfl ?_
    refine lC (fun (p : Bool × Int × Int × Int) => (⟨[(1, (iV a2)), (4, (V.ptr 0 2 0 0)), (6, (V.ptr 1 2 0 0)), (7, (bV (p.1))), (11, (V.lst 2 (a1.map encTTerm))), (12, (iV ((a1.length : Nat) : Int))), (13, (iV (p.2.1)))], [(0, (Ob.arr 113 2 [[(iV 0), (iV 0)]])), (1, (Ob.arr 113 2 [[(iV (p.2.2.1)), (iV (p.2.2.2))]]))], 2⟩ : St)) (fun n (p : Bool × Int × Int × Int) => M80_L1 F a1 a2 k3 n p.1 p.2.1 p.2.2.1 p.2.2.2 = some r) (fun p h => by simp [M80_L1] at h) F (false, 0, 0, 0) h (gr [0, 1] rfl (hB rfl rfl rfl (hB rfl rfl rfl .nil)) rfl) (fun n p h => ?_)
    obtain ⟨b11, n12, n13, n14⟩ := p
    unfold M80_L1 at h
    refine rn 5 rfl ?_
    refine spC h rfl (fun hb15 h => ?_) (fun hb15 h => ?_)
    · refine rn 5 rfl ?_
      refine ixl h rfl rfl (fun x16 hx17 h => ?_)
      refine rn 11 rfl ?_
      refine jK h (fun (p : Bool × Int × Int) => (⟨[(1, (iV a2)), (4, (V.ptr 0 2 0 0)), (6, (V.ptr 1 2 0 0)), (7, (bV (p.1))), (11, (V.lst 2 (a1.map encTTerm))), (12, (iV ((a1.length : Nat) : Int))), (13, (iV n12))], [(0, (Ob.arr 113 2 [[(iV 0), (iV 0)]])), (1, (Ob.arr 113 2 [[(iV (p.2.1)), (iV (p.2.2))]]))], 2⟩ : St)) (fun k18 (p : Bool × Int × Int) => k18 p.1 p.2.1 p.2.2 = some r) (fun k18 h => ?_) ?_
      · refine spC h rfl (fun hb22 h => ?_) (fun hb22 h => ?_)
        · refine rn 5 rfl ?_
          exact jX (true, x16.Severity, x16.Days) h (gr [0, 1] rfl (hB rfl rfl rfl (hB rfl rfl rfl .nil)) rfl)
        refine rn 1 rfl ?_
        exact jX (b11, n13, n14) h (gr [0, 1] rfl (hB rfl rfl rfl (hB rfl rfl rfl .nil)) rfl)
      rintro ⟨b19, n20, n21⟩ h
      refine rn 5 rfl ?_
      exact jX (b19, (w64 (n12 + 1)), n20, n21) h (gr [0, 1] rfl (hB rfl rfl rfl (hB rfl rfl rfl .nil)) rfl)
    refine rn 1 rfl ?_
    exact jX (b11, n13, n14) h (gr [0, 1] rfl (hB rfl rfl rfl (hB rfl rfl rfl .nil)) rfl)
  rintro ⟨b4, n5, n6⟩ h
  refine rn 7 rfl ?_
  exact rt h rfl
end Go.Proofs.Ytkciogeafbbggaa
