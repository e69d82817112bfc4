/- Part of the proof: A8W3a. -/
import Derived.Test.YtihfhmibfhkoeaaDoorHA8M
import Derived.Test.YtihfhmibfhkoeaaDoorHA8Rep
import Derived.KernelRfl
namespace Go.Proofs.YtihfhmibfhkoeaaDoor
open Go Go.Pv
set_option linter.unusedVariables false
set_option maxRecDepth 100000
theorem W61 (F : Nat) (a1 : (List UInt8)) (r : Bool) (h : M61 F a1 = some r) : PureG gl Tryd.prog 61 [(sV a1)] (bV r) := by
  refine pin (fun r => (bV r)) r rfl Tryd.func61 rfl rfl rfl rfl rfl (fun w0 m0 hg => ?_)
  unfold M61 at h
  refine rn 11 rfl ?_
  refine jK h (fun _ : Unit => (⟨[(0, (sV a1))], [], 0⟩ : St)) (fun k2 (_ : Unit) => k2 = some r) (fun k2 h => ?_) ?_
  · refine rn 1 rfl ?_
    refine ck h (fun hA70 h => ?_)
    refine lC (fun (p : Int) => (⟨[(0, (sV a1)), (6, (iV (a1.length : Int))), (7, (iV p))], [], 0⟩ : St)) (fun n (p : Int) => RC (a1.length : Int) (fun tl nn => M61_L1 F a1 k2 tl nn = some r) n p) (fun p h => RC.zero h) (Int.toNat (a1.length : Int) + 1) 0 (RC.start h) (g0 rfl rfl) (fun n n4 h => ?_)
    refine rn 5 rfl ?_
    refine spL rfl (fun hb5 => ?_) (fun hb5 => ?_)
    · obtain ⟨tl, h, hk1⟩ := RC.t hA70 h hb5
      unfold M61_L1 at h
      refine rn 2 rfl ?_
      refine jK h (fun _ : Unit => (⟨[(0, (sV a1)), (6, (iV (a1.length : Int))), (7, (iV n4))], [], 0⟩ : St)) (fun k6 (_ : Unit) => k6 = some r) (fun k6 h => ?_) ?_
      · refine rn 10 rfl ?_
        refine ixs h rfl rfl (fun c7 hx8 h => ?_)
        refine rn 7 rfl ?_
        refine spO 15 h rfl (fun hb9 h => ?_) (fun hb9 h => ?_)
        · refine rn 4 rfl ?_
          refine spO 19 h rfl (fun hb10 h => ?_) (fun hb10 h => ?_)
          · refine rn 29 rfl ?_
            refine spC h rfl (fun hb11 h => ?_) (fun hb11 h => ?_)
            · refine rn 4 rfl ?_
              exact rt h rfl
            refine rn 2 rfl ?_
            exact jX () h (g0 rfl rfl)
          refine rn 3 rfl ?_
          refine spO 22 h rfl (fun hb12 h => ?_) (fun hb12 h => ?_)
          · refine rn 5 rfl ?_
            refine spO 27 h rfl (fun hb13 h => ?_) (fun hb13 h => ?_)
            · refine rn 21 rfl ?_
              refine spC h rfl (fun hb14 h => ?_) (fun hb14 h => ?_)
              · refine rn 4 rfl ?_
                exact rt h rfl
              refine rn 2 rfl ?_
              exact jX () h (g0 rfl rfl)
            refine rn 3 rfl ?_
            refine spO 30 h rfl (fun hb15 h => ?_) (fun hb15 h => ?_)
            · refine rn 5 rfl ?_
              refine spO 35 h rfl (fun hb16 h => ?_) (fun hb16 h => ?_)
              · refine rn 13 rfl ?_
                refine spC h rfl (fun hb17 h => ?_) (fun hb17 h => ?_)
                · refine rn 4 rfl ?_
                  exact rt h rfl
                refine rn 2 rfl ?_
                exact jX () h (g0 rfl rfl)
              refine rn 4 rfl ?_
              refine spO 39 h rfl (fun hb18 h => ?_) (fun hb18 h => ?_)
              · refine rn 9 rfl ?_
                refine spC h rfl (fun hb19 h => ?_) (fun hb19 h => ?_)
                · refine rn 4 rfl ?_
                  exact rt h rfl
                refine rn 2 rfl ?_
                exact jX () h (g0 rfl rfl)
              refine rn 4 rfl ?_
              refine spO 43 h rfl (fun hb20 h => ?_) (fun hb20 h => ?_)
              · refine rn 5 rfl ?_
                refine spC h rfl (fun hb21 h => ?_) (fun hb21 h => ?_)
                · refine rn 4 rfl ?_
                  exact rt h rfl
                refine rn 2 rfl ?_
                exact jX () h (g0 rfl rfl)
              refine rn 5 rfl ?_
              refine spC h rfl (fun hb22 h => ?_) (fun hb22 h => ?_)
              · refine rn 4 rfl ?_
                exact rt h rfl
              refine rn 2 rfl ?_
              exact jX () h (g0 rfl rfl)
            refine rn 9 rfl ?_
            refine spO 39 h rfl (fun hb23 h => ?_) (fun hb23 h => ?_)
            · refine rn 9 rfl ?_
              refine spC h rfl (fun hb24 h => ?_) (fun hb24 h => ?_)
              · refine rn 4 rfl ?_
                exact rt h rfl
              refine rn 2 rfl ?_
              exact jX () h (g0 rfl rfl)
            refine rn 4 rfl ?_
            refine spO 43 h rfl (fun hb25 h => ?_) (fun hb25 h => ?_)
            · refine rn 5 rfl ?_
              refine spC h rfl (fun hb26 h => ?_) (fun hb26 h => ?_)
              · refine rn 4 rfl ?_
                exact rt h rfl
              refine rn 2 rfl ?_
              exact jX () h (g0 rfl rfl)
            refine rn 5 rfl ?_
            refine spC h rfl (fun hb27 h => ?_) (fun hb27 h => ?_)
            · refine rn 4 rfl ?_
              exact rt h rfl
            refine rn 2 rfl ?_
            exact jX () h (g0 rfl rfl)
          refine rn 8 rfl ?_
          refine spO 30 h rfl (fun hb28 h => ?_) (fun hb28 h => ?_)
          · refine rn 5 rfl ?_
            refine spO 35 h rfl (fun hb29 h => ?_) (fun hb29 h => ?_)
            · refine rn 13 rfl ?_
              refine spC h rfl (fun hb30 h => ?_) (fun hb30 h => ?_)
              · refine rn 4 rfl ?_
                exact rt h rfl
              refine rn 2 rfl ?_
              exact jX () h (g0 rfl rfl)
            refine rn 4 rfl ?_
            refine spO 39 h rfl (fun hb31 h => ?_) (fun hb31 h => ?_)
            · refine rn 9 rfl ?_
              refine spC h rfl (fun hb32 h => ?_) (fun hb32 h => ?_)
              · refine rn 4 rfl ?_
                exact rt h rfl
              refine rn 2 rfl ?_
              exact jX () h (g0 rfl rfl)
            refine rn 4 rfl ?_
            refine spO 43 h rfl (fun hb33 h => ?_) (fun hb33 h => ?_)
            · refine rn 5 rfl ?_
              refine spC h rfl (fun hb34 h => ?_) (fun hb34 h => ?_)
              · refine rn 4 rfl ?_
                exact rt h rfl
              refine rn 2 rfl ?_
              exact jX () h (g0 rfl rfl)
            refine rn 5 rfl ?_
            refine spC h rfl (fun hb35 h => ?_) (fun hb35 h => ?_)
            · refine rn 4 rfl ?_
              exact rt h rfl
            refine rn 2 rfl ?_
            exact jX () h (g0 rfl rfl)
          refine rn 9 rfl ?_
          refine spO 39 h rfl (fun hb36 h => ?_) (fun hb36 h => ?_)
          · refine rn 9 rfl ?_
            refine spC h rfl (fun hb37 h => ?_) (fun hb37 h => ?_)
            · refine rn 4 rfl ?_
              exact rt h rfl
            refine rn 2 rfl ?_
            exact jX () h (g0 rfl rfl)
          refine rn 4 rfl ?_
          refine spO 43 h rfl (fun hb38 h => ?_) (fun hb38 h => ?_)
          · refine rn 5 rfl ?_
            refine spC h rfl (fun hb39 h => ?_) (fun hb39 h => ?_)
            · refine rn 4 rfl ?_
              exact rt h rfl
            refine rn 2 rfl ?_
            exact jX () h (g0 rfl rfl)
          refine rn 5 rfl ?_
          refine spC h rfl (fun hb40 h => ?_) (fun hb40 h => ?_)
          · refine rn 4 rfl ?_
            exact rt h rfl
          refine rn 2 rfl ?_
          exact jX () h (g0 rfl rfl)
        refine rn 7 rfl ?_
        refine spO 22 h rfl (fun hb41 h => ?_) (fun hb41 h => ?_)
        · refine rn 5 rfl ?_
          refine spO 27 h rfl (fun hb42 h => ?_) (fun hb42 h => ?_)
          · refine rn 21 rfl ?_
            refine spC h rfl (fun hb43 h => ?_) (fun hb43 h => ?_)
            · refine rn 4 rfl ?_
              exact rt h rfl
            refine rn 2 rfl ?_
            exact jX () h (g0 rfl rfl)
          refine rn 3 rfl ?_
          refine spO 30 h rfl (fun hb44 h => ?_) (fun hb44 h => ?_)
          · refine rn 5 rfl ?_
            refine spO 35 h rfl (fun hb45 h => ?_) (fun hb45 h => ?_)
            · refine rn 13 rfl ?_
              refine spC h rfl (fun hb46 h => ?_) (fun hb46 h => ?_)
              · refine rn 4 rfl ?_
                exact rt h rfl
              refine rn 2 rfl ?_
              exact jX () h (g0 rfl rfl)
            refine rn 4 rfl ?_
            refine spO 39 h rfl (fun hb47 h => ?_) (fun hb47 h => ?_)
            · refine rn 9 rfl ?_
              refine spC h rfl (fun hb48 h => ?_) (fun hb48 h => ?_)
              · refine rn 4 rfl ?_
                exact rt h rfl
              refine rn 2 rfl ?_
              exact jX () h (g0 rfl rfl)
            refine rn 4 rfl ?_
            refine spO 43 h rfl (fun hb49 h => ?_) (fun hb49 h => ?_)
            · refine rn 5 rfl ?_
              refine spC h rfl (fun hb50 h => ?_) (fun hb50 h => ?_)
              · refine rn 4 rfl ?_
                exact rt h rfl
              refine rn 2 rfl ?_
              exact jX () h (g0 rfl rfl)
            refine rn 5 rfl ?_
            refine spC h rfl (fun hb51 h => ?_) (fun hb51 h => ?_)
            · refine rn 4 rfl ?_
              exact rt h rfl
            refine rn 2 rfl ?_
            exact jX () h (g0 rfl rfl)
          refine rn 9 rfl ?_
          refine spO 39 h rfl (fun hb52 h => ?_) (fun hb52 h => ?_)
          · refine rn 9 rfl ?_
            refine spC h rfl (fun hb53 h => ?_) (fun hb53 h => ?_)
            · refine rn 4 rfl ?_
              exact rt h rfl
            refine rn 2 rfl ?_
            exact jX () h (g0 rfl rfl)
          refine rn 4 rfl ?_
          refine spO 43 h rfl (fun hb54 h => ?_) (fun hb54 h => ?_)
          · refine rn 5 rfl ?_
            refine spC h rfl (fun hb55 h => ?_) (fun hb55 h => ?_)
            · refine rn 4 rfl ?_
              exact rt h rfl
            refine rn 2 rfl ?_
            exact jX () h (g0 rfl rfl)
          refine rn 5 rfl ?_
          refine spC h rfl (fun hb56 h => ?_) (fun hb56 h => ?_)
          · refine rn 4 rfl ?_
            exact rt h rfl
          refine rn 2 rfl ?_
          exact jX () h (g0 rfl rfl)
        refine rn 8 rfl ?_
        refine spO 30 h rfl (fun hb57 h => ?_) (fun hb57 h => ?_)
        · refine rn 5 rfl ?_
          refine spO 35 h rfl (fun hb58 h => ?_) (fun hb58 h => ?_)
          · refine rn 13 rfl ?_
            refine spC h rfl (fun hb59 h => ?_) (fun hb59 h => ?_)
            · refine rn 4 rfl ?_
              exact rt h rfl
            refine rn 2 rfl ?_
            exact jX () h (g0 rfl rfl)
          refine rn 4 rfl ?_
          refine spO 39 h rfl (fun hb60 h => ?_) (fun hb60 h => ?_)
          · refine rn 9 rfl ?_
            refine spC h rfl (fun hb61 h => ?_) (fun hb61 h => ?_)
            · refine rn 4 rfl ?_
              exact rt h rfl
            refine rn 2 rfl ?_
            exact jX () h (g0 rfl rfl)
          refine rn 4 rfl ?_
          refine spO 43 h rfl (fun hb62 h => ?_) (fun hb62 h => ?_)
          · refine rn 5 rfl ?_
            refine spC h rfl (fun hb63 h => ?_) (fun hb63 h => ?_)
            · refine rn 4 rfl ?_
              exact rt h rfl
            refine rn 2 rfl ?_
            exact jX () h (g0 rfl rfl)
          refine rn 5 rfl ?_
          refine spC h rfl (fun hb64 h => ?_) (fun hb64 h => ?_)
          · refine rn 4 rfl ?_
            exact rt h rfl
          refine rn 2 rfl ?_
          exact jX () h (g0 rfl rfl)
        refine rn 9 rfl ?_
        refine spO 39 h rfl (fun hb65 h => ?_) (fun hb65 h => ?_)
        · refine rn 9 rfl ?_
          refine spC h rfl (fun hb66 h => ?_) (fun hb66 h => ?_)
          · refine rn 4 rfl ?_
            exact rt h rfl
          refine rn 2 rfl ?_
          exact jX () h (g0 rfl rfl)
        refine rn 4 rfl ?_
        refine spO 43 h rfl (fun hb67 h => ?_) (fun hb67 h => ?_)
        · refine rn 5 rfl ?_
          refine spC h rfl (fun hb68 h => ?_) (fun hb68 h => ?_)
          · refine rn 4 rfl ?_
            exact rt h rfl
          refine rn 2 rfl ?_
          exact jX () h (g0 rfl rfl)
        refine rn 5 rfl ?_
        refine spC h rfl (fun hb69 h => ?_) (fun hb69 h => ?_)
        · refine rn 4 rfl ?_
          exact rt h rfl
        refine rn 2 rfl ?_
        exact jX () h (g0 rfl rfl)
      intro _ h
      refine rn 4 rfl ?_
      exact jX (w64 (n4 + 1)) (hk1 _ h) (g0 rfl rfl)
    replace h := RC.f h hb5
    unfold M61_L1 at h
    refine rn 1 rfl ?_
    exact jX () h (g0 rfl rfl)
  intro _ h
  refine rn 5 rfl ?_
  refine spO 51 h rfl (fun hb71 h => ?_) (fun hb71 h => ?_)
  · refine rn 6 rfl ?_
    exact rt h rfl
  refine rn 6 rfl ?_
  exact rt h rfl
theorem W146 (F : Nat) (a1 : Int) (r : (List UInt8)) (h : M146 F a1 = some r) : PureG gl Tryd.prog 146 [(iV a1)] (sV r) := by
  refine pin (fun r => (sV r)) r rfl Tryd.func146 rfl rfl rfl rfl rfl (fun w0 m0 hg => ?_)
  unfold M146 at h
  refine rn 10 rfl ?_
  refine spC h rfl (fun hb2 h => ?_) (fun hb2 h => ?_)
  · refine rn 5 rfl ?_
    refine ck h (fun hc3 h => ?_)
    refine aops_sliceT (a1.toNat) ((w64 (a1 + 1)).toNat) ((([48, 49, 50, 51, 52, 53, 54, 55, 56, 57, 97, 98, 99, 100, 101, 102, 103, 104, 105, 106, 107, 108, 109, 110, 111, 112, 113, 114, 115, 116, 117, 118, 119, 120, 121, 122] : List UInt8).drop a1.toNat).take ((w64 (a1 + 1)).toNat - a1.toNat)) tStr9 wants_none rfl ⟨_, (by rw [Int.toNat_of_nonneg hc3.1]; exact rfl)⟩ ⟨_, (by rw [Int.toNat_of_nonneg hc3.2.1]; exact rfl)⟩ hc3.2.2.1 hc3.2.2.2 rfl rfl ?_
    refine fo (rn 2 rfl ?_)
    exact rt h rfl
  refine rn 8 rfl ?_
  refine ck h (fun hc4 h => ?_)
  refine aops_sliceT ((w64 (a1 * 2)).toNat) ((w64 ((w64 (a1 * 2)) + 2)).toNat) ((([48, 48, 48, 49, 48, 50, 48, 51, 48, 52, 48, 53, 48, 54, 48, 55, 48, 56, 48, 57, 49, 48, 49, 49, 49, 50, 49, 51, 49, 52, 49, 53, 49, 54, 49, 55, 49, 56, 49, 57, 50, 48, 50, 49, 50, 50, 50, 51, 50, 52, 50, 53, 50, 54, 50, 55, 50, 56, 50, 57, 51, 48, 51, 49, 51, 50, 51, 51, 51, 52, 51, 53, 51, 54, 51, 55, 51, 56, 51, 57, 52, 48, 52, 49, 52, 50, 52, 51, 52, 52, 52, 53, 52, 54, 52, 55, 52, 56, 52, 57, 53, 48, 53, 49, 53, 50, 53, 51, 53, 52, 53, 53, 53, 54, 53, 55, 53, 56, 53, 57, 54, 48, 54, 49, 54, 50, 54, 51, 54, 52, 54, 53, 54, 54, 54, 55, 54, 56, 54, 57, 55, 48, 55, 49, 55, 50, 55, 51, 55, 52, 55, 53, 55, 54, 55, 55, 55, 56, 55, 57, 56, 48, 56, 49, 56, 50, 56, 51, 56, 52, 56, 53, 56, 54, 56, 55, 56, 56, 56, 57, 57, 48, 57, 49, 57, 50, 57, 51, 57, 52, 57, 53, 57, 54, 57, 55, 57, 56, 57, 57] : List UInt8).drop (w64 (a1 * 2)).toNat).take ((w64 ((w64 (a1 * 2)) + 2)).toNat - (w64 (a1 * 2)).toNat)) tStr9 wants_none rfl ⟨_, (by rw [Int.toNat_of_nonneg hc4.1]; exact rfl)⟩ ⟨_, (by rw [Int.toNat_of_nonneg hc4.2.1]; exact rfl)⟩ hc4.2.2.1 hc4.2.2.2 rfl rfl ?_
  refine fo (rn 2 rfl ?_)
  exact rt h rfl
theorem W157 (F : Nat) (a1 : Int) (r : Bool) (h : M157 F a1 = some r) : PureG gl Tryd.prog 157 [(iV a1)] (bV r) := by
  refine pin (fun r => (bV r)) r rfl Tryd.func157 rfl rfl rfl rfl rfl (fun w0 m0 hg => ?_)
  unfold M157 at h
  refine rn 13 rfl ?_
  exact rt h rfl
theorem W161 (F : Nat) (a1 : Int) (r : Int) (h : M161 F a1 = some r) : PureG gl Tryd.prog 161 [(V.con (.int .u64 a1))] (iV r) := by
  refine pin (fun r => (iV r)) r rfl Tryd.func161 rfl rfl rfl rfl rfl (fun w0 m0 hg => ?_)
  unfold M161 at h
  refine rn 10 rfl ?_
  refine spC h rfl (fun hb2 h => ?_) (fun hb2 h => ?_)
  · refine rn 4 rfl ?_
    exact rt h rfl
  refine rn 9 rfl ?_
  refine ck h (fun hc3 h => ?_)
  refine aops_index_iarr tArr188 wants_none rfl rfl hc3.1 hc3.2 rfl ?_
  refine aops_iload_cell (V.con (.int .u8 (tab3 (Int.fdiv (IntKind.wrap .u64 ((IntKind.wrap .u64 ((BitVec.ofInt (IntKind.bits .u64) a1 &&& BitVec.ofInt (IntKind.bits .u64) (IntKind.wrap .u64 (0 - a1))).toNat : Int)) * 285870213051353865)) (2 ^ (min (Int.toNat 58) (IntKind.bits .u64)))).toNat))) tC5 wants_none rfl (arr_get [] [] (fun i => (V.con (.int .u8 (tab3 i)))) hc3.2 rfl (by simp)) rfl ?_
  refine fo (rn 3 rfl ?_)
  exact rt h rfl
theorem W158 (F : Nat) (a1 : Int) (r : Int) (h : M158 F a1 = some r) : PureG gl Tryd.prog 158 [(V.con (.int .u64 a1))] (iV r) := by
  refine pin (fun r => (iV r)) r rfl Tryd.func158 rfl rfl rfl rfl rfl (fun w0 m0 hg => ?_)
  unfold M158 at h
  refine rn 10 rfl ?_
  refine cl h rfl rfl rfl (W161 _ _) rfl (fun y2 hx3 h => ?_)
  refine rn 2 rfl ?_
  exact rt h rfl
theorem W149 (F : Nat) (a1 : (List Int)) (a2 : Int) (a3 : Int) (a4 : Bool) (a5 : Bool) (r : ((List Int) × (List UInt8))) (h : M149 F a1 a2 a3 a4 a5 = some r) : PureG gl Tryd.prog 149 [(V.lst 1 (a1.map encI_u8)), (V.con (.int .u64 a2)), (iV a3), (bV a4), (bV a5)] (V.tup [(V.lst 1 ((r.1).map encI_u8)), (sV (r.2))]) := by
  refine pin (fun r => (V.tup [(V.lst 1 ((r.1).map encI_u8)), (sV (r.2))])) r rfl Tryd.func149 rfl rfl rfl rfl rfl (fun w0 m0 hg => ?_)
  unfold M149 at h
  refine rn 11 rfl ?_
  refine spO 21 h rfl (fun hb6 h => ?_) (fun hb6 h => ?_)
  · exact absurd h (by simp)
  refine rn 4 rfl ?_
  refine spO 25 h rfl (fun hb7 h => ?_) (fun hb7 h => ?_)
  · exact absurd h (by simp)
  refine rn 4 rfl ?_
  refine spC h rfl (fun hb8 h => ?_) (fun hb8 h => ?_)
  · exact absurd h (by simp)
  refine rn 14 rfl ?_
  refine jK h (fun (p : Int) => (⟨[(0, (V.lst 1 (a1.map encI_u8))), (1, (V.con (.int .u64 p))), (2, (iV a3)), (3, (bV a4)), (4, (bV a5)), (10, nV), (11, (sV ([] : List UInt8))), (12, (V.ptr 0 65 0 0)), (13, (iV 65))], [(0, (Ob.arr 182 65 [[(V.con (.int .u8 0)), (V.con (.int .u8 0)), (V.con (.int .u8 0)), (V.con (.int .u8 0)), (V.con (.int .u8 0)), (V.con (.int .u8 0)), (V.con (.int .u8 0)), (V.con (.int .u8 0)), (V.con (.int .u8 0)), (V.con (.int .u8 0)), (V.con (.int .u8 0)), (V.con (.int .u8 0)), (V.con (.int .u8 0)), (V.con (.int .u8 0)), (V.con (.int .u8 0)), (V.con (.int .u8 0)), (V.con (.int .u8 0)), (V.con (.int .u8 0)), (V.con (.int .u8 0)), (V.con (.int .u8 0)), (V.con (.int .u8 0)), (V.con (.int .u8 0)), (V.con (.int .u8 0)), (V.con (.int .u8 0)), (V.con (.int .u8 0)), (V.con (.int .u8 0)), (V.con (.int .u8 0)), (V.con (.int .u8 0)), (V.con (.int .u8 0)), (V.con (.int .u8 0)), (V.con (.int .u8 0)), (V.con (.int .u8 0)), (V.con (.int .u8 0)), (V.con (.int .u8 0)), (V.con (.int .u8 0)), (V.con (.int .u8 0)), (V.con (.int .u8 0)), (V.con (.int .u8 0)), (V.con (.int .u8 0)), (V.con (.int .u8 0)), (V.con (.int .u8 0)), (V.con (.int .u8 0)), (V.con (.int .u8 0)), (V.con (.int .u8 0)), (V.con (.int .u8 0)), (V.con (.int .u8 0)), (V.con (.int .u8 0)), (V.con (.int .u8 0)), (V.con (.int .u8 0)), (V.con (.int .u8 0)), (V.con (.int .u8 0)), (V.con (.int .u8 0)), (V.con (.int .u8 0)), (V.con (.int .u8 0)), (V.con (.int .u8 0)), (V.con (.int .u8 0)), (V.con (.int .u8 0)), (V.con (.int .u8 0)), (V.con (.int .u8 0)), (V.con (.int .u8 0)), (V.con (.int .u8 0)), (V.con (.int .u8 0)), (V.con (.int .u8 0)), (V.con (.int .u8 0)), (V.con (.int .u8 0))]]))], 1⟩ : St)) (fun k9 (p : Int) => k9 p = some r) (fun k9 h => ?_) ?_
  · refine spC h rfl (fun hb11 h => ?_) (fun hb11 h => ?_)
    · refine rn 5 rfl ?_
      exact jX (IntKind.wrap .u64 (0 - a2)) h (gr [0] rfl (hB rfl rfl rfl .nil) rfl)
    refine rn 1 rfl ?_
    exact jX a2 h (gr [0] rfl (hB rfl rfl rfl .nil) rfl)
  intro n10 h
  refine rn 4 rfl ?_
  refine cl h rfl rfl rfl (W157 _ _) rfl (fun y12 hx13 h => ?_)
  refine rn 1 rfl ?_
  refine jK h (fun (p : Int × (Nat → Int)) => (⟨[(0, (V.lst 1 (a1.map encI_u8))), (3, (bV a4)), (4, (bV a5)), (10, nV), (11, (sV ([] : List UInt8))), (12, (V.ptr 0 65 0 0)), (13, (iV (p.1)))], [(0, (Ob.arr 182 65 [[(V.con (.int .u8 ((p.2) 0))), (V.con (.int .u8 ((p.2) 1))), (V.con (.int .u8 ((p.2) 2))), (V.con (.int .u8 ((p.2) 3))), (V.con (.int .u8 ((p.2) 4))), (V.con (.int .u8 ((p.2) 5))), (V.con (.int .u8 ((p.2) 6))), (V.con (.int .u8 ((p.2) 7))), (V.con (.int .u8 ((p.2) 8))), (V.con (.int .u8 ((p.2) 9))), (V.con (.int .u8 ((p.2) 10))), (V.con (.int .u8 ((p.2) 11))), (V.con (.int .u8 ((p.2) 12))), (V.con (.int .u8 ((p.2) 13))), (V.con (.int .u8 ((p.2) 14))), (V.con (.int .u8 ((p.2) 15))), (V.con (.int .u8 ((p.2) 16))), (V.con (.int .u8 ((p.2) 17))), (V.con (.int .u8 ((p.2) 18))), (V.con (.int .u8 ((p.2) 19))), (V.con (.int .u8 ((p.2) 20))), (V.con (.int .u8 ((p.2) 21))), (V.con (.int .u8 ((p.2) 22))), (V.con (.int .u8 ((p.2) 23))), (V.con (.int .u8 ((p.2) 24))), (V.con (.int .u8 ((p.2) 25))), (V.con (.int .u8 ((p.2) 26))), (V.con (.int .u8 ((p.2) 27))), (V.con (.int .u8 ((p.2) 28))), (V.con (.int .u8 ((p.2) 29))), (V.con (.int .u8 ((p.2) 30))), (V.con (.int .u8 ((p.2) 31))), (V.con (.int .u8 ((p.2) 32))), (V.con (.int .u8 ((p.2) 33))), (V.con (.int .u8 ((p.2) 34))), (V.con (.int .u8 ((p.2) 35))), (V.con (.int .u8 ((p.2) 36))), (V.con (.int .u8 ((p.2) 37))), (V.con (.int .u8 ((p.2) 38))), (V.con (.int .u8 ((p.2) 39))), (V.con (.int .u8 ((p.2) 40))), (V.con (.int .u8 ((p.2) 41))), (V.con (.int .u8 ((p.2) 42))), (V.con (.int .u8 ((p.2) 43))), (V.con (.int .u8 ((p.2) 44))), (V.con (.int .u8 ((p.2) 45))), (V.con (.int .u8 ((p.2) 46))), (V.con (.int .u8 ((p.2) 47))), (V.con (.int .u8 ((p.2) 48))), (V.con (.int .u8 ((p.2) 49))), (V.con (.int .u8 ((p.2) 50))), (V.con (.int .u8 ((p.2) 51))), (V.con (.int .u8 ((p.2) 52))), (V.con (.int .u8 ((p.2) 53))), (V.con (.int .u8 ((p.2) 54))), (V.con (.int .u8 ((p.2) 55))), (V.con (.int .u8 ((p.2) 56))), (V.con (.int .u8 ((p.2) 57))), (V.con (.int .u8 ((p.2) 58))), (V.con (.int .u8 ((p.2) 59))), (V.con (.int .u8 ((p.2) 60))), (V.con (.int .u8 ((p.2) 61))), (V.con (.int .u8 ((p.2) 62))), (V.con (.int .u8 ((p.2) 63))), (V.con (.int .u8 ((p.2) 64)))]]))], 1⟩ : St)) (fun k14 (p : Int × (Nat → Int)) => k14 p.1 p.2 = some r) (fun k14 h => ?_) ?_
  · refine spC h rfl (fun hb17 h => ?_) (fun hb17 h => ?_)
    · refine rn 4 rfl ?_
      refine cl h rfl rfl rfl (W158 _ _) rfl (fun y18 hx19 h => ?_)
      refine rn 17 rfl ?_
      refine jK h (fun (p : Int × Int × (Nat → Int)) => (⟨[(0, (V.lst 1 (a1.map encI_u8))), (1, (V.con (.int .u64 (p.1)))), (3, (bV a4)), (4, (bV a5)), (10, nV), (11, (sV ([] : List UInt8))), (12, (V.ptr 0 65 0 0)), (13, (iV (p.2.1)))], [(0, (Ob.arr 182 65 [[(V.con (.int .u8 ((p.2.2) 0))), (V.con (.int .u8 ((p.2.2) 1))), (V.con (.int .u8 ((p.2.2) 2))), (V.con (.int .u8 ((p.2.2) 3))), (V.con (.int .u8 ((p.2.2) 4))), (V.con (.int .u8 ((p.2.2) 5))), (V.con (.int .u8 ((p.2.2) 6))), (V.con (.int .u8 ((p.2.2) 7))), (V.con (.int .u8 ((p.2.2) 8))), (V.con (.int .u8 ((p.2.2) 9))), (V.con (.int .u8 ((p.2.2) 10))), (V.con (.int .u8 ((p.2.2) 11))), (V.con (.int .u8 ((p.2.2) 12))), (V.con (.int .u8 ((p.2.2) 13))), (V.con (.int .u8 ((p.2.2) 14))), (V.con (.int .u8 ((p.2.2) 15))), (V.con (.int .u8 ((p.2.2) 16))), (V.con (.int .u8 ((p.2.2) 17))), (V.con (.int .u8 ((p.2.2) 18))), (V.con (.int .u8 ((p.2.2) 19))), (V.con (.int .u8 ((p.2.2) 20))), (V.con (.int .u8 ((p.2.2) 21))), (V.con (.int .u8 ((p.2.2) 22))), (V.con (.int .u8 ((p.2.2) 23))), (V.con (.int .u8 ((p.2.2) 24))), (V.con (.int .u8 ((p.2.2) 25))), (V.con (.int .u8 ((p.2.2) 26))), (V.con (.int .u8 ((p.2.2) 27))), (V.con (.int .u8 ((p.2.2) 28))), (V.con (.int .u8 ((p.2.2) 29))), (V.con (.int .u8 ((p.2.2) 30))), (V.con (.int .u8 ((p.2.2) 31))), (V.con (.int .u8 ((p.2.2) 32))), (V.con (.int .u8 ((p.2.2) 33))), (V.con (.int .u8 ((p.2.2) 34))), (V.con (.int .u8 ((p.2.2) 35))), (V.con (.int .u8 ((p.2.2) 36))), (V.con (.int .u8 ((p.2.2) 37))), (V.con (.int .u8 ((p.2.2) 38))), (V.con (.int .u8 ((p.2.2) 39))), (V.con (.int .u8 ((p.2.2) 40))), (V.con (.int .u8 ((p.2.2) 41))), (V.con (.int .u8 ((p.2.2) 42))), (V.con (.int .u8 ((p.2.2) 43))), (V.con (.int .u8 ((p.2.2) 44))), (V.con (.int .u8 ((p.2.2) 45))), (V.con (.int .u8 ((p.2.2) 46))), (V.con (.int .u8 ((p.2.2) 47))), (V.con (.int .u8 ((p.2.2) 48))), (V.con (.int .u8 ((p.2.2) 49))), (V.con (.int .u8 ((p.2.2) 50))), (V.con (.int .u8 ((p.2.2) 51))), (V.con (.int .u8 ((p.2.2) 52))), (V.con (.int .u8 ((p.2.2) 53))), (V.con (.int .u8 ((p.2.2) 54))), (V.con (.int .u8 ((p.2.2) 55))), (V.con (.int .u8 ((p.2.2) 56))), (V.con (.int .u8 ((p.2.2) 57))), (V.con (.int .u8 ((p.2.2) 58))), (V.con (.int .u8 ((p.2.2) 59))), (V.con (.int .u8 ((p.2.2) 60))), (V.con (.int .u8 ((p.2.2) 61))), (V.con (.int .u8 ((p.2.2) 62))), (V.con (.int .u8 ((p.2.2) 63))), (V.con (.int .u8 ((p.2.2) 64)))]]))], 1⟩ : St)) (fun k20 (p : Int × Int × (Nat → Int)) => k20 p.1 p.2.1 p.2.2 = some r) (fun k20 h => ?_) ?_
      · refine rn 1 rfl ?_
        refine lC (fun (p : Int × Int × (Nat → Int)) => (⟨[(0, (V.lst 1 (a1.map encI_u8))), (1, (V.con (.int .u64 (p.1)))), (3, (bV a4)), (4, (bV a5)), (10, nV), (11, (sV ([] : List UInt8))), (12, (V.ptr 0 65 0 0)), (13, (iV (p.2.1))), (14, (V.con (.int .u64 (IntKind.wrap .u64 y18)))), (15, (V.con (.int .u64 (IntKind.wrap .u64 a3)))), (16, (V.con (.int .u64 (IntKind.wrap .u64 ((IntKind.wrap .u64 a3) - 1)))))], [(0, (Ob.arr 182 65 [[(V.con (.int .u8 ((p.2.2) 0))), (V.con (.int .u8 ((p.2.2) 1))), (V.con (.int .u8 ((p.2.2) 2))), (V.con (.int .u8 ((p.2.2) 3))), (V.con (.int .u8 ((p.2.2) 4))), (V.con (.int .u8 ((p.2.2) 5))), (V.con (.int .u8 ((p.2.2) 6))), (V.con (.int .u8 ((p.2.2) 7))), (V.con (.int .u8 ((p.2.2) 8))), (V.con (.int .u8 ((p.2.2) 9))), (V.con (.int .u8 ((p.2.2) 10))), (V.con (.int .u8 ((p.2.2) 11))), (V.con (.int .u8 ((p.2.2) 12))), (V.con (.int .u8 ((p.2.2) 13))), (V.con (.int .u8 ((p.2.2) 14))), (V.con (.int .u8 ((p.2.2) 15))), (V.con (.int .u8 ((p.2.2) 16))), (V.con (.int .u8 ((p.2.2) 17))), (V.con (.int .u8 ((p.2.2) 18))), (V.con (.int .u8 ((p.2.2) 19))), (V.con (.int .u8 ((p.2.2) 20))), (V.con (.int .u8 ((p.2.2) 21))), (V.con (.int .u8 ((p.2.2) 22))), (V.con (.int .u8 ((p.2.2) 23))), (V.con (.int .u8 ((p.2.2) 24))), (V.con (.int .u8 ((p.2.2) 25))), (V.con (.int .u8 ((p.2.2) 26))), (V.con (.int .u8 ((p.2.2) 27))), (V.con (.int .u8 ((p.2.2) 28))), (V.con (.int .u8 ((p.2.2) 29))), (V.con (.int .u8 ((p.2.2) 30))), (V.con (.int .u8 ((p.2.2) 31))), (V.con (.int .u8 ((p.2.2) 32))), (V.con (.int .u8 ((p.2.2) 33))), (V.con (.int .u8 ((p.2.2) 34))), (V.con (.int .u8 ((p.2.2) 35))), (V.con (.int .u8 ((p.2.2) 36))), (V.con (.int .u8 ((p.2.2) 37))), (V.con (.int .u8 ((p.2.2) 38))), (V.con (.int .u8 ((p.2.2) 39))), (V.con (.int .u8 ((p.2.2) 40))), (V.con (.int .u8 ((p.2.2) 41))), (V.con (.int .u8 ((p.2.2) 42))), (V.con (.int .u8 ((p.2.2) 43))), (V.con (.int .u8 ((p.2.2) 44))), (V.con (.int .u8 ((p.2.2) 45))), (V.con (.int .u8 ((p.2.2) 46))), (V.con (.int .u8 ((p.2.2) 47))), (V.con (.int .u8 ((p.2.2) 48))), (V.con (.int .u8 ((p.2.2) 49))), (V.con (.int .u8 ((p.2.2) 50))), (V.con (.int .u8 ((p.2.2) 51))), (V.con (.int .u8 ((p.2.2) 52))), (V.con (.int .u8 ((p.2.2) 53))), (V.con (.int .u8 ((p.2.2) 54))), (V.con (.int .u8 ((p.2.2) 55))), (V.con (.int .u8 ((p.2.2) 56))), (V.con (.int .u8 ((p.2.2) 57))), (V.con (.int .u8 ((p.2.2) 58))), (V.con (.int .u8 ((p.2.2) 59))), (V.con (.int .u8 ((p.2.2) 60))), (V.con (.int .u8 ((p.2.2) 61))), (V.con (.int .u8 ((p.2.2) 62))), (V.con (.int .u8 ((p.2.2) 63))), (V.con (.int .u8 ((p.2.2) 64)))]]))], 1⟩ : St)) (fun n (p : Int × Int × (Nat → Int)) => M149_L1 F a3 y18 k20 n p.1 p.2.1 p.2.2 = some r) (fun p h => by simp [M149_L1] at h) F (n10, 65, (fun _ => 0)) h (gr [0] rfl (hB rfl rfl rfl .nil) rfl) (fun n p h => ?_)
        obtain ⟨n27, n28, f29⟩ := p
        unfold M149_L1 at h
        refine rn 7 rfl ?_
        refine spC h rfl (fun hb30 h => ?_) (fun hb30 h => ?_)
        · refine rn 14 rfl ?_
          refine ixs h rfl rfl (fun c31 hx32 h => ?_)
          refine ck h (fun hc33 h => ?_)
          refine aops_index_arr tArr182 wants_none rfl rfl hc33.1 hc33.2 rfl ?_
          refine aops_store [(V.con (.int .u8 (c31.toNat : Int)))] [[(V.con (.int .u8 ((upd f29 (w64 (n28 - 1)).toNat (c31.toNat : Int)) 0))), (V.con (.int .u8 ((upd f29 (w64 (n28 - 1)).toNat (c31.toNat : Int)) 1))), (V.con (.int .u8 ((upd f29 (w64 (n28 - 1)).toNat (c31.toNat : Int)) 2))), (V.con (.int .u8 ((upd f29 (w64 (n28 - 1)).toNat (c31.toNat : Int)) 3))), (V.con (.int .u8 ((upd f29 (w64 (n28 - 1)).toNat (c31.toNat : Int)) 4))), (V.con (.int .u8 ((upd f29 (w64 (n28 - 1)).toNat (c31.toNat : Int)) 5))), (V.con (.int .u8 ((upd f29 (w64 (n28 - 1)).toNat (c31.toNat : Int)) 6))), (V.con (.int .u8 ((upd f29 (w64 (n28 - 1)).toNat (c31.toNat : Int)) 7))), (V.con (.int .u8 ((upd f29 (w64 (n28 - 1)).toNat (c31.toNat : Int)) 8))), (V.con (.int .u8 ((upd f29 (w64 (n28 - 1)).toNat (c31.toNat : Int)) 9))), (V.con (.int .u8 ((upd f29 (w64 (n28 - 1)).toNat (c31.toNat : Int)) 10))), (V.con (.int .u8 ((upd f29 (w64 (n28 - 1)).toNat (c31.toNat : Int)) 11))), (V.con (.int .u8 ((upd f29 (w64 (n28 - 1)).toNat (c31.toNat : Int)) 12))), (V.con (.int .u8 ((upd f29 (w64 (n28 - 1)).toNat (c31.toNat : Int)) 13))), (V.con (.int .u8 ((upd f29 (w64 (n28 - 1)).toNat (c31.toNat : Int)) 14))), (V.con (.int .u8 ((upd f29 (w64 (n28 - 1)).toNat (c31.toNat : Int)) 15))), (V.con (.int .u8 ((upd f29 (w64 (n28 - 1)).toNat (c31.toNat : Int)) 16))), (V.con (.int .u8 ((upd f29 (w64 (n28 - 1)).toNat (c31.toNat : Int)) 17))), (V.con (.int .u8 ((upd f29 (w64 (n28 - 1)).toNat (c31.toNat : Int)) 18))), (V.con (.int .u8 ((upd f29 (w64 (n28 - 1)).toNat (c31.toNat : Int)) 19))), (V.con (.int .u8 ((upd f29 (w64 (n28 - 1)).toNat (c31.toNat : Int)) 20))), (V.con (.int .u8 ((upd f29 (w64 (n28 - 1)).toNat (c31.toNat : Int)) 21))), (V.con (.int .u8 ((upd f29 (w64 (n28 - 1)).toNat (c31.toNat : Int)) 22))), (V.con (.int .u8 ((upd f29 (w64 (n28 - 1)).toNat (c31.toNat : Int)) 23))), (V.con (.int .u8 ((upd f29 (w64 (n28 - 1)).toNat (c31.toNat : Int)) 24))), (V.con (.int .u8 ((upd f29 (w64 (n28 - 1)).toNat (c31.toNat : Int)) 25))), (V.con (.int .u8 ((upd f29 (w64 (n28 - 1)).toNat (c31.toNat : Int)) 26))), (V.con (.int .u8 ((upd f29 (w64 (n28 - 1)).toNat (c31.toNat : Int)) 27))), (V.con (.int .u8 ((upd f29 (w64 (n28 - 1)).toNat (c31.toNat : Int)) 28))), (V.con (.int .u8 ((upd f29 (w64 (n28 - 1)).toNat (c31.toNat : Int)) 29))), (V.con (.int .u8 ((upd f29 (w64 (n28 - 1)).toNat (c31.toNat : Int)) 30))), (V.con (.int .u8 ((upd f29 (w64 (n28 - 1)).toNat (c31.toNat : Int)) 31))), (V.con (.int .u8 ((upd f29 (w64 (n28 - 1)).toNat (c31.toNat : Int)) 32))), (V.con (.int .u8 ((upd f29 (w64 (n28 - 1)).toNat (c31.toNat : Int)) 33))), (V.con (.int .u8 ((upd f29 (w64 (n28 - 1)).toNat (c31.toNat : Int)) 34))), (V.con (.int .u8 ((upd f29 (w64 (n28 - 1)).toNat (c31.toNat : Int)) 35))), (V.con (.int .u8 ((upd f29 (w64 (n28 - 1)).toNat (c31.toNat : Int)) 36))), (V.con (.int .u8 ((upd f29 (w64 (n28 - 1)).toNat (c31.toNat : Int)) 37))), (V.con (.int .u8 ((upd f29 (w64 (n28 - 1)).toNat (c31.toNat : Int)) 38))), (V.con (.int .u8 ((upd f29 (w64 (n28 - 1)).toNat (c31.toNat : Int)) 39))), (V.con (.int .u8 ((upd f29 (w64 (n28 - 1)).toNat (c31.toNat : Int)) 40))), (V.con (.int .u8 ((upd f29 (w64 (n28 - 1)).toNat (c31.toNat : Int)) 41))), (V.con (.int .u8 ((upd f29 (w64 (n28 - 1)).toNat (c31.toNat : Int)) 42))), (V.con (.int .u8 ((upd f29 (w64 (n28 - 1)).toNat (c31.toNat : Int)) 43))), (V.con (.int .u8 ((upd f29 (w64 (n28 - 1)).toNat (c31.toNat : Int)) 44))), (V.con (.int .u8 ((upd f29 (w64 (n28 - 1)).toNat (c31.toNat : Int)) 45))), (V.con (.int .u8 ((upd f29 (w64 (n28 - 1)).toNat (c31.toNat : Int)) 46))), (V.con (.int .u8 ((upd f29 (w64 (n28 - 1)).toNat (c31.toNat : Int)) 47))), (V.con (.int .u8 ((upd f29 (w64 (n28 - 1)).toNat (c31.toNat : Int)) 48))), (V.con (.int .u8 ((upd f29 (w64 (n28 - 1)).toNat (c31.toNat : Int)) 49))), (V.con (.int .u8 ((upd f29 (w64 (n28 - 1)).toNat (c31.toNat : Int)) 50))), (V.con (.int .u8 ((upd f29 (w64 (n28 - 1)).toNat (c31.toNat : Int)) 51))), (V.con (.int .u8 ((upd f29 (w64 (n28 - 1)).toNat (c31.toNat : Int)) 52))), (V.con (.int .u8 ((upd f29 (w64 (n28 - 1)).toNat (c31.toNat : Int)) 53))), (V.con (.int .u8 ((upd f29 (w64 (n28 - 1)).toNat (c31.toNat : Int)) 54))), (V.con (.int .u8 ((upd f29 (w64 (n28 - 1)).toNat (c31.toNat : Int)) 55))), (V.con (.int .u8 ((upd f29 (w64 (n28 - 1)).toNat (c31.toNat : Int)) 56))), (V.con (.int .u8 ((upd f29 (w64 (n28 - 1)).toNat (c31.toNat : Int)) 57))), (V.con (.int .u8 ((upd f29 (w64 (n28 - 1)).toNat (c31.toNat : Int)) 58))), (V.con (.int .u8 ((upd f29 (w64 (n28 - 1)).toNat (c31.toNat : Int)) 59))), (V.con (.int .u8 ((upd f29 (w64 (n28 - 1)).toNat (c31.toNat : Int)) 60))), (V.con (.int .u8 ((upd f29 (w64 (n28 - 1)).toNat (c31.toNat : Int)) 61))), (V.con (.int .u8 ((upd f29 (w64 (n28 - 1)).toNat (c31.toNat : Int)) 62))), (V.con (.int .u8 ((upd f29 (w64 (n28 - 1)).toNat (c31.toNat : Int)) 63))), (V.con (.int .u8 ((upd f29 (w64 (n28 - 1)).toNat (c31.toNat : Int)) 64)))]] tS5 wants_none rfl rfl rfl rfl rfl rfl (arr_ble hc33.2 (by simp)) (congrArg (fun r => [r]) (arr_set [] [] (fun x => (V.con (.int .u8 x))) f29 (c31.toNat : Int) hc33.2 rfl (by simp))) ?_
          refine fo (rn 4 rfl ?_)
          refine ck h (fun hc34 h => ?_)
          refine aops_bin (.int .u64 (Int.fdiv n27 (2 ^ (min (Int.toNat (IntKind.wrap .u64 y18)) (IntKind.bits .u64))))) wants_none rfl rfl (binS_shr hc34) rfl ?_
          refine fo (rn 3 rfl ?_)
          exact jX ((Int.fdiv n27 (2 ^ (min (Int.toNat (IntKind.wrap .u64 y18)) (IntKind.bits .u64)))), (w64 (n28 - 1)), (upd f29 (w64 (n28 - 1)).toNat (c31.toNat : Int))) h (gr [0] rfl (hB rfl rfl rfl .nil) rfl)
        refine rn 1 rfl ?_
        exact jX (n27, n28, f29) h (gr [0] rfl (hB rfl rfl rfl .nil) rfl)
      rintro ⟨n21, n22, f23⟩ h
      refine rn 9 rfl ?_
      refine ixs h rfl rfl (fun c35 hx36 h => ?_)
      refine ck h (fun hc37 h => ?_)
      refine aops_index_arr tArr182 wants_none rfl rfl hc37.1 hc37.2 rfl ?_
      refine aops_store [(V.con (.int .u8 (c35.toNat : Int)))] [[(V.con (.int .u8 ((upd f23 (w64 (n22 - 1)).toNat (c35.toNat : Int)) 0))), (V.con (.int .u8 ((upd f23 (w64 (n22 - 1)).toNat (c35.toNat : Int)) 1))), (V.con (.int .u8 ((upd f23 (w64 (n22 - 1)).toNat (c35.toNat : Int)) 2))), (V.con (.int .u8 ((upd f23 (w64 (n22 - 1)).toNat (c35.toNat : Int)) 3))), (V.con (.int .u8 ((upd f23 (w64 (n22 - 1)).toNat (c35.toNat : Int)) 4))), (V.con (.int .u8 ((upd f23 (w64 (n22 - 1)).toNat (c35.toNat : Int)) 5))), (V.con (.int .u8 ((upd f23 (w64 (n22 - 1)).toNat (c35.toNat : Int)) 6))), (V.con (.int .u8 ((upd f23 (w64 (n22 - 1)).toNat (c35.toNat : Int)) 7))), (V.con (.int .u8 ((upd f23 (w64 (n22 - 1)).toNat (c35.toNat : Int)) 8))), (V.con (.int .u8 ((upd f23 (w64 (n22 - 1)).toNat (c35.toNat : Int)) 9))), (V.con (.int .u8 ((upd f23 (w64 (n22 - 1)).toNat (c35.toNat : Int)) 10))), (V.con (.int .u8 ((upd f23 (w64 (n22 - 1)).toNat (c35.toNat : Int)) 11))), (V.con (.int .u8 ((upd f23 (w64 (n22 - 1)).toNat (c35.toNat : Int)) 12))), (V.con (.int .u8 ((upd f23 (w64 (n22 - 1)).toNat (c35.toNat : Int)) 13))), (V.con (.int .u8 ((upd f23 (w64 (n22 - 1)).toNat (c35.toNat : Int)) 14))), (V.con (.int .u8 ((upd f23 (w64 (n22 - 1)).toNat (c35.toNat : Int)) 15))), (V.con (.int .u8 ((upd f23 (w64 (n22 - 1)).toNat (c35.toNat : Int)) 16))), (V.con (.int .u8 ((upd f23 (w64 (n22 - 1)).toNat (c35.toNat : Int)) 17))), (V.con (.int .u8 ((upd f23 (w64 (n22 - 1)).toNat (c35.toNat : Int)) 18))), (V.con (.int .u8 ((upd f23 (w64 (n22 - 1)).toNat (c35.toNat : Int)) 19))), (V.con (.int .u8 ((upd f23 (w64 (n22 - 1)).toNat (c35.toNat : Int)) 20))), (V.con (.int .u8 ((upd f23 (w64 (n22 - 1)).toNat (c35.toNat : Int)) 21))), (V.con (.int .u8 ((upd f23 (w64 (n22 - 1)).toNat (c35.toNat : Int)) 22))), (V.con (.int .u8 ((upd f23 (w64 (n22 - 1)).toNat (c35.toNat : Int)) 23))), (V.con (.int .u8 ((upd f23 (w64 (n22 - 1)).toNat (c35.toNat : Int)) 24))), (V.con (.int .u8 ((upd f23 (w64 (n22 - 1)).toNat (c35.toNat : Int)) 25))), (V.con (.int .u8 ((upd f23 (w64 (n22 - 1)).toNat (c35.toNat : Int)) 26))), (V.con (.int .u8 ((upd f23 (w64 (n22 - 1)).toNat (c35.toNat : Int)) 27))), (V.con (.int .u8 ((upd f23 (w64 (n22 - 1)).toNat (c35.toNat : Int)) 28))), (V.con (.int .u8 ((upd f23 (w64 (n22 - 1)).toNat (c35.toNat : Int)) 29))), (V.con (.int .u8 ((upd f23 (w64 (n22 - 1)).toNat (c35.toNat : Int)) 30))), (V.con (.int .u8 ((upd f23 (w64 (n22 - 1)).toNat (c35.toNat : Int)) 31))), (V.con (.int .u8 ((upd f23 (w64 (n22 - 1)).toNat (c35.toNat : Int)) 32))), (V.con (.int .u8 ((upd f23 (w64 (n22 - 1)).toNat (c35.toNat : Int)) 33))), (V.con (.int .u8 ((upd f23 (w64 (n22 - 1)).toNat (c35.toNat : Int)) 34))), (V.con (.int .u8 ((upd f23 (w64 (n22 - 1)).toNat (c35.toNat : Int)) 35))), (V.con (.int .u8 ((upd f23 (w64 (n22 - 1)).toNat (c35.toNat : Int)) 36))), (V.con (.int .u8 ((upd f23 (w64 (n22 - 1)).toNat (c35.toNat : Int)) 37))), (V.con (.int .u8 ((upd f23 (w64 (n22 - 1)).toNat (c35.toNat : Int)) 38))), (V.con (.int .u8 ((upd f23 (w64 (n22 - 1)).toNat (c35.toNat : Int)) 39))), (V.con (.int .u8 ((upd f23 (w64 (n22 - 1)).toNat (c35.toNat : Int)) 40))), (V.con (.int .u8 ((upd f23 (w64 (n22 - 1)).toNat (c35.toNat : Int)) 41))), (V.con (.int .u8 ((upd f23 (w64 (n22 - 1)).toNat (c35.toNat : Int)) 42))), (V.con (.int .u8 ((upd f23 (w64 (n22 - 1)).toNat (c35.toNat : Int)) 43))), (V.con (.int .u8 ((upd f23 (w64 (n22 - 1)).toNat (c35.toNat : Int)) 44))), (V.con (.int .u8 ((upd f23 (w64 (n22 - 1)).toNat (c35.toNat : Int)) 45))), (V.con (.int .u8 ((upd f23 (w64 (n22 - 1)).toNat (c35.toNat : Int)) 46))), (V.con (.int .u8 ((upd f23 (w64 (n22 - 1)).toNat (c35.toNat : Int)) 47))), (V.con (.int .u8 ((upd f23 (w64 (n22 - 1)).toNat (c35.toNat : Int)) 48))), (V.con (.int .u8 ((upd f23 (w64 (n22 - 1)).toNat (c35.toNat : Int)) 49))), (V.con (.int .u8 ((upd f23 (w64 (n22 - 1)).toNat (c35.toNat : Int)) 50))), (V.con (.int .u8 ((upd f23 (w64 (n22 - 1)).toNat (c35.toNat : Int)) 51))), (V.con (.int .u8 ((upd f23 (w64 (n22 - 1)).toNat (c35.toNat : Int)) 52))), (V.con (.int .u8 ((upd f23 (w64 (n22 - 1)).toNat (c35.toNat : Int)) 53))), (V.con (.int .u8 ((upd f23 (w64 (n22 - 1)).toNat (c35.toNat : Int)) 54))), (V.con (.int .u8 ((upd f23 (w64 (n22 - 1)).toNat (c35.toNat : Int)) 55))), (V.con (.int .u8 ((upd f23 (w64 (n22 - 1)).toNat (c35.toNat : Int)) 56))), (V.con (.int .u8 ((upd f23 (w64 (n22 - 1)).toNat (c35.toNat : Int)) 57))), (V.con (.int .u8 ((upd f23 (w64 (n22 - 1)).toNat (c35.toNat : Int)) 58))), (V.con (.int .u8 ((upd f23 (w64 (n22 - 1)).toNat (c35.toNat : Int)) 59))), (V.con (.int .u8 ((upd f23 (w64 (n22 - 1)).toNat (c35.toNat : Int)) 60))), (V.con (.int .u8 ((upd f23 (w64 (n22 - 1)).toNat (c35.toNat : Int)) 61))), (V.con (.int .u8 ((upd f23 (w64 (n22 - 1)).toNat (c35.toNat : Int)) 62))), (V.con (.int .u8 ((upd f23 (w64 (n22 - 1)).toNat (c35.toNat : Int)) 63))), (V.con (.int .u8 ((upd f23 (w64 (n22 - 1)).toNat (c35.toNat : Int)) 64)))]] tS5 wants_none rfl rfl rfl rfl rfl rfl (arr_ble hc37.2 (by simp)) (congrArg (fun r => [r]) (arr_set [] [] (fun x => (V.con (.int .u8 x))) f23 (c35.toNat : Int) hc37.2 rfl (by simp))) ?_
      refine fo (rn 1 rfl ?_)
      exact jX ((w64 (n22 - 1)), (upd f23 (w64 (n22 - 1)).toNat (c35.toNat : Int))) h (gr [0] rfl (hB rfl rfl rfl .nil) rfl)
    refine rn 7 rfl ?_
    refine jK h (fun (p : Int × Int × (Nat → Int)) => (⟨[(0, (V.lst 1 (a1.map encI_u8))), (1, (V.con (.int .u64 (p.1)))), (3, (bV a4)), (4, (bV a5)), (10, nV), (11, (sV ([] : List UInt8))), (12, (V.ptr 0 65 0 0)), (13, (iV (p.2.1)))], [(0, (Ob.arr 182 65 [[(V.con (.int .u8 ((p.2.2) 0))), (V.con (.int .u8 ((p.2.2) 1))), (V.con (.int .u8 ((p.2.2) 2))), (V.con (.int .u8 ((p.2.2) 3))), (V.con (.int .u8 ((p.2.2) 4))), (V.con (.int .u8 ((p.2.2) 5))), (V.con (.int .u8 ((p.2.2) 6))), (V.con (.int .u8 ((p.2.2) 7))), (V.con (.int .u8 ((p.2.2) 8))), (V.con (.int .u8 ((p.2.2) 9))), (V.con (.int .u8 ((p.2.2) 10))), (V.con (.int .u8 ((p.2.2) 11))), (V.con (.int .u8 ((p.2.2) 12))), (V.con (.int .u8 ((p.2.2) 13))), (V.con (.int .u8 ((p.2.2) 14))), (V.con (.int .u8 ((p.2.2) 15))), (V.con (.int .u8 ((p.2.2) 16))), (V.con (.int .u8 ((p.2.2) 17))), (V.con (.int .u8 ((p.2.2) 18))), (V.con (.int .u8 ((p.2.2) 19))), (V.con (.int .u8 ((p.2.2) 20))), (V.con (.int .u8 ((p.2.2) 21))), (V.con (.int .u8 ((p.2.2) 22))), (V.con (.int .u8 ((p.2.2) 23))), (V.con (.int .u8 ((p.2.2) 24))), (V.con (.int .u8 ((p.2.2) 25))), (V.con (.int .u8 ((p.2.2) 26))), (V.con (.int .u8 ((p.2.2) 27))), (V.con (.int .u8 ((p.2.2) 28))), (V.con (.int .u8 ((p.2.2) 29))), (V.con (.int .u8 ((p.2.2) 30))), (V.con (.int .u8 ((p.2.2) 31))), (V.con (.int .u8 ((p.2.2) 32))), (V.con (.int .u8 ((p.2.2) 33))), (V.con (.int .u8 ((p.2.2) 34))), (V.con (.int .u8 ((p.2.2) 35))), (V.con (.int .u8 ((p.2.2) 36))), (V.con (.int .u8 ((p.2.2) 37))), (V.con (.int .u8 ((p.2.2) 38))), (V.con (.int .u8 ((p.2.2) 39))), (V.con (.int .u8 ((p.2.2) 40))), (V.con (.int .u8 ((p.2.2) 41))), (V.con (.int .u8 ((p.2.2) 42))), (V.con (.int .u8 ((p.2.2) 43))), (V.con (.int .u8 ((p.2.2) 44))), (V.con (.int .u8 ((p.2.2) 45))), (V.con (.int .u8 ((p.2.2) 46))), (V.con (.int .u8 ((p.2.2) 47))), (V.con (.int .u8 ((p.2.2) 48))), (V.con (.int .u8 ((p.2.2) 49))), (V.con (.int .u8 ((p.2.2) 50))), (V.con (.int .u8 ((p.2.2) 51))), (V.con (.int .u8 ((p.2.2) 52))), (V.con (.int .u8 ((p.2.2) 53))), (V.con (.int .u8 ((p.2.2) 54))), (V.con (.int .u8 ((p.2.2) 55))), (V.con (.int .u8 ((p.2.2) 56))), (V.con (.int .u8 ((p.2.2) 57))), (V.con (.int .u8 ((p.2.2) 58))), (V.con (.int .u8 ((p.2.2) 59))), (V.con (.int .u8 ((p.2.2) 60))), (V.con (.int .u8 ((p.2.2) 61))), (V.con (.int .u8 ((p.2.2) 62))), (V.con (.int .u8 ((p.2.2) 63))), (V.con (.int .u8 ((p.2.2) 64)))]]))], 1⟩ : St)) (fun k38 (p : Int × Int × (Nat → Int)) => k38 p.1 p.2.1 p.2.2 = some r) (fun k38 h => ?_) ?_
    · refine rn 1 rfl ?_
      refine lC (fun (p : Int × Int × (Nat → Int)) => (⟨[(0, (V.lst 1 (a1.map encI_u8))), (1, (V.con (.int .u64 (p.1)))), (3, (bV a4)), (4, (bV a5)), (10, nV), (11, (sV ([] : List UInt8))), (12, (V.ptr 0 65 0 0)), (13, (iV (p.2.1))), (17, (V.con (.int .u64 (IntKind.wrap .u64 a3))))], [(0, (Ob.arr 182 65 [[(V.con (.int .u8 ((p.2.2) 0))), (V.con (.int .u8 ((p.2.2) 1))), (V.con (.int .u8 ((p.2.2) 2))), (V.con (.int .u8 ((p.2.2) 3))), (V.con (.int .u8 ((p.2.2) 4))), (V.con (.int .u8 ((p.2.2) 5))), (V.con (.int .u8 ((p.2.2) 6))), (V.con (.int .u8 ((p.2.2) 7))), (V.con (.int .u8 ((p.2.2) 8))), (V.con (.int .u8 ((p.2.2) 9))), (V.con (.int .u8 ((p.2.2) 10))), (V.con (.int .u8 ((p.2.2) 11))), (V.con (.int .u8 ((p.2.2) 12))), (V.con (.int .u8 ((p.2.2) 13))), (V.con (.int .u8 ((p.2.2) 14))), (V.con (.int .u8 ((p.2.2) 15))), (V.con (.int .u8 ((p.2.2) 16))), (V.con (.int .u8 ((p.2.2) 17))), (V.con (.int .u8 ((p.2.2) 18))), (V.con (.int .u8 ((p.2.2) 19))), (V.con (.int .u8 ((p.2.2) 20))), (V.con (.int .u8 ((p.2.2) 21))), (V.con (.int .u8 ((p.2.2) 22))), (V.con (.int .u8 ((p.2.2) 23))), (V.con (.int .u8 ((p.2.2) 24))), (V.con (.int .u8 ((p.2.2) 25))), (V.con (.int .u8 ((p.2.2) 26))), (V.con (.int .u8 ((p.2.2) 27))), (V.con (.int .u8 ((p.2.2) 28))), (V.con (.int .u8 ((p.2.2) 29))), (V.con (.int .u8 ((p.2.2) 30))), (V.con (.int .u8 ((p.2.2) 31))), (V.con (.int .u8 ((p.2.2) 32))), (V.con (.int .u8 ((p.2.2) 33))), (V.con (.int .u8 ((p.2.2) 34))), (V.con (.int .u8 ((p.2.2) 35))), (V.con (.int .u8 ((p.2.2) 36))), (V.con (.int .u8 ((p.2.2) 37))), (V.con (.int .u8 ((p.2.2) 38))), (V.con (.int .u8 ((p.2.2) 39))), (V.con (.int .u8 ((p.2.2) 40))), (V.con (.int .u8 ((p.2.2) 41))), (V.con (.int .u8 ((p.2.2) 42))), (V.con (.int .u8 ((p.2.2) 43))), (V.con (.int .u8 ((p.2.2) 44))), (V.con (.int .u8 ((p.2.2) 45))), (V.con (.int .u8 ((p.2.2) 46))), (V.con (.int .u8 ((p.2.2) 47))), (V.con (.int .u8 ((p.2.2) 48))), (V.con (.int .u8 ((p.2.2) 49))), (V.con (.int .u8 ((p.2.2) 50))), (V.con (.int .u8 ((p.2.2) 51))), (V.con (.int .u8 ((p.2.2) 52))), (V.con (.int .u8 ((p.2.2) 53))), (V.con (.int .u8 ((p.2.2) 54))), (V.con (.int .u8 ((p.2.2) 55))), (V.con (.int .u8 ((p.2.2) 56))), (V.con (.int .u8 ((p.2.2) 57))), (V.con (.int .u8 ((p.2.2) 58))), (V.con (.int .u8 ((p.2.2) 59))), (V.con (.int .u8 ((p.2.2) 60))), (V.con (.int .u8 ((p.2.2) 61))), (V.con (.int .u8 ((p.2.2) 62))), (V.con (.int .u8 ((p.2.2) 63))), (V.con (.int .u8 ((p.2.2) 64)))]]))], 1⟩ : St)) (fun n (p : Int × Int × (Nat → Int)) => M149_L2 F a3 k38 n p.1 p.2.1 p.2.2 = some r) (fun p h => by simp [M149_L2] at h) F (n10, 65, (fun _ => 0)) h (gr [0] rfl (hB rfl rfl rfl .nil) rfl) (fun n p h => ?_)
      obtain ⟨n45, n46, f47⟩ := p
      unfold M149_L2 at h
      refine rn 7 rfl ?_
      refine spC h rfl (fun hb48 h => ?_) (fun hb48 h => ?_)
      · refine rn 12 rfl ?_
        refine ck h (fun hc49 h => ?_)
        refine aops_bin (.int .u64 (IntKind.wrap .u64 (Int.tdiv n45 (IntKind.wrap .u64 a3)))) wants_none rfl rfl (binS_quo hc49) rfl ?_
        refine fo (rn 10 rfl ?_)
        refine ixs h rfl rfl (fun c50 hx51 h => ?_)
        refine ck h (fun hc52 h => ?_)
        refine aops_index_arr tArr182 wants_none rfl rfl hc52.1 hc52.2 rfl ?_
        refine aops_store [(V.con (.int .u8 (c50.toNat : Int)))] [[(V.con (.int .u8 ((upd f47 (w64 (n46 - 1)).toNat (c50.toNat : Int)) 0))), (V.con (.int .u8 ((upd f47 (w64 (n46 - 1)).toNat (c50.toNat : Int)) 1))), (V.con (.int .u8 ((upd f47 (w64 (n46 - 1)).toNat (c50.toNat : Int)) 2))), (V.con (.int .u8 ((upd f47 (w64 (n46 - 1)).toNat (c50.toNat : Int)) 3))), (V.con (.int .u8 ((upd f47 (w64 (n46 - 1)).toNat (c50.toNat : Int)) 4))), (V.con (.int .u8 ((upd f47 (w64 (n46 - 1)).toNat (c50.toNat : Int)) 5))), (V.con (.int .u8 ((upd f47 (w64 (n46 - 1)).toNat (c50.toNat : Int)) 6))), (V.con (.int .u8 ((upd f47 (w64 (n46 - 1)).toNat (c50.toNat : Int)) 7))), (V.con (.int .u8 ((upd f47 (w64 (n46 - 1)).toNat (c50.toNat : Int)) 8))), (V.con (.int .u8 ((upd f47 (w64 (n46 - 1)).toNat (c50.toNat : Int)) 9))), (V.con (.int .u8 ((upd f47 (w64 (n46 - 1)).toNat (c50.toNat : Int)) 10))), (V.con (.int .u8 ((upd f47 (w64 (n46 - 1)).toNat (c50.toNat : Int)) 11))), (V.con (.int .u8 ((upd f47 (w64 (n46 - 1)).toNat (c50.toNat : Int)) 12))), (V.con (.int .u8 ((upd f47 (w64 (n46 - 1)).toNat (c50.toNat : Int)) 13))), (V.con (.int .u8 ((upd f47 (w64 (n46 - 1)).toNat (c50.toNat : Int)) 14))), (V.con (.int .u8 ((upd f47 (w64 (n46 - 1)).toNat (c50.toNat : Int)) 15))), (V.con (.int .u8 ((upd f47 (w64 (n46 - 1)).toNat (c50.toNat : Int)) 16))), (V.con (.int .u8 ((upd f47 (w64 (n46 - 1)).toNat (c50.toNat : Int)) 17))), (V.con (.int .u8 ((upd f47 (w64 (n46 - 1)).toNat (c50.toNat : Int)) 18))), (V.con (.int .u8 ((upd f47 (w64 (n46 - 1)).toNat (c50.toNat : Int)) 19))), (V.con (.int .u8 ((upd f47 (w64 (n46 - 1)).toNat (c50.toNat : Int)) 20))), (V.con (.int .u8 ((upd f47 (w64 (n46 - 1)).toNat (c50.toNat : Int)) 21))), (V.con (.int .u8 ((upd f47 (w64 (n46 - 1)).toNat (c50.toNat : Int)) 22))), (V.con (.int .u8 ((upd f47 (w64 (n46 - 1)).toNat (c50.toNat : Int)) 23))), (V.con (.int .u8 ((upd f47 (w64 (n46 - 1)).toNat (c50.toNat : Int)) 24))), (V.con (.int .u8 ((upd f47 (w64 (n46 - 1)).toNat (c50.toNat : Int)) 25))), (V.con (.int .u8 ((upd f47 (w64 (n46 - 1)).toNat (c50.toNat : Int)) 26))), (V.con (.int .u8 ((upd f47 (w64 (n46 - 1)).toNat (c50.toNat : Int)) 27))), (V.con (.int .u8 ((upd f47 (w64 (n46 - 1)).toNat (c50.toNat : Int)) 28))), (V.con (.int .u8 ((upd f47 (w64 (n46 - 1)).toNat (c50.toNat : Int)) 29))), (V.con (.int .u8 ((upd f47 (w64 (n46 - 1)).toNat (c50.toNat : Int)) 30))), (V.con (.int .u8 ((upd f47 (w64 (n46 - 1)).toNat (c50.toNat : Int)) 31))), (V.con (.int .u8 ((upd f47 (w64 (n46 - 1)).toNat (c50.toNat : Int)) 32))), (V.con (.int .u8 ((upd f47 (w64 (n46 - 1)).toNat (c50.toNat : Int)) 33))), (V.con (.int .u8 ((upd f47 (w64 (n46 - 1)).toNat (c50.toNat : Int)) 34))), (V.con (.int .u8 ((upd f47 (w64 (n46 - 1)).toNat (c50.toNat : Int)) 35))), (V.con (.int .u8 ((upd f47 (w64 (n46 - 1)).toNat (c50.toNat : Int)) 36))), (V.con (.int .u8 ((upd f47 (w64 (n46 - 1)).toNat (c50.toNat : Int)) 37))), (V.con (.int .u8 ((upd f47 (w64 (n46 - 1)).toNat (c50.toNat : Int)) 38))), (V.con (.int .u8 ((upd f47 (w64 (n46 - 1)).toNat (c50.toNat : Int)) 39))), (V.con (.int .u8 ((upd f47 (w64 (n46 - 1)).toNat (c50.toNat : Int)) 40))), (V.con (.int .u8 ((upd f47 (w64 (n46 - 1)).toNat (c50.toNat : Int)) 41))), (V.con (.int .u8 ((upd f47 (w64 (n46 - 1)).toNat (c50.toNat : Int)) 42))), (V.con (.int .u8 ((upd f47 (w64 (n46 - 1)).toNat (c50.toNat : Int)) 43))), (V.con (.int .u8 ((upd f47 (w64 (n46 - 1)).toNat (c50.toNat : Int)) 44))), (V.con (.int .u8 ((upd f47 (w64 (n46 - 1)).toNat (c50.toNat : Int)) 45))), (V.con (.int .u8 ((upd f47 (w64 (n46 - 1)).toNat (c50.toNat : Int)) 46))), (V.con (.int .u8 ((upd f47 (w64 (n46 - 1)).toNat (c50.toNat : Int)) 47))), (V.con (.int .u8 ((upd f47 (w64 (n46 - 1)).toNat (c50.toNat : Int)) 48))), (V.con (.int .u8 ((upd f47 (w64 (n46 - 1)).toNat (c50.toNat : Int)) 49))), (V.con (.int .u8 ((upd f47 (w64 (n46 - 1)).toNat (c50.toNat : Int)) 50))), (V.con (.int .u8 ((upd f47 (w64 (n46 - 1)).toNat (c50.toNat : Int)) 51))), (V.con (.int .u8 ((upd f47 (w64 (n46 - 1)).toNat (c50.toNat : Int)) 52))), (V.con (.int .u8 ((upd f47 (w64 (n46 - 1)).toNat (c50.toNat : Int)) 53))), (V.con (.int .u8 ((upd f47 (w64 (n46 - 1)).toNat (c50.toNat : Int)) 54))), (V.con (.int .u8 ((upd f47 (w64 (n46 - 1)).toNat (c50.toNat : Int)) 55))), (V.con (.int .u8 ((upd f47 (w64 (n46 - 1)).toNat (c50.toNat : Int)) 56))), (V.con (.int .u8 ((upd f47 (w64 (n46 - 1)).toNat (c50.toNat : Int)) 57))), (V.con (.int .u8 ((upd f47 (w64 (n46 - 1)).toNat (c50.toNat : Int)) 58))), (V.con (.int .u8 ((upd f47 (w64 (n46 - 1)).toNat (c50.toNat : Int)) 59))), (V.con (.int .u8 ((upd f47 (w64 (n46 - 1)).toNat (c50.toNat : Int)) 60))), (V.con (.int .u8 ((upd f47 (w64 (n46 - 1)).toNat (c50.toNat : Int)) 61))), (V.con (.int .u8 ((upd f47 (w64 (n46 - 1)).toNat (c50.toNat : Int)) 62))), (V.con (.int .u8 ((upd f47 (w64 (n46 - 1)).toNat (c50.toNat : Int)) 63))), (V.con (.int .u8 ((upd f47 (w64 (n46 - 1)).toNat (c50.toNat : Int)) 64)))]] tS5 wants_none rfl rfl rfl rfl rfl rfl (arr_ble hc52.2 (by simp)) (congrArg (fun r => [r]) (arr_set [] [] (fun x => (V.con (.int .u8 x))) f47 (c50.toNat : Int) hc52.2 rfl (by simp))) ?_
        refine fo (rn 6 rfl ?_)
        exact jX ((IntKind.wrap .u64 (Int.tdiv n45 (IntKind.wrap .u64 a3))), (w64 (n46 - 1)), (upd f47 (w64 (n46 - 1)).toNat (c50.toNat : Int))) h (gr [0] rfl (hB rfl rfl rfl .nil) rfl)
      refine rn 1 rfl ?_
      exact jX (n45, n46, f47) h (gr [0] rfl (hB rfl rfl rfl .nil) rfl)
    rintro ⟨n39, n40, f41⟩ h
    refine rn 9 rfl ?_
    refine ixs h rfl rfl (fun c53 hx54 h => ?_)
    refine ck h (fun hc55 h => ?_)
    refine aops_index_arr tArr182 wants_none rfl rfl hc55.1 hc55.2 rfl ?_
    refine aops_store [(V.con (.int .u8 (c53.toNat : Int)))] [[(V.con (.int .u8 ((upd f41 (w64 (n40 - 1)).toNat (c53.toNat : Int)) 0))), (V.con (.int .u8 ((upd f41 (w64 (n40 - 1)).toNat (c53.toNat : Int)) 1))), (V.con (.int .u8 ((upd f41 (w64 (n40 - 1)).toNat (c53.toNat : Int)) 2))), (V.con (.int .u8 ((upd f41 (w64 (n40 - 1)).toNat (c53.toNat : Int)) 3))), (V.con (.int .u8 ((upd f41 (w64 (n40 - 1)).toNat (c53.toNat : Int)) 4))), (V.con (.int .u8 ((upd f41 (w64 (n40 - 1)).toNat (c53.toNat : Int)) 5))), (V.con (.int .u8 ((upd f41 (w64 (n40 - 1)).toNat (c53.toNat : Int)) 6))), (V.con (.int .u8 ((upd f41 (w64 (n40 - 1)).toNat (c53.toNat : Int)) 7))), (V.con (.int .u8 ((upd f41 (w64 (n40 - 1)).toNat (c53.toNat : Int)) 8))), (V.con (.int .u8 ((upd f41 (w64 (n40 - 1)).toNat (c53.toNat : Int)) 9))), (V.con (.int .u8 ((upd f41 (w64 (n40 - 1)).toNat (c53.toNat : Int)) 10))), (V.con (.int .u8 ((upd f41 (w64 (n40 - 1)).toNat (c53.toNat : Int)) 11))), (V.con (.int .u8 ((upd f41 (w64 (n40 - 1)).toNat (c53.toNat : Int)) 12))), (V.con (.int .u8 ((upd f41 (w64 (n40 - 1)).toNat (c53.toNat : Int)) 13))), (V.con (.int .u8 ((upd f41 (w64 (n40 - 1)).toNat (c53.toNat : Int)) 14))), (V.con (.int .u8 ((upd f41 (w64 (n40 - 1)).toNat (c53.toNat : Int)) 15))), (V.con (.int .u8 ((upd f41 (w64 (n40 - 1)).toNat (c53.toNat : Int)) 16))), (V.con (.int .u8 ((upd f41 (w64 (n40 - 1)).toNat (c53.toNat : Int)) 17))), (V.con (.int .u8 ((upd f41 (w64 (n40 - 1)).toNat (c53.toNat : Int)) 18))), (V.con (.int .u8 ((upd f41 (w64 (n40 - 1)).toNat (c53.toNat : Int)) 19))), (V.con (.int .u8 ((upd f41 (w64 (n40 - 1)).toNat (c53.toNat : Int)) 20))), (V.con (.int .u8 ((upd f41 (w64 (n40 - 1)).toNat (c53.toNat : Int)) 21))), (V.con (.int .u8 ((upd f41 (w64 (n40 - 1)).toNat (c53.toNat : Int)) 22))), (V.con (.int .u8 ((upd f41 (w64 (n40 - 1)).toNat (c53.toNat : Int)) 23))), (V.con (.int .u8 ((upd f41 (w64 (n40 - 1)).toNat (c53.toNat : Int)) 24))), (V.con (.int .u8 ((upd f41 (w64 (n40 - 1)).toNat (c53.toNat : Int)) 25))), (V.con (.int .u8 ((upd f41 (w64 (n40 - 1)).toNat (c53.toNat : Int)) 26))), (V.con (.int .u8 ((upd f41 (w64 (n40 - 1)).toNat (c53.toNat : Int)) 27))), (V.con (.int .u8 ((upd f41 (w64 (n40 - 1)).toNat (c53.toNat : Int)) 28))), (V.con (.int .u8 ((upd f41 (w64 (n40 - 1)).toNat (c53.toNat : Int)) 29))), (V.con (.int .u8 ((upd f41 (w64 (n40 - 1)).toNat (c53.toNat : Int)) 30))), (V.con (.int .u8 ((upd f41 (w64 (n40 - 1)).toNat (c53.toNat : Int)) 31))), (V.con (.int .u8 ((upd f41 (w64 (n40 - 1)).toNat (c53.toNat : Int)) 32))), (V.con (.int .u8 ((upd f41 (w64 (n40 - 1)).toNat (c53.toNat : Int)) 33))), (V.con (.int .u8 ((upd f41 (w64 (n40 - 1)).toNat (c53.toNat : Int)) 34))), (V.con (.int .u8 ((upd f41 (w64 (n40 - 1)).toNat (c53.toNat : Int)) 35))), (V.con (.int .u8 ((upd f41 (w64 (n40 - 1)).toNat (c53.toNat : Int)) 36))), (V.con (.int .u8 ((upd f41 (w64 (n40 - 1)).toNat (c53.toNat : Int)) 37))), (V.con (.int .u8 ((upd f41 (w64 (n40 - 1)).toNat (c53.toNat : Int)) 38))), (V.con (.int .u8 ((upd f41 (w64 (n40 - 1)).toNat (c53.toNat : Int)) 39))), (V.con (.int .u8 ((upd f41 (w64 (n40 - 1)).toNat (c53.toNat : Int)) 40))), (V.con (.int .u8 ((upd f41 (w64 (n40 - 1)).toNat (c53.toNat : Int)) 41))), (V.con (.int .u8 ((upd f41 (w64 (n40 - 1)).toNat (c53.toNat : Int)) 42))), (V.con (.int .u8 ((upd f41 (w64 (n40 - 1)).toNat (c53.toNat : Int)) 43))), (V.con (.int .u8 ((upd f41 (w64 (n40 - 1)).toNat (c53.toNat : Int)) 44))), (V.con (.int .u8 ((upd f41 (w64 (n40 - 1)).toNat (c53.toNat : Int)) 45))), (V.con (.int .u8 ((upd f41 (w64 (n40 - 1)).toNat (c53.toNat : Int)) 46))), (V.con (.int .u8 ((upd f41 (w64 (n40 - 1)).toNat (c53.toNat : Int)) 47))), (V.con (.int .u8 ((upd f41 (w64 (n40 - 1)).toNat (c53.toNat : Int)) 48))), (V.con (.int .u8 ((upd f41 (w64 (n40 - 1)).toNat (c53.toNat : Int)) 49))), (V.con (.int .u8 ((upd f41 (w64 (n40 - 1)).toNat (c53.toNat : Int)) 50))), (V.con (.int .u8 ((upd f41 (w64 (n40 - 1)).toNat (c53.toNat : Int)) 51))), (V.con (.int .u8 ((upd f41 (w64 (n40 - 1)).toNat (c53.toNat : Int)) 52))), (V.con (.int .u8 ((upd f41 (w64 (n40 - 1)).toNat (c53.toNat : Int)) 53))), (V.con (.int .u8 ((upd f41 (w64 (n40 - 1)).toNat (c53.toNat : Int)) 54))), (V.con (.int .u8 ((upd f41 (w64 (n40 - 1)).toNat (c53.toNat : Int)) 55))), (V.con (.int .u8 ((upd f41 (w64 (n40 - 1)).toNat (c53.toNat : Int)) 56))), (V.con (.int .u8 ((upd f41 (w64 (n40 - 1)).toNat (c53.toNat : Int)) 57))), (V.con (.int .u8 ((upd f41 (w64 (n40 - 1)).toNat (c53.toNat : Int)) 58))), (V.con (.int .u8 ((upd f41 (w64 (n40 - 1)).toNat (c53.toNat : Int)) 59))), (V.con (.int .u8 ((upd f41 (w64 (n40 - 1)).toNat (c53.toNat : Int)) 60))), (V.con (.int .u8 ((upd f41 (w64 (n40 - 1)).toNat (c53.toNat : Int)) 61))), (V.con (.int .u8 ((upd f41 (w64 (n40 - 1)).toNat (c53.toNat : Int)) 62))), (V.con (.int .u8 ((upd f41 (w64 (n40 - 1)).toNat (c53.toNat : Int)) 63))), (V.con (.int .u8 ((upd f41 (w64 (n40 - 1)).toNat (c53.toNat : Int)) 64)))]] tS5 wants_none rfl rfl rfl rfl rfl rfl (arr_ble hc55.2 (by simp)) (congrArg (fun r => [r]) (arr_set [] [] (fun x => (V.con (.int .u8 x))) f41 (c53.toNat : Int) hc55.2 rfl (by simp))) ?_
    refine fo (rn 1 rfl ?_)
    exact jX ((w64 (n40 - 1)), (upd f41 (w64 (n40 - 1)).toNat (c53.toNat : Int))) h (gr [0] rfl (hB rfl rfl rfl .nil) rfl)
  rintro ⟨n15, f16⟩ h
  refine rn 5 rfl ?_
  refine jK h (fun (p : Int × (Nat → Int)) => (⟨[(0, (V.lst 1 (a1.map encI_u8))), (4, (bV a5)), (10, nV), (11, (sV ([] : List UInt8))), (12, (V.ptr 0 65 0 0)), (13, (iV (p.1)))], [(0, (Ob.arr 182 65 [[(V.con (.int .u8 ((p.2) 0))), (V.con (.int .u8 ((p.2) 1))), (V.con (.int .u8 ((p.2) 2))), (V.con (.int .u8 ((p.2) 3))), (V.con (.int .u8 ((p.2) 4))), (V.con (.int .u8 ((p.2) 5))), (V.con (.int .u8 ((p.2) 6))), (V.con (.int .u8 ((p.2) 7))), (V.con (.int .u8 ((p.2) 8))), (V.con (.int .u8 ((p.2) 9))), (V.con (.int .u8 ((p.2) 10))), (V.con (.int .u8 ((p.2) 11))), (V.con (.int .u8 ((p.2) 12))), (V.con (.int .u8 ((p.2) 13))), (V.con (.int .u8 ((p.2) 14))), (V.con (.int .u8 ((p.2) 15))), (V.con (.int .u8 ((p.2) 16))), (V.con (.int .u8 ((p.2) 17))), (V.con (.int .u8 ((p.2) 18))), (V.con (.int .u8 ((p.2) 19))), (V.con (.int .u8 ((p.2) 20))), (V.con (.int .u8 ((p.2) 21))), (V.con (.int .u8 ((p.2) 22))), (V.con (.int .u8 ((p.2) 23))), (V.con (.int .u8 ((p.2) 24))), (V.con (.int .u8 ((p.2) 25))), (V.con (.int .u8 ((p.2) 26))), (V.con (.int .u8 ((p.2) 27))), (V.con (.int .u8 ((p.2) 28))), (V.con (.int .u8 ((p.2) 29))), (V.con (.int .u8 ((p.2) 30))), (V.con (.int .u8 ((p.2) 31))), (V.con (.int .u8 ((p.2) 32))), (V.con (.int .u8 ((p.2) 33))), (V.con (.int .u8 ((p.2) 34))), (V.con (.int .u8 ((p.2) 35))), (V.con (.int .u8 ((p.2) 36))), (V.con (.int .u8 ((p.2) 37))), (V.con (.int .u8 ((p.2) 38))), (V.con (.int .u8 ((p.2) 39))), (V.con (.int .u8 ((p.2) 40))), (V.con (.int .u8 ((p.2) 41))), (V.con (.int .u8 ((p.2) 42))), (V.con (.int .u8 ((p.2) 43))), (V.con (.int .u8 ((p.2) 44))), (V.con (.int .u8 ((p.2) 45))), (V.con (.int .u8 ((p.2) 46))), (V.con (.int .u8 ((p.2) 47))), (V.con (.int .u8 ((p.2) 48))), (V.con (.int .u8 ((p.2) 49))), (V.con (.int .u8 ((p.2) 50))), (V.con (.int .u8 ((p.2) 51))), (V.con (.int .u8 ((p.2) 52))), (V.con (.int .u8 ((p.2) 53))), (V.con (.int .u8 ((p.2) 54))), (V.con (.int .u8 ((p.2) 55))), (V.con (.int .u8 ((p.2) 56))), (V.con (.int .u8 ((p.2) 57))), (V.con (.int .u8 ((p.2) 58))), (V.con (.int .u8 ((p.2) 59))), (V.con (.int .u8 ((p.2) 60))), (V.con (.int .u8 ((p.2) 61))), (V.con (.int .u8 ((p.2) 62))), (V.con (.int .u8 ((p.2) 63))), (V.con (.int .u8 ((p.2) 64)))]]))], 1⟩ : St)) (fun k56 (p : Int × (Nat → Int)) => k56 p.1 p.2 = some r) (fun k56 h => ?_) ?_
  · refine spC h rfl (fun hb59 h => ?_) (fun hb59 h => ?_)
    · refine rn 8 rfl ?_
      refine ck h (fun hc60 h => ?_)
      refine aops_index_arr tArr182 wants_none rfl rfl hc60.1 hc60.2 rfl ?_
      refine aops_store [(V.con (.int .u8 45))] [[(V.con (.int .u8 ((upd f16 (w64 (n15 - 1)).toNat 45) 0))), (V.con (.int .u8 ((upd f16 (w64 (n15 - 1)).toNat 45) 1))), (V.con (.int .u8 ((upd f16 (w64 (n15 - 1)).toNat 45) 2))), (V.con (.int .u8 ((upd f16 (w64 (n15 - 1)).toNat 45) 3))), (V.con (.int .u8 ((upd f16 (w64 (n15 - 1)).toNat 45) 4))), (V.con (.int .u8 ((upd f16 (w64 (n15 - 1)).toNat 45) 5))), (V.con (.int .u8 ((upd f16 (w64 (n15 - 1)).toNat 45) 6))), (V.con (.int .u8 ((upd f16 (w64 (n15 - 1)).toNat 45) 7))), (V.con (.int .u8 ((upd f16 (w64 (n15 - 1)).toNat 45) 8))), (V.con (.int .u8 ((upd f16 (w64 (n15 - 1)).toNat 45) 9))), (V.con (.int .u8 ((upd f16 (w64 (n15 - 1)).toNat 45) 10))), (V.con (.int .u8 ((upd f16 (w64 (n15 - 1)).toNat 45) 11))), (V.con (.int .u8 ((upd f16 (w64 (n15 - 1)).toNat 45) 12))), (V.con (.int .u8 ((upd f16 (w64 (n15 - 1)).toNat 45) 13))), (V.con (.int .u8 ((upd f16 (w64 (n15 - 1)).toNat 45) 14))), (V.con (.int .u8 ((upd f16 (w64 (n15 - 1)).toNat 45) 15))), (V.con (.int .u8 ((upd f16 (w64 (n15 - 1)).toNat 45) 16))), (V.con (.int .u8 ((upd f16 (w64 (n15 - 1)).toNat 45) 17))), (V.con (.int .u8 ((upd f16 (w64 (n15 - 1)).toNat 45) 18))), (V.con (.int .u8 ((upd f16 (w64 (n15 - 1)).toNat 45) 19))), (V.con (.int .u8 ((upd f16 (w64 (n15 - 1)).toNat 45) 20))), (V.con (.int .u8 ((upd f16 (w64 (n15 - 1)).toNat 45) 21))), (V.con (.int .u8 ((upd f16 (w64 (n15 - 1)).toNat 45) 22))), (V.con (.int .u8 ((upd f16 (w64 (n15 - 1)).toNat 45) 23))), (V.con (.int .u8 ((upd f16 (w64 (n15 - 1)).toNat 45) 24))), (V.con (.int .u8 ((upd f16 (w64 (n15 - 1)).toNat 45) 25))), (V.con (.int .u8 ((upd f16 (w64 (n15 - 1)).toNat 45) 26))), (V.con (.int .u8 ((upd f16 (w64 (n15 - 1)).toNat 45) 27))), (V.con (.int .u8 ((upd f16 (w64 (n15 - 1)).toNat 45) 28))), (V.con (.int .u8 ((upd f16 (w64 (n15 - 1)).toNat 45) 29))), (V.con (.int .u8 ((upd f16 (w64 (n15 - 1)).toNat 45) 30))), (V.con (.int .u8 ((upd f16 (w64 (n15 - 1)).toNat 45) 31))), (V.con (.int .u8 ((upd f16 (w64 (n15 - 1)).toNat 45) 32))), (V.con (.int .u8 ((upd f16 (w64 (n15 - 1)).toNat 45) 33))), (V.con (.int .u8 ((upd f16 (w64 (n15 - 1)).toNat 45) 34))), (V.con (.int .u8 ((upd f16 (w64 (n15 - 1)).toNat 45) 35))), (V.con (.int .u8 ((upd f16 (w64 (n15 - 1)).toNat 45) 36))), (V.con (.int .u8 ((upd f16 (w64 (n15 - 1)).toNat 45) 37))), (V.con (.int .u8 ((upd f16 (w64 (n15 - 1)).toNat 45) 38))), (V.con (.int .u8 ((upd f16 (w64 (n15 - 1)).toNat 45) 39))), (V.con (.int .u8 ((upd f16 (w64 (n15 - 1)).toNat 45) 40))), (V.con (.int .u8 ((upd f16 (w64 (n15 - 1)).toNat 45) 41))), (V.con (.int .u8 ((upd f16 (w64 (n15 - 1)).toNat 45) 42))), (V.con (.int .u8 ((upd f16 (w64 (n15 - 1)).toNat 45) 43))), (V.con (.int .u8 ((upd f16 (w64 (n15 - 1)).toNat 45) 44))), (V.con (.int .u8 ((upd f16 (w64 (n15 - 1)).toNat 45) 45))), (V.con (.int .u8 ((upd f16 (w64 (n15 - 1)).toNat 45) 46))), (V.con (.int .u8 ((upd f16 (w64 (n15 - 1)).toNat 45) 47))), (V.con (.int .u8 ((upd f16 (w64 (n15 - 1)).toNat 45) 48))), (V.con (.int .u8 ((upd f16 (w64 (n15 - 1)).toNat 45) 49))), (V.con (.int .u8 ((upd f16 (w64 (n15 - 1)).toNat 45) 50))), (V.con (.int .u8 ((upd f16 (w64 (n15 - 1)).toNat 45) 51))), (V.con (.int .u8 ((upd f16 (w64 (n15 - 1)).toNat 45) 52))), (V.con (.int .u8 ((upd f16 (w64 (n15 - 1)).toNat 45) 53))), (V.con (.int .u8 ((upd f16 (w64 (n15 - 1)).toNat 45) 54))), (V.con (.int .u8 ((upd f16 (w64 (n15 - 1)).toNat 45) 55))), (V.con (.int .u8 ((upd f16 (w64 (n15 - 1)).toNat 45) 56))), (V.con (.int .u8 ((upd f16 (w64 (n15 - 1)).toNat 45) 57))), (V.con (.int .u8 ((upd f16 (w64 (n15 - 1)).toNat 45) 58))), (V.con (.int .u8 ((upd f16 (w64 (n15 - 1)).toNat 45) 59))), (V.con (.int .u8 ((upd f16 (w64 (n15 - 1)).toNat 45) 60))), (V.con (.int .u8 ((upd f16 (w64 (n15 - 1)).toNat 45) 61))), (V.con (.int .u8 ((upd f16 (w64 (n15 - 1)).toNat 45) 62))), (V.con (.int .u8 ((upd f16 (w64 (n15 - 1)).toNat 45) 63))), (V.con (.int .u8 ((upd f16 (w64 (n15 - 1)).toNat 45) 64)))]] tS5 wants_none rfl rfl rfl rfl rfl rfl (arr_ble hc60.2 (by simp)) (congrArg (fun r => [r]) (arr_set [] [] (fun x => (V.con (.int .u8 x))) f16 45 hc60.2 rfl (by simp))) ?_
      refine fo (rn 1 rfl ?_)
      exact jX ((w64 (n15 - 1)), (upd f16 (w64 (n15 - 1)).toNat 45)) h (gr [0] rfl (hB rfl rfl rfl .nil) rfl)
    refine rn 1 rfl ?_
    exact jX (n15, f16) h (gr [0] rfl (hB rfl rfl rfl .nil) rfl)
  rintro ⟨n57, f58⟩ h
  refine rn 5 rfl ?_
  refine spC h rfl (fun hb61 h => ?_) (fun hb61 h => ?_)
  · exact absurd h (by simp)
  refine rn 4 rfl ?_
  refine aops_ghost (ghost_frzP 0 12 rfl (imms_rows (.cons (.cons (Imm.con _) (.cons (Imm.con _) (.cons (Imm.con _) (.cons (Imm.con _) (.cons (Imm.con _) (.cons (Imm.con _) (.cons (Imm.con _) (.cons (Imm.con _) (.cons (Imm.con _) (.cons (Imm.con _) (.cons (Imm.con _) (.cons (Imm.con _) (.cons (Imm.con _) (.cons (Imm.con _) (.cons (Imm.con _) (.cons (Imm.con _) (.cons (Imm.con _) (.cons (Imm.con _) (.cons (Imm.con _) (.cons (Imm.con _) (.cons (Imm.con _) (.cons (Imm.con _) (.cons (Imm.con _) (.cons (Imm.con _) (.cons (Imm.con _) (.cons (Imm.con _) (.cons (Imm.con _) (.cons (Imm.con _) (.cons (Imm.con _) (.cons (Imm.con _) (.cons (Imm.con _) (.cons (Imm.con _) (.cons (Imm.con _) (.cons (Imm.con _) (.cons (Imm.con _) (.cons (Imm.con _) (.cons (Imm.con _) (.cons (Imm.con _) (.cons (Imm.con _) (.cons (Imm.con _) (.cons (Imm.con _) (.cons (Imm.con _) (.cons (Imm.con _) (.cons (Imm.con _) (.cons (Imm.con _) (.cons (Imm.con _) (.cons (Imm.con _) (.cons (Imm.con _) (.cons (Imm.con _) (.cons (Imm.con _) (.cons (Imm.con _) (.cons (Imm.con _) (.cons (Imm.con _) (.cons (Imm.con _) (.cons (Imm.con _) (.cons (Imm.con _) (.cons (Imm.con _) (.cons (Imm.con _) (.cons (Imm.con _) (.cons (Imm.con _) (.cons (Imm.con _) (.cons (Imm.con _) (.cons (Imm.con _) (.cons (Imm.con _) (.cons (Imm.con _) .nil))))))))))))))))))))))))))))))))))))))))))))))))))))))))))))))))) .nil)) rfl rfl) ?_
  refine ck h (fun hc63 h => ?_)
  refine aops_slice_iarr (a0 := n57.toNat) ((((List.range 65).map f58).drop n57.toNat).map encI_u8) tArr182 rfl wants_none rfl ⟨_, by rw [Int.toNat_of_nonneg hc63.1]; exact rfl⟩ hc63.2 (by simp) (arr_end f58 (fun x => (V.con (.int .u8 x))) 65 _ hc63.2) rfl ?_
  refine aops_bytesStr (((List.range 65).map f58).drop n57.toNat) tBy122 tStr9 wants_none rfl rfl ?_
  refine fo (rn 2 rfl ?_)
  exact rt h rfl
theorem W141 (F : Nat) (a1 : Int) (a2 : Int) (r : (List UInt8)) (h : M141 F a1 a2 = some r) : PureG gl Tryd.prog 141 [(V.con (.int .u64 a1)), (iV a2)] (sV r) := by
  refine pin (fun r => (sV r)) r rfl Tryd.func141 rfl rfl rfl rfl rfl (fun w0 m0 hg => ?_)
  unfold M141 at h
  refine rn 10 rfl ?_
  refine spC h rfl (fun hb3 h => ?_) (fun hb3 h => ?_)
  · refine rn 6 rfl ?_
    refine spC h rfl (fun hb4 h => ?_) (fun hb4 h => ?_)
    · refine rn 4 rfl ?_
      refine cl h rfl rfl rfl (W146 _ _) rfl (fun y5 hx6 h => ?_)
      refine rn 2 rfl ?_
      exact rt h rfl
    exact absurd h (by simp)
  refine rn 5 rfl ?_
  refine cl h rfl rfl rfl (W149 _ _ _ _ _ _) rfl (fun y9 hx10 h => ?_)
  refine rn 11 rfl ?_
  exact rt h rfl
theorem W134 (F : Nat) (a1 : Int) (a2 : Int) (r : (List UInt8)) (h : M134 F a1 a2 = some r) : PureG gl Tryd.prog 134 [(V.con (.int .u64 a1)), (iV a2)] (sV r) := by
  refine pin (fun r => (sV r)) r rfl Tryd.func134 rfl rfl rfl rfl rfl (fun w0 m0 hg => ?_)
  unfold M134 at h
  refine rn 8 rfl ?_
  refine cl h rfl rfl rfl (W141 _ _ _) rfl (fun y3 hx4 h => ?_)
  refine rn 2 rfl ?_
  exact rt h rfl
theorem W135 (F : Nat) (a1 : (List UInt8)) (a2 : Int) (r : (List UInt8)) (h : M135 F a1 a2 = some r) : PureG gl Tryd.prog 135 [(sV a1), (iV a2)] (sV r) := by
  unfold M135 at h
  obtain ⟨hc, h⟩ := chk_some h
  replace h := Option.some.inj h
  subst h
  exact pure_repeat hc (fun w m hm hl => Go.Proofs.Any.strings_Repeat Go.Proofs.Tryd.lays105 Go.Proofs.Tryd.Builder_Extra_105 _ m w hm hl)
theorem W114 (F : Nat) (a1 : (List UInt8)) (r : (List UInt8)) (h : M114 F a1 = some r) : PureG gl Tryd.prog 114 [(sV a1)] (sV r) := by
  refine pin (fun r => (sV r)) r rfl Tryd.func114 rfl rfl rfl rfl rfl (fun w0 m0 hg => ?_)
  unfold M114 at h
  refine rn 15 rfl ?_
  refine jK h (fun (p : Int) => (⟨[(3, (V.con (.int .u64 p)))], [], 0⟩ : St)) (fun k2 (p : Int) => k2 p = some r) (fun k2 h => ?_) ?_
  · refine rn 1 rfl ?_
    refine ck h (fun hA11 h => ?_)
    refine lC (fun (p : Int × Int) => (⟨[(0, (sV a1)), (3, (V.con (.int .u64 (p.1)))), (7, (iV (a1.length : Int))), (8, (iV (p.2)))], [], 0⟩ : St)) (fun n (p : Int × Int) => RC (a1.length : Int) (fun tl nn => M114_L1 F a1 k2 tl nn p.1 = some r) n p.2) (fun p h => RC.zero h) (Int.toNat (a1.length : Int) + 1) (14695981039346656037, 0) (RC.start h) (g0 rfl rfl) (fun n p h => ?_)
    obtain ⟨n6, n7⟩ := p
    refine rn 5 rfl ?_
    refine spL rfl (fun hb8 => ?_) (fun hb8 => ?_)
    · obtain ⟨tl, h, hk1⟩ := RC.t hA11 h hb8
      unfold M114_L1 at h
      refine rn 12 rfl ?_
      refine ixs h rfl rfl (fun c9 hx10 h => ?_)
      refine rn 10 rfl ?_
      exact jX ((IntKind.wrap .u64 ((IntKind.wrap .u64 ((BitVec.ofInt (IntKind.bits .u64) n6 ^^^ BitVec.ofInt (IntKind.bits .u64) (IntKind.wrap .u64 (c9.toNat : Int))).toNat : Int)) * 1099511628211)), (w64 (n7 + 1))) (hk1 _ h) (g0 rfl rfl)
    replace h := RC.f h hb8
    unfold M114_L1 at h
    refine rn 1 rfl ?_
    exact jX n6 h (g0 rfl rfl)
  intro n3 h
  refine rn 3 rfl ?_
  refine cl h rfl rfl rfl (W134 _ _ _) rfl (fun y12 hx13 h => ?_)
  refine rn 7 rfl ?_
  refine cl h rfl rfl rfl (W135 _ _ _) rfl (fun y14 hx15 h => ?_)
  refine rn 1 rfl ?_
  refine ck h (fun hc16 h => ?_)
  refine aops_binT (str (y14 ++ y12)) wants_none rfl rfl (if_pos hc16) rfl ?_
  refine fo (rn 2 rfl ?_)
  exact rt h rfl
theorem W62 (F : Nat) (a1 : (List UInt8)) (r : (List UInt8)) (h : M62 F a1 = some r) : PureG gl Tryd.prog 62 [(sV a1)] (sV r) := by
  refine pin (fun r => (sV r)) r rfl Tryd.func62 rfl rfl rfl rfl rfl (fun w0 m0 hg => ?_)
  unfold M62 at h
  refine rn 7 rfl ?_
  refine ck h (fun hc2 h => ?_)
  refine aops_binT (str (([112, 117, 98, 108, 105, 99, 58] : List UInt8) ++ a1)) wants_none rfl rfl (if_pos hc2) rfl ?_
  refine fo ?_
  refine cl h rfl rfl rfl (W114 _ _) rfl (fun y3 hx4 h => ?_)
  refine rn 2 rfl ?_
  exact rt h rfl
theorem W12 (F : Nat) (a1 : (List UInt8)) (a2 : (List UInt8)) (r : (TKey × Int)) (h : M12 F a1 a2 = some r) : PureG gl Tryd.prog 12 [(sV a1), (sV a2)] (V.tup [(V.agg (encTKey (r.1))), (iV (r.2))]) := by
  refine pin (fun r => (V.tup [(V.agg (encTKey (r.1))), (iV (r.2))])) r rfl Tryd.func12 rfl rfl rfl rfl rfl (fun w0 m0 hg => ?_)
  unfold M12 at h
  refine rn 10 rfl ?_
  refine cl h rfl rfl rfl (W61 _ _) rfl (fun y3 hx4 h => ?_)
  refine rn 3 rfl ?_
  refine spC h rfl (fun hb5 h => ?_) (fun hb5 h => ?_)
  · refine rn 6 rfl ?_
    exact rt h rfl
  refine rn 6 rfl ?_
  refine spC h rfl (fun hb6 h => ?_) (fun hb6 h => ?_)
  · refine rn 6 rfl ?_
    exact rt h rfl
  refine rn 7 rfl ?_
  refine spC h rfl (fun hb7 h => ?_) (fun hb7 h => ?_)
  · refine rn 6 rfl ?_
    exact rt h rfl
  refine rn 7 rfl ?_
  refine cl h rfl rfl rfl (W62 _ _) rfl (fun y8 hx9 h => ?_)
  refine rn 4 rfl ?_
  exact rt h rfl
theorem W64 (F : Nat) (a1 : (List UInt8)) (r : (List UInt8)) (h : M64 F a1 = some r) : PureG gl Tryd.prog 64 [(sV a1)] (sV r) := by
  refine pin (fun r => (sV r)) r rfl Tryd.func64 rfl rfl rfl rfl rfl (fun w0 m0 hg => ?_)
  unfold M64 at h
  refine rn 13 rfl ?_
  refine jK h (fun (p : Int) => (⟨[(3, (V.con (.int .u64 p)))], [], 0⟩ : St)) (fun k2 (p : Int) => k2 p = some r) (fun k2 h => ?_) ?_
  · refine rn 1 rfl ?_
    refine ck h (fun hA11 h => ?_)
    refine lC (fun (p : Int × Int) => (⟨[(0, (sV a1)), (3, (V.con (.int .u64 (p.1)))), (4, (iV (p.2)))], [], 0⟩ : St)) (fun n (p : Int × Int) => RC (a1.length : Int) (fun tl nn => M64_L1 F a1 k2 tl nn p.1 = some r) n p.2) (fun p h => RC.zero h) (Int.toNat (a1.length : Int) + 1) (14695981039346656037, 0) (RC.start h) (g0 rfl rfl) (fun n p h => ?_)
    obtain ⟨n6, n7⟩ := p
    refine rn 8 rfl ?_
    refine spL rfl (fun hb8 => ?_) (fun hb8 => ?_)
    · obtain ⟨tl, h, hk1⟩ := RC.t hA11 h hb8
      unfold M64_L1 at h
      refine rn 7 rfl ?_
      refine ixs h rfl rfl (fun c9 hx10 h => ?_)
      refine rn 11 rfl ?_
      exact jX ((IntKind.wrap .u64 ((IntKind.wrap .u64 ((BitVec.ofInt (IntKind.bits .u64) n6 ^^^ BitVec.ofInt (IntKind.bits .u64) (IntKind.wrap .u64 (c9.toNat : Int))).toNat : Int)) * 1099511628211)), (w64 (n7 + 1))) (hk1 _ h) (g0 rfl rfl)
    replace h := RC.f h hb8
    unfold M64_L1 at h
    refine rn 1 rfl ?_
    exact jX n6 h (g0 rfl rfl)
  intro n3 h
  refine rn 9 rfl ?_
  refine jK h (fun (p : (List Int)) => (⟨[(5, (V.own 0 p.length))], [(0, (Ob.arr 5 1 (p.map encI_u8)))], 1⟩ : St)) (fun k12 (p : (List Int)) => k12 p = some r) (fun k12 h => ?_) ?_
  · refine rn 1 rfl ?_
    refine lC (fun (p : Int × (List Int)) => (⟨[(3, (V.con (.int .u64 n3))), (5, (V.own 0 (p.2).length)), (6, (iV (p.1)))], [(0, (Ob.arr 5 1 ((p.2).map encI_u8)))], 1⟩ : St)) (fun n (p : Int × (List Int)) => M64_L2 F n3 k12 n p.1 p.2 = some r) (fun p h => by simp [M64_L2] at h) F (60, ([] : List Int)) h (Ghost.trans (ghost_nilE 5 5 1 rfl) (ghost_ren 1 (fun i => ([0] : List Nat).getD i 0) _ _ (by decide) (EnvSub.get (.cons (Sub.imm (Imm.con _)) (.cons (Sub.ownE rfl rfl (by simp)) (.cons (Sub.imm (Imm.con _)) .nil)))) (HpSub.get (.cons rfl (ObSub.rows (rows_imm imms_encI_u8)) .nil)) rfl)) (fun n p h => ?_)
    obtain ⟨n16, l17⟩ := p
    unfold M64_L2 at h
    refine rn 6 rfl ?_
    refine spC h rfl (fun hb18 h => ?_) (fun hb18 h => ?_)
    · refine rn 7 rfl ?_
      refine ck h (fun hc19 h => ?_)
      refine aops_bin (.int .u64 (Int.fdiv n3 (2 ^ (min (Int.toNat n16) (IntKind.bits .u64))))) wants_none rfl rfl (binS_shr hc19) rfl ?_
      refine fo (rn 1 rfl ?_)
      refine ixs h rfl rfl (fun c20 hx21 h => ?_)
      refine aops_buildSlice [(0, (V.con (.int .u8 (c20.toNat : Int))))] [[(V.con (.int .u8 (c20.toNat : Int)))]] tEl122 tZ5 rfl rfl rfl rfl wants_none (evp_cons rfl evp_nil) rfl rfl (by simp) rfl ?_
      refine fo ?_
      refine apO encI_u8 h rfl rfl rfl rfl rfl rfl rfl rfl (fun h => ?_)
      refine rn 8 rfl ?_
      exact jX ((w64 (n16 - 4)), (l17 ++ ([(c20.toNat : Int)] : List Int))) h (gr [2] rfl (hR rfl rfl .nil) rfl)
    refine rn 1 rfl ?_
    exact jX l17 h (gr [0] rfl (hR rfl rfl .nil) rfl)
  intro l13 h
  refine rn 3 rfl ?_
  refine aops_ghost (ghost_frzE 0 32 rfl (rows_imm imms_encI_u8) rfl (List.length_map ..).symm) ?_
  refine aops_bytesStr l13 tBy122 tStr9 wants_none rfl rfl ?_
  refine fo (rn 2 rfl ?_)
  exact rt h rfl
theorem W115 (F : Nat) (a1 : (List UInt8)) (r : ((Nat → Int) × Bool)) (h : M115 F a1 = some r) : PureG gl Tryd.prog 115 [(sV a1)] (V.tup [(V.agg [(V.con (.int .u8 ((r.1) 0))), (V.con (.int .u8 ((r.1) 1))), (V.con (.int .u8 ((r.1) 2))), (V.con (.int .u8 ((r.1) 3))), (V.con (.int .u8 ((r.1) 4))), (V.con (.int .u8 ((r.1) 5))), (V.con (.int .u8 ((r.1) 6))), (V.con (.int .u8 ((r.1) 7))), (V.con (.int .u8 ((r.1) 8))), (V.con (.int .u8 ((r.1) 9))), (V.con (.int .u8 ((r.1) 10))), (V.con (.int .u8 ((r.1) 11))), (V.con (.int .u8 ((r.1) 12))), (V.con (.int .u8 ((r.1) 13))), (V.con (.int .u8 ((r.1) 14))), (V.con (.int .u8 ((r.1) 15)))]), (bV (r.2))]) := by
  refine pin (fun r => (V.tup [(V.agg [(V.con (.int .u8 ((r.1) 0))), (V.con (.int .u8 ((r.1) 1))), (V.con (.int .u8 ((r.1) 2))), (V.con (.int .u8 ((r.1) 3))), (V.con (.int .u8 ((r.1) 4))), (V.con (.int .u8 ((r.1) 5))), (V.con (.int .u8 ((r.1) 6))), (V.con (.int .u8 ((r.1) 7))), (V.con (.int .u8 ((r.1) 8))), (V.con (.int .u8 ((r.1) 9))), (V.con (.int .u8 ((r.1) 10))), (V.con (.int .u8 ((r.1) 11))), (V.con (.int .u8 ((r.1) 12))), (V.con (.int .u8 ((r.1) 13))), (V.con (.int .u8 ((r.1) 14))), (V.con (.int .u8 ((r.1) 15)))]), (bV (r.2))])) r rfl Tryd.func115 rfl rfl rfl rfl rfl (fun w0 m0 hg => ?_)
  unfold M115 at h
  refine rn 16 rfl ?_
  refine spC h rfl (fun hb2 h => ?_) (fun hb2 h => ?_)
  · refine rn 6 rfl ?_
    exact rt h rfl
  refine rn 8 rfl ?_
  refine jK h (fun (p : (Nat → Int)) => (⟨[(2, (V.ptr 0 16 0 0)), (4, (V.ptr 1 16 0 0))], [(0, (Ob.arr 143 16 [[(V.con (.int .u8 0)), (V.con (.int .u8 0)), (V.con (.int .u8 0)), (V.con (.int .u8 0)), (V.con (.int .u8 0)), (V.con (.int .u8 0)), (V.con (.int .u8 0)), (V.con (.int .u8 0)), (V.con (.int .u8 0)), (V.con (.int .u8 0)), (V.con (.int .u8 0)), (V.con (.int .u8 0)), (V.con (.int .u8 0)), (V.con (.int .u8 0)), (V.con (.int .u8 0)), (V.con (.int .u8 0))]])), (1, (Ob.arr 143 16 [[(V.con (.int .u8 (p 0))), (V.con (.int .u8 (p 1))), (V.con (.int .u8 (p 2))), (V.con (.int .u8 (p 3))), (V.con (.int .u8 (p 4))), (V.con (.int .u8 (p 5))), (V.con (.int .u8 (p 6))), (V.con (.int .u8 (p 7))), (V.con (.int .u8 (p 8))), (V.con (.int .u8 (p 9))), (V.con (.int .u8 (p 10))), (V.con (.int .u8 (p 11))), (V.con (.int .u8 (p 12))), (V.con (.int .u8 (p 13))), (V.con (.int .u8 (p 14))), (V.con (.int .u8 (p 15)))]]))], 2⟩ : St)) (fun k3 (p : (Nat → Int)) => k3 p = some r) (fun k3 h => ?_) ?_
  · refine rn 1 rfl ?_
    refine ck h (fun hA28 h => ?_)
    refine lC (fun (p : Int × (Nat → Int)) => (⟨[(0, (sV a1)), (2, (V.ptr 0 16 0 0)), (4, (V.ptr 1 16 0 0)), (12, (iV (a1.length : Int))), (13, (iV (p.1)))], [(0, (Ob.arr 143 16 [[(V.con (.int .u8 0)), (V.con (.int .u8 0)), (V.con (.int .u8 0)), (V.con (.int .u8 0)), (V.con (.int .u8 0)), (V.con (.int .u8 0)), (V.con (.int .u8 0)), (V.con (.int .u8 0)), (V.con (.int .u8 0)), (V.con (.int .u8 0)), (V.con (.int .u8 0)), (V.con (.int .u8 0)), (V.con (.int .u8 0)), (V.con (.int .u8 0)), (V.con (.int .u8 0)), (V.con (.int .u8 0))]])), (1, (Ob.arr 143 16 [[(V.con (.int .u8 ((p.2) 0))), (V.con (.int .u8 ((p.2) 1))), (V.con (.int .u8 ((p.2) 2))), (V.con (.int .u8 ((p.2) 3))), (V.con (.int .u8 ((p.2) 4))), (V.con (.int .u8 ((p.2) 5))), (V.con (.int .u8 ((p.2) 6))), (V.con (.int .u8 ((p.2) 7))), (V.con (.int .u8 ((p.2) 8))), (V.con (.int .u8 ((p.2) 9))), (V.con (.int .u8 ((p.2) 10))), (V.con (.int .u8 ((p.2) 11))), (V.con (.int .u8 ((p.2) 12))), (V.con (.int .u8 ((p.2) 13))), (V.con (.int .u8 ((p.2) 14))), (V.con (.int .u8 ((p.2) 15)))]]))], 2⟩ : St)) (fun n (p : Int × (Nat → Int)) => RC (a1.length : Int) (fun tl nn => M115_L1 F a1 k3 tl nn p.2 = some r) n p.1) (fun p h => RC.zero h) (Int.toNat (a1.length : Int) + 1) (0, (fun _ => 0)) (RC.start h) (gr [0, 1] rfl (hB rfl rfl rfl (hB rfl rfl rfl .nil)) rfl) (fun n p h => ?_)
    obtain ⟨n7, f8⟩ := p
    refine rn 5 rfl ?_
    refine spL rfl (fun hb9 => ?_) (fun hb9 => ?_)
    · obtain ⟨tl, h, hk1⟩ := RC.t hA28 h hb9
      unfold M115_L1 at h
      refine rn 2 rfl ?_
      refine jK h (fun (p : (Nat → Int)) => (⟨[(0, (sV a1)), (2, (V.ptr 0 16 0 0)), (4, (V.ptr 1 16 0 0)), (12, (iV (a1.length : Int))), (13, (iV n7))], [(0, (Ob.arr 143 16 [[(V.con (.int .u8 0)), (V.con (.int .u8 0)), (V.con (.int .u8 0)), (V.con (.int .u8 0)), (V.con (.int .u8 0)), (V.con (.int .u8 0)), (V.con (.int .u8 0)), (V.con (.int .u8 0)), (V.con (.int .u8 0)), (V.con (.int .u8 0)), (V.con (.int .u8 0)), (V.con (.int .u8 0)), (V.con (.int .u8 0)), (V.con (.int .u8 0)), (V.con (.int .u8 0)), (V.con (.int .u8 0))]])), (1, (Ob.arr 143 16 [[(V.con (.int .u8 (p 0))), (V.con (.int .u8 (p 1))), (V.con (.int .u8 (p 2))), (V.con (.int .u8 (p 3))), (V.con (.int .u8 (p 4))), (V.con (.int .u8 (p 5))), (V.con (.int .u8 (p 6))), (V.con (.int .u8 (p 7))), (V.con (.int .u8 (p 8))), (V.con (.int .u8 (p 9))), (V.con (.int .u8 (p 10))), (V.con (.int .u8 (p 11))), (V.con (.int .u8 (p 12))), (V.con (.int .u8 (p 13))), (V.con (.int .u8 (p 14))), (V.con (.int .u8 (p 15)))]]))], 2⟩ : St)) (fun k10 (p : (Nat → Int)) => k10 p = some r) (fun k10 h => ?_) ?_
      · refine rn 10 rfl ?_
        refine ixs h rfl rfl (fun c12 hx13 h => ?_)
        refine rn 8 rfl ?_
        refine spO 21 h rfl (fun hb14 h => ?_) (fun hb14 h => ?_)
        · refine rn 4 rfl ?_
          refine spO 25 h rfl (fun hb15 h => ?_) (fun hb15 h => ?_)
          · refine rn 9 rfl ?_
            refine spC h rfl (fun hb16 h => ?_) (fun hb16 h => ?_)
            · refine rn 6 rfl ?_
              exact rt h rfl
            refine rn 4 rfl ?_
            refine ck h (fun hc17 h => ?_)
            refine aops_index_arr tArr143 wants_none rfl rfl hc17.1 hc17.2 rfl ?_
            refine aops_store [(V.con (.int .u8 (c12.toNat : Int)))] [[(V.con (.int .u8 ((upd f8 n7.toNat (c12.toNat : Int)) 0))), (V.con (.int .u8 ((upd f8 n7.toNat (c12.toNat : Int)) 1))), (V.con (.int .u8 ((upd f8 n7.toNat (c12.toNat : Int)) 2))), (V.con (.int .u8 ((upd f8 n7.toNat (c12.toNat : Int)) 3))), (V.con (.int .u8 ((upd f8 n7.toNat (c12.toNat : Int)) 4))), (V.con (.int .u8 ((upd f8 n7.toNat (c12.toNat : Int)) 5))), (V.con (.int .u8 ((upd f8 n7.toNat (c12.toNat : Int)) 6))), (V.con (.int .u8 ((upd f8 n7.toNat (c12.toNat : Int)) 7))), (V.con (.int .u8 ((upd f8 n7.toNat (c12.toNat : Int)) 8))), (V.con (.int .u8 ((upd f8 n7.toNat (c12.toNat : Int)) 9))), (V.con (.int .u8 ((upd f8 n7.toNat (c12.toNat : Int)) 10))), (V.con (.int .u8 ((upd f8 n7.toNat (c12.toNat : Int)) 11))), (V.con (.int .u8 ((upd f8 n7.toNat (c12.toNat : Int)) 12))), (V.con (.int .u8 ((upd f8 n7.toNat (c12.toNat : Int)) 13))), (V.con (.int .u8 ((upd f8 n7.toNat (c12.toNat : Int)) 14))), (V.con (.int .u8 ((upd f8 n7.toNat (c12.toNat : Int)) 15)))]] tS5 wants_none rfl rfl rfl rfl rfl rfl (arr_ble hc17.2 (by simp)) (congrArg (fun r => [r]) (arr_set [] [] (fun x => (V.con (.int .u8 x))) f8 (c12.toNat : Int) hc17.2 rfl (by simp))) ?_
            refine fo (rn 2 rfl ?_)
            exact jX (upd f8 n7.toNat (c12.toNat : Int)) h (gr [0, 1] rfl (hB rfl rfl rfl (hB rfl rfl rfl .nil)) rfl)
          refine rn 3 rfl ?_
          refine spO 28 h rfl (fun hb18 h => ?_) (fun hb18 h => ?_)
          · refine rn 6 rfl ?_
            refine spC h rfl (fun hb19 h => ?_) (fun hb19 h => ?_)
            · refine rn 6 rfl ?_
              exact rt h rfl
            refine rn 4 rfl ?_
            refine ck h (fun hc20 h => ?_)
            refine aops_index_arr tArr143 wants_none rfl rfl hc20.1 hc20.2 rfl ?_
            refine aops_store [(V.con (.int .u8 (c12.toNat : Int)))] [[(V.con (.int .u8 ((upd f8 n7.toNat (c12.toNat : Int)) 0))), (V.con (.int .u8 ((upd f8 n7.toNat (c12.toNat : Int)) 1))), (V.con (.int .u8 ((upd f8 n7.toNat (c12.toNat : Int)) 2))), (V.con (.int .u8 ((upd f8 n7.toNat (c12.toNat : Int)) 3))), (V.con (.int .u8 ((upd f8 n7.toNat (c12.toNat : Int)) 4))), (V.con (.int .u8 ((upd f8 n7.toNat (c12.toNat : Int)) 5))), (V.con (.int .u8 ((upd f8 n7.toNat (c12.toNat : Int)) 6))), (V.con (.int .u8 ((upd f8 n7.toNat (c12.toNat : Int)) 7))), (V.con (.int .u8 ((upd f8 n7.toNat (c12.toNat : Int)) 8))), (V.con (.int .u8 ((upd f8 n7.toNat (c12.toNat : Int)) 9))), (V.con (.int .u8 ((upd f8 n7.toNat (c12.toNat : Int)) 10))), (V.con (.int .u8 ((upd f8 n7.toNat (c12.toNat : Int)) 11))), (V.con (.int .u8 ((upd f8 n7.toNat (c12.toNat : Int)) 12))), (V.con (.int .u8 ((upd f8 n7.toNat (c12.toNat : Int)) 13))), (V.con (.int .u8 ((upd f8 n7.toNat (c12.toNat : Int)) 14))), (V.con (.int .u8 ((upd f8 n7.toNat (c12.toNat : Int)) 15)))]] tS5 wants_none rfl rfl rfl rfl rfl rfl (arr_ble hc20.2 (by simp)) (congrArg (fun r => [r]) (arr_set [] [] (fun x => (V.con (.int .u8 x))) f8 (c12.toNat : Int) hc20.2 rfl (by simp))) ?_
            refine fo (rn 2 rfl ?_)
            exact jX (upd f8 n7.toNat (c12.toNat : Int)) h (gr [0, 1] rfl (hB rfl rfl rfl (hB rfl rfl rfl .nil)) rfl)
          refine rn 6 rfl ?_
          refine spC h rfl (fun hb21 h => ?_) (fun hb21 h => ?_)
          · refine rn 6 rfl ?_
            exact rt h rfl
          refine rn 4 rfl ?_
          refine ck h (fun hc22 h => ?_)
          refine aops_index_arr tArr143 wants_none rfl rfl hc22.1 hc22.2 rfl ?_
          refine aops_store [(V.con (.int .u8 (c12.toNat : Int)))] [[(V.con (.int .u8 ((upd f8 n7.toNat (c12.toNat : Int)) 0))), (V.con (.int .u8 ((upd f8 n7.toNat (c12.toNat : Int)) 1))), (V.con (.int .u8 ((upd f8 n7.toNat (c12.toNat : Int)) 2))), (V.con (.int .u8 ((upd f8 n7.toNat (c12.toNat : Int)) 3))), (V.con (.int .u8 ((upd f8 n7.toNat (c12.toNat : Int)) 4))), (V.con (.int .u8 ((upd f8 n7.toNat (c12.toNat : Int)) 5))), (V.con (.int .u8 ((upd f8 n7.toNat (c12.toNat : Int)) 6))), (V.con (.int .u8 ((upd f8 n7.toNat (c12.toNat : Int)) 7))), (V.con (.int .u8 ((upd f8 n7.toNat (c12.toNat : Int)) 8))), (V.con (.int .u8 ((upd f8 n7.toNat (c12.toNat : Int)) 9))), (V.con (.int .u8 ((upd f8 n7.toNat (c12.toNat : Int)) 10))), (V.con (.int .u8 ((upd f8 n7.toNat (c12.toNat : Int)) 11))), (V.con (.int .u8 ((upd f8 n7.toNat (c12.toNat : Int)) 12))), (V.con (.int .u8 ((upd f8 n7.toNat (c12.toNat : Int)) 13))), (V.con (.int .u8 ((upd f8 n7.toNat (c12.toNat : Int)) 14))), (V.con (.int .u8 ((upd f8 n7.toNat (c12.toNat : Int)) 15)))]] tS5 wants_none rfl rfl rfl rfl rfl rfl (arr_ble hc22.2 (by simp)) (congrArg (fun r => [r]) (arr_set [] [] (fun x => (V.con (.int .u8 x))) f8 (c12.toNat : Int) hc22.2 rfl (by simp))) ?_
          refine fo (rn 2 rfl ?_)
          exact jX (upd f8 n7.toNat (c12.toNat : Int)) h (gr [0, 1] rfl (hB rfl rfl rfl (hB rfl rfl rfl .nil)) rfl)
        refine rn 7 rfl ?_
        refine spO 28 h rfl (fun hb23 h => ?_) (fun hb23 h => ?_)
        · refine rn 6 rfl ?_
          refine spC h rfl (fun hb24 h => ?_) (fun hb24 h => ?_)
          · refine rn 6 rfl ?_
            exact rt h rfl
          refine rn 4 rfl ?_
          refine ck h (fun hc25 h => ?_)
          refine aops_index_arr tArr143 wants_none rfl rfl hc25.1 hc25.2 rfl ?_
          refine aops_store [(V.con (.int .u8 (c12.toNat : Int)))] [[(V.con (.int .u8 ((upd f8 n7.toNat (c12.toNat : Int)) 0))), (V.con (.int .u8 ((upd f8 n7.toNat (c12.toNat : Int)) 1))), (V.con (.int .u8 ((upd f8 n7.toNat (c12.toNat : Int)) 2))), (V.con (.int .u8 ((upd f8 n7.toNat (c12.toNat : Int)) 3))), (V.con (.int .u8 ((upd f8 n7.toNat (c12.toNat : Int)) 4))), (V.con (.int .u8 ((upd f8 n7.toNat (c12.toNat : Int)) 5))), (V.con (.int .u8 ((upd f8 n7.toNat (c12.toNat : Int)) 6))), (V.con (.int .u8 ((upd f8 n7.toNat (c12.toNat : Int)) 7))), (V.con (.int .u8 ((upd f8 n7.toNat (c12.toNat : Int)) 8))), (V.con (.int .u8 ((upd f8 n7.toNat (c12.toNat : Int)) 9))), (V.con (.int .u8 ((upd f8 n7.toNat (c12.toNat : Int)) 10))), (V.con (.int .u8 ((upd f8 n7.toNat (c12.toNat : Int)) 11))), (V.con (.int .u8 ((upd f8 n7.toNat (c12.toNat : Int)) 12))), (V.con (.int .u8 ((upd f8 n7.toNat (c12.toNat : Int)) 13))), (V.con (.int .u8 ((upd f8 n7.toNat (c12.toNat : Int)) 14))), (V.con (.int .u8 ((upd f8 n7.toNat (c12.toNat : Int)) 15)))]] tS5 wants_none rfl rfl rfl rfl rfl rfl (arr_ble hc25.2 (by simp)) (congrArg (fun r => [r]) (arr_set [] [] (fun x => (V.con (.int .u8 x))) f8 (c12.toNat : Int) hc25.2 rfl (by simp))) ?_
          refine fo (rn 2 rfl ?_)
          exact jX (upd f8 n7.toNat (c12.toNat : Int)) h (gr [0, 1] rfl (hB rfl rfl rfl (hB rfl rfl rfl .nil)) rfl)
        refine rn 6 rfl ?_
        refine spC h rfl (fun hb26 h => ?_) (fun hb26 h => ?_)
        · refine rn 6 rfl ?_
          exact rt h rfl
        refine rn 4 rfl ?_
        refine ck h (fun hc27 h => ?_)
        refine aops_index_arr tArr143 wants_none rfl rfl hc27.1 hc27.2 rfl ?_
        refine aops_store [(V.con (.int .u8 (c12.toNat : Int)))] [[(V.con (.int .u8 ((upd f8 n7.toNat (c12.toNat : Int)) 0))), (V.con (.int .u8 ((upd f8 n7.toNat (c12.toNat : Int)) 1))), (V.con (.int .u8 ((upd f8 n7.toNat (c12.toNat : Int)) 2))), (V.con (.int .u8 ((upd f8 n7.toNat (c12.toNat : Int)) 3))), (V.con (.int .u8 ((upd f8 n7.toNat (c12.toNat : Int)) 4))), (V.con (.int .u8 ((upd f8 n7.toNat (c12.toNat : Int)) 5))), (V.con (.int .u8 ((upd f8 n7.toNat (c12.toNat : Int)) 6))), (V.con (.int .u8 ((upd f8 n7.toNat (c12.toNat : Int)) 7))), (V.con (.int .u8 ((upd f8 n7.toNat (c12.toNat : Int)) 8))), (V.con (.int .u8 ((upd f8 n7.toNat (c12.toNat : Int)) 9))), (V.con (.int .u8 ((upd f8 n7.toNat (c12.toNat : Int)) 10))), (V.con (.int .u8 ((upd f8 n7.toNat (c12.toNat : Int)) 11))), (V.con (.int .u8 ((upd f8 n7.toNat (c12.toNat : Int)) 12))), (V.con (.int .u8 ((upd f8 n7.toNat (c12.toNat : Int)) 13))), (V.con (.int .u8 ((upd f8 n7.toNat (c12.toNat : Int)) 14))), (V.con (.int .u8 ((upd f8 n7.toNat (c12.toNat : Int)) 15)))]] tS5 wants_none rfl rfl rfl rfl rfl rfl (arr_ble hc27.2 (by simp)) (congrArg (fun r => [r]) (arr_set [] [] (fun x => (V.con (.int .u8 x))) f8 (c12.toNat : Int) hc27.2 rfl (by simp))) ?_
        refine fo (rn 2 rfl ?_)
        exact jX (upd f8 n7.toNat (c12.toNat : Int)) h (gr [0, 1] rfl (hB rfl rfl rfl (hB rfl rfl rfl .nil)) rfl)
      intro f11 h
      refine rn 4 rfl ?_
      exact jX ((w64 (n7 + 1)), f11) (hk1 _ h) (gr [0, 1] rfl (hB rfl rfl rfl (hB rfl rfl rfl .nil)) rfl)
    replace h := RC.f h hb9
    unfold M115_L1 at h
    refine rn 1 rfl ?_
    exact jX f8 h (gr [0, 1] rfl (hB rfl rfl rfl (hB rfl rfl rfl .nil)) rfl)
  intro f4 h
  refine rn 6 rfl ?_
  exact rt h rfl
theorem W73 (F : Nat) (a1 : (List UInt8)) (r : Bool) (h : M73 F a1 = some r) : PureG gl Tryd.prog 73 [(sV a1)] (bV r) := by
  refine pin (fun r => (bV r)) r rfl Tryd.func73 rfl rfl rfl rfl rfl (fun w0 m0 hg => ?_)
  unfold M73 at h
  refine rn 7 rfl ?_
  refine cl h rfl rfl rfl (W115 _ _) rfl (fun y2 hx3 h => ?_)
  refine rn 12 rfl ?_
  exact rt h rfl
theorem W76 (F : Nat) (a1 : (List UInt8)) (a2 : (List UInt8)) (r : Bool) (h : M76 F a1 a2 = some r) : PureG gl Tryd.prog 76 [(sV a1), (sV a2)] (bV r) := by
  refine pin (fun r => (bV r)) r rfl Tryd.func76 rfl rfl rfl rfl rfl (fun w0 m0 hg => ?_)
  unfold M76 at h
  refine rn 7 rfl ?_
  refine cl h rfl rfl rfl (W115 _ _) rfl (fun y3 hx4 h => ?_)
  refine rn 10 rfl ?_
  refine cl h rfl rfl rfl (W115 _ _) rfl (fun y5 hx6 h => ?_)
  refine rn 11 rfl ?_
  refine spO 20 h rfl (fun hb7 h => ?_) (fun hb7 h => ?_)
  · refine rn 3 rfl ?_
    refine spO 23 h rfl (fun hb8 h => ?_) (fun hb8 h => ?_)
    · refine rn 2 rfl ?_
      refine ck h (fun hc9 h => ?_)
      refine aops_eqBytes (n := 16) false (y3.1) (y5.1) tAB143 hc9.1 hc9.2 (wants_some (c := true) (b := true) 23 rfl rfl rfl) rfl rfl rfl rfl rfl ?_
      refine fo (rn 3 rfl ?_)
      exact rt h rfl
    refine rn 6 rfl ?_
    exact rt h rfl
  refine rn 9 rfl ?_
  exact rt h rfl
theorem W65 (F : Nat) (a1 : TKey) (a2 : (List UInt8)) (a3 : Bool) (r : Int) (h : M65 F a1 a2 a3 = some r) : PureG gl Tryd.prog 65 [(V.agg (encTKey a1)), (sV a2), (bV a3)] (iV r) := by
  refine pin (fun r => (iV r)) r rfl Tryd.func65 rfl rfl rfl rfl rfl (fun w0 m0 hg => ?_)
  unfold M65 at h
  refine rn 11 rfl ?_
  refine cl h rfl rfl rfl (W61 _ _) rfl (fun y4 hx5 h => ?_)
  refine rn 3 rfl ?_
  refine jK h (fun _ : Unit => (⟨[], [], 0⟩ : St)) (fun k6 (_ : Unit) => k6 = some r) (fun k6 h => ?_) ?_
  · refine spC h rfl (fun hb7 h => ?_) (fun hb7 h => ?_)
    · refine rn 4 rfl ?_
      exact rt h rfl
    obtain ⟨y8, hx9, h⟩ := bind_some h
    refine rn 1 rfl ?_
    refine bs h (fun hb10 h => ?_) (fun hb10 h => ?_)
    · refine dr mixed (vs 2 rfl (cD rfl rfl rfl rfl (W73 _ _ _ hx9) rfl (vs 1 rfl (vb hb10 rfl (vs 12 rfl .nil))))) (by kernel_rfl) ?_
      refine rn 5 rfl ?_
      exact rt h rfl
    refine bs h (fun hb11 h => ?_) (fun hb11 h => ?_)
    · obtain ⟨y12, hx13, h⟩ := bind_some h
      obtain ⟨y14, hx15, h⟩ := bind_some h
      refine dr mixed (vs 2 rfl (cD rfl rfl rfl rfl (W73 _ _ _ hx9) rfl (vs 1 rfl (vb hb10 rfl (vs 1 rfl (vb hb11 rfl (vs 4 rfl (cD rfl rfl rfl rfl (W62 _ _ _ hx13) rfl (cD rfl rfl rfl rfl (W76 _ _ _ _ hx15) rfl (vs 4 rfl .nil)))))))))) (by kernel_rfl) ?_
      refine spC h rfl (fun hb16 h => ?_) (fun hb16 h => ?_)
      · refine rn 4 rfl ?_
        exact rt h rfl
      refine rn 7 rfl ?_
      refine spC h rfl (fun hb17 h => ?_) (fun hb17 h => ?_)
      · refine rn 4 rfl ?_
        exact rt h rfl
      refine rn 1 rfl ?_
      exact jX () h (g0 rfl rfl)
    refine dr mixed (vs 2 rfl (cD rfl rfl rfl rfl (W73 _ _ _ hx9) rfl (vs 1 rfl (vb hb10 rfl (vs 1 rfl (vb hb11 rfl (vs 10 rfl .nil))))))) (by kernel_rfl) ?_
    refine rn 8 rfl ?_
    refine spC h rfl (fun hb18 h => ?_) (fun hb18 h => ?_)
    · refine rn 4 rfl ?_
      exact rt h rfl
    refine rn 1 rfl ?_
    exact jX () h (g0 rfl rfl)
  intro _ h
  refine rn 5 rfl ?_
  exact rt h rfl
theorem W66 (F : Nat) (a1 : TKey) (a2 : (List UInt8)) (r : TSignature) (h : M66 F a1 a2 = some r) : PureG gl Tryd.prog 66 [(V.agg (encTKey a1)), (sV a2)] (V.agg (encTSignature r)) := by
  refine pin (fun r => (V.agg (encTSignature r))) r rfl Tryd.func66 rfl rfl rfl rfl rfl (fun w0 m0 hg => ?_)
  unfold M66 at h
  refine rn 6 rfl ?_
  refine ck h (fun hc3 h => ?_)
  refine ck h (fun hc4 h => ?_)
  obtain ⟨y5, hx6, h⟩ := bind_some h
  refine dr mixed (vs 4 rfl (xD (OD.mk [(8, (sV a1.Public))] [] [(9, (sV (a1.Public ++ ([10] : List UInt8))))] []) ⟨⟨rfl, trivial⟩, trivial⟩ (by exact fun S hn h hh => aops_binT (str (a1.Public ++ ([10] : List UInt8))) wants_none h.1 rfl (if_pos hc3) rfl (aops_nil ⟨rfl, rfl⟩)) rfl (vs 1 rfl (xD (OD.mk [(9, (sV (a1.Public ++ ([10] : List UInt8)))), (10, (sV a2))] [] [(11, (sV ((a1.Public ++ ([10] : List UInt8)) ++ a2)))] []) ⟨⟨rfl, rfl, trivial⟩, trivial⟩ (by exact fun S hn h hh => aops_binT (str ((a1.Public ++ ([10] : List UInt8)) ++ a2)) wants_none h.1 h.2.1 (if_pos hc4) rfl (aops_nil ⟨rfl, rfl⟩)) rfl (cD rfl rfl rfl rfl (W114 _ _ _ hx6) rfl (vs 2 rfl .nil)))))) (by kernel_rfl) ?_
  exact rt h rfl
theorem W14 (F : Nat) (a1 : TKey) (a2 : (List UInt8)) (r : (TSignature × Int)) (h : M14 F a1 a2 = some r) : PureG gl Tryd.prog 14 [(V.agg (encTKey a1)), (sV a2)] (V.tup [(V.agg (encTSignature (r.1))), (iV (r.2))]) := by
  refine pin (fun r => (V.tup [(V.agg (encTSignature (r.1))), (iV (r.2))])) r rfl Tryd.func14 rfl rfl rfl rfl rfl (fun w0 m0 hg => ?_)
  unfold M14 at h
  refine rn 11 rfl ?_
  refine cl h rfl rfl rfl (W65 _ _ _ _) rfl (fun y3 hx4 h => ?_)
  refine rn 7 rfl ?_
  refine spC h rfl (fun hb5 h => ?_) (fun hb5 h => ?_)
  · refine rn 7 rfl ?_
    exact rt h rfl
  refine rn 5 rfl ?_
  refine cl h rfl rfl rfl (W66 _ _ _) rfl (fun y6 hx7 h => ?_)
  refine rn 3 rfl ?_
  exact rt h rfl
theorem W118 (F : Nat) (a1 : (List UInt8)) (a2 : Int) (r : Bool) (h : M118 F a1 a2 = some r) : PureG gl Tryd.prog 118 [(sV a1), (iV a2)] (bV r) := by
  refine pin (fun r => (bV r)) r rfl Tryd.func118 rfl rfl rfl rfl rfl (fun w0 m0 hg => ?_)
  unfold M118 at h
  refine rn 9 rfl ?_
  refine jK h (fun _ : Unit => (⟨[(0, (sV a1)), (1, (iV a2))], [], 0⟩ : St)) (fun k3 (_ : Unit) => k3 = some r) (fun k3 h => ?_) ?_
  · refine rn 1 rfl ?_
    refine ck h (fun hA29 h => ?_)
    refine lC (fun (p : Int) => (⟨[(0, (sV a1)), (1, (iV a2)), (5, (iV p))], [], 0⟩ : St)) (fun n (p : Int) => RC (a1.length : Int) (fun tl nn => M118_L1 F a1 k3 tl nn = some r) n p) (fun p h => RC.zero h) (Int.toNat (a1.length : Int) + 1) 0 (RC.start h) (g0 rfl rfl) (fun n n5 h => ?_)
    refine rn 8 rfl ?_
    refine spL rfl (fun hb6 => ?_) (fun hb6 => ?_)
    · obtain ⟨tl, h, hk1⟩ := RC.t hA29 h hb6
      unfold M118_L1 at h
      refine rn 2 rfl ?_
      refine jK h (fun _ : Unit => (⟨[(0, (sV a1)), (1, (iV a2)), (5, (iV n5))], [], 0⟩ : St)) (fun k7 (_ : Unit) => k7 = some r) (fun k7 h => ?_) ?_
      · refine rn 5 rfl ?_
        refine ixs h rfl rfl (fun c8 hx9 h => ?_)
        refine rn 2 rfl ?_
        refine spO 16 h rfl (fun hb10 h => ?_) (fun hb10 h => ?_)
        · refine rn 2 rfl ?_
          refine ixs h rfl rfl (fun c11 hx12 h => ?_)
          refine rn 3 rfl ?_
          refine spO 22 h rfl (fun hb13 h => ?_) (fun hb13 h => ?_)
          · refine rn 13 rfl ?_
            refine spC h rfl (fun hb14 h => ?_) (fun hb14 h => ?_)
            · refine rn 4 rfl ?_
              exact rt h rfl
            refine rn 2 rfl ?_
            exact jX () h (g0 rfl rfl)
          refine rn 2 rfl ?_
          refine ixs h rfl rfl (fun c15 hx16 h => ?_)
          refine rn 2 rfl ?_
          refine spO 27 h rfl (fun hb17 h => ?_) (fun hb17 h => ?_)
          · refine rn 2 rfl ?_
            refine ixs h rfl rfl (fun c18 hx19 h => ?_)
            refine rn 5 rfl ?_
            refine spC h rfl (fun hb20 h => ?_) (fun hb20 h => ?_)
            · refine rn 4 rfl ?_
              exact rt h rfl
            refine rn 2 rfl ?_
            exact jX () h (g0 rfl rfl)
          refine rn 8 rfl ?_
          refine spC h rfl (fun hb21 h => ?_) (fun hb21 h => ?_)
          · refine rn 4 rfl ?_
            exact rt h rfl
          refine rn 2 rfl ?_
          exact jX () h (g0 rfl rfl)
        refine rn 8 rfl ?_
        refine ixs h rfl rfl (fun c22 hx23 h => ?_)
        refine rn 2 rfl ?_
        refine spO 27 h rfl (fun hb24 h => ?_) (fun hb24 h => ?_)
        · refine rn 2 rfl ?_
          refine ixs h rfl rfl (fun c25 hx26 h => ?_)
          refine rn 5 rfl ?_
          refine spC h rfl (fun hb27 h => ?_) (fun hb27 h => ?_)
          · refine rn 4 rfl ?_
            exact rt h rfl
          refine rn 2 rfl ?_
          exact jX () h (g0 rfl rfl)
        refine rn 8 rfl ?_
        refine spC h rfl (fun hb28 h => ?_) (fun hb28 h => ?_)
        · refine rn 4 rfl ?_
          exact rt h rfl
        refine rn 2 rfl ?_
        exact jX () h (g0 rfl rfl)
      intro _ h
      refine rn 5 rfl ?_
      exact jX (w64 (n5 + 1)) (hk1 _ h) (g0 rfl rfl)
    replace h := RC.f h hb6
    unfold M118_L1 at h
    refine rn 1 rfl ?_
    exact jX () h (g0 rfl rfl)
  intro _ h
  refine rn 8 rfl ?_
  exact rt h rfl
theorem W77 (F : Nat) (a1 : (List UInt8)) (r : Bool) (h : M77 F a1 = some r) : PureG gl Tryd.prog 77 [(sV a1)] (bV r) := by
  refine pin (fun r => (bV r)) r rfl Tryd.func77 rfl rfl rfl rfl rfl (fun w0 m0 hg => ?_)
  unfold M77 at h
  refine rn 7 rfl ?_
  refine cl h rfl rfl rfl (W118 _ _ _) rfl (fun y2 hx3 h => ?_)
  refine rn 2 rfl ?_
  exact rt h rfl
theorem W16 (F : Nat) (a1 : TKey) (a2 : (List UInt8)) (a3 : TSignature) (r : (Bool × Int)) (h : M16 F a1 a2 a3 = some r) : PureG gl Tryd.prog 16 [(V.agg (encTKey a1)), (sV a2), (V.agg (encTSignature a3))] (V.tup [(bV (r.1)), (iV (r.2))]) := by
  refine pin (fun r => (V.tup [(bV (r.1)), (iV (r.2))])) r rfl Tryd.func16 rfl rfl rfl rfl rfl (fun w0 m0 hg => ?_)
  unfold M16 at h
  refine rn 12 rfl ?_
  refine cl h rfl rfl rfl (W65 _ _ _ _) rfl (fun y4 hx5 h => ?_)
  refine rn 7 rfl ?_
  refine spC h rfl (fun hb6 h => ?_) (fun hb6 h => ?_)
  · refine rn 6 rfl ?_
    exact rt h rfl
  obtain ⟨y7, hx8, h⟩ := bind_some h
  refine rn 2 rfl ?_
  refine dr mixed (vs 2 rfl (cD rfl rfl rfl rfl (W66 _ _ _ _ hx8) rfl (vs 1 rfl (xD (OD.mk [(17, (V.agg (encTSignature y7))), (18, (V.agg (encTSignature a3)))] [] [(19, (bV (decide (y7 = a3))))] []) ⟨⟨rfl, rfl, trivial⟩, trivial⟩ (by exact fun S hn h hh => aops_eqS false (xs := cv25 y7) (ys := cv25 a3) (b := (decide (y7 = a3))) eqk25 ⟨_, rfl⟩ ⟨_, rfl⟩ (eq_b cv25 _ _ (inj_cv25 _ _)) tEqG25 wants_none h.1 h.2.1 rfl (aops_nil ⟨rfl, rfl⟩)) rfl (vs 2 rfl .nil))))) (by kernel_rfl) ?_
  exact rt h rfl
theorem W18 (F : Nat) (r : Bool) (h : M18 F  = some r) : PureG gl Tryd.prog 18 [] (bV r) := by
  refine pin (fun r => (bV r)) r rfl Tryd.func18 rfl rfl rfl rfl rfl (fun w0 m0 hg => ?_)
  unfold M18 at h
  refine rn 6 rfl ?_
  refine cl h rfl rfl rfl (W12 _ _ _) rfl (fun y1 hx2 h => ?_)
  refine rn 10 rfl ?_
  refine cl h rfl rfl rfl (W14 _ _ _) rfl (fun y3 hx4 h => ?_)
  refine rn 11 rfl ?_
  refine cl h rfl rfl rfl (W16 _ _ _ _) rfl (fun y5 hx6 h => ?_)
  refine rn 11 rfl ?_
  refine spO 24 h rfl (fun hb7 h => ?_) (fun hb7 h => ?_)
  · refine rn 4 rfl ?_
    refine spO 28 h rfl (fun hb8 h => ?_) (fun hb8 h => ?_)
    · refine rn 4 rfl ?_
      refine spO 32 h rfl (fun hb9 h => ?_) (fun hb9 h => ?_)
      · refine rn 3 rfl ?_
        refine spO 35 h rfl (fun hb10 h => ?_) (fun hb10 h => ?_)
        · refine rn 5 rfl ?_
          refine spO 40 h rfl (fun hb11 h => ?_) (fun hb11 h => ?_)
          · refine rn 6 rfl ?_
            exact rt h rfl
          refine rn 6 rfl ?_
          exact rt h rfl
        refine rn 11 rfl ?_
        exact rt h rfl
      refine rn 14 rfl ?_
      exact rt h rfl
    refine rn 18 rfl ?_
    exact rt h rfl
  refine rn 22 rfl ?_
  exact rt h rfl
end Go.Proofs.YtihfhmibfhkoeaaDoor
