/- Part of the proof: C3W3a. -/
import Derived.Test.YtkeeppclihjlhaaGreatDoorRPvX
import Derived.Test.YtkeeppclihjlhaaGreatDoorRC3Sh
import Derived.Test.YtkeeppclihjlhaaGreatDoorRL9E
import Derived.KernelRfl
namespace Go.Proofs.YtkeeppclihjlhaaGreatDoor
open Go Go.Pv
set_option linter.unusedVariables false
set_option maxRecDepth 100000
theorem W40_B (R40 : TTest → Int → Option (Int × Int)) (hR40 : ∀ (a1 : TTest) (a2 : Int) (r : (Int × Int)), R40 a1 a2 = some r → Pure Tryz.prog 40 [(V.agg (encTTest a1)), (iV a2)] (V.tup [(iV (r.1)), (iV (r.2))])) (F : Nat) (a1 : TTest) (a2 : Int) (r : (Int × Int)) (h : M40_B R40 F a1 a2 = some r) : Pure Tryz.prog 40 [(V.agg (encTTest a1)), (iV a2)] (V.tup [(iV (r.1)), (iV (r.2))]) := by
 refine pin (fun r => (V.tup [(iV (r.1)), (iV (r.2))])) r rfl Tryz.func40 rfl rfl rfl rfl rfl (fun w0 m0 hg => ?_)
 unfold M40_B at h
 refine rn 18 rfl ?_
 refine spC h rfl (fun hb3 h => ?_) (fun hb3 h => ?_)
 ·refine rn 7 rfl ?_
  exact rt h rfl
 refine rn 6 rfl ?_
 refine ln rfl rfl ?_
 refine rn 2 rfl ?_
 refine jK h (fun (p : Int × Int) => (⟨[(4, (iV (p.1))), (5, (iV (p.2)))], [], 0⟩ : St)) (fun k4 p => k4 p.1 p.2 = some r) (fun k4 h => ?_) ?_
 ·refine rn 1 rfl ?_
  refine wl (A := a1.Kids) 16 rfl (fun hA20 => ?_)
  refine lC (fun (p : Int × Int × Int) => (⟨[(1, (iV a2)), (4, (iV (p.1))), (5, (iV (p.2.1))), (16, (V.lst 6 (a1.Kids.map KRow.row))), (17, (iV ((a1.Kids.length : Nat) : Int))), (18, (iV (p.2.2)))], [], 0⟩ : St)) (fun n p => RG a1.Kids (fun tl nn => M40_L1 R40 F a2 k4 tl p.1 p.2.1 = some r) n p.2.2) (fun p h => RG.zero h) (a1.Kids.length + 1) (1, a2, 0) (RG.start h) (g0 rfl rfl) (fun n p h => ?_)
  obtain ⟨n10, n11, n12⟩ := p
  refine rn 5 rfl ?_
  refine spL rfl (fun hb13 => ?_) (fun hb13 => ?_)
  ·obtain ⟨x14, tl, hx15, h, hk1⟩ := RG.t hA20 h hb13
   unfold M40_L1 at h
   refine rn 5 rfl ?_
   refine ixh hx15 rfl rfl ?_
   obtain ⟨y16, hx17, h⟩ := bind_some h
   refine kroO 20 hx17 rfl ?_
   refine rn 9 rfl ?_
   refine cl h rfl rfl rfl (hR40 _ _) rfl (fun y18 hx19 h => ?_)
   refine rn 22 rfl ?_
   exact jX ((if 61 < (w64 (n10 + (y18.1))) then 61 else (w64 (n10 + (y18.1)))), (if (y18.2) > n11 then (y18.2) else n11), (w64 (n12 + 1))) (hk1 _ h) (g0 rfl rfl)
  replace h := RG.f h hb13
  unfold M40_L1 at h
  refine rn 1 rfl ?_
  exact jX (n10, n11) h (g0 rfl rfl)
 rintro ⟨n5, n6⟩ h
 refine rn 7 rfl ?_
 exact rt h rfl
theorem W40 : ∀ (F : Nat) (a1 : TTest) (a2 : Int) (r : (Int × Int)) (h : M40 F a1 a2 = some r), Pure Tryz.prog 40 [(V.agg (encTTest a1)), (iV a2)] (V.tup [(iV (r.1)), (iV (r.2))]) := by
 intro F
 induction F with
 | zero => intros; simp [M40] at *
 | succ F ih => exact fun a1 a2 r h => W40_B (M40 F) ih F a1 a2 r h
theorem W65 (F : Nat) (r : (Nat → Tpolicy_uses)) (h : M65 F  = some r) : Pure Tryz.prog 65 [] (V.agg [(bV (r 0).name), (bV (r 0).texts), (bV (r 0).number), (iV (r 0).kids), (bV (r 1).name), (bV (r 1).texts), (bV (r 1).number), (iV (r 1).kids), (bV (r 2).name), (bV (r 2).texts), (bV (r 2).number), (iV (r 2).kids), (bV (r 3).name), (bV (r 3).texts), (bV (r 3).number), (iV (r 3).kids), (bV (r 4).name), (bV (r 4).texts), (bV (r 4).number), (iV (r 4).kids), (bV (r 5).name), (bV (r 5).texts), (bV (r 5).number), (iV (r 5).kids), (bV (r 6).name), (bV (r 6).texts), (bV (r 6).number), (iV (r 6).kids), (bV (r 7).name), (bV (r 7).texts), (bV (r 7).number), (iV (r 7).kids), (bV (r 8).name), (bV (r 8).texts), (bV (r 8).number), (iV (r 8).kids)]) := by
 refine pin (fun r => (V.agg [(bV (r 0).name), (bV (r 0).texts), (bV (r 0).number), (iV (r 0).kids), (bV (r 1).name), (bV (r 1).texts), (bV (r 1).number), (iV (r 1).kids), (bV (r 2).name), (bV (r 2).texts), (bV (r 2).number), (iV (r 2).kids), (bV (r 3).name), (bV (r 3).texts), (bV (r 3).number), (iV (r 3).kids), (bV (r 4).name), (bV (r 4).texts), (bV (r 4).number), (iV (r 4).kids), (bV (r 5).name), (bV (r 5).texts), (bV (r 5).number), (iV (r 5).kids), (bV (r 6).name), (bV (r 6).texts), (bV (r 6).number), (iV (r 6).kids), (bV (r 7).name), (bV (r 7).texts), (bV (r 7).number), (iV (r 7).kids), (bV (r 8).name), (bV (r 8).texts), (bV (r 8).number), (iV (r 8).kids)])) r rfl Tryz.func65 rfl rfl rfl rfl rfl (fun w0 m0 hg => ?_)
 unfold M65 at h
 refine rn 13 rfl ?_
 refine aops_buildA [(2, (V.agg [(bV true), (bV true), (bV false), (iV 0)])), (3, (V.agg [(bV true), (bV true), (bV false), (iV 0)])), (4, (V.agg [(bV true), (bV false), (bV false), (iV 0)])), (5, (V.agg [(bV true), (bV false), (bV true), (iV 0)])), (6, (V.agg [(bV false), (bV false), (bV false), (iV 1)])), (7, (V.agg [(bV false), (bV false), (bV false), (iV (-1))])), (8, (V.agg [(bV false), (bV false), (bV false), (iV (-1))]))] [(bV false), (bV false), (bV false), (iV 0), (bV false), (bV false), (bV false), (iV 0), (bV true), (bV true), (bV false), (iV 0), (bV true), (bV true), (bV false), (iV 0), (bV true), (bV false), (bV false), (iV 0), (bV true), (bV false), (bV true), (iV 0), (bV false), (bV false), (bV false), (iV 1), (bV false), (bV false), (bV false), (iV (-1)), (bV false), (bV false), (bV false), (iV (-1))] tZ127 tArr127 rfl wants_none (evp_cons rfl (evp_cons rfl (evp_cons rfl (evp_cons rfl (evp_cons rfl (evp_cons rfl (evp_cons rfl evp_nil))))))) rfl rfl ?_
 refine fo (rn 2 rfl ?_)
 exact rt h rfl
theorem W66 (F : Nat) (a1 : TTest) (r : Bool) (h : M66 F a1 = some r) : Pure Tryz.prog 66 [(V.agg (encTTest a1))] (bV r) := by
 refine pin (fun r => (bV r)) r rfl Tryz.func66 rfl rfl rfl rfl rfl (fun w0 m0 hg => ?_)
 unfold M66 at h
 obtain ⟨y2, hx3, h⟩ := bind_some h
 refine rn 6 rfl ?_
 refine ck h (fun hc4 h => ?_)
 refine awp_ghost ghost_res ?_
 refine fa ?_
 refine dr mixed (cD rfl rfl rfl rfl (W65 _ _ hx3) rfl (vs 2 rfl (xD (OD.mk [(4, (V.agg [(bV (y2 0).name), (bV (y2 0).texts), (bV (y2 0).number), (iV (y2 0).kids), (bV (y2 1).name), (bV (y2 1).texts), (bV (y2 1).number), (iV (y2 1).kids), (bV (y2 2).name), (bV (y2 2).texts), (bV (y2 2).number), (iV (y2 2).kids), (bV (y2 3).name), (bV (y2 3).texts), (bV (y2 3).number), (iV (y2 3).kids), (bV (y2 4).name), (bV (y2 4).texts), (bV (y2 4).number), (iV (y2 4).kids), (bV (y2 5).name), (bV (y2 5).texts), (bV (y2 5).number), (iV (y2 5).kids), (bV (y2 6).name), (bV (y2 6).texts), (bV (y2 6).number), (iV (y2 6).kids), (bV (y2 7).name), (bV (y2 7).texts), (bV (y2 7).number), (iV (y2 7).kids), (bV (y2 8).name), (bV (y2 8).texts), (bV (y2 8).number), (iV (y2 8).kids)])), (6, (iV a1.Kind))] [] [(7, (V.agg (encTpolicy_uses (y2 a1.Kind.toNat))))] []) ⟨⟨rfl, rfl, trivial⟩, trivial⟩ (by exact fun S hn h hh => aops_indexA (encTpolicy_uses (y2 a1.Kind.toNat)) tAA127 wants_none h.1 h.2.1 hc4 rfl (arr_row (f := y2) rfl (fun x => rfl) hc4.2) rfl (aops_nil ⟨rfl, rfl⟩)) rfl (xD (OD.mk [] [(1, Ob.res)] [(3, (V.ptr 1 4 0 0))] [(1, (Ob.arr 126 4 [[(bV false), (bV false), (bV false), (iV 0)]]))]) ⟨trivial, ⟨rfl, trivial⟩⟩ (by exact fun S hn h hh => aops_alloc_at 1 rfl hn hh.1 tZ126 rfl rfl wants_none rfl (aops_nil ⟨rfl, rfl⟩)) rfl (vs 1 rfl .nil))))) (by kernel_rfl) ?_
 refine rn 7 rfl ?_
 refine spO 11 h rfl (fun hb5 h => ?_) (fun hb5 h => ?_)
 ·refine rn 5 rfl ?_
  refine spO 16 h rfl (fun hb6 h => ?_) (fun hb6 h => ?_)
  ·refine rn 31 rfl ?_
   exact rt h rfl
  refine rn 4 rfl ?_
  refine spO 20 h rfl (fun hb7 h => ?_) (fun hb7 h => ?_)
  ·refine rn 2 rfl ?_
   refine ln rfl rfl ?_
   refine rn 4 rfl ?_
   refine spO 27 h rfl (fun hb8 h => ?_) (fun hb8 h => ?_)
   ·refine rn 20 rfl ?_
    exact rt h rfl
   refine rn 4 rfl ?_
   refine spO 31 h rfl (fun hb9 h => ?_) (fun hb9 h => ?_)
   ·refine rn 4 rfl ?_
    refine spO 35 h rfl (fun hb10 h => ?_) (fun hb10 h => ?_)
    ·refine rn 12 rfl ?_
     exact rt h rfl
    refine rn 7 rfl ?_
    refine spC h rfl (fun hb11 h => ?_) (fun hb11 h => ?_)
    ·refine rn 4 rfl ?_
     exact rt h rfl
    refine rn 8 rfl ?_
    refine spC h rfl (fun hb12 h => ?_) (fun hb12 h => ?_)
    ·refine rn 4 rfl ?_
     refine ln rfl rfl ?_
     refine rn 3 rfl ?_
     exact rt h rfl
    refine rn 5 rfl ?_
    refine ln rfl rfl ?_
    refine rn 5 rfl ?_
    exact rt h rfl
   refine rn 20 rfl ?_
   refine spC h rfl (fun hb13 h => ?_) (fun hb13 h => ?_)
   ·refine rn 4 rfl ?_
    refine ln rfl rfl ?_
    refine rn 3 rfl ?_
    exact rt h rfl
   refine rn 5 rfl ?_
   refine ln rfl rfl ?_
   refine rn 5 rfl ?_
   exact rt h rfl
  refine rn 11 rfl ?_
  refine spO 31 h rfl (fun hb14 h => ?_) (fun hb14 h => ?_)
  ·refine rn 4 rfl ?_
   refine spO 35 h rfl (fun hb15 h => ?_) (fun hb15 h => ?_)
   ·refine rn 12 rfl ?_
    exact rt h rfl
   refine rn 7 rfl ?_
   refine spC h rfl (fun hb16 h => ?_) (fun hb16 h => ?_)
   ·refine rn 4 rfl ?_
    exact rt h rfl
   refine rn 8 rfl ?_
   refine spC h rfl (fun hb17 h => ?_) (fun hb17 h => ?_)
   ·refine rn 4 rfl ?_
    refine ln rfl rfl ?_
    refine rn 3 rfl ?_
    exact rt h rfl
   refine rn 5 rfl ?_
   refine ln rfl rfl ?_
   refine rn 5 rfl ?_
   exact rt h rfl
  refine rn 20 rfl ?_
  refine spC h rfl (fun hb18 h => ?_) (fun hb18 h => ?_)
  ·refine rn 4 rfl ?_
   refine ln rfl rfl ?_
   refine rn 3 rfl ?_
   exact rt h rfl
  refine rn 5 rfl ?_
  refine ln rfl rfl ?_
  refine rn 5 rfl ?_
  exact rt h rfl
 refine rn 9 rfl ?_
 refine spO 20 h rfl (fun hb19 h => ?_) (fun hb19 h => ?_)
 ·refine rn 2 rfl ?_
  refine ln rfl rfl ?_
  refine rn 4 rfl ?_
  refine spO 27 h rfl (fun hb20 h => ?_) (fun hb20 h => ?_)
  ·refine rn 20 rfl ?_
   exact rt h rfl
  refine rn 4 rfl ?_
  refine spO 31 h rfl (fun hb21 h => ?_) (fun hb21 h => ?_)
  ·refine rn 4 rfl ?_
   refine spO 35 h rfl (fun hb22 h => ?_) (fun hb22 h => ?_)
   ·refine rn 12 rfl ?_
    exact rt h rfl
   refine rn 7 rfl ?_
   refine spC h rfl (fun hb23 h => ?_) (fun hb23 h => ?_)
   ·refine rn 4 rfl ?_
    exact rt h rfl
   refine rn 8 rfl ?_
   refine spC h rfl (fun hb24 h => ?_) (fun hb24 h => ?_)
   ·refine rn 4 rfl ?_
    refine ln rfl rfl ?_
    refine rn 3 rfl ?_
    exact rt h rfl
   refine rn 5 rfl ?_
   refine ln rfl rfl ?_
   refine rn 5 rfl ?_
   exact rt h rfl
  refine rn 20 rfl ?_
  refine spC h rfl (fun hb25 h => ?_) (fun hb25 h => ?_)
  ·refine rn 4 rfl ?_
   refine ln rfl rfl ?_
   refine rn 3 rfl ?_
   exact rt h rfl
  refine rn 5 rfl ?_
  refine ln rfl rfl ?_
  refine rn 5 rfl ?_
  exact rt h rfl
 refine rn 11 rfl ?_
 refine spO 31 h rfl (fun hb26 h => ?_) (fun hb26 h => ?_)
 ·refine rn 4 rfl ?_
  refine spO 35 h rfl (fun hb27 h => ?_) (fun hb27 h => ?_)
  ·refine rn 12 rfl ?_
   exact rt h rfl
  refine rn 7 rfl ?_
  refine spC h rfl (fun hb28 h => ?_) (fun hb28 h => ?_)
  ·refine rn 4 rfl ?_
   exact rt h rfl
  refine rn 8 rfl ?_
  refine spC h rfl (fun hb29 h => ?_) (fun hb29 h => ?_)
  ·refine rn 4 rfl ?_
   refine ln rfl rfl ?_
   refine rn 3 rfl ?_
   exact rt h rfl
  refine rn 5 rfl ?_
  refine ln rfl rfl ?_
  refine rn 5 rfl ?_
  exact rt h rfl
 refine rn 20 rfl ?_
 refine spC h rfl (fun hb30 h => ?_) (fun hb30 h => ?_)
 ·refine rn 4 rfl ?_
  refine ln rfl rfl ?_
  refine rn 3 rfl ?_
  exact rt h rfl
 refine rn 5 rfl ?_
 refine ln rfl rfl ?_
 refine rn 5 rfl ?_
 exact rt h rfl
theorem W62 (F : Nat) (a1 : (List UInt8)) (r : Bool) (h : M62 F a1 = some r) : Pure Tryz.prog 62 [(sV a1)] (bV r) := by
 refine pin (fun r => (bV r)) r rfl Tryz.func62 rfl rfl rfl rfl rfl (fun w0 m0 hg => ?_)
 unfold M62 at h
 refine rn 16 rfl ?_
 refine jK h (fun (p : Bool) => (⟨[(4, (bV p))], [], 0⟩ : St)) (fun k2 p => k2 p = some r) (fun k2 h => ?_) ?_
 ·refine spC h rfl (fun hb4 h => ?_) (fun hb4 h => ?_)
  ·refine rn 1 rfl ?_
   exact jX (a1 == ([114, 117, 108, 101] : List UInt8)) h (g0 rfl rfl)
  refine rn 5 rfl ?_
  refine spC h rfl (fun hb5 h => ?_) (fun hb5 h => ?_)
  ·refine rn 1 rfl ?_
   exact jX (a1 == ([97, 98, 111, 117, 116] : List UInt8)) h (g0 rfl rfl)
  refine rn 5 rfl ?_
  refine spC h rfl (fun hb6 h => ?_) (fun hb6 h => ?_)
  ·refine rn 1 rfl ?_
   exact jX (a1 == ([119, 104, 101, 110] : List UInt8)) h (g0 rfl rfl)
  refine rn 5 rfl ?_
  refine spC h rfl (fun hb7 h => ?_) (fun hb7 h => ?_)
  ·refine rn 1 rfl ?_
   exact jX (a1 == ([119, 97, 105, 118, 101] : List UInt8)) h (g0 rfl rfl)
  refine rn 5 rfl ?_
  refine spC h rfl (fun hb8 h => ?_) (fun hb8 h => ?_)
  ·refine rn 1 rfl ?_
   exact jX (a1 == ([102, 111, 114] : List UInt8)) h (g0 rfl rfl)
  refine rn 5 rfl ?_
  refine spC h rfl (fun hb9 h => ?_) (fun hb9 h => ?_)
  ·refine rn 1 rfl ?_
   exact jX (a1 == ([102, 114, 111, 109] : List UInt8)) h (g0 rfl rfl)
  refine rn 5 rfl ?_
  refine spC h rfl (fun hb10 h => ?_) (fun hb10 h => ?_)
  ·refine rn 1 rfl ?_
   exact jX (a1 == ([116, 111] : List UInt8)) h (g0 rfl rfl)
  refine rn 5 rfl ?_
  refine spC h rfl (fun hb11 h => ?_) (fun hb11 h => ?_)
  ·refine rn 1 rfl ?_
   exact jX (a1 == ([98, 121] : List UInt8)) h (g0 rfl rfl)
  refine rn 5 rfl ?_
  refine spC h rfl (fun hb12 h => ?_) (fun hb12 h => ?_)
  ·refine rn 1 rfl ?_
   exact jX (a1 == ([97, 115] : List UInt8)) h (g0 rfl rfl)
  refine rn 5 rfl ?_
  refine spC h rfl (fun hb13 h => ?_) (fun hb13 h => ?_)
  ·refine rn 1 rfl ?_
   exact jX (a1 == ([112, 97, 115, 115] : List UInt8)) h (g0 rfl rfl)
  refine rn 5 rfl ?_
  refine spC h rfl (fun hb14 h => ?_) (fun hb14 h => ?_)
  ·refine rn 1 rfl ?_
   exact jX (a1 == ([110, 111, 116, 101] : List UInt8)) h (g0 rfl rfl)
  refine rn 5 rfl ?_
  refine spC h rfl (fun hb15 h => ?_) (fun hb15 h => ?_)
  ·refine rn 1 rfl ?_
   exact jX (a1 == ([119, 97, 114, 110] : List UInt8)) h (g0 rfl rfl)
  refine rn 5 rfl ?_
  refine spC h rfl (fun hb16 h => ?_) (fun hb16 h => ?_)
  ·refine rn 1 rfl ?_
   exact jX (a1 == ([100, 101, 110, 121] : List UInt8)) h (g0 rfl rfl)
  refine rn 5 rfl ?_
  refine spC h rfl (fun hb17 h => ?_) (fun hb17 h => ?_)
  ·refine rn 1 rfl ?_
   exact jX (a1 == ([111, 114] : List UInt8)) h (g0 rfl rfl)
  refine rn 5 rfl ?_
  refine spC h rfl (fun hb18 h => ?_) (fun hb18 h => ?_)
  ·refine rn 1 rfl ?_
   exact jX (a1 == ([97, 110, 100] : List UInt8)) h (g0 rfl rfl)
  refine rn 5 rfl ?_
  refine spC h rfl (fun hb19 h => ?_) (fun hb19 h => ?_)
  ·refine rn 1 rfl ?_
   exact jX (a1 == ([116, 114, 117, 101] : List UInt8)) h (g0 rfl rfl)
  refine rn 5 rfl ?_
  refine spC h rfl (fun hb20 h => ?_) (fun hb20 h => ?_)
  ·refine rn 1 rfl ?_
   exact jX (a1 == ([105, 115] : List UInt8)) h (g0 rfl rfl)
  refine rn 5 rfl ?_
  refine spC h rfl (fun hb21 h => ?_) (fun hb21 h => ?_)
  ·refine rn 1 rfl ?_
   exact jX (a1 == ([98, 101, 103, 105, 110, 115] : List UInt8)) h (g0 rfl rfl)
  refine rn 5 rfl ?_
  refine spC h rfl (fun hb22 h => ?_) (fun hb22 h => ?_)
  ·refine rn 1 rfl ?_
   exact jX (a1 == ([104, 97, 115] : List UInt8)) h (g0 rfl rfl)
  refine rn 4 rfl ?_
  exact jX (a1 == ([110, 111, 116] : List UInt8)) h (g0 rfl rfl)
 intro b3 h
 refine spC h rfl (fun hb23 h => ?_) (fun hb23 h => ?_)
 ·refine rn 4 rfl ?_
  exact rt h rfl
 refine rn 6 rfl ?_
 exact rt h rfl
theorem W34 (F : Nat) (a1 : (List UInt8)) (r : Bool) (h : M34 F a1 = some r) : Pure Tryz.prog 34 [(sV a1)] (bV r) := by
 refine pin (fun r => (bV r)) r rfl Tryz.func34 rfl rfl rfl rfl rfl (fun w0 m0 hg => ?_)
 unfold M34 at h
 refine rn 11 rfl ?_
 refine jK h (fun _ : Unit => (⟨[(0, (sV a1))], [], 0⟩ : St)) (fun k2 (_ : Unit) => k2 = some r) (fun k2 h => ?_) ?_
 ·refine rn 1 rfl ?_
  refine ck h (fun hA21 h => ?_)
  refine lC (fun (p : Int) => (⟨[(0, (sV a1)), (6, (iV (a1.length : Int))), (7, (iV p))], [], 0⟩ : St)) (fun n p => RC (a1.length : Int) (fun tl nn => M34_L1 F a1 k2 tl nn = some r) n p) (fun p h => RC.zero h) (Int.toNat (a1.length : Int) + 1) 0 (RC.start h) (g0 rfl rfl) (fun n n4 h => ?_)
  refine rn 5 rfl ?_
  refine spL rfl (fun hb5 => ?_) (fun hb5 => ?_)
  ·obtain ⟨tl, h, hk1⟩ := RC.t hA21 h hb5
   unfold M34_L1 at h
   refine rn 2 rfl ?_
   refine jK h (fun _ : Unit => (⟨[(0, (sV a1)), (6, (iV (a1.length : Int))), (7, (iV n4))], [], 0⟩ : St)) (fun k6 (_ : Unit) => k6 = some r) (fun k6 h => ?_) ?_
   ·refine rn 10 rfl ?_
    refine ixs h rfl rfl (fun c7 hx8 h => ?_)
    refine rn 7 rfl ?_
    refine spO 15 h rfl (fun hb9 h => ?_) (fun hb9 h => ?_)
    ·refine rn 4 rfl ?_
     refine spO 19 h rfl (fun hb10 h => ?_) (fun hb10 h => ?_)
     ·refine rn 20 rfl ?_
      exact jX () h (g0 rfl rfl)
     refine rn 3 rfl ?_
     refine spO 22 h rfl (fun hb11 h => ?_) (fun hb11 h => ?_)
     ·refine rn 3 rfl ?_
      refine spO 25 h rfl (fun hb12 h => ?_) (fun hb12 h => ?_)
      ·refine rn 4 rfl ?_
       refine spO 29 h rfl (fun hb13 h => ?_) (fun hb13 h => ?_)
       ·refine rn 10 rfl ?_
        exact jX () h (g0 rfl rfl)
       refine rn 7 rfl ?_
       refine spC h rfl (fun hb14 h => ?_) (fun hb14 h => ?_)
       ·refine rn 4 rfl ?_
        exact rt h rfl
       refine rn 2 rfl ?_
       exact jX () h (g0 rfl rfl)
      refine rn 11 rfl ?_
      refine spC h rfl (fun hb15 h => ?_) (fun hb15 h => ?_)
      ·refine rn 4 rfl ?_
       exact rt h rfl
      refine rn 2 rfl ?_
      exact jX () h (g0 rfl rfl)
     refine rn 19 rfl ?_
     exact rt h rfl
    refine rn 7 rfl ?_
    refine spO 22 h rfl (fun hb16 h => ?_) (fun hb16 h => ?_)
    ·refine rn 3 rfl ?_
     refine spO 25 h rfl (fun hb17 h => ?_) (fun hb17 h => ?_)
     ·refine rn 4 rfl ?_
      refine spO 29 h rfl (fun hb18 h => ?_) (fun hb18 h => ?_)
      ·refine rn 10 rfl ?_
       exact jX () h (g0 rfl rfl)
      refine rn 7 rfl ?_
      refine spC h rfl (fun hb19 h => ?_) (fun hb19 h => ?_)
      ·refine rn 4 rfl ?_
       exact rt h rfl
      refine rn 2 rfl ?_
      exact jX () h (g0 rfl rfl)
     refine rn 11 rfl ?_
     refine spC h rfl (fun hb20 h => ?_) (fun hb20 h => ?_)
     ·refine rn 4 rfl ?_
      exact rt h rfl
     refine rn 2 rfl ?_
     exact jX () h (g0 rfl rfl)
    refine rn 19 rfl ?_
    exact rt h rfl
   intro _ h
   refine rn 4 rfl ?_
   exact jX (w64 (n4 + 1)) (hk1 _ h) (g0 rfl rfl)
  replace h := RC.f h hb5
  unfold M34_L1 at h
  refine rn 1 rfl ?_
  exact jX () h (g0 rfl rfl)
 intro _ h
 refine rn 5 rfl ?_
 refine spO 39 h rfl (fun hb22 h => ?_) (fun hb22 h => ?_)
 ·refine rn 5 rfl ?_
  refine spO 44 h rfl (fun hb23 h => ?_) (fun hb23 h => ?_)
  ·refine rn 1 rfl ?_
   refine cl h rfl rfl rfl (W62 _ _) rfl (fun y24 hx25 h => ?_)
   refine rn 4 rfl ?_
   exact rt h rfl
  refine rn 6 rfl ?_
  exact rt h rfl
 refine rn 11 rfl ?_
 exact rt h rfl
theorem W35 (F : Nat) (a1 : (List UInt8)) (r : Bool) (h : M35 F a1 = some r) : Pure Tryz.prog 35 [(sV a1)] (bV r) := by
 refine pin (fun r => (bV r)) r rfl Tryz.func35 rfl rfl rfl rfl rfl (fun w0 m0 hg => ?_)
 unfold M35 at h
 refine rn 11 rfl ?_
 refine jK h (fun _ : Unit => (⟨[(0, (sV a1))], [], 0⟩ : St)) (fun k2 (_ : Unit) => k2 = some r) (fun k2 h => ?_) ?_
 ·refine rn 1 rfl ?_
  refine ck h (fun hA12 h => ?_)
  refine lC (fun (p : Int) => (⟨[(0, (sV a1)), (5, (iV (a1.length : Int))), (6, (iV p))], [], 0⟩ : St)) (fun n p => RC (a1.length : Int) (fun tl nn => M35_L1 F a1 k2 tl nn = some r) n p) (fun p h => RC.zero h) (Int.toNat (a1.length : Int) + 1) 0 (RC.start h) (g0 rfl rfl) (fun n n4 h => ?_)
  refine rn 5 rfl ?_
  refine spL rfl (fun hb5 => ?_) (fun hb5 => ?_)
  ·obtain ⟨tl, h, hk1⟩ := RC.t hA12 h hb5
   unfold M35_L1 at h
   refine rn 12 rfl ?_
   refine ixs h rfl rfl (fun c6 hx7 h => ?_)
   refine rn 2 rfl ?_
   refine spO 13 h rfl (fun hb8 h => ?_) (fun hb8 h => ?_)
   ·refine rn 11 rfl ?_
    exact rt h rfl
   refine rn 2 rfl ?_
   refine ixs h rfl rfl (fun c9 hx10 h => ?_)
   refine rn 3 rfl ?_
   refine spC h rfl (fun hb11 h => ?_) (fun hb11 h => ?_)
   ·refine rn 4 rfl ?_
    exact rt h rfl
   refine rn 6 rfl ?_
   exact jX (w64 (n4 + 1)) (hk1 _ h) (g0 rfl rfl)
  replace h := RC.f h hb5
  unfold M35_L1 at h
  refine rn 1 rfl ?_
  exact jX () h (g0 rfl rfl)
 intro _ h
 refine rn 7 rfl ?_
 exact rt h rfl
theorem W67 (F : Nat) (a1 : (List (List UInt8))) (r : Int) (h : M67 F a1 = some r) : Pure Tryz.prog 67 [(V.lst 1 (a1.map encS))] (iV r) := by
 refine pin (fun r => (iV r)) r rfl Tryz.func67 rfl rfl rfl rfl rfl (fun w0 m0 hg => ?_)
 unfold M67 at h
 refine rn 9 rfl ?_
 refine ln rfl rfl ?_
 refine rn 3 rfl ?_
 refine spC h rfl (fun hb2 h => ?_) (fun hb2 h => ?_)
 ·refine rn 4 rfl ?_
  exact rt h rfl
 refine rn 3 rfl ?_
 refine ln rfl rfl ?_
 refine rn 3 rfl ?_
 refine spC h rfl (fun hb3 h => ?_) (fun hb3 h => ?_)
 ·refine rn 4 rfl ?_
  exact rt h rfl
 refine rn 6 rfl ?_
 refine ln rfl rfl ?_
 refine rn 2 rfl ?_
 refine jK h (fun _ : Unit => (⟨[], [], 0⟩ : St)) (fun k4 (_ : Unit) => k4 = some r) (fun k4 h => ?_) ?_
 ·refine rn 1 rfl ?_
  refine wl (A := a1) 0 rfl (fun hA18 => ?_)
  refine lC (fun (p : Int) => (⟨[(0, (V.lst 1 (a1.map encS))), (13, (V.lst 1 (a1.map encS))), (14, (iV ((a1.length : Nat) : Int))), (15, (iV p))], [], 0⟩ : St)) (fun n p => RG a1 (fun tl nn => M67_L1 F a1 k4 tl nn = some r) n p) (fun p h => RG.zero h) (a1.length + 1) 0 (RG.start h) (g0 rfl rfl) (fun n n6 h => ?_)
  refine rn 5 rfl ?_
  refine spL rfl (fun hb7 => ?_) (fun hb7 => ?_)
  ·obtain ⟨x8, tl, hx9, h, hk1⟩ := RG.t hA18 h hb7
   unfold M67_L1 at h
   refine rn 6 rfl ?_
   refine ixh hx9 rfl rfl ?_
   refine rn 8 rfl ?_
   refine cl h rfl rfl rfl (W35 _ _) rfl (fun y10 hx11 h => ?_)
   refine rn 3 rfl ?_
   refine jK h (fun _ : Unit => (⟨[(0, (V.lst 1 (a1.map encS))), (13, (V.lst 1 (a1.map encS))), (14, (iV ((a1.length : Nat) : Int))), (15, (iV n6))], [], 0⟩ : St)) (fun k12 (_ : Unit) => k12 = some r) (fun k12 h => ?_) ?_
   ·refine spC h rfl (fun hb13 h => ?_) (fun hb13 h => ?_)
    ·refine rn 4 rfl ?_
     exact rt h rfl
    refine rn 5 rfl ?_
    refine spO 27 h rfl (fun hb14 h => ?_) (fun hb14 h => ?_)
    ·refine rn 4 rfl ?_
     refine ixl h rfl rfl (fun x15 hx16 h => ?_)
     refine rn 5 rfl ?_
     refine spC h rfl (fun hb17 h => ?_) (fun hb17 h => ?_)
     ·refine rn 4 rfl ?_
      exact rt h rfl
     refine rn 1 rfl ?_
     exact jX () h (g0 rfl rfl)
    refine rn 12 rfl ?_
    exact jX () h (g0 rfl rfl)
   intro _ h
   refine rn 6 rfl ?_
   exact jX (w64 (n6 + 1)) (hk1 _ h) (g0 rfl rfl)
  replace h := RG.f h hb7
  unfold M67_L1 at h
  refine rn 1 rfl ?_
  exact jX () h (g0 rfl rfl)
 intro _ h
 refine rn 4 rfl ?_
 exact rt h rfl
theorem W36 (F : Nat) (a1 : Int) (r : Bool) (h : M36 F a1 = some r) : Pure Tryz.prog 36 [(iV a1)] (bV r) := by
 refine pin (fun r => (bV r)) r rfl Tryz.func36 rfl rfl rfl rfl rfl (fun w0 m0 hg => ?_)
 unfold M36 at h
 refine rn 9 rfl ?_
 refine spO 5 h rfl (fun hb2 h => ?_) (fun hb2 h => ?_)
 ·refine rn 5 rfl ?_
  exact rt h rfl
 refine rn 5 rfl ?_
 exact rt h rfl
theorem W41_B (R41 : TTest → Option Int) (hR41 : ∀ (a1 : TTest) (r : Int), R41 a1 = some r → Pure Tryz.prog 41 [(V.agg (encTTest a1))] (iV r)) (F : Nat) (a1 : TTest) (r : Int) (h : M41_B R41 F a1 = some r) : Pure Tryz.prog 41 [(V.agg (encTTest a1))] (iV r) := by
 refine pin (fun r => (iV r)) r rfl Tryz.func41 rfl rfl rfl rfl rfl (fun w0 m0 hg => ?_)
 unfold M41_B at h
 refine rn 12 rfl ?_
 refine spO 11 h rfl (fun hb2 h => ?_) (fun hb2 h => ?_)
 ·refine rn 10 rfl ?_
  exact rt h rfl
 refine rn 5 rfl ?_
 refine spC h rfl (fun hb3 h => ?_) (fun hb3 h => ?_)
 ·refine rn 4 rfl ?_
  exact rt h rfl
 obtain ⟨y4, hx5, h⟩ := bind_some h
 refine rn 2 rfl ?_
 refine ck h (fun hc6 h => ?_)
 refine awp_ghost ghost_res ?_
 refine fa ?_
 refine dr mixed (cD rfl rfl rfl rfl (W65 _ _ hx5) rfl (vs 2 rfl (xD (OD.mk [(16, (V.agg [(bV (y4 0).name), (bV (y4 0).texts), (bV (y4 0).number), (iV (y4 0).kids), (bV (y4 1).name), (bV (y4 1).texts), (bV (y4 1).number), (iV (y4 1).kids), (bV (y4 2).name), (bV (y4 2).texts), (bV (y4 2).number), (iV (y4 2).kids), (bV (y4 3).name), (bV (y4 3).texts), (bV (y4 3).number), (iV (y4 3).kids), (bV (y4 4).name), (bV (y4 4).texts), (bV (y4 4).number), (iV (y4 4).kids), (bV (y4 5).name), (bV (y4 5).texts), (bV (y4 5).number), (iV (y4 5).kids), (bV (y4 6).name), (bV (y4 6).texts), (bV (y4 6).number), (iV (y4 6).kids), (bV (y4 7).name), (bV (y4 7).texts), (bV (y4 7).number), (iV (y4 7).kids), (bV (y4 8).name), (bV (y4 8).texts), (bV (y4 8).number), (iV (y4 8).kids)])), (18, (iV a1.Kind))] [] [(19, (V.agg (encTpolicy_uses (y4 a1.Kind.toNat))))] []) ⟨⟨rfl, rfl, trivial⟩, trivial⟩ (by exact fun S hn h hh => aops_indexA (encTpolicy_uses (y4 a1.Kind.toNat)) tAA127 wants_none h.1 h.2.1 hc6 rfl (arr_row (f := y4) rfl (fun x => rfl) hc6.2) rfl (aops_nil ⟨rfl, rfl⟩)) rfl (xD (OD.mk [] [(1, Ob.res)] [(3, (V.ptr 1 4 0 0))] [(1, (Ob.arr 126 4 [[(bV false), (bV false), (bV false), (iV 0)]]))]) ⟨trivial, ⟨rfl, trivial⟩⟩ (by exact fun S hn h hh => aops_alloc_at 1 rfl hn hh.1 tZ126 rfl rfl wants_none rfl (aops_nil ⟨rfl, rfl⟩)) rfl (vs 1 rfl .nil))))) (by kernel_rfl) ?_
 refine rn 5 rfl ?_
 refine cl h rfl rfl rfl (W66 _ _) rfl (fun y7 hx8 h => ?_)
 refine rn 3 rfl ?_
 refine jK h (fun _ : Unit => (⟨[(1, (V.ptr 0 6 0 0)), (3, (V.ptr 1 4 0 0))], [(0, (Ob.arr 29 6 [(encTTest a1)])), (1, (Ob.arr 126 4 [(encTpolicy_uses (y4 a1.Kind.toNat))]))], 2⟩ : St)) (fun k9 (_ : Unit) => k9 = some r) (fun k9 h => ?_) ?_
 ·refine spC h rfl (fun hb10 h => ?_) (fun hb10 h => ?_)
  ·refine rn 4 rfl ?_
   exact rt h rfl
  refine rn 5 rfl ?_
  refine spO 27 h rfl (fun hb11 h => ?_) (fun hb11 h => ?_)
  ·refine rn 2 rfl ?_
   refine cl h rfl rfl rfl (W34 _ _) rfl (fun y12 hx13 h => ?_)
   refine rn 4 rfl ?_
   refine spC h rfl (fun hb14 h => ?_) (fun hb14 h => ?_)
   ·refine rn 4 rfl ?_
    exact rt h rfl
   refine rn 1 rfl ?_
   exact jX () h (gr [0, 1] rfl (hB rfl rfl rfl (hB rfl rfl rfl .nil)) rfl)
  refine rn 9 rfl ?_
  exact jX () h (gr [0, 1] rfl (hB rfl rfl rfl (hB rfl rfl rfl .nil)) rfl)
 intro _ h
 refine rn 7 rfl ?_
 refine jK h (fun _ : Unit => (⟨[(1, (V.ptr 0 6 0 0)), (3, (V.ptr 1 4 0 0))], [(0, (Ob.arr 29 6 [(encTTest a1)])), (1, (Ob.arr 126 4 [(encTpolicy_uses (y4 a1.Kind.toNat))]))], 2⟩ : St)) (fun k15 (_ : Unit) => k15 = some r) (fun k15 h => ?_) ?_
 ·refine spC h rfl (fun hb16 h => ?_) (fun hb16 h => ?_)
  ·refine rn 4 rfl ?_
   refine cl h rfl rfl rfl (W67 _ _) rfl (fun y17 hx18 h => ?_)
   refine rn 7 rfl ?_
   refine spC h rfl (fun hb19 h => ?_) (fun hb19 h => ?_)
   ·refine rn 5 rfl ?_
    exact rt h rfl
   refine rn 1 rfl ?_
   exact jX () h (gr [0, 1] rfl (hB rfl rfl rfl (hB rfl rfl rfl .nil)) rfl)
  refine rn 1 rfl ?_
  exact jX () h (gr [0, 1] rfl (hB rfl rfl rfl (hB rfl rfl rfl .nil)) rfl)
 intro _ h
 refine rn 6 rfl ?_
 refine jK h (fun _ : Unit => (⟨[(1, (V.ptr 0 6 0 0))], [(0, (Ob.arr 29 6 [(encTTest a1)]))], 1⟩ : St)) (fun k20 (_ : Unit) => k20 = some r) (fun k20 h => ?_) ?_
 ·refine spC h rfl (fun hb21 h => ?_) (fun hb21 h => ?_)
  ·refine rn 7 rfl ?_
   refine spO 47 h rfl (fun hb22 h => ?_) (fun hb22 h => ?_)
   ·refine rn 11 rfl ?_
    exact rt h rfl
   refine rn 6 rfl ?_
   refine spC h rfl (fun hb23 h => ?_) (fun hb23 h => ?_)
   ·refine rn 4 rfl ?_
    exact rt h rfl
   refine rn 4 rfl ?_
   refine cl h rfl rfl rfl (W36 _ _) rfl (fun y24 hx25 h => ?_)
   refine rn 3 rfl ?_
   refine spC h rfl (fun hb26 h => ?_) (fun hb26 h => ?_)
   ·refine rn 4 rfl ?_
    exact rt h rfl
   refine rn 2 rfl ?_
   exact jX () h (gr [0] rfl (hB rfl rfl rfl .nil) rfl)
  refine rn 1 rfl ?_
  exact jX () h (gr [0] rfl (hB rfl rfl rfl .nil) rfl)
 intro _ h
 refine rn 5 rfl ?_
 refine ln rfl rfl ?_
 refine rn 2 rfl ?_
 refine jK h (fun _ : Unit => (⟨[], [], 0⟩ : St)) (fun k27 (_ : Unit) => k27 = some r) (fun k27 h => ?_) ?_
 ·refine rn 1 rfl ?_
  refine wl (A := a1.Kids) 58 rfl (fun hA38 => ?_)
  refine lC (fun (p : Int) => (⟨[(58, (V.lst 6 (a1.Kids.map KRow.row))), (59, (iV ((a1.Kids.length : Nat) : Int))), (60, (iV p))], [], 0⟩ : St)) (fun n p => RG a1.Kids (fun tl nn => M41_L1 R41 F k27 tl = some r) n p) (fun p h => RG.zero h) (a1.Kids.length + 1) 0 (RG.start h) (g0 rfl rfl) (fun n n29 h => ?_)
  refine rn 5 rfl ?_
  refine spL rfl (fun hb30 => ?_) (fun hb30 => ?_)
  ·obtain ⟨x31, tl, hx32, h, hk1⟩ := RG.t hA38 h hb30
   unfold M41_L1 at h
   refine rn 5 rfl ?_
   refine ixh hx32 rfl rfl ?_
   obtain ⟨y33, hx34, h⟩ := bind_some h
   refine kroO 62 hx34 rfl ?_
   refine rn 7 rfl ?_
   refine cl h rfl rfl rfl (hR41 _) rfl (fun y35 hx36 h => ?_)
   refine rn 7 rfl ?_
   refine spC h rfl (fun hb37 h => ?_) (fun hb37 h => ?_)
   ·refine rn 5 rfl ?_
    exact rt h rfl
   refine rn 6 rfl ?_
   exact jX (w64 (n29 + 1)) (hk1 _ h) (g0 rfl rfl)
  replace h := RG.f h hb30
  unfold M41_L1 at h
  refine rn 1 rfl ?_
  exact jX () h (g0 rfl rfl)
 intro _ h
 refine rn 4 rfl ?_
 exact rt h rfl
theorem W41 : ∀ (F : Nat) (a1 : TTest) (r : Int) (h : M41 F a1 = some r), Pure Tryz.prog 41 [(V.agg (encTTest a1))] (iV r) := by
 intro F
 induction F with
 | zero => intros; simp [M41] at *
 | succ F ih => exact fun a1 r h => W41_B (M41 F) ih F a1 r h
theorem W12 (F : Nat) (a1 : TTest) (r : Int) (h : M12 F a1 = some r) : Pure Tryz.prog 12 [(V.agg (encTTest a1))] (iV r) := by
 refine pin (fun r => (iV r)) r rfl Tryz.func12 rfl rfl rfl rfl rfl (fun w0 m0 hg => ?_)
 unfold M12 at h
 refine rn 9 rfl ?_
 refine cl h rfl rfl rfl (W40 _ _ _) rfl (fun y2 hx3 h => ?_)
 refine rn 11 rfl ?_
 refine spO 12 h rfl (fun hb4 h => ?_) (fun hb4 h => ?_)
 ·refine rn 9 rfl ?_
  exact rt h rfl
 refine rn 4 rfl ?_
 refine spC h rfl (fun hb5 h => ?_) (fun hb5 h => ?_)
 ·refine rn 4 rfl ?_
  exact rt h rfl
 refine rn 4 rfl ?_
 refine cl h rfl rfl rfl (W41 _ _) rfl (fun y6 hx7 h => ?_)
 refine rn 2 rfl ?_
 exact rt h rfl
theorem W10 (F : Nat) (a1 : TFact) (r : Int) (h : M10 F a1 = some r) : Pure Tryz.prog 10 [(V.agg (encTFact a1))] (iV r) := by
 refine pin (fun r => (iV r)) r rfl Tryz.func10 rfl rfl rfl rfl rfl (fun w0 m0 hg => ?_)
 unfold M10 at h
 refine rn 11 rfl ?_
 refine cl h rfl rfl rfl (W34 _ _) rfl (fun y2 hx3 h => ?_)
 refine rn 3 rfl ?_
 refine spC h rfl (fun hb4 h => ?_) (fun hb4 h => ?_)
 ·refine rn 4 rfl ?_
  exact rt h rfl
 refine rn 4 rfl ?_
 refine cl h rfl rfl rfl (W35 _ _) rfl (fun y5 hx6 h => ?_)
 refine rn 3 rfl ?_
 refine spC h rfl (fun hb7 h => ?_) (fun hb7 h => ?_)
 ·refine rn 4 rfl ?_
  exact rt h rfl
 refine rn 4 rfl ?_
 refine ln rfl rfl ?_
 refine rn 3 rfl ?_
 refine spC h rfl (fun hb8 h => ?_) (fun hb8 h => ?_)
 ·refine rn 4 rfl ?_
  exact rt h rfl
 refine rn 7 rfl ?_
 refine ln rfl rfl ?_
 refine rn 2 rfl ?_
 refine jK h (fun _ : Unit => (⟨[(1, (V.ptr 0 4 0 0))], [(0, (Ob.arr 25 4 [(encTFact a1)]))], 1⟩ : St)) (fun k9 (_ : Unit) => k9 = some r) (fun k9 h => ?_) ?_
 ·refine rn 1 rfl ?_
  refine wl (A := a1.Texts) 19 rfl (fun hA26 => ?_)
  refine lC (fun (p : Int) => (⟨[(1, (V.ptr 0 4 0 0)), (23, (V.lst 2 (a1.Texts.map encTPair))), (24, (iV ((a1.Texts.length : Nat) : Int))), (25, (iV p))], [(0, (Ob.arr 25 4 [(encTFact a1)]))], 1⟩ : St)) (fun n p => RG a1.Texts (fun tl nn => M10_L1 F a1 k9 tl nn = some r) n p) (fun p h => RG.zero h) (a1.Texts.length + 1) 0 (RG.start h) (gr [0] rfl (hB rfl rfl rfl .nil) rfl) (fun n n11 h => ?_)
  refine rn 5 rfl ?_
  refine spL rfl (fun hb12 => ?_) (fun hb12 => ?_)
  ·obtain ⟨x13, tl, hx14, h, hk1⟩ := RG.t hA26 h hb12
   unfold M10_L1 at h
   refine rn 6 rfl ?_
   refine ixh hx14 rfl rfl ?_
   refine rn 10 rfl ?_
   refine cl h rfl rfl rfl (W34 _ _) rfl (fun y15 hx16 h => ?_)
   refine rn 3 rfl ?_
   refine jK h (fun _ : Unit => (⟨[(1, (V.ptr 0 4 0 0)), (23, (V.lst 2 (a1.Texts.map encTPair))), (24, (iV ((a1.Texts.length : Nat) : Int))), (25, (iV n11))], [(0, (Ob.arr 25 4 [(encTFact a1)]))], 1⟩ : St)) (fun k17 (_ : Unit) => k17 = some r) (fun k17 h => ?_) ?_
   ·refine spC h rfl (fun hb18 h => ?_) (fun hb18 h => ?_)
    ·refine rn 4 rfl ?_
     exact rt h rfl
    refine rn 4 rfl ?_
    refine cl h rfl rfl rfl (W35 _ _) rfl (fun y19 hx20 h => ?_)
    refine rn 3 rfl ?_
    refine spC h rfl (fun hb21 h => ?_) (fun hb21 h => ?_)
    ·refine rn 4 rfl ?_
     exact rt h rfl
    refine rn 1 rfl ?_
    refine bs h (fun hb22 h => ?_) (fun hb22 h => ?_)
    ·obtain ⟨x23, hx24, h⟩ := bind_some h
     refine dr mixed (vs 2 rfl (vb hb22 rfl (vs 6 rfl (iD hx24 rfl rfl rfl (vs 5 rfl .nil))))) (by kernel_rfl) ?_
     refine spC h rfl (fun hb25 h => ?_) (fun hb25 h => ?_)
     ·refine rn 4 rfl ?_
      exact rt h rfl
     refine rn 1 rfl ?_
     exact jX () h (gr [0] rfl (hB rfl rfl rfl .nil) rfl)
    refine dr mixed (vs 2 rfl (vb hb22 rfl (vs 12 rfl .nil))) (by kernel_rfl) ?_
    refine rn 2 rfl ?_
    exact jX () h (gr [0] rfl (hB rfl rfl rfl .nil) rfl)
   intro _ h
   refine rn 6 rfl ?_
   exact jX (w64 (n11 + 1)) (hk1 _ h) (gr [0] rfl (hB rfl rfl rfl .nil) rfl)
  replace h := RG.f h hb12
  unfold M10_L1 at h
  refine rn 1 rfl ?_
  exact jX () h (gr [0] rfl (hB rfl rfl rfl .nil) rfl)
 intro _ h
 refine rn 5 rfl ?_
 refine ln rfl rfl ?_
 refine rn 2 rfl ?_
 refine spC h rfl (fun hb27 h => ?_) (fun hb27 h => ?_)
 ·refine rn 4 rfl ?_
  exact rt h rfl
 refine rn 6 rfl ?_
 refine ln rfl rfl ?_
 refine rn 2 rfl ?_
 refine jK h (fun _ : Unit => (⟨[], [], 0⟩ : St)) (fun k28 (_ : Unit) => k28 = some r) (fun k28 h => ?_) ?_
 ·refine rn 1 rfl ?_
  refine wl (A := a1.Numbers) 57 rfl (fun hA45 => ?_)
  refine lC (fun (p : Int) => (⟨[(1, (V.ptr 0 4 0 0)), (61, (V.lst 2 (a1.Numbers.map encTAmount))), (62, (iV ((a1.Numbers.length : Nat) : Int))), (63, (iV p))], [(0, (Ob.arr 25 4 [(encTFact a1)]))], 1⟩ : St)) (fun n p => RG a1.Numbers (fun tl nn => M10_L2 F a1 k28 tl nn = some r) n p) (fun p h => RG.zero h) (a1.Numbers.length + 1) 0 (RG.start h) (gr [0] rfl (hB rfl rfl rfl .nil) rfl) (fun n n30 h => ?_)
  refine rn 5 rfl ?_
  refine spL rfl (fun hb31 => ?_) (fun hb31 => ?_)
  ·obtain ⟨x32, tl, hx33, h, hk2⟩ := RG.t hA45 h hb31
   unfold M10_L2 at h
   refine rn 6 rfl ?_
   refine ixh hx33 rfl rfl ?_
   refine rn 10 rfl ?_
   refine cl h rfl rfl rfl (W34 _ _) rfl (fun y34 hx35 h => ?_)
   refine rn 3 rfl ?_
   refine jK h (fun _ : Unit => (⟨[(1, (V.ptr 0 4 0 0)), (61, (V.lst 2 (a1.Numbers.map encTAmount))), (62, (iV ((a1.Numbers.length : Nat) : Int))), (63, (iV n30))], [(0, (Ob.arr 25 4 [(encTFact a1)]))], 1⟩ : St)) (fun k36 (_ : Unit) => k36 = some r) (fun k36 h => ?_) ?_
   ·refine spC h rfl (fun hb37 h => ?_) (fun hb37 h => ?_)
    ·refine rn 4 rfl ?_
     exact rt h rfl
    refine rn 4 rfl ?_
    refine cl h rfl rfl rfl (W36 _ _) rfl (fun y38 hx39 h => ?_)
    refine rn 3 rfl ?_
    refine spC h rfl (fun hb40 h => ?_) (fun hb40 h => ?_)
    ·refine rn 4 rfl ?_
     exact rt h rfl
    refine rn 1 rfl ?_
    refine bs h (fun hb41 h => ?_) (fun hb41 h => ?_)
    ·obtain ⟨x42, hx43, h⟩ := bind_some h
     refine dr mixed (vs 2 rfl (vb hb41 rfl (vs 6 rfl (iD hx43 rfl rfl rfl (vs 5 rfl .nil))))) (by kernel_rfl) ?_
     refine spC h rfl (fun hb44 h => ?_) (fun hb44 h => ?_)
     ·refine rn 4 rfl ?_
      exact rt h rfl
     refine rn 1 rfl ?_
     exact jX () h (gr [0] rfl (hB rfl rfl rfl .nil) rfl)
    refine dr mixed (vs 2 rfl (vb hb41 rfl (vs 12 rfl .nil))) (by kernel_rfl) ?_
    refine rn 2 rfl ?_
    exact jX () h (gr [0] rfl (hB rfl rfl rfl .nil) rfl)
   intro _ h
   refine rn 6 rfl ?_
   exact jX (w64 (n30 + 1)) (hk2 _ h) (gr [0] rfl (hB rfl rfl rfl .nil) rfl)
  replace h := RG.f h hb31
  unfold M10_L2 at h
  refine rn 1 rfl ?_
  exact jX () h (g0 rfl rfl)
 intro _ h
 refine rn 4 rfl ?_
 exact rt h rfl
theorem W31_B (R31 : TTest → Option KV) (hR31 : ∀ (a1 : TTest) (r : KV), R31 a1 = some r → Pure Tryz.prog 31 [(V.agg (encTTest a1))] (V.ifc r.t r.d)) (F : Nat) (a1 : TTest) (r : KV) (h : M31_B R31 F a1 = some r) : Pure Tryz.prog 31 [(V.agg (encTTest a1))] (V.ifc r.t r.d) := by
 refine pin (fun r => (V.ifc r.t r.d)) r rfl Tryz.func31 rfl rfl rfl rfl rfl (fun w0 m0 hg => ?_)
 unfold M31_B at h
 refine rn 14 rfl ?_
 refine ln rfl rfl ?_
 refine rn 2 rfl ?_
 refine jK h (fun (p : (List KV)) => (⟨[(1, (V.ptr 0 6 0 0)), (3, (V.own 1 p.length))], [(0, (Ob.arr 29 6 [(encTTest a1)])), (1, (Ob.arr 66 1 (p.map KV.enc)))], 2⟩ : St)) (fun k2 p => k2 p = some r) (fun k2 h => ?_) ?_
 ·refine rn 1 rfl ?_
  refine wl (A := a1.Kids) 7 rfl (fun hA16 => ?_)
  refine lC (fun (p : Int × (List KV)) => (⟨[(1, (V.ptr 0 6 0 0)), (3, (V.own 1 (p.2).length)), (7, (V.lst 6 (a1.Kids.map KRow.row))), (8, (iV ((a1.Kids.length : Nat) : Int))), (9, (iV (p.1)))], [(0, (Ob.arr 29 6 [(encTTest a1)])), (1, (Ob.arr 66 1 ((p.2).map KV.enc)))], 2⟩ : St)) (fun n p => RG a1.Kids (fun tl nn => M31_L1 R31 F k2 tl p.2 = some r) n p.1) (fun p h => RG.zero h) (a1.Kids.length + 1) (0, ([] : List KV)) (RG.start h) (Ghost.trans (ghost_nilE 3 66 1 rfl) (ghost_ren 2 (fun i => ([0, 1] : List Nat).getD i 0) _ _ (by decide) (EnvSub.get (.cons (Sub.ptr rfl rfl) (.cons (Sub.ownE rfl rfl (by simp)) (.cons (Sub.imm (Imm.lst _ _)) (.cons (Sub.imm (Imm.con _)) (.cons (Sub.imm (Imm.con _)) .nil)))))) (HpSub.get (.cons rfl (ObSub.box (.cons (Sub.imm (Imm.con _)) (.cons (Sub.imm (Imm.con _)) (.cons (Sub.imm (Imm.lst _ _)) (.cons (Sub.imm (Imm.con _)) (.cons (Sub.imm (Imm.con _)) (.cons (Sub.imm (Imm.lst _ _)) .nil))))))) (.cons rfl (ObSub.rows (rows_imm KV.enc_imm)) .nil))) rfl)) (fun n p h => ?_)
  obtain ⟨n6, l7⟩ := p
  refine rn 5 rfl ?_
  refine spL rfl (fun hb8 => ?_) (fun hb8 => ?_)
  ·obtain ⟨x9, tl, hx10, h, hk1⟩ := RG.t hA16 h hb8
   unfold M31_L1 at h
   refine rn 5 rfl ?_
   refine ixh hx10 rfl rfl ?_
   obtain ⟨y11, hx12, h⟩ := bind_some h
   refine kroO 11 hx12 rfl ?_
   refine rn 7 rfl ?_
   refine cl h rfl rfl rfl (hR31 _) rfl (fun y13 hx14 h => ?_)
   refine aops_buildSlice [(0, (V.ifc y13.t y13.d))] [[(V.ifc y13.t y13.d)]] tEl103 tZ66 rfl rfl rfl rfl wants_none (evp_cons rfl evp_nil) rfl rfl (by simp) rfl ?_
   refine fo ?_
   refine apO KV.enc h rfl rfl rfl rfl rfl rfl rfl rfl (fun h => ?_)
   refine rn 7 rfl ?_
   exact jX ((w64 (n6 + 1)), (l7 ++ ([y13] : List KV))) (hk1 _ h) (gr [0, 4] rfl (hB rfl rfl rfl (hR rfl rfl .nil)) rfl)
  replace h := RG.f h hb8
  unfold M31_L1 at h
  refine rn 1 rfl ?_
  exact jX l7 h (gr [0, 1] rfl (hB rfl rfl rfl (hR rfl rfl .nil)) rfl)
 intro l3 h
 refine rn 12 rfl ?_
 refine spC h rfl (fun hb17 h => ?_) (fun hb17 h => ?_)
 ·refine rn 7 rfl ?_
  refine aops_mkIfc tCn105 wants_none rfl (Imm.agg (.cons (Imm.con _) (.cons (Imm.lst _ _) .nil))) rfl ?_
  refine fo (rn 2 rfl ?_)
  exact rt h rfl
 refine rn 5 rfl ?_
 refine spC h rfl (fun hb18 h => ?_) (fun hb18 h => ?_)
 ·refine rn 7 rfl ?_
  refine aops_mkIfc tCn106 wants_none rfl (Imm.agg (.cons (Imm.con _) (.cons (Imm.lst _ _) .nil))) rfl ?_
  refine fo (rn 2 rfl ?_)
  exact rt h rfl
 refine rn 5 rfl ?_
 refine spC h rfl (fun hb19 h => ?_) (fun hb19 h => ?_)
 ·refine rn 5 rfl ?_
  refine aops_mkIfc tCn108 wants_none rfl (Imm.agg (.cons (Imm.con _) .nil)) rfl ?_
  refine fo (rn 2 rfl ?_)
  exact rt h rfl
 refine rn 5 rfl ?_
 refine spC h rfl (fun hb20 h => ?_) (fun hb20 h => ?_)
 ·refine rn 9 rfl ?_
  refine aops_mkIfc tCn110 wants_none rfl (Imm.agg (.cons (Imm.con _) (.cons (Imm.con _) (.cons (Imm.con _) .nil)))) rfl ?_
  refine fo (rn 2 rfl ?_)
  exact rt h rfl
 refine rn 5 rfl ?_
 refine spC h rfl (fun hb21 h => ?_) (fun hb21 h => ?_)
 ·refine rn 3 rfl ?_
  refine ixo (a := l3) h rfl rfl rfl (fun x22 hx23 h => ?_)
  refine ldp hx23 rfl rfl rfl rfl ?_
  refine rn 1 rfl ?_
  refine aops_mkIfc tCn112 wants_none rfl (Imm.agg (.cons (Imm.ifc _ _) .nil)) rfl ?_
  refine fo (rn 2 rfl ?_)
  exact rt h rfl
 refine rn 5 rfl ?_
 refine spC h rfl (fun hb24 h => ?_) (fun hb24 h => ?_)
 ·refine rn 4 rfl ?_
  refine aops_ghost (ghost_frzV 1 63 (V.agg [(V.lst 1 (l3.map KV.enc))]) rfl (rows_imm KV.enc_imm) rfl (Sub.agg (.cons (Sub.frzAll (rows := l3.map KV.enc) (List.length_map ..).symm) .nil))) ?_
  refine aops_mkIfc tCn114 wants_none rfl (Imm.agg (.cons (Imm.lst _ _) .nil)) rfl ?_
  refine fo (rn 2 rfl ?_)
  exact rt h rfl
 refine rn 5 rfl ?_
 refine spC h rfl (fun hb25 h => ?_) (fun hb25 h => ?_)
 ·refine rn 4 rfl ?_
  refine aops_ghost (ghost_frzV 1 68 (V.agg [(V.lst 1 (l3.map KV.enc))]) rfl (rows_imm KV.enc_imm) rfl (Sub.agg (.cons (Sub.frzAll (rows := l3.map KV.enc) (List.length_map ..).symm) .nil))) ?_
  refine aops_mkIfc tCn115 wants_none rfl (Imm.agg (.cons (Imm.lst _ _) .nil)) rfl ?_
  refine fo (rn 2 rfl ?_)
  exact rt h rfl
 refine rn 5 rfl ?_
 refine aops_mkIfc tCn117 wants_none rfl (Imm.agg .nil) rfl ?_
 refine fo (rn 2 rfl ?_)
 exact rt h rfl
theorem W31 : ∀ (F : Nat) (a1 : TTest) (r : KV) (h : M31 F a1 = some r), Pure Tryz.prog 31 [(V.agg (encTTest a1))] (V.ifc r.t r.d) := by
 intro F
 induction F with
 | zero => intros; simp [M31] at *
 | succ F ih => exact fun a1 r h => W31_B (M31 F) ih F a1 r h
theorem W32 (F : Nat) (a1 : TFact) (r : Tpolicy_values) (h : M32 F a1 = some r) : Pure Tryz.prog 32 [(V.agg (encTFact a1))] (V.agg (encTpolicy_values r)) := by
 refine pin (fun r => (V.agg (encTpolicy_values r))) r rfl Tryz.func32 rfl rfl rfl rfl rfl (fun w0 m0 hg => ?_)
 unfold M32 at h
 refine rn 17 rfl ?_
 refine ln rfl rfl ?_
 refine rn 2 rfl ?_
 refine jK h (fun (p : (List ((List UInt8) × Tpolicy_value))) => (⟨[(1, (V.ptr 0 4 0 0)), (2, (V.ptr 1 2 0 0)), (3, (V.ptr 2 2 0 0))], [(0, (Ob.arr 25 4 [(encTFact a1)])), (1, (Ob.arr 72 2 [[(V.con (.map none)), (V.con (.map none))]])), (2, (Ob.arr 72 2 [[(V.map 3), (V.con (.map none))]])), (3, (Ob.map (p.map encM9_119)))], 4⟩ : St)) (fun k2 p => k2 p = some r) (fun k2 h => ?_) ?_
 ·refine rn 1 rfl ?_
  refine wl (A := a1.Texts) 13 rfl (fun hA11 => ?_)
  refine lC (fun (p : Int × (List ((List UInt8) × Tpolicy_value))) => (⟨[(1, (V.ptr 0 4 0 0)), (2, (V.ptr 1 2 0 0)), (3, (V.ptr 2 2 0 0)), (13, (V.lst 2 (a1.Texts.map encTPair))), (14, (iV ((a1.Texts.length : Nat) : Int))), (15, (iV (p.1)))], [(0, (Ob.arr 25 4 [(encTFact a1)])), (1, (Ob.arr 72 2 [[(V.con (.map none)), (V.con (.map none))]])), (2, (Ob.arr 72 2 [[(V.map 3), (V.con (.map none))]])), (3, (Ob.map ((p.2).map encM9_119)))], 4⟩ : St)) (fun n p => RG a1.Texts (fun tl nn => M32_L1 F k2 tl p.2 = some r) n p.1) (fun p h => RG.zero h) (a1.Texts.length + 1) (0, ([] : List ((List UInt8) × Tpolicy_value))) (RG.start h) (gr [0, 1, 3, 2] rfl (hB rfl rfl rfl (hB rfl rfl rfl (hB rfl rfl rfl (hM rfl rfl .nil)))) rfl) (fun n p h => ?_)
  obtain ⟨n6, m7⟩ := p
  refine rn 5 rfl ?_
  refine spL rfl (fun hb8 => ?_) (fun hb8 => ?_)
  ·obtain ⟨x9, tl, hx10, h, hk1⟩ := RG.t hA11 h hb8
   unfold M32_L1 at h
   refine rn 5 rfl ?_
   refine ixh hx10 rfl rfl ?_
   refine rn 10 rfl ?_
   refine aops_lookup _ (V.agg [(bV false), (bV false), (sV ([] : List UInt8)), (iV 0)]) (V.agg (encTpolicy_value ((mget m7 x9.Name).getD (Tpolicy_value.mk false false ([] : List UInt8) 0)))) tMap69 tKey9 tZo119 (irel_conAgg [.bool false, .bool false, str ([] : List UInt8), .int .i64 0]) wants_none rfl (.own rfl) (.con rfl) ⟨_, rfl⟩ encM9_119_good (encM9_119_look m7 x9.Name) (getD_map (encM9_119_val) (mget m7 x9.Name) (Tpolicy_value.mk false false ([] : List UInt8) 0)) rfl ?_
   refine fo (rn 4 rfl ?_)
   refine dr mixed (vs 6 rfl .nil) (by kernel_rfl) ?_
   refine rn 6 rfl ?_
   refine aops_mapUpdate (es := m7.map encM9_119) ((mput m7 x9.Name (Tpolicy_value.mk true ((mget m7 x9.Name).getD (Tpolicy_value.mk false false ([] : List UInt8) 0)).hasNumber x9.Value ((mget m7 x9.Name).getD (Tpolicy_value.mk false false ([] : List UInt8) 0)).number)).map encM9_119) tMap69 tKey9 wants_none rfl rfl (.con rfl) ⟨_, rfl⟩ encM9_119_good rfl (encM9_119_puts m7 x9.Name (Tpolicy_value.mk true ((mget m7 x9.Name).getD (Tpolicy_value.mk false false ([] : List UInt8) 0)).hasNumber x9.Value ((mget m7 x9.Name).getD (Tpolicy_value.mk false false ([] : List UInt8) 0)).number)) ?_
   refine fo (rn 6 rfl ?_)
   exact jX ((w64 (n6 + 1)), (mput m7 x9.Name (Tpolicy_value.mk true ((mget m7 x9.Name).getD (Tpolicy_value.mk false false ([] : List UInt8) 0)).hasNumber x9.Value ((mget m7 x9.Name).getD (Tpolicy_value.mk false false ([] : List UInt8) 0)).number))) (hk1 _ h) (gr [0, 1, 2, 3] rfl (hB rfl rfl rfl (hB rfl rfl rfl (hB rfl rfl rfl (hM rfl rfl .nil)))) rfl)
  replace h := RG.f h hb8
  unfold M32_L1 at h
  refine rn 1 rfl ?_
  exact jX m7 h (gr [0, 1, 2, 3] rfl (hB rfl rfl rfl (hB rfl rfl rfl (hB rfl rfl rfl (hM rfl rfl .nil)))) rfl)
 intro m3 h
 refine rn 5 rfl ?_
 refine ln rfl rfl ?_
 refine rn 2 rfl ?_
 refine jK h (fun (p : (List ((List UInt8) × Tpolicy_value))) => (⟨[(2, (V.ptr 0 2 0 0)), (3, (V.ptr 1 2 0 0))], [(0, (Ob.arr 72 2 [[(V.con (.map none)), (V.con (.map none))]])), (1, (Ob.arr 72 2 [[(V.map 2), (V.con (.map none))]])), (2, (Ob.map (p.map encM9_119)))], 3⟩ : St)) (fun k12 p => k12 p = some r) (fun k12 h => ?_) ?_
 ·refine rn 1 rfl ?_
  refine wl (A := a1.Numbers) 35 rfl (fun hA21 => ?_)
  refine lC (fun (p : Int × (List ((List UInt8) × Tpolicy_value))) => (⟨[(2, (V.ptr 0 2 0 0)), (3, (V.ptr 1 2 0 0)), (35, (V.lst 2 (a1.Numbers.map encTAmount))), (36, (iV ((a1.Numbers.length : Nat) : Int))), (37, (iV (p.1)))], [(0, (Ob.arr 72 2 [[(V.con (.map none)), (V.con (.map none))]])), (1, (Ob.arr 72 2 [[(V.map 2), (V.con (.map none))]])), (2, (Ob.map ((p.2).map encM9_119)))], 3⟩ : St)) (fun n p => RG a1.Numbers (fun tl nn => M32_L2 F k12 tl p.2 = some r) n p.1) (fun p h => RG.zero h) (a1.Numbers.length + 1) (0, m3) (RG.start h) (gr [1, 2, 3] rfl (hB rfl rfl rfl (hB rfl rfl rfl (hM rfl rfl .nil))) rfl) (fun n p h => ?_)
  obtain ⟨n16, m17⟩ := p
  refine rn 5 rfl ?_
  refine spL rfl (fun hb18 => ?_) (fun hb18 => ?_)
  ·obtain ⟨x19, tl, hx20, h, hk2⟩ := RG.t hA21 h hb18
   unfold M32_L2 at h
   refine rn 5 rfl ?_
   refine ixh hx20 rfl rfl ?_
   refine rn 10 rfl ?_
   refine aops_lookup _ (V.agg [(bV false), (bV false), (sV ([] : List UInt8)), (iV 0)]) (V.agg (encTpolicy_value ((mget m17 x19.Name).getD (Tpolicy_value.mk false false ([] : List UInt8) 0)))) tMap69 tKey9 tZo119 (irel_conAgg [.bool false, .bool false, str ([] : List UInt8), .int .i64 0]) wants_none rfl (.own rfl) (.con rfl) ⟨_, rfl⟩ encM9_119_good (encM9_119_look m17 x19.Name) (getD_map (encM9_119_val) (mget m17 x19.Name) (Tpolicy_value.mk false false ([] : List UInt8) 0)) rfl ?_
   refine fo (rn 4 rfl ?_)
   refine dr mixed (vs 6 rfl .nil) (by kernel_rfl) ?_
   refine rn 6 rfl ?_
   refine aops_mapUpdate (es := m17.map encM9_119) ((mput m17 x19.Name (Tpolicy_value.mk ((mget m17 x19.Name).getD (Tpolicy_value.mk false false ([] : List UInt8) 0)).hasText true ((mget m17 x19.Name).getD (Tpolicy_value.mk false false ([] : List UInt8) 0)).text x19.N)).map encM9_119) tMap69 tKey9 wants_none rfl rfl (.con rfl) ⟨_, rfl⟩ encM9_119_good rfl (encM9_119_puts m17 x19.Name (Tpolicy_value.mk ((mget m17 x19.Name).getD (Tpolicy_value.mk false false ([] : List UInt8) 0)).hasText true ((mget m17 x19.Name).getD (Tpolicy_value.mk false false ([] : List UInt8) 0)).text x19.N)) ?_
   refine fo (rn 6 rfl ?_)
   exact jX ((w64 (n16 + 1)), (mput m17 x19.Name (Tpolicy_value.mk ((mget m17 x19.Name).getD (Tpolicy_value.mk false false ([] : List UInt8) 0)).hasText true ((mget m17 x19.Name).getD (Tpolicy_value.mk false false ([] : List UInt8) 0)).text x19.N))) (hk2 _ h) (gr [0, 1, 2] rfl (hB rfl rfl rfl (hB rfl rfl rfl (hM rfl rfl .nil))) rfl)
  replace h := RG.f h hb18
  unfold M32_L2 at h
  refine rn 1 rfl ?_
  exact jX m17 h (gr [0, 1, 2] rfl (hB rfl rfl rfl (hB rfl rfl rfl (hM rfl rfl .nil))) rfl)
 intro m13 h
 refine rn 5 rfl ?_
 refine awp_ghost (ghost_frzMC 2 0 (Ob.arr 72 2 [[(V.imap (m13.map encM9_119)), (V.con (.map none))]]) rfl encM9_119_imm (ObSub.box (.cons Sub.frzM (.cons Sub.keepM .nil)))) ?_
 refine fa ?_
 exact rt h rfl
theorem W177 (F : Nat) (a1 : Tpolicy_values) (a2 : (List UInt8)) (r : (Tpolicy_value × Bool)) (h : M177 F a1 a2 = some r) : Pure Tryz.prog 177 [(V.agg (encTpolicy_values a1)), (sV a2)] (V.tup [(V.agg (encTpolicy_value (r.1))), (bV (r.2))]) := by
 refine pin (fun r => (V.tup [(V.agg (encTpolicy_value (r.1))), (bV (r.2))])) r rfl Tryz.func177 rfl rfl rfl rfl rfl (fun w0 m0 hg => ?_)
 unfold M177 at h
 refine rn 7 rfl ?_
 refine dr mixed (vs 3 rfl (xD (OD.mk [(7, (V.imap (a1.by_.map encM9_119))), (8, (sV a2))] [] [(9, (V.agg (encTpolicy_value ((mget a1.by_ a2).getD (Tpolicy_value.mk false false ([] : List UInt8) 0)))))] []) ⟨⟨rfl, rfl, trivial⟩, trivial⟩ (by exact fun S hn h hh => aops_lookup _ (V.agg [(bV false), (bV false), (sV ([] : List UInt8)), (iV 0)]) (V.agg (encTpolicy_value ((mget a1.by_ a2).getD (Tpolicy_value.mk false false ([] : List UInt8) 0)))) tMap69 tKey9 tZo119 (irel_conAgg [.bool false, .bool false, str ([] : List UInt8), .int .i64 0]) wants_none h.1 .imm (.con h.2.1) ⟨_, rfl⟩ encM9_119_good (encM9_119_look a1.by_ a2) (getD_map (encM9_119_val) (mget a1.by_ a2) (Tpolicy_value.mk false false ([] : List UInt8) 0)) rfl (aops_nil ⟨rfl, rfl⟩)) rfl (vs 2 rfl (xD (OD.mk [(11, (V.con (.map none)))] [] [(12, (bV true))] []) ⟨⟨rfl, trivial⟩, trivial⟩ (by exact fun S hn h hh => aops_eqNilM (b := true) false tIsMp70 wants_none h.1 rfl rfl rfl (aops_nil ⟨rfl, rfl⟩)) rfl (vs 8 rfl .nil))))) (by kernel_rfl) ?_
 exact rt h rfl
theorem W115 (F : Nat) (a1 : (List (List UInt8))) (a2 : (List UInt8)) (r : Int) (h : M115 F a1 a2 = some r) : Pure Tryz.prog 115 [(V.lst 1 (a1.map encS)), (sV a2)] (iV r) := by
 refine pin (fun r => (iV r)) r rfl Tryz.func115 rfl rfl rfl rfl rfl (fun w0 m0 hg => ?_)
 unfold M115 at h
 refine rn 8 rfl ?_
 refine ln rfl rfl ?_
 refine rn 2 rfl ?_
 refine jK h (fun _ : Unit => (⟨[], [], 0⟩ : St)) (fun k3 (_ : Unit) => k3 = some r) (fun k3 h => ?_) ?_
 ·refine rn 1 rfl ?_
  refine wl (A := a1) 0 rfl (fun hA10 => ?_)
  refine lC (fun (p : Int) => (⟨[(0, (V.lst 1 (a1.map encS))), (1, (sV a2)), (7, (iV ((a1.length : Nat) : Int))), (8, (iV p))], [], 0⟩ : St)) (fun n p => RG a1 (fun tl nn => M115_L1 F a2 k3 tl nn = some r) n p) (fun p h => RG.zero h) (a1.length + 1) 0 (RG.start h) (g0 rfl rfl) (fun n n5 h => ?_)
  refine rn 5 rfl ?_
  refine spL rfl (fun hb6 => ?_) (fun hb6 => ?_)
  ·obtain ⟨x7, tl, hx8, h, hk1⟩ := RG.t hA10 h hb6
   unfold M115_L1 at h
   refine rn 13 rfl ?_
   refine ixh hx8 rfl rfl ?_
   refine rn 3 rfl ?_
   refine spC h rfl (fun hb9 h => ?_) (fun hb9 h => ?_)
   ·refine rn 5 rfl ?_
    exact rt h rfl
   refine rn 6 rfl ?_
   exact jX (w64 (n5 + 1)) (hk1 _ h) (g0 rfl rfl)
  replace h := RG.f h hb6
  unfold M115_L1 at h
  refine rn 1 rfl ?_
  exact jX () h (g0 rfl rfl)
 intro _ h
 refine rn 4 rfl ?_
 exact rt h rfl
theorem W180 (F : Nat) (a1 : (List (List UInt8))) (a2 : (List UInt8)) (r : Bool) (h : M180 F a1 a2 = some r) : Pure Tryz.prog 180 [(V.lst 1 (a1.map encS)), (sV a2)] (bV r) := by
 refine pin (fun r => (bV r)) r rfl Tryz.func180 rfl rfl rfl rfl rfl (fun w0 m0 hg => ?_)
 unfold M180 at h
 refine rn 8 rfl ?_
 refine cl h rfl rfl rfl (W115 _ _ _) rfl (fun y3 hx4 h => ?_)
 refine rn 3 rfl ?_
 exact rt h rfl
theorem W179 (F : Nat) (a1 : Bool) (r : Int) (h : M179 F a1 = some r) : Pure Tryz.prog 179 [(bV a1)] (iV r) := by
 refine pin (fun r => (iV r)) r rfl Tryz.func179 rfl rfl rfl rfl rfl (fun w0 m0 hg => ?_)
 unfold M179 at h
 refine rn 9 rfl ?_
 refine spC h rfl (fun hb2 h => ?_) (fun hb2 h => ?_)
 ·refine rn 4 rfl ?_
  exact rt h rfl
 refine rn 5 rfl ?_
 exact rt h rfl
theorem W178 (F : Nat) (a1 : Tpolicy_condIs) (a2 : Tpolicy_values) (r : Int) (h : M178 F a1 a2 = some r) : Pure Tryz.prog 178 [(V.agg (encTpolicy_condIs a1)), (V.agg (encTpolicy_values a2))] (iV r) := by
 refine pin (fun r => (iV r)) r rfl Tryz.func178 rfl rfl rfl rfl rfl (fun w0 m0 hg => ?_)
 unfold M178 at h
 refine rn 11 rfl ?_
 refine cl h rfl rfl rfl (W177 _ _ _) rfl (fun y3 hx4 h => ?_)
 refine rn 13 rfl ?_
 refine spC h rfl (fun hb5 h => ?_) (fun hb5 h => ?_)
 ·refine rn 4 rfl ?_
  exact rt h rfl
 refine rn 6 rfl ?_
 refine spO 18 h rfl (fun hb6 h => ?_) (fun hb6 h => ?_)
 ·refine rn 4 rfl ?_
  refine cl h rfl rfl rfl (W180 _ _ _) rfl (fun y7 hx8 h => ?_)
  refine rn 1 rfl ?_
  refine cl h rfl rfl rfl (W179 _ _) rfl (fun y9 hx10 h => ?_)
  refine rn 2 rfl ?_
  exact rt h rfl
 refine rn 6 rfl ?_
 refine cl h rfl rfl rfl (W179 _ _) rfl (fun y11 hx12 h => ?_)
 refine rn 2 rfl ?_
 exact rt h rfl
theorem W114 (F : Nat) (a1 : (List UInt8)) (a2 : (List UInt8)) (r : Bool) (h : M114 F a1 a2 = some r) : Pure Tryz.prog 114 [(sV a1), (sV a2)] (bV r) := by
 refine pin (fun r => (bV r)) r rfl Tryz.func114 rfl rfl rfl rfl rfl (fun w0 m0 hg => ?_)
 unfold M114 at h
 refine rn 12 rfl ?_
 refine spO 10 h rfl (fun hb3 h => ?_) (fun hb3 h => ?_)
 ·refine rn 3 rfl ?_
  refine ck h (fun hc4 h => ?_)
  refine aops_sliceT (0) ((a2.length : Int).toNat) (a1.take (a2.length : Int).toNat) tStr9 (wants_some (c := true) (b := true) 10 rfl rfl rfl) rfl rfl ⟨_, (by rw [Int.toNat_of_nonneg hc4.1]; exact rfl)⟩ (Nat.zero_le _) hc4.2 slT_lo rfl ?_
  refine fo (rn 5 rfl ?_)
  exact rt h rfl
 refine rn 9 rfl ?_
 exact rt h rfl
theorem W93 (F : Nat) (a1 : (List UInt8)) (a2 : (List UInt8)) (r : Bool) (h : M93 F a1 a2 = some r) : Pure Tryz.prog 93 [(sV a1), (sV a2)] (bV r) := by
 refine pin (fun r => (bV r)) r rfl Tryz.func93 rfl rfl rfl rfl rfl (fun w0 m0 hg => ?_)
 unfold M93 at h
 refine rn 8 rfl ?_
 refine cl h rfl rfl rfl (W114 _ _ _) rfl (fun y3 hx4 h => ?_)
 refine rn 2 rfl ?_
 exact rt h rfl
theorem W183 (F : Nat) (a1 : (List UInt8)) (a2 : Bool) (a3 : Bool) (a4 : List UInt8) (a5 : Int) (r : Bool) (h : M183 F a1 a2 a3 a4 a5 = some r) : Pure Tryz.prog 183 [(sV a1), (V.iptr [(bV a2), (bV a3), (sV a4), (iV a5)] 0)] (bV r) := by
 refine pin (fun r => (bV r)) r rfl Tryz.func183 rfl rfl rfl rfl rfl (fun w0 m0 hg => ?_)
 unfold M183 at h
 refine rn 9 rfl ?_
 refine cl h rfl rfl rfl (W93 _ _ _) rfl (fun y6 hx7 h => ?_)
 refine rn 2 rfl ?_
 exact rt h rfl
theorem W184 (F : Nat) (a1 : (List (List UInt8))) (a2 : Bool) (a3 : Bool) (a4 : List UInt8) (a5 : Int) (r : Int) (h : M184 F a1 a2 a3 a4 a5 = some r) : Pure Tryz.prog 184 [(V.lst 1 (a1.map encS)), (V.fn (.func 183) [] [(V.iptr [(bV a2), (bV a3), (sV a4), (iV a5)] 0)])] (iV r) := by
 refine pin (fun r => (iV r)) r rfl Tryz.func184 rfl rfl rfl rfl rfl (fun w0 m0 hg => ?_)
 unfold M184 at h
 refine rn 8 rfl ?_
 refine ln rfl rfl ?_
 refine rn 2 rfl ?_
 refine jK h (fun _ : Unit => (⟨[], [], 0⟩ : St)) (fun k6 (_ : Unit) => k6 = some r) (fun k6 h => ?_) ?_
 ·refine rn 1 rfl ?_
  refine wl (A := a1) 0 rfl (fun hA15 => ?_)
  refine lC (fun (p : Int) => (⟨[(0, (V.lst 1 (a1.map encS))), (1, (V.fn (.func 183) [] [(V.iptr [(bV a2), (bV a3), (sV a4), (iV a5)] 0)])), (7, (iV ((a1.length : Nat) : Int))), (8, (iV p))], [], 0⟩ : St)) (fun n p => RG a1 (fun tl nn => M184_L1 F a2 a3 a4 a5 k6 tl nn = some r) n p) (fun p h => RG.zero h) (a1.length + 1) 0 (RG.start h) (g0 rfl rfl) (fun n n8 h => ?_)
  refine rn 5 rfl ?_
  refine spL rfl (fun hb9 => ?_) (fun hb9 => ?_)
  ·obtain ⟨x10, tl, hx11, h, hk1⟩ := RG.t hA15 h hb9
   unfold M184_L1 at h
   refine rn 13 rfl ?_
   refine ixh hx11 rfl rfl ?_
   refine rn 1 rfl ?_
   refine cl h rfl rfl rfl (W183 _ _ _ _ _ _) rfl (fun y12 hx13 h => ?_)
   refine rn 1 rfl ?_
   refine spC h rfl (fun hb14 h => ?_) (fun hb14 h => ?_)
   ·refine rn 5 rfl ?_
    exact rt h rfl
   refine rn 6 rfl ?_
   exact jX (w64 (n8 + 1)) (hk1 _ h) (g0 rfl rfl)
  replace h := RG.f h hb9
  unfold M184_L1 at h
  refine rn 1 rfl ?_
  exact jX () h (g0 rfl rfl)
 intro _ h
 refine rn 4 rfl ?_
 exact rt h rfl
theorem W182 (F : Nat) (a1 : (List (List UInt8))) (a2 : Bool) (a3 : Bool) (a4 : List UInt8) (a5 : Int) (r : Bool) (h : M182 F a1 a2 a3 a4 a5 = some r) : Pure Tryz.prog 182 [(V.lst 1 (a1.map encS)), (V.fn (.func 183) [] [(V.iptr [(bV a2), (bV a3), (sV a4), (iV a5)] 0)])] (bV r) := by
 refine pin (fun r => (bV r)) r rfl Tryz.func182 rfl rfl rfl rfl rfl (fun w0 m0 hg => ?_)
 unfold M182 at h
 refine rn 8 rfl ?_
 refine cl h rfl rfl rfl (W184 _ _ _ _ _ _) rfl (fun y6 hx7 h => ?_)
 refine rn 3 rfl ?_
 exact rt h rfl
theorem W181 (F : Nat) (a1 : Tpolicy_condBegins) (a2 : Tpolicy_values) (r : Int) (h : M181 F a1 a2 = some r) : Pure Tryz.prog 181 [(V.agg (encTpolicy_condBegins a1)), (V.agg (encTpolicy_values a2))] (iV r) := by
 refine pin (fun r => (iV r)) r rfl Tryz.func181 rfl rfl rfl rfl rfl (fun w0 m0 hg => ?_)
 unfold M181 at h
 refine rn 11 rfl ?_
 refine cl h rfl rfl rfl (W177 _ _ _) rfl (fun y3 hx4 h => ?_)
 refine rn 13 rfl ?_
 refine spC h rfl (fun hb5 h => ?_) (fun hb5 h => ?_)
 ·refine rn 4 rfl ?_
  exact rt h rfl
 refine rn 6 rfl ?_
 refine spO 18 h rfl (fun hb6 h => ?_) (fun hb6 h => ?_)
 ·obtain ⟨y7, hx8, h⟩ := bind_some h
  refine rn 3 rfl ?_
  refine aops_lend_call (bV y7) [(V.lst 1 (a1.texts.map encS)), (V.fn (.func 183) [] [(V.iptr (encTpolicy_value (y3.1)) 0)])] fOk182 (ghost_frzV 2 21 (V.fn (.func 183) [] [(V.iptr (encTpolicy_value (y3.1)) 0)]) rfl (imms_rows (.cons (imms_encTpolicy_value _) .nil)) rfl (Sub.fnc (.cons (Sub.frzptr rfl) .nil))) (Flat.con _) (wants_some (c := true) (b := true) 18 rfl rfl rfl) (evm_cons rfl (evm_cons rfl evm_nil)) (.cons (Imm.lst _ _) (.cons (Imm.fn .nil (.cons (Imm.iptr _ _) .nil)) .nil)) (W182 F a1.texts (y3.1).hasText (y3.1).hasNumber (y3.1).text (y3.1).number y7 hx8) rfl ?_
  refine fo (rn 1 rfl ?_)
  refine cl h rfl rfl rfl (W179 _ _) rfl (fun y9 hx10 h => ?_)
  refine rn 2 rfl ?_
  exact rt h rfl
 refine rn 5 rfl ?_
 refine cl h rfl rfl rfl (W179 _ _) rfl (fun y11 hx12 h => ?_)
 refine rn 2 rfl ?_
 exact rt h rfl
theorem W185 (F : Nat) (a1 : Tpolicy_condHas) (a2 : Tpolicy_values) (r : Int) (h : M185 F a1 a2 = some r) : Pure Tryz.prog 185 [(V.agg [(sV a1.name)]), (V.agg (encTpolicy_values a2))] (iV r) := by
 refine pin (fun r => (iV r)) r rfl Tryz.func185 rfl rfl rfl rfl rfl (fun w0 m0 hg => ?_)
 unfold M185 at h
 refine rn 11 rfl ?_
 refine cl h rfl rfl rfl (W177 _ _ _) rfl (fun y3 hx4 h => ?_)
 refine rn 13 rfl ?_
 refine spC h rfl (fun hb5 h => ?_) (fun hb5 h => ?_)
 ·refine rn 4 rfl ?_
  exact rt h rfl
 refine rn 6 rfl ?_
 refine spO 18 h rfl (fun hb6 h => ?_) (fun hb6 h => ?_)
 ·refine rn 3 rfl ?_
  refine cl h rfl rfl rfl (W179 _ _) rfl (fun y7 hx8 h => ?_)
  refine rn 2 rfl ?_
  exact rt h rfl
 refine rn 3 rfl ?_
 refine cl h rfl rfl rfl (W179 _ _) rfl (fun y9 hx10 h => ?_)
 refine rn 2 rfl ?_
 exact rt h rfl
theorem W187 (F : Nat) (a1 : Int) (a2 : Int) (a3 : Int) (r : Bool) (h : M187 F a1 a2 a3 = some r) : Pure Tryz.prog 187 [(iV a1), (iV a2), (iV a3)] (bV r) := by
 refine pin (fun r => (bV r)) r rfl Tryz.func187 rfl rfl rfl rfl rfl (fun w0 m0 hg => ?_)
 unfold M187 at h
 refine rn 15 rfl ?_
 refine spC h rfl (fun hb4 h => ?_) (fun hb4 h => ?_)
 ·refine rn 7 rfl ?_
  exact rt h rfl
 refine rn 5 rfl ?_
 refine spC h rfl (fun hb5 h => ?_) (fun hb5 h => ?_)
 ·refine rn 7 rfl ?_
  exact rt h rfl
 refine rn 5 rfl ?_
 refine spC h rfl (fun hb6 h => ?_) (fun hb6 h => ?_)
 ·refine rn 7 rfl ?_
  exact rt h rfl
 refine rn 5 rfl ?_
 refine spC h rfl (fun hb7 h => ?_) (fun hb7 h => ?_)
 ·refine rn 7 rfl ?_
  exact rt h rfl
 refine rn 9 rfl ?_
 exact rt h rfl
theorem W186 (F : Nat) (a1 : Tpolicy_condNumber) (a2 : Tpolicy_values) (r : Int) (h : M186 F a1 a2 = some r) : Pure Tryz.prog 186 [(V.agg (encTpolicy_condNumber a1)), (V.agg (encTpolicy_values a2))] (iV r) := by
 refine pin (fun r => (iV r)) r rfl Tryz.func186 rfl rfl rfl rfl rfl (fun w0 m0 hg => ?_)
 unfold M186 at h
 refine rn 11 rfl ?_
 refine cl h rfl rfl rfl (W177 _ _ _) rfl (fun y3 hx4 h => ?_)
 refine rn 13 rfl ?_
 refine spC h rfl (fun hb5 h => ?_) (fun hb5 h => ?_)
 ·refine rn 4 rfl ?_
  exact rt h rfl
 refine rn 6 rfl ?_
 refine spO 18 h rfl (fun hb6 h => ?_) (fun hb6 h => ?_)
 ·refine rn 6 rfl ?_
  refine cl h rfl rfl rfl (W187 _ _ _ _) rfl (fun y7 hx8 h => ?_)
  refine rn 1 rfl ?_
  refine cl h rfl rfl rfl (W179 _ _) rfl (fun y9 hx10 h => ?_)
  refine rn 2 rfl ?_
  exact rt h rfl
 refine rn 8 rfl ?_
 refine cl h rfl rfl rfl (W179 _ _) rfl (fun y11 hx12 h => ?_)
 refine rn 2 rfl ?_
 exact rt h rfl
theorem W176 (F : Nat) (a1 : Int) (r : Int) (h : M176 F a1 = some r) : Pure Tryz.prog 176 [(iV a1)] (iV r) := by
 refine pin (fun r => (iV r)) r rfl Tryz.func176 rfl rfl rfl rfl rfl (fun w0 m0 hg => ?_)
 unfold M176 at h
 refine rn 15 rfl ?_
 refine spC h rfl (fun hb2 h => ?_) (fun hb2 h => ?_)
 ·refine rn 4 rfl ?_
  exact rt h rfl
 refine rn 5 rfl ?_
 refine spC h rfl (fun hb3 h => ?_) (fun hb3 h => ?_)
 ·refine rn 4 rfl ?_
  exact rt h rfl
 refine rn 6 rfl ?_
 exact rt h rfl
theorem W188 (Riholds : KV → Tpolicy_values → Option Int) (hRiholds : ∀ (k : KV) (a1 : Tpolicy_values) (r : Int), Riholds k a1 = some r → DispG [] Tryz.prog "provender/policy.holds" k [(V.agg [(V.imap (a1.by_.map encM9_119)), (V.con (.map none))])] (iV r)) (F : Nat) (a1 : Tpolicy_condNot) (a2 : Tpolicy_values) (r : Int) (h : M188 Riholds F a1 a2 = some r) : Pure Tryz.prog 188 [(V.agg [(V.ifc a1.kid.t a1.kid.d)]), (V.agg (encTpolicy_values a2))] (iV r) := by
 refine pin (fun r => (iV r)) r rfl Tryz.func188 rfl rfl rfl rfl rfl (fun w0 m0 hg => ?_)
 unfold M188 at h
 obtain ⟨y3, hx4, h⟩ := bind_some h
 refine rn 11 rfl ?_
 refine aops_invokeD (iV y3) [(V.agg (encTpolicy_values a2))] wants_none rfl (evm_cons rfl evm_nil) (.cons (Imm.agg (imms_encTpolicy_values _)) .nil) (hRiholds a1.kid a2 _ hx4) rfl ?_
 refine fo ?_
 refine cl h rfl rfl rfl (W176 _ _) rfl (fun y5 hx6 h => ?_)
 refine rn 2 rfl ?_
 exact rt h rfl
theorem W189 (Riholds : KV → Tpolicy_values → Option Int) (hRiholds : ∀ (k : KV) (a1 : Tpolicy_values) (r : Int), Riholds k a1 = some r → DispG [] Tryz.prog "provender/policy.holds" k [(V.agg [(V.imap (a1.by_.map encM9_119)), (V.con (.map none))])] (iV r)) (F : Nat) (a1 : Tpolicy_condAll) (a2 : Tpolicy_values) (r : Int) (h : M189 Riholds F a1 a2 = some r) : Pure Tryz.prog 189 [(V.agg [(V.lst 1 (a1.kids.map KV.enc))]), (V.agg (encTpolicy_values a2))] (iV r) := by
 refine pin (fun r => (iV r)) r rfl Tryz.func189 rfl rfl rfl rfl rfl (fun w0 m0 hg => ?_)
 unfold M189 at h
 refine rn 15 rfl ?_
 refine ln rfl rfl ?_
 refine rn 2 rfl ?_
 refine jK h (fun (p : Int) => (⟨[(5, (iV p))], [], 0⟩ : St)) (fun k3 p => k3 p = some r) (fun k3 h => ?_) ?_
 ·refine rn 1 rfl ?_
  refine wl (A := a1.kids) 9 rfl (fun hA18 => ?_)
  refine lC (fun (p : Int × Int) => (⟨[(3, (V.ptr 0 2 0 0)), (5, (iV (p.1))), (9, (V.lst 1 (a1.kids.map KV.enc))), (10, (iV ((a1.kids.length : Nat) : Int))), (11, (iV (p.2)))], [(0, (Ob.arr 72 2 [(encTpolicy_values a2)]))], 1⟩ : St)) (fun n p => RG a1.kids (fun tl nn => M189_L1 Riholds F a2 k3 tl p.1 = some r) n p.2) (fun p h => RG.zero h) (a1.kids.length + 1) (1, 0) (RG.start h) (gr [1] rfl (hB rfl rfl rfl .nil) rfl) (fun n p h => ?_)
  obtain ⟨n7, n8⟩ := p
  refine rn 5 rfl ?_
  refine spL rfl (fun hb9 => ?_) (fun hb9 => ?_)
  ·obtain ⟨x10, tl, hx11, h, hk1⟩ := RG.t hA18 h hb9
   unfold M189_L1 at h
   refine rn 5 rfl ?_
   refine ixh hx11 rfl rfl ?_
   obtain ⟨y12, hx13, h⟩ := bind_some h
   refine rn 7 rfl ?_
   refine aops_invokeD (iV y12) [(V.agg (encTpolicy_values a2))] wants_none rfl (evm_cons rfl evm_nil) (.cons (Imm.agg (imms_encTpolicy_values _)) .nil) (hRiholds x10 a2 _ hx13) rfl ?_
   refine fo (rn 7 rfl ?_)
   refine jK h (fun (p : Int) => (⟨[(3, (V.ptr 0 2 0 0)), (5, (iV p)), (9, (V.lst 1 (a1.kids.map KV.enc))), (10, (iV ((a1.kids.length : Nat) : Int))), (11, (iV n8))], [(0, (Ob.arr 72 2 [(encTpolicy_values a2)]))], 1⟩ : St)) (fun k14 p => k14 p = some r) (fun k14 h => ?_) ?_
   ·refine spC h rfl (fun hb16 h => ?_) (fun hb16 h => ?_)
    ·refine rn 4 rfl ?_
     exact rt h rfl
    refine rn 5 rfl ?_
    refine spC h rfl (fun hb17 h => ?_) (fun hb17 h => ?_)
    ·refine rn 3 rfl ?_
     exact jX 0 h (gr [0] rfl (hB rfl rfl rfl .nil) rfl)
    refine rn 1 rfl ?_
    exact jX n7 h (gr [0] rfl (hB rfl rfl rfl .nil) rfl)
   intro n15 h
   refine rn 6 rfl ?_
   exact jX (n15, (w64 (n8 + 1))) (hk1 _ h) (gr [0] rfl (hB rfl rfl rfl .nil) rfl)
  replace h := RG.f h hb9
  unfold M189_L1 at h
  refine rn 1 rfl ?_
  exact jX n7 h (g0 rfl rfl)
 intro n4 h
 refine rn 5 rfl ?_
 exact rt h rfl
theorem W190 (Riholds : KV → Tpolicy_values → Option Int) (hRiholds : ∀ (k : KV) (a1 : Tpolicy_values) (r : Int), Riholds k a1 = some r → DispG [] Tryz.prog "provender/policy.holds" k [(V.agg [(V.imap (a1.by_.map encM9_119)), (V.con (.map none))])] (iV r)) (F : Nat) (a1 : Tpolicy_condAny) (a2 : Tpolicy_values) (r : Int) (h : M190 Riholds F a1 a2 = some r) : Pure Tryz.prog 190 [(V.agg [(V.lst 1 (a1.kids.map KV.enc))]), (V.agg (encTpolicy_values a2))] (iV r) := by
 refine pin (fun r => (iV r)) r rfl Tryz.func190 rfl rfl rfl rfl rfl (fun w0 m0 hg => ?_)
 unfold M190 at h
 refine rn 15 rfl ?_
 refine ln rfl rfl ?_
 refine rn 2 rfl ?_
 refine jK h (fun (p : Int) => (⟨[(5, (iV p))], [], 0⟩ : St)) (fun k3 p => k3 p = some r) (fun k3 h => ?_) ?_
 ·refine rn 1 rfl ?_
  refine wl (A := a1.kids) 9 rfl (fun hA18 => ?_)
  refine lC (fun (p : Int × Int) => (⟨[(3, (V.ptr 0 2 0 0)), (5, (iV (p.1))), (9, (V.lst 1 (a1.kids.map KV.enc))), (10, (iV ((a1.kids.length : Nat) : Int))), (11, (iV (p.2)))], [(0, (Ob.arr 72 2 [(encTpolicy_values a2)]))], 1⟩ : St)) (fun n p => RG a1.kids (fun tl nn => M190_L1 Riholds F a2 k3 tl p.1 = some r) n p.2) (fun p h => RG.zero h) (a1.kids.length + 1) (2, 0) (RG.start h) (gr [1] rfl (hB rfl rfl rfl .nil) rfl) (fun n p h => ?_)
  obtain ⟨n7, n8⟩ := p
  refine rn 5 rfl ?_
  refine spL rfl (fun hb9 => ?_) (fun hb9 => ?_)
  ·obtain ⟨x10, tl, hx11, h, hk1⟩ := RG.t hA18 h hb9
   unfold M190_L1 at h
   refine rn 5 rfl ?_
   refine ixh hx11 rfl rfl ?_
   obtain ⟨y12, hx13, h⟩ := bind_some h
   refine rn 7 rfl ?_
   refine aops_invokeD (iV y12) [(V.agg (encTpolicy_values a2))] wants_none rfl (evm_cons rfl evm_nil) (.cons (Imm.agg (imms_encTpolicy_values _)) .nil) (hRiholds x10 a2 _ hx13) rfl ?_
   refine fo (rn 7 rfl ?_)
   refine jK h (fun (p : Int) => (⟨[(3, (V.ptr 0 2 0 0)), (5, (iV p)), (9, (V.lst 1 (a1.kids.map KV.enc))), (10, (iV ((a1.kids.length : Nat) : Int))), (11, (iV n8))], [(0, (Ob.arr 72 2 [(encTpolicy_values a2)]))], 1⟩ : St)) (fun k14 p => k14 p = some r) (fun k14 h => ?_) ?_
   ·refine spC h rfl (fun hb16 h => ?_) (fun hb16 h => ?_)
    ·refine rn 4 rfl ?_
     exact rt h rfl
    refine rn 5 rfl ?_
    refine spC h rfl (fun hb17 h => ?_) (fun hb17 h => ?_)
    ·refine rn 3 rfl ?_
     exact jX 0 h (gr [0] rfl (hB rfl rfl rfl .nil) rfl)
    refine rn 1 rfl ?_
    exact jX n7 h (gr [0] rfl (hB rfl rfl rfl .nil) rfl)
   intro n15 h
   refine rn 6 rfl ?_
   exact jX (n15, (w64 (n8 + 1))) (hk1 _ h) (gr [0] rfl (hB rfl rfl rfl .nil) rfl)
  replace h := RG.f h hb9
  unfold M190_L1 at h
  refine rn 1 rfl ?_
  exact jX n7 h (g0 rfl rfl)
 intro n4 h
 refine rn 5 rfl ?_
 exact rt h rfl
theorem W191 (F : Nat) (a1 : Tpolicy_condTrue) (a2 : Tpolicy_values) (r : Int) (h : M191 F a1 a2 = some r) : Pure Tryz.prog 191 [(V.agg []), (V.agg (encTpolicy_values a2))] (iV r) := by
 refine pin (fun r => (iV r)) r rfl Tryz.func191 rfl rfl rfl rfl rfl (fun w0 m0 hg => ?_)
 unfold M191 at h
 refine rn 10 rfl ?_
 exact rt h rfl
theorem Wiholds_B (Riholds : KV → Tpolicy_values → Option Int) (hRiholds : ∀ (k : KV) (a1 : Tpolicy_values) (r : Int), Riholds k a1 = some r → DispG [] Tryz.prog "provender/policy.holds" k [(V.agg [(V.imap (a1.by_.map encM9_119)), (V.con (.map none))])] (iV r)) (F : Nat) (k : KV) (a1 : Tpolicy_values) (r : Int) (h : Miholds_B Riholds F k a1 = some r) : DispG [] Tryz.prog "provender/policy.holds" k [(V.agg [(V.imap (a1.by_.map encM9_119)), (V.con (.map none))])] (iV r) := by
 unfold Miholds_B at h
 refine oeK h (fun y hy h => disp_of tM105_iholds hy (W178 F y a1 r h)) (fun h => ?_)
 refine oeK h (fun y hy h => disp_of tM106_iholds hy (W181 F y a1 r h)) (fun h => ?_)
 refine oeK h (fun y hy h => disp_of tM108_iholds hy (W185 F y a1 r h)) (fun h => ?_)
 refine oeK h (fun y hy h => disp_of tM110_iholds hy (W186 F y a1 r h)) (fun h => ?_)
 refine oeK h (fun y hy h => disp_of tM112_iholds hy (W188 Riholds hRiholds F y a1 r h)) (fun h => ?_)
 refine oeK h (fun y hy h => disp_of tM114_iholds hy (W189 Riholds hRiholds F y a1 r h)) (fun h => ?_)
 refine oeK h (fun y hy h => disp_of tM115_iholds hy (W190 Riholds hRiholds F y a1 r h)) (fun h => ?_)
 refine oeK h (fun y hy h => disp_of tM117_iholds hy (W191 F y a1 r h)) (fun h => ?_)
 cases h
theorem Wiholds : ∀ (F : Nat) (k : KV) (a1 : Tpolicy_values) (r : Int) (h : Miholds F k a1 = some r), DispG [] Tryz.prog "provender/policy.holds" k [(V.agg [(V.imap (a1.by_.map encM9_119)), (V.con (.map none))])] (iV r) := by
 intro F
 induction F with
 | zero => intros; simp [Miholds] at *
 | succ F ih => exact fun k a1 r h => Wiholds_B (Miholds F) ih F k a1 r h
theorem W69 (F : Nat) (a1 : (List UInt8)) (a2 : Int) (r : Int) (h : M69 F a1 a2 = some r) : Pure Tryz.prog 69 [(sV a1), (V.con (.int .u8 a2))] (iV r) := by
 unfold M69 at h
 replace h := Option.some.inj h
 subst h
 exact pure_indexByte (fun c w => Go.Proofs.Tryz.strings_IndexByte _ c w)
theorem W71 (F : Nat) (a1 : TPolicyRule) (a2 : List UInt8) (a3 : List UInt8) (a4 : Int) (a5 : Int) (a6 : List UInt8) (a7 : Int) (r : Bool) (h : M71 F a1 a2 a3 a4 a5 a6 a7 = some r) : Pure Tryz.prog 71 [(V.agg (encTPolicyRule a1)), (V.iptr [(sV a2), (sV a3), (iV a4), (iV a5), (sV a6), (iV a7)] 0)] (bV r) := by
 refine pin (fun r => (bV r)) r rfl Tryz.func71 rfl rfl rfl rfl rfl (fun w0 m0 hg => ?_)
 unfold M71 at h
 refine rn 14 rfl ?_
 exact rt h rfl
theorem W80 (F : Nat) (a1 : (List TPolicyRule)) (a2 : List UInt8) (a3 : List UInt8) (a4 : Int) (a5 : Int) (a6 : List UInt8) (a7 : Int) (r : Int) (h : M80 F a1 a2 a3 a4 a5 a6 a7 = some r) : Pure Tryz.prog 80 [(V.lst 9 (a1.map encTPolicyRule)), (V.fn (.func 71) [] [(V.iptr [(sV a2), (sV a3), (iV a4), (iV a5), (sV a6), (iV a7)] 0)])] (iV r) := by
 refine pin (fun r => (iV r)) r rfl Tryz.func80 rfl rfl rfl rfl rfl (fun w0 m0 hg => ?_)
 unfold M80 at h
 refine rn 8 rfl ?_
 refine ln rfl rfl ?_
 refine rn 2 rfl ?_
 refine jK h (fun _ : Unit => (⟨[], [], 0⟩ : St)) (fun k8 (_ : Unit) => k8 = some r) (fun k8 h => ?_) ?_
 ·refine rn 1 rfl ?_
  refine wl (A := a1) 0 rfl (fun hA17 => ?_)
  refine lC (fun (p : Int) => (⟨[(0, (V.lst 9 (a1.map encTPolicyRule))), (1, (V.fn (.func 71) [] [(V.iptr [(sV a2), (sV a3), (iV a4), (iV a5), (sV a6), (iV a7)] 0)])), (7, (iV ((a1.length : Nat) : Int))), (8, (iV p))], [], 0⟩ : St)) (fun n p => RG a1 (fun tl nn => M80_L1 F a2 a3 a4 a5 a6 a7 k8 tl nn = some r) n p) (fun p h => RG.zero h) (a1.length + 1) 0 (RG.start h) (g0 rfl rfl) (fun n n10 h => ?_)
  refine rn 5 rfl ?_
  refine spL rfl (fun hb11 => ?_) (fun hb11 => ?_)
  ·obtain ⟨x12, tl, hx13, h, hk1⟩ := RG.t hA17 h hb11
   unfold M80_L1 at h
   refine rn 13 rfl ?_
   refine ixh hx13 rfl rfl ?_
   refine rn 1 rfl ?_
   refine cl h rfl rfl rfl (W71 _ _ _ _ _ _ _ _) rfl (fun y14 hx15 h => ?_)
   refine rn 1 rfl ?_
   refine spC h rfl (fun hb16 h => ?_) (fun hb16 h => ?_)
   ·refine rn 5 rfl ?_
    exact rt h rfl
   refine rn 6 rfl ?_
   exact jX (w64 (n10 + 1)) (hk1 _ h) (g0 rfl rfl)
  replace h := RG.f h hb11
  unfold M80_L1 at h
  refine rn 1 rfl ?_
  exact jX () h (g0 rfl rfl)
 intro _ h
 refine rn 4 rfl ?_
 exact rt h rfl
theorem W70 (F : Nat) (a1 : (List TPolicyRule)) (a2 : List UInt8) (a3 : List UInt8) (a4 : Int) (a5 : Int) (a6 : List UInt8) (a7 : Int) (r : Bool) (h : M70 F a1 a2 a3 a4 a5 a6 a7 = some r) : Pure Tryz.prog 70 [(V.lst 9 (a1.map encTPolicyRule)), (V.fn (.func 71) [] [(V.iptr [(sV a2), (sV a3), (iV a4), (iV a5), (sV a6), (iV a7)] 0)])] (bV r) := by
 refine pin (fun r => (bV r)) r rfl Tryz.func70 rfl rfl rfl rfl rfl (fun w0 m0 hg => ?_)
 unfold M70 at h
 refine rn 8 rfl ?_
 refine cl h rfl rfl rfl (W80 _ _ _ _ _ _ _ _) rfl (fun y8 hx9 h => ?_)
 refine rn 3 rfl ?_
 exact rt h rfl
theorem W45 (F : Nat) (a1 : TPolicy) (a2 : TWaiver) (r : Int) (h : M45 F a1 a2 = some r) : Pure Tryz.prog 45 [(V.agg (encTPolicy a1)), (V.agg (encTWaiver a2))] (iV r) := by
 refine pin (fun r => (iV r)) r rfl Tryz.func45 rfl rfl rfl rfl rfl (fun w0 m0 hg => ?_)
 unfold M45 at h
 refine rn 10 rfl ?_
 refine cl h rfl rfl rfl (W69 _ _ _) rfl (fun y3 hx4 h => ?_)
 obtain ⟨y5, hx6, h⟩ := bind_some h
 refine rn 9 rfl ?_
 refine aops_lend_call (bV y5) [(V.lst 9 (a1.Rules.map encTPolicyRule)), (V.fn (.func 71) [] [(V.iptr (encTWaiver a2) 0)])] fOk70 (ghost_frzV 1 12 (V.fn (.func 71) [] [(V.iptr (encTWaiver a2) 0)]) rfl (imms_rows (.cons (imms_encTWaiver _) .nil)) rfl (Sub.fnc (.cons (Sub.frzptr rfl) .nil))) (Flat.con _) wants_none (evm_cons rfl (evm_cons rfl evm_nil)) (.cons (Imm.lst _ _) (.cons (Imm.fn .nil (.cons (Imm.iptr _ _) .nil)) .nil)) (W70 F a1.Rules a2.Rule a2.Subject a2.From a2.To a2.Owner a2.Level y5 hx6) rfl ?_
 refine fo (rn 3 rfl ?_)
 refine jK h (fun _ : Unit => (⟨[], [], 0⟩ : St)) (fun k7 (_ : Unit) => k7 = some r) (fun k7 h => ?_) ?_
 ·refine spC h rfl (fun hb8 h => ?_) (fun hb8 h => ?_)
  ·refine rn 4 rfl ?_
   exact rt h rfl
  refine rn 4 rfl ?_
  refine cl h rfl rfl rfl (W35 _ _) rfl (fun y9 hx10 h => ?_)
  refine rn 2 rfl ?_
  refine spO 20 h rfl (fun hb11 h => ?_) (fun hb11 h => ?_)
  ·refine rn 18 rfl ?_
   exact rt h rfl
  refine rn 3 rfl ?_
  refine spO 23 h rfl (fun hb12 h => ?_) (fun hb12 h => ?_)
  ·refine rn 10 rfl ?_
   refine spC h rfl (fun hb13 h => ?_) (fun hb13 h => ?_)
   ·refine rn 4 rfl ?_
    exact rt h rfl
   refine rn 6 rfl ?_
   refine spO 36 h rfl (fun hb14 h => ?_) (fun hb14 h => ?_)
   ·refine rn 18 rfl ?_
    exact rt h rfl
   refine rn 7 rfl ?_
   refine spO 43 h rfl (fun hb15 h => ?_) (fun hb15 h => ?_)
   ·refine rn 11 rfl ?_
    exact rt h rfl
   refine rn 6 rfl ?_
   refine spC h rfl (fun hb16 h => ?_) (fun hb16 h => ?_)
   ·refine rn 4 rfl ?_
    exact rt h rfl
   refine rn 4 rfl ?_
   refine cl h rfl rfl rfl (W34 _ _) rfl (fun y17 hx18 h => ?_)
   refine rn 3 rfl ?_
   refine spC h rfl (fun hb19 h => ?_) (fun hb19 h => ?_)
   ·refine rn 4 rfl ?_
    exact rt h rfl
   refine rn 6 rfl ?_
   refine spO 57 h rfl (fun hb20 h => ?_) (fun hb20 h => ?_)
   ·refine rn 11 rfl ?_
    exact rt h rfl
   refine rn 6 rfl ?_
   refine spC h rfl (fun hb21 h => ?_) (fun hb21 h => ?_)
   ·refine rn 4 rfl ?_
    exact rt h rfl
   refine rn 1 rfl ?_
   exact jX () h (g0 rfl rfl)
  refine rn 17 rfl ?_
  refine spO 36 h rfl (fun hb22 h => ?_) (fun hb22 h => ?_)
  ·refine rn 18 rfl ?_
   exact rt h rfl
  refine rn 7 rfl ?_
  refine spO 43 h rfl (fun hb23 h => ?_) (fun hb23 h => ?_)
  ·refine rn 11 rfl ?_
   exact rt h rfl
  refine rn 6 rfl ?_
  refine spC h rfl (fun hb24 h => ?_) (fun hb24 h => ?_)
  ·refine rn 4 rfl ?_
   exact rt h rfl
  refine rn 4 rfl ?_
  refine cl h rfl rfl rfl (W34 _ _) rfl (fun y25 hx26 h => ?_)
  refine rn 3 rfl ?_
  refine spC h rfl (fun hb27 h => ?_) (fun hb27 h => ?_)
  ·refine rn 4 rfl ?_
   exact rt h rfl
  refine rn 6 rfl ?_
  refine spO 57 h rfl (fun hb28 h => ?_) (fun hb28 h => ?_)
  ·refine rn 11 rfl ?_
   exact rt h rfl
  refine rn 6 rfl ?_
  refine spC h rfl (fun hb29 h => ?_) (fun hb29 h => ?_)
  ·refine rn 4 rfl ?_
   exact rt h rfl
  refine rn 1 rfl ?_
  exact jX () h (g0 rfl rfl)
 intro _ h
 refine rn 5 rfl ?_
 exact rt h rfl
theorem W14 (F : Nat) (a1 : TPolicy) (r : Int) (h : M14 F a1 = some r) : Pure Tryz.prog 14 [(V.agg (encTPolicy a1))] (iV r) := by
 refine pin (fun r => (iV r)) r rfl Tryz.func14 rfl rfl rfl rfl rfl (fun w0 m0 hg => ?_)
 unfold M14 at h
 refine rn 10 rfl ?_
 refine ln rfl rfl ?_
 refine rn 2 rfl ?_
 refine spO 14 h rfl (fun hb2 h => ?_) (fun hb2 h => ?_)
 ·refine rn 11 rfl ?_
  exact rt h rfl
 refine rn 2 rfl ?_
 refine ln rfl rfl ?_
 refine rn 3 rfl ?_
 refine spC h rfl (fun hb3 h => ?_) (fun hb3 h => ?_)
 ·refine rn 4 rfl ?_
  exact rt h rfl
 refine rn 11 rfl ?_
 refine ln rfl rfl ?_
 refine rn 2 rfl ?_
 refine jK h (fun _ : Unit => (⟨[(1, (V.ptr 0 2 0 0))], [(0, (Ob.arr 33 2 [(encTPolicy a1)]))], 1⟩ : St)) (fun k4 (_ : Unit) => k4 = some r) (fun k4 h => ?_) ?_
 ·refine rn 1 rfl ?_
  refine wl (A := a1.Rules) 11 rfl (fun hA24 => ?_)
  refine lC (fun (p : Int × (List ((List UInt8) × Bool))) => (⟨[(1, (V.ptr 0 2 0 0)), (3, (V.map 1)), (22, (V.lst 9 (a1.Rules.map encTPolicyRule))), (23, (iV ((a1.Rules.length : Nat) : Int))), (24, (iV (p.1)))], [(0, (Ob.arr 33 2 [(encTPolicy a1)])), (1, (Ob.map ((p.2).map encM9_4)))], 2⟩ : St)) (fun n p => RG a1.Rules (fun tl nn => M14_L1 F k4 tl p.2 = some r) n p.1) (fun p h => RG.zero h) (a1.Rules.length + 1) (0, ([] : List ((List UInt8) × Bool))) (RG.start h) (gr [0, 1] rfl (hB rfl rfl rfl (hM rfl rfl .nil)) rfl) (fun n p h => ?_)
  obtain ⟨n7, m8⟩ := p
  refine rn 5 rfl ?_
  refine spL rfl (fun hb9 => ?_) (fun hb9 => ?_)
  ·obtain ⟨x10, tl, hx11, h, hk1⟩ := RG.t hA24 h hb9
   unfold M14_L1 at h
   refine rn 5 rfl ?_
   refine ixh hx11 rfl rfl ?_
   refine rn 10 rfl ?_
   refine cl h rfl rfl rfl (W34 _ _) rfl (fun y12 hx13 h => ?_)
   refine rn 3 rfl ?_
   refine spC h rfl (fun hb14 h => ?_) (fun hb14 h => ?_)
   ·refine rn 4 rfl ?_
    exact rt h rfl
   refine rn 5 rfl ?_
   refine aops_lookup _ (bV false) (bV ((mget m8 x10.Name).getD false)) tMap70 tKey9 tZo4 (irel_con _) wants_none rfl (.own rfl) (.con rfl) ⟨_, rfl⟩ encM9_4_good (encM9_4_look m8 x10.Name) (getD_map (encM9_4_val) (mget m8 x10.Name) false) rfl ?_
   refine fo (rn 2 rfl ?_)
   refine spC h rfl (fun hb15 h => ?_) (fun hb15 h => ?_)
   ·refine rn 4 rfl ?_
    exact rt h rfl
   refine rn 4 rfl ?_
   refine cl h rfl rfl rfl (W34 _ _) rfl (fun y16 hx17 h => ?_)
   refine rn 3 rfl ?_
   refine spC h rfl (fun hb18 h => ?_) (fun hb18 h => ?_)
   ·refine rn 4 rfl ?_
    exact rt h rfl
   refine rn 7 rfl ?_
   refine aops_mapUpdate (es := m8.map encM9_4) ((mput m8 x10.Name true).map encM9_4) tMap70 tKey9 wants_none rfl rfl (.con rfl) ⟨_, rfl⟩ encM9_4_good rfl (encM9_4_puts m8 x10.Name true) ?_
   refine fo (rn 6 rfl ?_)
   refine cl h rfl rfl rfl (W12 _ _) rfl (fun y19 hx20 h => ?_)
   refine rn 7 rfl ?_
   refine spC h rfl (fun hb21 h => ?_) (fun hb21 h => ?_)
   ·refine rn 5 rfl ?_
    exact rt h rfl
   refine rn 7 rfl ?_
   refine spO 55 h rfl (fun hb22 h => ?_) (fun hb22 h => ?_)
   ·refine rn 10 rfl ?_
    exact rt h rfl
   refine rn 5 rfl ?_
   refine spC h rfl (fun hb23 h => ?_) (fun hb23 h => ?_)
   ·refine rn 4 rfl ?_
    exact rt h rfl
   refine rn 6 rfl ?_
   exact jX ((w64 (n7 + 1)), (mput m8 x10.Name true)) (hk1 _ h) (gr [0, 1] rfl (hB rfl rfl rfl (hM rfl rfl .nil)) rfl)
  replace h := RG.f h hb9
  unfold M14_L1 at h
  refine rn 1 rfl ?_
  exact jX () h (gr [0] rfl (hB rfl rfl rfl .nil) rfl)
 intro _ h
 refine rn 5 rfl ?_
 refine ln rfl rfl ?_
 refine rn 2 rfl ?_
 refine jK h (fun _ : Unit => (⟨[], [], 0⟩ : St)) (fun k25 (_ : Unit) => k25 = some r) (fun k25 h => ?_) ?_
 ·refine rn 1 rfl ?_
  refine wl (A := a1.Waivers) 62 rfl (fun hA34 => ?_)
  refine lC (fun (p : Int) => (⟨[(1, (V.ptr 0 2 0 0)), (62, (V.lst 6 (a1.Waivers.map encTWaiver))), (63, (iV ((a1.Waivers.length : Nat) : Int))), (64, (iV p))], [(0, (Ob.arr 33 2 [(encTPolicy a1)]))], 1⟩ : St)) (fun n p => RG a1.Waivers (fun tl nn => M14_L2 F a1 k25 tl = some r) n p) (fun p h => RG.zero h) (a1.Waivers.length + 1) 0 (RG.start h) (gr [0] rfl (hB rfl rfl rfl .nil) rfl) (fun n n27 h => ?_)
  refine rn 5 rfl ?_
  refine spL rfl (fun hb28 => ?_) (fun hb28 => ?_)
  ·obtain ⟨x29, tl, hx30, h, hk2⟩ := RG.t hA34 h hb28
   unfold M14_L2 at h
   refine rn 5 rfl ?_
   refine ixh hx30 rfl rfl ?_
   refine rn 8 rfl ?_
   refine cl h rfl rfl rfl (W45 _ _ _) rfl (fun y31 hx32 h => ?_)
   refine rn 7 rfl ?_
   refine spC h rfl (fun hb33 h => ?_) (fun hb33 h => ?_)
   ·refine rn 5 rfl ?_
    exact rt h rfl
   refine rn 6 rfl ?_
   exact jX (w64 (n27 + 1)) (hk2 _ h) (gr [0] rfl (hB rfl rfl rfl .nil) rfl)
  replace h := RG.f h hb28
  unfold M14_L2 at h
  refine rn 1 rfl ?_
  exact jX () h (g0 rfl rfl)
 intro _ h
 refine rn 4 rfl ?_
 exact rt h rfl
theorem W16 (F : Nat) (r : Bool) (h : M16 F = some r) : Pure Tryz.prog 16 [] (bV r) := by
 unfold M16 at h
 replace h := Option.some.inj h
 subst h
 exact told_pure
end Go.Proofs.YtkeeppclihjlhaaGreatDoor
