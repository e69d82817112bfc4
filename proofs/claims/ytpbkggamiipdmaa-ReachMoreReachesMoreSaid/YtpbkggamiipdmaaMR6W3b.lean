/- Part of the proof: R6W3b. -/
import Derived.Test.YtpbkggamiipdmaaMR6M
import Derived.Test.YtpbkggamiipdmaaMR6W3a
import Derived.KernelRfl
namespace Go.Proofs.Ytpbkggamiipdmaa
open Go Go.Pv
set_option linter.unusedVariables false
set_option maxRecDepth 100000
theorem W3 (F : Nat) (a1 : TGraph) (a2 : (List (List UInt8))) (a3 : (List Bool)) (r : Bool) (h : M3 F a1 a2 a3 = some r) : Pure Try.prog 3 [(V.agg (encTGraph a1)), (V.lst 1 (a2.map encS)), (V.lst 1 (a3.map encB))] (bV r) := by
  refine pin (fun r => (bV r)) r rfl Try.func3 rfl rfl rfl rfl rfl (fun w0 m0 hg => ?_)
  unfold M3 at h
  refine rn 13 rfl ?_
  refine ln rfl rfl ?_
  refine rn 2 rfl ?_
  refine jK h (fun (p : (List (List UInt8))) => (⟨[(1, (V.lst 1 (a2.map encS))), (3, (V.ptr 0 4 0 0)), (7, (V.own 1 p.length))], [(0, (Ob.arr 27 4 [(encTGraph a1)])), (1, (Ob.arr 9 1 (p.map encS)))], 2⟩ : St)) (fun k4 (p : (List (List UInt8))) => k4 p = some r) (fun k4 h => ?_) ?_
  · refine rn 1 rfl ?_
    refine wl (A := a2) 1 rfl (fun hA23 => ?_)
    refine lC (fun (p : Int × (List (List UInt8))) => (⟨[(1, (V.lst 1 (a2.map encS))), (2, (V.lst 1 (a3.map encB))), (3, (V.ptr 0 4 0 0)), (7, (V.own 1 (p.2).length)), (20, (V.lst 1 (a2.map encS))), (21, (iV ((a2.length : Nat) : Int))), (22, (iV (p.1)))], [(0, (Ob.arr 27 4 [(encTGraph a1)])), (1, (Ob.arr 9 1 ((p.2).map encS)))], 2⟩ : St)) (fun n (p : Int × (List (List UInt8))) => RG a2 (fun tl nn => M3_L1 F a3 k4 tl nn p.2 = some r) n p.1) (fun p h => RG.zero h) (a2.length + 1) (0, ([] : List (List UInt8))) (RG.start h) (Ghost.trans (ghost_nilE 7 9 1 rfl) (ghost_ren 2 (fun i => ([0, 1] : List Nat).getD i 0) _ _ (by decide) (EnvSub.get (.cons (Sub.imm (Imm.lst _ _)) (.cons (Sub.imm (Imm.lst _ _)) (.cons (Sub.ptr rfl rfl) (.cons (Sub.ownE rfl rfl (by simp)) (.cons (Sub.imm (Imm.lst _ _)) (.cons (Sub.imm (Imm.con _)) (.cons (Sub.imm (Imm.con _)) .nil)))))))) (HpSub.get (.cons rfl (ObSub.box (.cons (Sub.imm (Imm.lst _ _)) (.cons (Sub.imm (Imm.lst _ _)) (.cons (Sub.imm (Imm.lst _ _)) (.cons (Sub.imm (Imm.lst _ _)) .nil))))) (.cons rfl (ObSub.rows (rows_imm imms_encS)) .nil))) rfl)) (fun n p h => ?_)
    obtain ⟨n8, l9⟩ := p
    refine rn 5 rfl ?_
    refine spL rfl (fun hb10 => ?_) (fun hb10 => ?_)
    · obtain ⟨x13, tl, hx14, h, hk1⟩ := RG.t hA23 h hb10
      unfold M3_L1 at h
      refine rn 2 rfl ?_
      refine jK h (fun (p : (List (List UInt8))) => (⟨[(1, (V.lst 1 (a2.map encS))), (2, (V.lst 1 (a3.map encB))), (3, (V.ptr 0 4 0 0)), (7, (V.own 1 p.length)), (20, (V.lst 1 (a2.map encS))), (21, (iV ((a2.length : Nat) : Int))), (22, (iV n8))], [(0, (Ob.arr 27 4 [(encTGraph a1)])), (1, (Ob.arr 9 1 (p.map encS)))], 2⟩ : St)) (fun k11 (p : (List (List UInt8))) => k11 p = some r) (fun k11 h => ?_) ?_
      · refine rn 4 rfl ?_
        refine ixh hx14 rfl rfl ?_
        refine rn 8 rfl ?_
        refine ln rfl rfl ?_
        refine rn 2 rfl ?_
        refine spO 31 h rfl (fun hb15 h => ?_) (fun hb15 h => ?_)
        · refine rn 11 rfl ?_
          refine aops_buildSlice [(0, (sV x13))] [[(sV x13)]] tEl25 tZ9 rfl rfl rfl rfl wants_none (evp_cons rfl evp_nil) rfl rfl (by simp) rfl ?_
          refine fo ?_
          refine apO encS h rfl rfl rfl rfl rfl rfl rfl rfl (fun h => ?_)
          refine rn 3 rfl ?_
          exact jX (l9 ++ ([x13] : List (List UInt8))) h (gr [0, 3] rfl (hB rfl rfl rfl (hR rfl rfl .nil)) rfl)
        refine rn 2 rfl ?_
        refine ixl h rfl rfl (fun x17 hx18 h => ?_)
        refine rn 4 rfl ?_
        refine jK h (fun (p : (List (List UInt8))) => (⟨[(1, (V.lst 1 (a2.map encS))), (2, (V.lst 1 (a3.map encB))), (3, (V.ptr 0 4 0 0)), (7, (V.own 1 p.length)), (20, (V.lst 1 (a2.map encS))), (21, (iV ((a2.length : Nat) : Int))), (22, (iV n8)), (32, (V.lst 1 (a3.map encB))), (33, (iV n8)), (34, (V.iptr [(bV x17)] 0)), (35, (bV x17)), (36, (bV (!x17)))], [(0, (Ob.arr 27 4 [(encTGraph a1)])), (1, (Ob.arr 9 1 (p.map encS)))], 2⟩ : St)) (fun k19 (p : (List (List UInt8))) => k19 p = some r) (fun k19 h => ?_) ?_
        · refine spC h rfl (fun hb21 h => ?_) (fun hb21 h => ?_)
          · refine rn 3 rfl ?_
            refine aops_buildSlice [(0, (sV x13))] [[(sV x13)]] tEl25 tZ9 rfl rfl rfl rfl wants_none (evp_cons rfl evp_nil) rfl rfl (by simp) rfl ?_
            refine fo ?_
            refine apO encS h rfl rfl rfl rfl rfl rfl rfl rfl (fun h => ?_)
            refine rn 2 rfl ?_
            exact jX (l9 ++ ([x13] : List (List UInt8))) h (gr [0, 3] rfl (hB rfl rfl rfl (hR rfl rfl .nil)) rfl)
          refine rn 1 rfl ?_
          exact jX l9 h (gr [0, 1] rfl (hB rfl rfl rfl (hR rfl rfl .nil)) rfl)
        intro l20 h
        refine rn 1 rfl ?_
        exact jX l20 h (gr [0, 1] rfl (hB rfl rfl rfl (hR rfl rfl .nil)) rfl)
      intro l12 h
      refine rn 4 rfl ?_
      exact jX ((w64 (n8 + 1)), l12) (hk1 _ h) (gr [0, 1] rfl (hB rfl rfl rfl (hR rfl rfl .nil)) rfl)
    replace h := RG.f h hb10
    unfold M3_L1 at h
    refine rn 1 rfl ?_
    exact jX l9 h (gr [0, 1] rfl (hB rfl rfl rfl (hR rfl rfl .nil)) rfl)
  intro l5 h
  refine rn 4 rfl ?_
  refine cl h rfl rfl rfl (W9 _ _ _ _) rfl (fun y24 hx25 h => ?_)
  obtain ⟨y26, hx27, h⟩ := bind_some h
  refine rn 10 rfl ?_
  refine aops_ghost (ghost_frzEs 1 [51, 7] rfl (rows_imm imms_encS) (List.forall_mem_cons.2 ⟨rfl, (List.forall_mem_cons.2 ⟨rfl, (fun _ hx => nomatch hx)⟩)⟩) (List.length_map ..).symm) ?_
  refine aops_call (V.tup [(V.lst 1 ((y26.1).map encS)), (iV (y26.2))]) [(V.agg (encTGraph a1)), (iV 1), (V.lst 1 (l5.map encS))] fOk9 wants_none (evm_cons rfl (evm_cons rfl (evm_cons rfl evm_nil))) (.cons (Imm.agg (imms_encTGraph _)) (.cons (Imm.con _) (.cons (Imm.lst _ _) .nil))) (W9 F a1 1 l5 y26 hx27) rfl ?_
  refine fo (rn 10 rfl ?_)
  refine cl h rfl rfl rfl (W9 _ _ _ _) rfl (fun y28 hx29 h => ?_)
  refine rn 10 rfl ?_
  refine cl h rfl rfl rfl (W9 _ _ _ _) rfl (fun y30 hx31 h => ?_)
  refine rn 12 rfl ?_
  refine spO 69 h rfl (fun hb32 h => ?_) (fun hb32 h => ?_)
  · refine rn 17 rfl ?_
    refine cl h rfl rfl rfl (W10 _ _ _ _) rfl (fun y33 hx34 h => ?_)
    refine rn 12 rfl ?_
    refine spO 90 h rfl (fun hb35 h => ?_) (fun hb35 h => ?_)
    · refine cl h rfl rfl rfl (W11 _) rfl (fun y36 hx37 h => ?_)
      refine rn 3 rfl ?_
      exact rt h rfl
    refine rn 4 rfl ?_
    exact rt h rfl
  refine rn 4 rfl ?_
  refine spO 73 h rfl (fun hb38 h => ?_) (fun hb38 h => ?_)
  · refine rn 13 rfl ?_
    refine cl h rfl rfl rfl (W10 _ _ _ _) rfl (fun y39 hx40 h => ?_)
    refine rn 12 rfl ?_
    refine spO 90 h rfl (fun hb41 h => ?_) (fun hb41 h => ?_)
    · refine cl h rfl rfl rfl (W11 _) rfl (fun y42 hx43 h => ?_)
      refine rn 3 rfl ?_
      exact rt h rfl
    refine rn 4 rfl ?_
    exact rt h rfl
  refine rn 4 rfl ?_
  refine spO 77 h rfl (fun hb44 h => ?_) (fun hb44 h => ?_)
  · refine rn 9 rfl ?_
    refine cl h rfl rfl rfl (W10 _ _ _ _) rfl (fun y45 hx46 h => ?_)
    refine rn 12 rfl ?_
    refine spO 90 h rfl (fun hb47 h => ?_) (fun hb47 h => ?_)
    · refine cl h rfl rfl rfl (W11 _) rfl (fun y48 hx49 h => ?_)
      refine rn 3 rfl ?_
      exact rt h rfl
    refine rn 4 rfl ?_
    exact rt h rfl
  refine rn 4 rfl ?_
  refine spC h rfl (fun hb50 h => ?_) (fun hb50 h => ?_)
  · refine rn 4 rfl ?_
    refine cl h rfl rfl rfl (W10 _ _ _ _) rfl (fun y51 hx52 h => ?_)
    refine rn 12 rfl ?_
    refine spO 90 h rfl (fun hb53 h => ?_) (fun hb53 h => ?_)
    · refine cl h rfl rfl rfl (W11 _) rfl (fun y54 hx55 h => ?_)
      refine rn 3 rfl ?_
      exact rt h rfl
    refine rn 4 rfl ?_
    exact rt h rfl
  refine rn 5 rfl ?_
  refine cl h rfl rfl rfl (W12 _ _ _) rfl (fun y56 hx57 h => ?_)
  refine rn 1 rfl ?_
  refine spO 96 h rfl (fun hb58 h => ?_) (fun hb58 h => ?_)
  · refine rn 2 rfl ?_
    refine cl h rfl rfl rfl (W12 _ _ _) rfl (fun y59 hx60 h => ?_)
    refine rn 2 rfl ?_
    refine spO 101 h rfl (fun hb61 h => ?_) (fun hb61 h => ?_)
    · refine rn 2 rfl ?_
      refine cl h rfl rfl rfl (W12 _ _ _) rfl (fun y62 hx63 h => ?_)
      refine rn 2 rfl ?_
      refine spO 106 h rfl (fun hb64 h => ?_) (fun hb64 h => ?_)
      · refine rn 2 rfl ?_
        refine cl h rfl rfl rfl (W12 _ _ _) rfl (fun y65 hx66 h => ?_)
        refine rn 2 rfl ?_
        refine spO 111 h rfl (fun hb67 h => ?_) (fun hb67 h => ?_)
        · refine cl h rfl rfl rfl (W11 _) rfl (fun y68 hx69 h => ?_)
          refine rn 3 rfl ?_
          exact rt h rfl
        refine rn 4 rfl ?_
        exact rt h rfl
      refine rn 9 rfl ?_
      exact rt h rfl
    refine rn 14 rfl ?_
    exact rt h rfl
  refine rn 19 rfl ?_
  exact rt h rfl
end Go.Proofs.Ytpbkggamiipdmaa
