/- Part of the proof: Z6W3b. -/
import Derived.Test.YtpbkggamiipdmaaGreatR3Z6M
import Derived.Test.YtpbkggamiipdmaaGreatR3Z6W3a
import Derived.KernelRfl
namespace Go.Proofs.YtpbkggamiipdmaaGreat
open Go Go.Pv
set_option linter.unusedVariables false
set_option maxRecDepth 100000
theorem W123 (F : Nat) (a1 : TType) (a2 : TType) (r : Int) (h : M123 F a1 a2 = some r) : Pure Tryz.prog 123 [(V.agg (encTType a1)), (V.agg (encTType a2)), (V.iptr [(V.fn (.func 47) [] [])] 0)] (iV r) := by
  refine pin (fun r => (iV r)) r rfl Tryz.func123 rfl rfl rfl rfl rfl (fun w0 m0 hg => ?_)
  unfold M123 at h
  obtain ⟨y3, hx4, h⟩ := bind_some h
  obtain ⟨y5, hx6, h⟩ := bind_some h
  obtain ⟨y7, hx8, h⟩ := bind_some h
  refine rn 7 rfl ?_
  refine dr mixed (vs 2 rfl (cD rfl rfl rfl rfl (W47 _ _ _ hx4) rfl (vs 2 rfl (cD rfl rfl rfl rfl (W47 _ _ _ hx6) rfl (cD rfl rfl rfl rfl (W100 _ _ _ _ hx8) rfl (vs 1 rfl .nil)))))) (by kernel_rfl) ?_
  exact rt h rfl
theorem W217 (F : Nat) (a1 : Int) (a2 : Int) (a3 : List TType) (r : (List TType)) (h : M217 F a1 a2 a3 = some r) : Mut Tryz.prog 217 [(V.own 0 a3.length), (iV a1), (iV a2), (V.fn (.func 123) [] [(V.iptr [(V.fn (.func 47) [] [])] 0)])] 1 [(0, (Ob.arr 104 2 (a3.map encTType)))] (resV []) 1 [(0, (Ob.arr 104 2 (r.map encTType)))] := by
  refine mut_enter Tryz.func217 rfl rfl (l := []) rfl rfl [(0, (V.own 0 a3.length)), (1, (iV a1)), (2, (iV a2)), (3, (V.fn (.func 123) [] [(V.iptr [(V.fn (.func 47) [] [])] 0)]))] rfl (fun w0 m0 β0 hg => en ?_)
  unfold M217 at h
  refine rn 7 rfl ?_
  refine lC (fun (p : Int × (List TType)) => (⟨[(0, (V.own 0 (p.2).length)), (1, (iV a1)), (2, (iV a2)), (3, (V.fn (.func 123) [] [(V.iptr [(V.fn (.func 47) [] [])] 0)])), (8, (iV (p.1)))], [(0, (Ob.arr 104 2 ((p.2).map encTType)))], 1⟩ : St)) (fun n (p : Int × (List TType)) => M217_L1 F a1 a2 n p.1 p.2 = some r) (fun p h => by simp [M217_L1] at h) F ((w64 (a1 + 1)), a3) h (gr [0] rfl (hR rfl rfl .nil) rfl) (fun n p h => ?_)
  obtain ⟨n36, l37⟩ := p
  unfold M217_L1 at h
  refine rn 7 rfl ?_
  refine spC h rfl (fun hb38 h => ?_) (fun hb38 h => ?_)
  · refine rn 2 rfl ?_
    refine jK h (fun (p : (List TType)) => (⟨[(0, (V.own 0 p.length)), (1, (iV a1)), (2, (iV a2)), (3, (V.fn (.func 123) [] [(V.iptr [(V.fn (.func 47) [] [])] 0)])), (8, (iV n36))], [(0, (Ob.arr 104 2 (p.map encTType)))], 1⟩ : St)) (fun k39 (p : (List TType)) => k39 p = some r) (fun k39 h => ?_) ?_
    · refine rn 6 rfl ?_
      refine jK h (fun (p : (List TType)) => (⟨[(0, (V.own 0 p.length)), (1, (iV a1)), (2, (iV a2)), (3, (V.fn (.func 123) [] [(V.iptr [(V.fn (.func 47) [] [])] 0)])), (8, (iV n36))], [(0, (Ob.arr 104 2 (p.map encTType)))], 1⟩ : St)) (fun k41 (p : (List TType)) => k41 p = some r) (fun k41 h => ?_) ?_
      · refine rn 1 rfl ?_
        refine lC (fun (p : Int × (List TType)) => (⟨[(0, (V.own 0 (p.2).length)), (1, (iV a1)), (2, (iV a2)), (3, (V.fn (.func 123) [] [(V.iptr [(V.fn (.func 47) [] [])] 0)])), (8, (iV n36)), (9, (iV (p.1)))], [(0, (Ob.arr 104 2 ((p.2).map encTType)))], 1⟩ : St)) (fun n (p : Int × (List TType)) => M217_L2 F a1 k41 n p.1 p.2 = some r) (fun p h => by simp [M217_L2] at h) F (n36, l37) h (gr [0] rfl (hR rfl rfl .nil) rfl) (fun n p h => ?_)
        obtain ⟨n45, l46⟩ := p
        unfold M217_L2 at h
        refine rn 2 rfl ?_
        refine bs h (fun hb47 h => ?_) (fun hb47 h => ?_)
        · obtain ⟨x48, hx49, h⟩ := bind_some h
          obtain ⟨x50, hx51, h⟩ := bind_some h
          obtain ⟨y52, hx53, h⟩ := bind_some h
          refine dr mixed (vs 3 rfl (vb hb47 rfl (vs 3 rfl (oD (a := l46) hx49 rfl rfl rfl rfl (lD hx49 rfl rfl rfl rfl rfl (vs 3 rfl (oD (a := l46) hx51 rfl rfl rfl rfl (lD hx51 rfl rfl rfl rfl rfl (cD rfl rfl rfl rfl (W123 _ _ _ _ hx53) rfl (vs 2 rfl .nil)))))))))) (by kernel_rfl) ?_
          refine spC h rfl (fun hb54 h => ?_) (fun hb54 h => ?_)
          · obtain ⟨x55, hx56, h⟩ := bind_some h
            obtain ⟨x57, hx58, h⟩ := bind_some h
            obtain ⟨x59, hx60, h⟩ := bind_some h
            obtain ⟨x61, hx62, h⟩ := bind_some h
            refine rn 3 rfl ?_
            refine dr mixed (vs 8 rfl (oD (a := l46) hx56 rfl rfl rfl rfl (lD hx56 rfl rfl rfl rfl rfl (vs 2 rfl (oD (a := l46) hx58 rfl rfl rfl rfl (lD hx58 rfl rfl rfl rfl rfl (oD (a := l46) hx60 rfl rfl rfl rfl (xD (OD.mk [(51, (V.ptr 0 2 n45.toNat 0)), (46, (V.agg (encTType x55)))] [(0, (Ob.arr 104 2 (l46.map encTType)))] [] [(0, (Ob.arr 104 2 ((l46.set n45.toNat x55).map encTType)))]) ⟨⟨rfl, rfl, trivial⟩, ⟨rfl, trivial⟩⟩ (by exact fun S hn h hh => aops_store (encTType x55) ((l46.set n45.toNat x55).map encTType) tS104 wants_none h.1 h.2.1 rfl rfl hh.1 (idx_map encTType hx60) rfl (map_set encTType l46 _ x55) (aops_nil ⟨rfl, rfl⟩)) rfl (xD (OD.mk [(39, (V.own 0 l46.length)), (41, (iV (w64 (n45 - 1))))] [] [(52, (V.ptr 0 2 (w64 (n45 - 1)).toNat 0))] []) ⟨⟨rfl, rfl, trivial⟩, trivial⟩ (by exact fun S hn h hh => aops_index_own tSl23 wants_none h.1 h.2.1 (idx_some hx62).1 (by simpa using idx_lt hx62) rfl (aops_nil ⟨rfl, rfl⟩)) rfl (xD (OD.mk [(52, (V.ptr 0 2 (w64 (n45 - 1)).toNat 0)), (50, (V.agg (encTType x57)))] [(0, (Ob.arr 104 2 ((l46.set n45.toNat x55).map encTType)))] [] [(0, (Ob.arr 104 2 (((l46.set n45.toNat x55).set (w64 (n45 - 1)).toNat x57).map encTType)))]) ⟨⟨rfl, rfl, trivial⟩, ⟨rfl, trivial⟩⟩ (by exact fun S hn h hh => aops_store (encTType x57) (((l46.set n45.toNat x55).set (w64 (n45 - 1)).toNat x57).map encTType) tS104 wants_none h.1 h.2.1 rfl rfl hh.1 (idx_map encTType hx62) rfl (map_set encTType (l46.set n45.toNat x55) _ x57) (aops_nil ⟨rfl, rfl⟩)) rfl .nil)))))))))) (by kernel_rfl) ?_
            refine rn 6 rfl ?_
            exact jX ((w64 (n45 - 1)), ((l46.set n45.toNat x55).set (w64 (n45 - 1)).toNat x57)) h (ghost_ren 1 (fun i => ([0] : List Nat).getD i 0) _ _ (by decide) (EnvSub.get (.cons (Sub.ownE rfl rfl (by simp)) (.cons (Sub.imm (Imm.con _)) (.cons (Sub.imm (Imm.con _)) (.cons (Sub.imm (Imm.fn .nil (.cons (Imm.iptr _ _) .nil))) (.cons (Sub.imm (Imm.con _)) (.cons (Sub.imm (Imm.con _)) .nil))))))) (HpSub.get (.cons rfl (ObSub.rows (rows_imm imms_encTType)) .nil)) rfl)
          refine rn 1 rfl ?_
          exact jX l46 h (gr [0] rfl (hR rfl rfl .nil) rfl)
        refine dr mixed (vs 3 rfl (vb hb47 rfl (vs 13 rfl .nil))) (by kernel_rfl) ?_
        refine rn 2 rfl ?_
        exact jX l46 h (gr [0] rfl (hR rfl rfl .nil) rfl)
      intro l42 h
      refine rn 1 rfl ?_
      exact jX l42 h (gr [0] rfl (hR rfl rfl .nil) rfl)
    intro l40 h
    refine rn 5 rfl ?_
    exact jX ((w64 (n36 + 1)), l40) h (gr [0] rfl (hR rfl rfl .nil) rfl)
  refine rn 1 rfl ?_
  replace h := Option.some.inj h
  subst h
  exact wE ⟨.inr rfl, [], (gr [0] rfl (hR rfl rfl .nil) rfl), .nil⟩
theorem W262 (F : Nat) (a1 : Int) (a2 : Int) (a3 : Int) (a4 : List TType) (r : (List TType)) (h : M262 F a1 a2 a3 a4 = some r) : Mut Tryz.prog 262 [(V.own 0 a4.length), (iV a1), (iV a2), (iV a3), (V.fn (.func 123) [] [(V.iptr [(V.fn (.func 47) [] [])] 0)])] 1 [(0, (Ob.arr 104 2 (a4.map encTType)))] (resV []) 1 [(0, (Ob.arr 104 2 (r.map encTType)))] := by
  refine mut_enter Tryz.func262 rfl rfl (l := []) rfl rfl [(0, (V.own 0 a4.length)), (1, (iV a1)), (2, (iV a2)), (3, (iV a3)), (4, (V.fn (.func 123) [] [(V.iptr [(V.fn (.func 47) [] [])] 0)]))] rfl (fun w0 m0 β0 hg => en ?_)
  unfold M262 at h
  refine rn 6 rfl ?_
  refine lC (fun (p : Int × (List TType)) => (⟨[(0, (V.own 0 (p.2).length)), (2, (iV a2)), (3, (iV a3)), (4, (V.fn (.func 123) [] [(V.iptr [(V.fn (.func 47) [] [])] 0)])), (10, (iV (p.1)))], [(0, (Ob.arr 104 2 ((p.2).map encTType)))], 1⟩ : St)) (fun n (p : Int × (List TType)) => M262_L1 F a2 a3 n p.1 p.2 = some r) (fun p h => by simp [M262_L1] at h) F (a1, a4) h (gr [0] rfl (hR rfl rfl .nil) rfl) (fun n p h => ?_)
  obtain ⟨n53, l54⟩ := p
  unfold M262_L1 at h
  refine rn 15 rfl ?_
  refine spC h rfl (fun hb55 h => ?_) (fun hb55 h => ?_)
  · refine rn 1 rfl ?_
    replace h := Option.some.inj h
    subst h
    exact wE ⟨.inr rfl, [], (gr [0] rfl (hR rfl rfl .nil) rfl), .nil⟩
  refine rn 3 rfl ?_
  refine bs h (fun hb56 h => ?_) (fun hb56 h => ?_)
  · obtain ⟨x57, hx58, h⟩ := bind_some h
    obtain ⟨x59, hx60, h⟩ := bind_some h
    obtain ⟨y61, hx62, h⟩ := bind_some h
    refine dr mixed (vs 4 rfl (vb hb56 rfl (vs 5 rfl (oD (a := l54) hx58 rfl rfl rfl rfl (lD hx58 rfl rfl rfl rfl rfl (vs 5 rfl (oD (a := l54) hx60 rfl rfl rfl rfl (lD hx60 rfl rfl rfl rfl rfl (cD rfl rfl rfl rfl (W123 _ _ _ _ hx62) rfl (vs 2 rfl .nil)))))))))) (by kernel_rfl) ?_
    refine jK h (fun (p : Int) => (⟨[(0, (V.own 0 l54.length)), (2, (iV a2)), (3, (iV a3)), (4, (V.fn (.func 123) [] [(V.iptr [(V.fn (.func 47) [] [])] 0)])), (10, (iV n53)), (11, (iV p)), (24, (V.fn (.func 123) [] [(V.iptr [(V.fn (.func 47) [] [])] 0)])), (25, (V.own 0 l54.length)), (26, (iV a3)), (27, (iV (w64 ((w64 (2 * n53)) + 1)))), (28, (iV (w64 (a3 + (w64 ((w64 (2 * n53)) + 1)))))), (29, (V.ptr 0 2 (w64 (a3 + (w64 ((w64 (2 * n53)) + 1)))).toNat 0)), (30, (V.agg (encTType x57))), (31, (V.own 0 l54.length)), (32, (iV a3)), (33, (iV (w64 ((w64 (2 * n53)) + 1)))), (34, (iV (w64 (a3 + (w64 ((w64 (2 * n53)) + 1)))))), (35, (iV (w64 ((w64 (a3 + (w64 ((w64 (2 * n53)) + 1)))) + 1)))), (36, (V.ptr 0 2 (w64 ((w64 (a3 + (w64 ((w64 (2 * n53)) + 1)))) + 1)).toNat 0)), (37, (V.agg (encTType x59))), (38, (iV y61)), (39, (bV (decide (y61 < 0))))], [(0, (Ob.arr 104 2 (l54.map encTType)))], 1⟩ : St)) (fun k63 (p : Int) => k63 p = some r) (fun k63 h => ?_) ?_
    · refine spC h rfl (fun hb65 h => ?_) (fun hb65 h => ?_)
      · refine rn 5 rfl ?_
        exact jX (w64 ((w64 ((w64 (2 * n53)) + 1)) + 1)) h (gr [0] rfl (hR rfl rfl .nil) rfl)
      refine rn 1 rfl ?_
      exact jX (w64 ((w64 (2 * n53)) + 1)) h (gr [0] rfl (hR rfl rfl .nil) rfl)
    intro n64 h
    obtain ⟨x66, hx67, h⟩ := bind_some h
    obtain ⟨x68, hx69, h⟩ := bind_some h
    obtain ⟨y70, hx71, h⟩ := bind_some h
    refine rn 2 rfl ?_
    refine dr mixed (vs 5 rfl (oD (a := l54) hx67 rfl rfl rfl rfl (lD hx67 rfl rfl rfl rfl rfl (vs 4 rfl (oD (a := l54) hx69 rfl rfl rfl rfl (lD hx69 rfl rfl rfl rfl rfl (cD rfl rfl rfl rfl (W123 _ _ _ _ hx71) rfl (vs 2 rfl .nil)))))))) (by kernel_rfl) ?_
    refine spC h rfl (fun hb72 h => ?_) (fun hb72 h => ?_)
    · replace h := Option.some.inj h
      subst h
      exact wR ⟨.inl rfl, [], (gr [0] rfl (hR rfl rfl .nil) rfl), .nil⟩
    obtain ⟨x73, hx74, h⟩ := bind_some h
    obtain ⟨x75, hx76, h⟩ := bind_some h
    obtain ⟨x77, hx78, h⟩ := bind_some h
    obtain ⟨x79, hx80, h⟩ := bind_some h
    refine rn 2 rfl ?_
    refine dr mixed (vs 12 rfl (oD (a := l54) hx74 rfl rfl rfl rfl (lD hx74 rfl rfl rfl rfl rfl (vs 4 rfl (oD (a := l54) hx76 rfl rfl rfl rfl (lD hx76 rfl rfl rfl rfl rfl (oD (a := l54) hx78 rfl rfl rfl rfl (xD (OD.mk [(79, (V.ptr 0 2 (w64 (a3 + n53)).toNat 0)), (72, (V.agg (encTType x73)))] [(0, (Ob.arr 104 2 (l54.map encTType)))] [] [(0, (Ob.arr 104 2 ((l54.set (w64 (a3 + n53)).toNat x73).map encTType)))]) ⟨⟨rfl, rfl, trivial⟩, ⟨rfl, trivial⟩⟩ (by exact fun S hn h hh => aops_store (encTType x73) ((l54.set (w64 (a3 + n53)).toNat x73).map encTType) tS104 wants_none h.1 h.2.1 rfl rfl hh.1 (idx_map encTType hx78) rfl (map_set encTType l54 _ x73) (aops_nil ⟨rfl, rfl⟩)) rfl (xD (OD.mk [(63, (V.own 0 l54.length)), (66, (iV (w64 (a3 + n64))))] [] [(80, (V.ptr 0 2 (w64 (a3 + n64)).toNat 0))] []) ⟨⟨rfl, rfl, trivial⟩, trivial⟩ (by exact fun S hn h hh => aops_index_own tSl23 wants_none h.1 h.2.1 (idx_some hx80).1 (by simpa using idx_lt hx80) rfl (aops_nil ⟨rfl, rfl⟩)) rfl (xD (OD.mk [(80, (V.ptr 0 2 (w64 (a3 + n64)).toNat 0)), (78, (V.agg (encTType x75)))] [(0, (Ob.arr 104 2 ((l54.set (w64 (a3 + n53)).toNat x73).map encTType)))] [] [(0, (Ob.arr 104 2 (((l54.set (w64 (a3 + n53)).toNat x73).set (w64 (a3 + n64)).toNat x75).map encTType)))]) ⟨⟨rfl, rfl, trivial⟩, ⟨rfl, trivial⟩⟩ (by exact fun S hn h hh => aops_store (encTType x75) (((l54.set (w64 (a3 + n53)).toNat x73).set (w64 (a3 + n64)).toNat x75).map encTType) tS104 wants_none h.1 h.2.1 rfl rfl hh.1 (idx_map encTType hx80) rfl (map_set encTType (l54.set (w64 (a3 + n53)).toNat x73) _ x75) (aops_nil ⟨rfl, rfl⟩)) rfl .nil)))))))))) (by kernel_rfl) ?_
    refine rn 5 rfl ?_
    exact jX (n64, ((l54.set (w64 (a3 + n53)).toNat x73).set (w64 (a3 + n64)).toNat x75)) h (ghost_ren 1 (fun i => ([0] : List Nat).getD i 0) _ _ (by decide) (EnvSub.get (.cons (Sub.ownE rfl rfl (by simp)) (.cons (Sub.imm (Imm.con _)) (.cons (Sub.imm (Imm.con _)) (.cons (Sub.imm (Imm.fn .nil (.cons (Imm.iptr _ _) .nil))) (.cons (Sub.imm (Imm.con _)) .nil)))))) (HpSub.get (.cons rfl (ObSub.rows (rows_imm imms_encTType)) .nil)) rfl)
  refine dr mixed (vs 4 rfl (vb hb56 rfl (vs 17 rfl .nil))) (by kernel_rfl) ?_
  obtain ⟨x81, hx82, h⟩ := bind_some h
  obtain ⟨x83, hx84, h⟩ := bind_some h
  obtain ⟨y85, hx86, h⟩ := bind_some h
  refine rn 4 rfl ?_
  refine dr mixed (vs 5 rfl (oD (a := l54) hx82 rfl rfl rfl rfl (lD hx82 rfl rfl rfl rfl rfl (vs 4 rfl (oD (a := l54) hx84 rfl rfl rfl rfl (lD hx84 rfl rfl rfl rfl rfl (cD rfl rfl rfl rfl (W123 _ _ _ _ hx86) rfl (vs 2 rfl .nil)))))))) (by kernel_rfl) ?_
  refine spC h rfl (fun hb87 h => ?_) (fun hb87 h => ?_)
  · replace h := Option.some.inj h
    subst h
    exact wR ⟨.inl rfl, [], (gr [0] rfl (hR rfl rfl .nil) rfl), .nil⟩
  obtain ⟨x88, hx89, h⟩ := bind_some h
  obtain ⟨x90, hx91, h⟩ := bind_some h
  obtain ⟨x92, hx93, h⟩ := bind_some h
  obtain ⟨x94, hx95, h⟩ := bind_some h
  refine rn 2 rfl ?_
  refine dr mixed (vs 12 rfl (oD (a := l54) hx89 rfl rfl rfl rfl (lD hx89 rfl rfl rfl rfl rfl (vs 4 rfl (oD (a := l54) hx91 rfl rfl rfl rfl (lD hx91 rfl rfl rfl rfl rfl (oD (a := l54) hx93 rfl rfl rfl rfl (xD (OD.mk [(79, (V.ptr 0 2 (w64 (a3 + n53)).toNat 0)), (72, (V.agg (encTType x88)))] [(0, (Ob.arr 104 2 (l54.map encTType)))] [] [(0, (Ob.arr 104 2 ((l54.set (w64 (a3 + n53)).toNat x88).map encTType)))]) ⟨⟨rfl, rfl, trivial⟩, ⟨rfl, trivial⟩⟩ (by exact fun S hn h hh => aops_store (encTType x88) ((l54.set (w64 (a3 + n53)).toNat x88).map encTType) tS104 wants_none h.1 h.2.1 rfl rfl hh.1 (idx_map encTType hx93) rfl (map_set encTType l54 _ x88) (aops_nil ⟨rfl, rfl⟩)) rfl (xD (OD.mk [(63, (V.own 0 l54.length)), (66, (iV (w64 (a3 + (w64 ((w64 (2 * n53)) + 1))))))] [] [(80, (V.ptr 0 2 (w64 (a3 + (w64 ((w64 (2 * n53)) + 1)))).toNat 0))] []) ⟨⟨rfl, rfl, trivial⟩, trivial⟩ (by exact fun S hn h hh => aops_index_own tSl23 wants_none h.1 h.2.1 (idx_some hx95).1 (by simpa using idx_lt hx95) rfl (aops_nil ⟨rfl, rfl⟩)) rfl (xD (OD.mk [(80, (V.ptr 0 2 (w64 (a3 + (w64 ((w64 (2 * n53)) + 1)))).toNat 0)), (78, (V.agg (encTType x90)))] [(0, (Ob.arr 104 2 ((l54.set (w64 (a3 + n53)).toNat x88).map encTType)))] [] [(0, (Ob.arr 104 2 (((l54.set (w64 (a3 + n53)).toNat x88).set (w64 (a3 + (w64 ((w64 (2 * n53)) + 1)))).toNat x90).map encTType)))]) ⟨⟨rfl, rfl, trivial⟩, ⟨rfl, trivial⟩⟩ (by exact fun S hn h hh => aops_store (encTType x90) (((l54.set (w64 (a3 + n53)).toNat x88).set (w64 (a3 + (w64 ((w64 (2 * n53)) + 1)))).toNat x90).map encTType) tS104 wants_none h.1 h.2.1 rfl rfl hh.1 (idx_map encTType hx95) rfl (map_set encTType (l54.set (w64 (a3 + n53)).toNat x88) _ x90) (aops_nil ⟨rfl, rfl⟩)) rfl .nil)))))))))) (by kernel_rfl) ?_
  refine rn 5 rfl ?_
  exact jX ((w64 ((w64 (2 * n53)) + 1)), ((l54.set (w64 (a3 + n53)).toNat x88).set (w64 (a3 + (w64 ((w64 (2 * n53)) + 1)))).toNat x90)) h (ghost_ren 1 (fun i => ([0] : List Nat).getD i 0) _ _ (by decide) (EnvSub.get (.cons (Sub.ownE rfl rfl (by simp)) (.cons (Sub.imm (Imm.con _)) (.cons (Sub.imm (Imm.con _)) (.cons (Sub.imm (Imm.fn .nil (.cons (Imm.iptr _ _) .nil))) (.cons (Sub.imm (Imm.con _)) .nil)))))) (HpSub.get (.cons rfl (ObSub.rows (rows_imm imms_encTType)) .nil)) rfl)
theorem W218 (F : Nat) (a1 : Int) (a2 : Int) (a3 : List TType) (r : (List TType)) (h : M218 F a1 a2 a3 = some r) : Mut Tryz.prog 218 [(V.own 0 a3.length), (iV a1), (iV a2), (V.fn (.func 123) [] [(V.iptr [(V.fn (.func 47) [] [])] 0)])] 1 [(0, (Ob.arr 104 2 (a3.map encTType)))] (resV []) 1 [(0, (Ob.arr 104 2 (r.map encTType)))] := by
  refine mut_enter Tryz.func218 rfl rfl (l := []) rfl rfl [(0, (V.own 0 a3.length)), (1, (iV a1)), (2, (iV a2)), (3, (V.fn (.func 123) [] [(V.iptr [(V.fn (.func 47) [] [])] 0)]))] rfl (fun w0 m0 β0 hg => en ?_)
  unfold M218 at h
  refine rn 24 rfl ?_
  refine jK h (fun (p : (List TType)) => (⟨[(0, (V.own 0 p.length)), (3, (V.fn (.func 123) [] [(V.iptr [(V.fn (.func 47) [] [])] 0)])), (8, (iV a1)), (9, (iV 0)), (10, (iV (w64 (a2 - a1))))], [(0, (Ob.arr 104 2 (p.map encTType)))], 1⟩ : St)) (fun k31 (p : (List TType)) => k31 p = some r) (fun k31 h => ?_) ?_
  · refine rn 1 rfl ?_
    refine lC (fun (p : Int × (List TType)) => (⟨[(0, (V.own 0 (p.2).length)), (3, (V.fn (.func 123) [] [(V.iptr [(V.fn (.func 47) [] [])] 0)])), (8, (iV a1)), (9, (iV 0)), (10, (iV (w64 (a2 - a1)))), (11, (iV (p.1)))], [(0, (Ob.arr 104 2 ((p.2).map encTType)))], 1⟩ : St)) (fun n (p : Int × (List TType)) => M218_L1 F a1 a2 k31 n p.1 p.2 = some r) (fun p h => by simp [M218_L1] at h) F ((w64 (Int.tdiv (w64 ((w64 (a2 - a1)) - 1)) 2)), a3) h (gr [0] rfl (hR rfl rfl .nil) rfl) (fun n p h => ?_)
    obtain ⟨n35, l36⟩ := p
    unfold M218_L1 at h
    refine rn 6 rfl ?_
    refine spC h rfl (fun hb37 h => ?_) (fun hb37 h => ?_)
    · obtain ⟨y38, hx39, h⟩ := bind_some h
      refine rn 9 rfl ?_
      refine ck h (fun hc40 h => ?_)
      refine aops_mcallS (V.tup []) [(V.own 0 l36.length), (iV n35), (iV (w64 (a2 - a1))), (iV a1), (V.fn (.func 123) [] [(V.iptr [(V.fn (.func 47) [] [])] 0)])] (fun i => ([0] : List Nat).getD i 0) (fun i => ([0] : List Nat).getD i 0) 1 1 [(0, (Ob.arr 104 2 (y38.map encTType)))] fOk262 wants_none rfl (evm_cons rfl (evm_cons rfl (evm_cons rfl (evm_cons rfl (evm_cons rfl evm_nil))))) (.cons (Sub.own rfl rfl) (.cons (Sub.imm (Imm.con _)) (.cons (Sub.imm (Imm.con _)) (.cons (Sub.imm (Imm.con _)) (.cons (Sub.imm (Imm.fn .nil (.cons (Imm.iptr _ _) .nil))) .nil))))) (.cons rfl (ObSub.rows (rows_imm imms_encTType)) .nil) (W262 F n35 (w64 (a2 - a1)) a1 l36 y38 hx39) rfl rfl rfl rfl (Sub.immT (Imm.tup .nil)) (.cons rfl (ObSub.rowsT (rows_imm imms_encTType)) .nil) _ rfl ?_
      refine aops_ghost (ghost_tell 0 (V.own 0 y38.length) rfl (Sub.ownI hc40)) ?_
      refine aops_ghost (ghost_tell 24 (V.own 0 y38.length) rfl (Sub.ownI hc40)) ?_
      refine fo (rn 7 rfl ?_)
      exact jX ((w64 (n35 - 1)), y38) h (gr [0] rfl (hR rfl rfl .nil) rfl)
    refine rn 1 rfl ?_
    exact jX l36 h (gr [0] rfl (hR rfl rfl .nil) rfl)
  intro l32 h
  refine rn 7 rfl ?_
  refine lC (fun (p : Int × (List TType)) => (⟨[(0, (V.own 0 (p.2).length)), (3, (V.fn (.func 123) [] [(V.iptr [(V.fn (.func 47) [] [])] 0)])), (8, (iV a1)), (9, (iV 0)), (12, (iV (p.1)))], [(0, (Ob.arr 104 2 ((p.2).map encTType)))], 1⟩ : St)) (fun n (p : Int × (List TType)) => M218_L2 F a1 n p.1 p.2 = some r) (fun p h => by simp [M218_L2] at h) F ((w64 ((w64 (a2 - a1)) - 1)), l32) h (gr [0] rfl (hR rfl rfl .nil) rfl) (fun n p h => ?_)
  obtain ⟨n43, l44⟩ := p
  unfold M218_L2 at h
  refine rn 6 rfl ?_
  refine spC h rfl (fun hb45 h => ?_) (fun hb45 h => ?_)
  · obtain ⟨x46, hx47, h⟩ := bind_some h
    obtain ⟨x48, hx49, h⟩ := bind_some h
    obtain ⟨x50, hx51, h⟩ := bind_some h
    obtain ⟨x52, hx53, h⟩ := bind_some h
    refine rn 4 rfl ?_
    refine dr mixed (vs 10 rfl (oD (a := l44) hx47 rfl rfl rfl rfl (lD hx47 rfl rfl rfl rfl rfl (vs 2 rfl (oD (a := l44) hx49 rfl rfl rfl rfl (lD hx49 rfl rfl rfl rfl rfl (oD (a := l44) hx51 rfl rfl rfl rfl (xD (OD.mk [(52, (V.ptr 0 2 a1.toNat 0)), (47, (V.agg (encTType x46)))] [(0, (Ob.arr 104 2 (l44.map encTType)))] [] [(0, (Ob.arr 104 2 ((l44.set a1.toNat x46).map encTType)))]) ⟨⟨rfl, rfl, trivial⟩, ⟨rfl, trivial⟩⟩ (by exact fun S hn h hh => aops_store (encTType x46) ((l44.set a1.toNat x46).map encTType) tS104 wants_none h.1 h.2.1 rfl rfl hh.1 (idx_map encTType hx51) rfl (map_set encTType l44 _ x46) (aops_nil ⟨rfl, rfl⟩)) rfl (xD (OD.mk [(38, (V.own 0 l44.length)), (41, (iV (w64 (a1 + n43))))] [] [(53, (V.ptr 0 2 (w64 (a1 + n43)).toNat 0))] []) ⟨⟨rfl, rfl, trivial⟩, trivial⟩ (by exact fun S hn h hh => aops_index_own tSl23 wants_none h.1 h.2.1 (idx_some hx53).1 (by simpa using idx_lt hx53) rfl (aops_nil ⟨rfl, rfl⟩)) rfl (xD (OD.mk [(53, (V.ptr 0 2 (w64 (a1 + n43)).toNat 0)), (51, (V.agg (encTType x48)))] [(0, (Ob.arr 104 2 ((l44.set a1.toNat x46).map encTType)))] [] [(0, (Ob.arr 104 2 (((l44.set a1.toNat x46).set (w64 (a1 + n43)).toNat x48).map encTType)))]) ⟨⟨rfl, rfl, trivial⟩, ⟨rfl, trivial⟩⟩ (by exact fun S hn h hh => aops_store (encTType x48) (((l44.set a1.toNat x46).set (w64 (a1 + n43)).toNat x48).map encTType) tS104 wants_none h.1 h.2.1 rfl rfl hh.1 (idx_map encTType hx53) rfl (map_set encTType (l44.set a1.toNat x46) _ x48) (aops_nil ⟨rfl, rfl⟩)) rfl .nil)))))))))) (by kernel_rfl) ?_
    obtain ⟨y54, hx55, h⟩ := bind_some h
    refine rn 6 rfl ?_
    refine ck h (fun hc56 h => ?_)
    refine aops_mcallS (V.tup []) [(V.own 0 l44.length), (iV 0), (iV n43), (iV a1), (V.fn (.func 123) [] [(V.iptr [(V.fn (.func 47) [] [])] 0)])] (fun i => ([0] : List Nat).getD i 0) (fun i => ([0] : List Nat).getD i 0) 1 1 [(0, (Ob.arr 104 2 (y54.map encTType)))] fOk262 wants_none rfl (evm_cons rfl (evm_cons rfl (evm_cons rfl (evm_cons rfl (evm_cons rfl evm_nil))))) (.cons (Sub.ownE rfl rfl (by simp)) (.cons (Sub.imm (Imm.con _)) (.cons (Sub.imm (Imm.con _)) (.cons (Sub.imm (Imm.con _)) (.cons (Sub.imm (Imm.fn .nil (.cons (Imm.iptr _ _) .nil))) .nil))))) (.cons rfl (ObSub.rows (rows_imm imms_encTType)) .nil) (W262 F 0 n43 a1 ((l44.set a1.toNat x46).set (w64 (a1 + n43)).toNat x48) y54 hx55) rfl rfl rfl rfl (Sub.immT (Imm.tup .nil)) (.cons rfl (ObSub.rowsT (rows_imm imms_encTType)) .nil) _ rfl ?_
    refine aops_ghost (ghost_tell 0 (V.own 0 y54.length) rfl (Sub.ownI hc56)) ?_
    refine aops_ghost (ghost_tell 36 (V.own 0 y54.length) rfl (Sub.ownI hc56)) ?_
    refine aops_ghost (ghost_tell 38 (V.own 0 y54.length) rfl (Sub.ownI hc56)) ?_
    refine aops_ghost (ghost_tell 42 (V.own 0 y54.length) rfl (Sub.ownI hc56)) ?_
    refine aops_ghost (ghost_tell 48 (V.own 0 y54.length) rfl (Sub.ownI hc56)) ?_
    refine aops_ghost (ghost_tell 54 (V.own 0 y54.length) rfl (Sub.ownI hc56)) ?_
    refine fo (rn 7 rfl ?_)
    exact jX ((w64 (n43 - 1)), y54) h (gr [0] rfl (hR rfl rfl .nil) rfl)
  refine rn 1 rfl ?_
  replace h := Option.some.inj h
  subst h
  exact wE ⟨.inr rfl, [], (gr [0] rfl (hR rfl rfl .nil) rfl), .nil⟩
theorem W277 (F : Nat) (a1 : Int) (a2 : Int) (a3 : List TType) (a4 : Int) (r : (Int × Int × Int)) (h : M277 F a1 a2 a3 a4 = some r) : Mut Tryz.prog 277 [(V.own 0 a3.length), (iV a1), (iV a2), (V.ptr 1 1 0 0), (V.fn (.func 123) [] [(V.iptr [(V.fn (.func 47) [] [])] 0)])] 2 [(0, (Ob.arr 104 2 (a3.map encTType))), (1, (Ob.arr 3 1 [[(iV a4)]]))] (resV [(iV (r.1)), (iV (r.2.1))]) 2 [(0, (Ob.arr 104 2 (a3.map encTType))), (1, (Ob.arr 3 1 [[(iV (r.2.2))]]))] := by
  refine mut_enter Tryz.func277 rfl rfl (l := [.tmp 10, .tmp 11]) rfl rfl [(0, (V.own 0 a3.length)), (1, (iV a1)), (2, (iV a2)), (3, (V.ptr 1 1 0 0)), (4, (V.fn (.func 123) [] [(V.iptr [(V.fn (.func 47) [] [])] 0)]))] rfl (fun w0 m0 β0 hg => en ?_)
  unfold M277 at h
  obtain ⟨x15, hx16, h⟩ := bind_some h
  obtain ⟨x17, hx18, h⟩ := bind_some h
  obtain ⟨y19, hx20, h⟩ := bind_some h
  refine rn 7 rfl ?_
  refine dr mixed (vs 3 rfl (oD (a := a3) hx16 rfl rfl rfl rfl (lD hx16 rfl rfl rfl rfl rfl (vs 2 rfl (oD (a := a3) hx18 rfl rfl rfl rfl (lD hx18 rfl rfl rfl rfl rfl (cD rfl rfl rfl rfl (W123 _ _ _ _ hx20) rfl (vs 1 rfl .nil)))))))) (by kernel_rfl) ?_
  refine spC h rfl (fun hb21 h => ?_) (fun hb21 h => ?_)
  · refine rn 16 rfl ?_
    replace h := Option.some.inj h
    subst h
    exact wR ⟨.inl rfl, [(10, (iV a2)), (11, (iV a1))], (gr [0, 1] rfl (hR rfl rfl (hB rfl rfl rfl .nil)) rfl), (.cons (.tmp rfl) (.cons (.tmp rfl) .nil))⟩
  refine rn 8 rfl ?_
  replace h := Option.some.inj h
  subst h
  exact wR ⟨.inl rfl, [(10, (iV a1)), (11, (iV a2))], (gr [0, 1] rfl (hR rfl rfl (hB rfl rfl rfl .nil)) rfl), (.cons (.tmp rfl) (.cons (.tmp rfl) .nil))⟩
theorem W264 (F : Nat) (a1 : Int) (a2 : Int) (a3 : Int) (a4 : List TType) (a5 : Int) (r : (Int × Int)) (h : M264 F a1 a2 a3 a4 a5 = some r) : Mut Tryz.prog 264 [(V.own 0 a4.length), (iV a1), (iV a2), (iV a3), (V.ptr 1 1 0 0), (V.fn (.func 123) [] [(V.iptr [(V.fn (.func 47) [] [])] 0)])] 2 [(0, (Ob.arr 104 2 (a4.map encTType))), (1, (Ob.arr 3 1 [[(iV a5)]]))] (resV [(iV (r.1))]) 2 [(0, (Ob.arr 104 2 (a4.map encTType))), (1, (Ob.arr 3 1 [[(iV (r.2))]]))] := by
  refine mut_enter Tryz.func264 rfl rfl (l := [.tmp 12]) rfl rfl [(0, (V.own 0 a4.length)), (1, (iV a1)), (2, (iV a2)), (3, (iV a3)), (4, (V.ptr 1 1 0 0)), (5, (V.fn (.func 123) [] [(V.iptr [(V.fn (.func 47) [] [])] 0)]))] rfl (fun w0 m0 β0 hg => en ?_)
  unfold M264 at h
  obtain ⟨y14, hx15, h⟩ := bind_some h
  refine rn 11 rfl ?_
  refine aops_mcallS (V.tup [(iV (y14.1)), (iV (y14.2.1))]) [(V.own 0 a4.length), (iV a1), (iV a2), (V.ptr 1 1 0 0), (V.fn (.func 123) [] [(V.iptr [(V.fn (.func 47) [] [])] 0)])] (fun i => ([0, 1] : List Nat).getD i 0) (fun i => ([0, 1] : List Nat).getD i 0) 2 2 [(0, (Ob.arr 104 2 (a4.map encTType))), (1, (Ob.arr 3 1 [[(iV (y14.2.2))]]))] fOk277 wants_none rfl (evm_cons rfl (evm_cons rfl (evm_cons rfl (evm_cons rfl (evm_cons rfl evm_nil))))) (.cons (Sub.own rfl rfl) (.cons (Sub.imm (Imm.con _)) (.cons (Sub.imm (Imm.con _)) (.cons (Sub.ptr rfl rfl) (.cons (Sub.imm (Imm.fn .nil (.cons (Imm.iptr _ _) .nil))) .nil))))) (.cons rfl (ObSub.rows (rows_imm imms_encTType)) (.cons rfl (ObSub.box (.cons (Sub.imm (Imm.con _)) .nil)) .nil)) (W277 F a1 a2 a4 a5 y14 hx15) rfl rfl rfl rfl (Sub.immT (Imm.tup (.cons (Imm.con _) (.cons (Imm.con _) .nil)))) (.cons rfl (ObSub.rowsT (rows_imm imms_encTType)) (.cons rfl (ObSub.box (.cons (Sub.immT (Imm.con _)) .nil)) .nil)) _ rfl ?_
  obtain ⟨y16, hx17, h⟩ := bind_some h
  refine fo (rn 13 rfl ?_)
  refine aops_mcallS (V.tup [(iV (y16.1)), (iV (y16.2.1))]) [(V.own 0 a4.length), (iV (y14.2.1)), (iV a3), (V.ptr 1 1 0 0), (V.fn (.func 123) [] [(V.iptr [(V.fn (.func 47) [] [])] 0)])] (fun i => ([0, 1] : List Nat).getD i 0) (fun i => ([0, 1] : List Nat).getD i 0) 2 2 [(0, (Ob.arr 104 2 (a4.map encTType))), (1, (Ob.arr 3 1 [[(iV (y16.2.2))]]))] fOk277 wants_none rfl (evm_cons rfl (evm_cons rfl (evm_cons rfl (evm_cons rfl (evm_cons rfl evm_nil))))) (.cons (Sub.own rfl rfl) (.cons (Sub.imm (Imm.con _)) (.cons (Sub.imm (Imm.con _)) (.cons (Sub.ptr rfl rfl) (.cons (Sub.imm (Imm.fn .nil (.cons (Imm.iptr _ _) .nil))) .nil))))) (.cons rfl (ObSub.rows (rows_imm imms_encTType)) (.cons rfl (ObSub.box (.cons (Sub.imm (Imm.con _)) .nil)) .nil)) (W277 F (y14.2.1) a3 a4 (y14.2.2) y16 hx17) rfl rfl rfl rfl (Sub.immT (Imm.tup (.cons (Imm.con _) (.cons (Imm.con _) .nil)))) (.cons rfl (ObSub.rowsT (rows_imm imms_encTType)) (.cons rfl (ObSub.box (.cons (Sub.immT (Imm.con _)) .nil)) .nil)) _ rfl ?_
  obtain ⟨y18, hx19, h⟩ := bind_some h
  refine fo (rn 13 rfl ?_)
  refine aops_mcallS (V.tup [(iV (y18.1)), (iV (y18.2.1))]) [(V.own 0 a4.length), (iV (y14.1)), (iV (y16.1)), (V.ptr 1 1 0 0), (V.fn (.func 123) [] [(V.iptr [(V.fn (.func 47) [] [])] 0)])] (fun i => ([0, 1] : List Nat).getD i 0) (fun i => ([0, 1] : List Nat).getD i 0) 2 2 [(0, (Ob.arr 104 2 (a4.map encTType))), (1, (Ob.arr 3 1 [[(iV (y18.2.2))]]))] fOk277 wants_none rfl (evm_cons rfl (evm_cons rfl (evm_cons rfl (evm_cons rfl (evm_cons rfl evm_nil))))) (.cons (Sub.own rfl rfl) (.cons (Sub.imm (Imm.con _)) (.cons (Sub.imm (Imm.con _)) (.cons (Sub.ptr rfl rfl) (.cons (Sub.imm (Imm.fn .nil (.cons (Imm.iptr _ _) .nil))) .nil))))) (.cons rfl (ObSub.rows (rows_imm imms_encTType)) (.cons rfl (ObSub.box (.cons (Sub.imm (Imm.con _)) .nil)) .nil)) (W277 F (y14.1) (y16.1) a4 (y16.2.2) y18 hx19) rfl rfl rfl rfl (Sub.immT (Imm.tup (.cons (Imm.con _) (.cons (Imm.con _) .nil)))) (.cons rfl (ObSub.rowsT (rows_imm imms_encTType)) (.cons rfl (ObSub.box (.cons (Sub.immT (Imm.con _)) .nil)) .nil)) _ rfl ?_
  refine fo (rn 11 rfl ?_)
  replace h := Option.some.inj h
  subst h
  exact wR ⟨.inl rfl, [(12, (iV (y18.2.1)))], (gr [0, 1] rfl (hR rfl rfl (hB rfl rfl rfl .nil)) rfl), (.cons (.tmp rfl) .nil)⟩
theorem W263 (F : Nat) (a1 : Int) (a2 : List TType) (a3 : Int) (r : (Int × Int)) (h : M263 F a1 a2 a3 = some r) : Mut Tryz.prog 263 [(V.own 0 a2.length), (iV a1), (V.ptr 1 1 0 0), (V.fn (.func 123) [] [(V.iptr [(V.fn (.func 47) [] [])] 0)])] 2 [(0, (Ob.arr 104 2 (a2.map encTType))), (1, (Ob.arr 3 1 [[(iV a3)]]))] (resV [(iV (r.1))]) 2 [(0, (Ob.arr 104 2 (a2.map encTType))), (1, (Ob.arr 3 1 [[(iV (r.2))]]))] := by
  refine mut_enter Tryz.func263 rfl rfl (l := [.tmp 8]) rfl rfl [(0, (V.own 0 a2.length)), (1, (iV a1)), (2, (V.ptr 1 1 0 0)), (3, (V.fn (.func 123) [] [(V.iptr [(V.fn (.func 47) [] [])] 0)]))] rfl (fun w0 m0 β0 hg => en ?_)
  unfold M263 at h
  obtain ⟨y8, hx9, h⟩ := bind_some h
  refine rn 14 rfl ?_
  refine aops_mcallS (iV (y8.1)) [(V.own 0 a2.length), (iV (w64 (a1 - 1))), (iV a1), (iV (w64 (a1 + 1))), (V.ptr 1 1 0 0), (V.fn (.func 123) [] [(V.iptr [(V.fn (.func 47) [] [])] 0)])] (fun i => ([0, 1] : List Nat).getD i 0) (fun i => ([0, 1] : List Nat).getD i 0) 2 2 [(0, (Ob.arr 104 2 (a2.map encTType))), (1, (Ob.arr 3 1 [[(iV (y8.2))]]))] fOk264 wants_none rfl (evm_cons rfl (evm_cons rfl (evm_cons rfl (evm_cons rfl (evm_cons rfl (evm_cons rfl evm_nil)))))) (.cons (Sub.own rfl rfl) (.cons (Sub.imm (Imm.con _)) (.cons (Sub.imm (Imm.con _)) (.cons (Sub.imm (Imm.con _)) (.cons (Sub.ptr rfl rfl) (.cons (Sub.imm (Imm.fn .nil (.cons (Imm.iptr _ _) .nil))) .nil)))))) (.cons rfl (ObSub.rows (rows_imm imms_encTType)) (.cons rfl (ObSub.box (.cons (Sub.imm (Imm.con _)) .nil)) .nil)) (W264 F (w64 (a1 - 1)) a1 (w64 (a1 + 1)) a2 a3 y8 hx9) rfl rfl rfl rfl (Sub.immT (Imm.con _)) (.cons rfl (ObSub.rowsT (rows_imm imms_encTType)) (.cons rfl (ObSub.box (.cons (Sub.immT (Imm.con _)) .nil)) .nil)) _ rfl ?_
  refine fo (rn 2 rfl ?_)
  replace h := Option.some.inj h
  subst h
  exact wR ⟨.inl rfl, [(8, (iV (y8.1)))], (gr [0, 1] rfl (hR rfl rfl (hB rfl rfl rfl .nil)) rfl), (.cons (.tmp rfl) .nil)⟩
theorem W220 (F : Nat) (a1 : Int) (a2 : Int) (a3 : List TType) (r : (Int × Int)) (h : M220 F a1 a2 a3 = some r) : Mut Tryz.prog 220 [(V.own 0 a3.length), (iV a1), (iV a2), (V.fn (.func 123) [] [(V.iptr [(V.fn (.func 47) [] [])] 0)])] 1 [(0, (Ob.arr 104 2 (a3.map encTType)))] (resV [(iV (r.1)), (iV (r.2))]) 1 [(0, (Ob.arr 104 2 (a3.map encTType)))] := by
  refine mut_enter Tryz.func220 rfl rfl (l := [.tmp 8, .tmp 9]) rfl rfl [(0, (V.own 0 a3.length)), (1, (iV a1)), (2, (iV a2)), (3, (V.fn (.func 123) [] [(V.iptr [(V.fn (.func 47) [] [])] 0)]))] rfl (fun w0 m0 β0 hg => en ?_)
  unfold M220 at h
  refine rn 49 rfl ?_
  refine jK h (fun (p : Int × Int) => (⟨[(11, (V.ptr 1 1 0 0)), (13, (iV (p.1)))], [(0, (Ob.arr 104 2 (a3.map encTType))), (1, (Ob.arr 3 1 [[(iV (p.2))]]))], 2⟩ : St)) (fun k26 (p : Int × Int) => k26 p.1 p.2 = some r) (fun k26 h => ?_) ?_
  · refine spC h rfl (fun hb29 h => ?_) (fun hb29 h => ?_)
    · refine rn 6 rfl ?_
      refine jK h (fun (p : Int × Int × Int × Int) => (⟨[(0, (V.own 0 a3.length)), (3, (V.fn (.func 123) [] [(V.iptr [(V.fn (.func 47) [] [])] 0)])), (11, (V.ptr 1 1 0 0)), (12, (iV (p.1))), (13, (iV (p.2.1))), (14, (iV (p.2.2.1)))], [(0, (Ob.arr 104 2 (a3.map encTType))), (1, (Ob.arr 3 1 [[(iV (p.2.2.2))]]))], 2⟩ : St)) (fun k30 (p : Int × Int × Int × Int) => k30 p.1 p.2.1 p.2.2.1 p.2.2.2 = some r) (fun k30 h => ?_) ?_
      · refine spC h rfl (fun hb35 h => ?_) (fun hb35 h => ?_)
        · obtain ⟨y36, hx37, h⟩ := bind_some h
          refine rn 5 rfl ?_
          refine aops_mcallS (iV (y36.1)) [(V.own 0 a3.length), (iV (w64 (a1 + (w64 ((w64 (Int.tdiv (w64 (a2 - a1)) 4)) * 1))))), (V.ptr 1 1 0 0), (V.fn (.func 123) [] [(V.iptr [(V.fn (.func 47) [] [])] 0)])] (fun i => ([0, 1] : List Nat).getD i 0) (fun i => ([0, 1] : List Nat).getD i 0) 2 2 [(0, (Ob.arr 104 2 (a3.map encTType))), (1, (Ob.arr 3 1 [[(iV (y36.2))]]))] fOk263 wants_none rfl (evm_cons rfl (evm_cons rfl (evm_cons rfl (evm_cons rfl evm_nil)))) (.cons (Sub.own rfl rfl) (.cons (Sub.imm (Imm.con _)) (.cons (Sub.ptr rfl rfl) (.cons (Sub.imm (Imm.fn .nil (.cons (Imm.iptr _ _) .nil))) .nil)))) (.cons rfl (ObSub.rows (rows_imm imms_encTType)) (.cons rfl (ObSub.box (.cons (Sub.imm (Imm.con _)) .nil)) .nil)) (W263 F (w64 (a1 + (w64 ((w64 (Int.tdiv (w64 (a2 - a1)) 4)) * 1)))) a3 0 y36 hx37) rfl rfl rfl rfl (Sub.immT (Imm.con _)) (.cons rfl (ObSub.rowsT (rows_imm imms_encTType)) (.cons rfl (ObSub.box (.cons (Sub.immT (Imm.con _)) .nil)) .nil)) _ rfl ?_
          obtain ⟨y38, hx39, h⟩ := bind_some h
          refine fo (rn 7 rfl ?_)
          refine aops_mcallS (iV (y38.1)) [(V.own 0 a3.length), (iV (w64 (a1 + (w64 ((w64 (Int.tdiv (w64 (a2 - a1)) 4)) * 2))))), (V.ptr 1 1 0 0), (V.fn (.func 123) [] [(V.iptr [(V.fn (.func 47) [] [])] 0)])] (fun i => ([0, 1] : List Nat).getD i 0) (fun i => ([0, 1] : List Nat).getD i 0) 2 2 [(0, (Ob.arr 104 2 (a3.map encTType))), (1, (Ob.arr 3 1 [[(iV (y38.2))]]))] fOk263 wants_none rfl (evm_cons rfl (evm_cons rfl (evm_cons rfl (evm_cons rfl evm_nil)))) (.cons (Sub.own rfl rfl) (.cons (Sub.imm (Imm.con _)) (.cons (Sub.ptr rfl rfl) (.cons (Sub.imm (Imm.fn .nil (.cons (Imm.iptr _ _) .nil))) .nil)))) (.cons rfl (ObSub.rows (rows_imm imms_encTType)) (.cons rfl (ObSub.box (.cons (Sub.imm (Imm.con _)) .nil)) .nil)) (W263 F (w64 (a1 + (w64 ((w64 (Int.tdiv (w64 (a2 - a1)) 4)) * 2)))) a3 (y36.2) y38 hx39) rfl rfl rfl rfl (Sub.immT (Imm.con _)) (.cons rfl (ObSub.rowsT (rows_imm imms_encTType)) (.cons rfl (ObSub.box (.cons (Sub.immT (Imm.con _)) .nil)) .nil)) _ rfl ?_
          obtain ⟨y40, hx41, h⟩ := bind_some h
          refine fo (rn 6 rfl ?_)
          refine aops_mcallS (iV (y40.1)) [(V.own 0 a3.length), (iV (w64 (a1 + (w64 ((w64 (Int.tdiv (w64 (a2 - a1)) 4)) * 3))))), (V.ptr 1 1 0 0), (V.fn (.func 123) [] [(V.iptr [(V.fn (.func 47) [] [])] 0)])] (fun i => ([0, 1] : List Nat).getD i 0) (fun i => ([0, 1] : List Nat).getD i 0) 2 2 [(0, (Ob.arr 104 2 (a3.map encTType))), (1, (Ob.arr 3 1 [[(iV (y40.2))]]))] fOk263 wants_none rfl (evm_cons rfl (evm_cons rfl (evm_cons rfl (evm_cons rfl evm_nil)))) (.cons (Sub.own rfl rfl) (.cons (Sub.imm (Imm.con _)) (.cons (Sub.ptr rfl rfl) (.cons (Sub.imm (Imm.fn .nil (.cons (Imm.iptr _ _) .nil))) .nil)))) (.cons rfl (ObSub.rows (rows_imm imms_encTType)) (.cons rfl (ObSub.box (.cons (Sub.imm (Imm.con _)) .nil)) .nil)) (W263 F (w64 (a1 + (w64 ((w64 (Int.tdiv (w64 (a2 - a1)) 4)) * 3)))) a3 (y38.2) y40 hx41) rfl rfl rfl rfl (Sub.immT (Imm.con _)) (.cons rfl (ObSub.rowsT (rows_imm imms_encTType)) (.cons rfl (ObSub.box (.cons (Sub.immT (Imm.con _)) .nil)) .nil)) _ rfl ?_
          refine fo (rn 2 rfl ?_)
          exact jX ((y36.1), (y38.1), (y40.1), (y40.2)) h (gr [0, 1] rfl (hR rfl rfl (hB rfl rfl rfl .nil)) rfl)
        refine rn 1 rfl ?_
        exact jX ((w64 (a1 + (w64 ((w64 (Int.tdiv (w64 (a2 - a1)) 4)) * 1)))), (w64 (a1 + (w64 ((w64 (Int.tdiv (w64 (a2 - a1)) 4)) * 2)))), (w64 (a1 + (w64 ((w64 (Int.tdiv (w64 (a2 - a1)) 4)) * 3)))), 0) h (gr [0, 1] rfl (hR rfl rfl (hB rfl rfl rfl .nil)) rfl)
      rintro ⟨n31, n32, n33, n34⟩ h
      obtain ⟨y42, hx43, h⟩ := bind_some h
      refine rn 6 rfl ?_
      refine aops_mcallS (iV (y42.1)) [(V.own 0 a3.length), (iV n31), (iV n32), (iV n33), (V.ptr 1 1 0 0), (V.fn (.func 123) [] [(V.iptr [(V.fn (.func 47) [] [])] 0)])] (fun i => ([0, 1] : List Nat).getD i 0) (fun i => ([0, 1] : List Nat).getD i 0) 2 2 [(0, (Ob.arr 104 2 (a3.map encTType))), (1, (Ob.arr 3 1 [[(iV (y42.2))]]))] fOk264 wants_none rfl (evm_cons rfl (evm_cons rfl (evm_cons rfl (evm_cons rfl (evm_cons rfl (evm_cons rfl evm_nil)))))) (.cons (Sub.own rfl rfl) (.cons (Sub.imm (Imm.con _)) (.cons (Sub.imm (Imm.con _)) (.cons (Sub.imm (Imm.con _)) (.cons (Sub.ptr rfl rfl) (.cons (Sub.imm (Imm.fn .nil (.cons (Imm.iptr _ _) .nil))) .nil)))))) (.cons rfl (ObSub.rows (rows_imm imms_encTType)) (.cons rfl (ObSub.box (.cons (Sub.imm (Imm.con _)) .nil)) .nil)) (W264 F n31 n32 n33 a3 n34 y42 hx43) rfl rfl rfl rfl (Sub.immT (Imm.con _)) (.cons rfl (ObSub.rowsT (rows_imm imms_encTType)) (.cons rfl (ObSub.box (.cons (Sub.immT (Imm.con _)) .nil)) .nil)) _ rfl ?_
      refine fo (rn 2 rfl ?_)
      exact jX ((y42.1), (y42.2)) h (gr [0, 1] rfl (hR rfl rfl (hB rfl rfl rfl .nil)) rfl)
    refine rn 1 rfl ?_
    exact jX ((w64 (a1 + (w64 ((w64 (Int.tdiv (w64 (a2 - a1)) 4)) * 2)))), 0) h (gr [0, 1] rfl (hR rfl rfl (hB rfl rfl rfl .nil)) rfl)
  rintro ⟨n27, n28⟩ h
  refine rn 10 rfl ?_
  refine spC h rfl (fun hb44 h => ?_) (fun hb44 h => ?_)
  · refine rn 6 rfl ?_
    replace h := Option.some.inj h
    subst h
    exact wR ⟨.inl rfl, [(8, (iV n27)), (9, (iV 1))], (gr [0] rfl (hR rfl rfl .nil) rfl), (.cons (.tmp rfl) (.cons (.tmp rfl) .nil))⟩
  refine rn 5 rfl ?_
  refine spC h rfl (fun hb45 h => ?_) (fun hb45 h => ?_)
  · refine rn 6 rfl ?_
    replace h := Option.some.inj h
    subst h
    exact wR ⟨.inl rfl, [(8, (iV n27)), (9, (iV 2))], (gr [0] rfl (hR rfl rfl .nil) rfl), (.cons (.tmp rfl) (.cons (.tmp rfl) .nil))⟩
  refine rn 6 rfl ?_
  replace h := Option.some.inj h
  subst h
  exact wR ⟨.inl rfl, [(8, (iV n27)), (9, (iV 0))], (gr [0] rfl (hR rfl rfl .nil) rfl), (.cons (.tmp rfl) (.cons (.tmp rfl) .nil))⟩
theorem W221 (F : Nat) (a1 : Int) (a2 : Int) (a3 : List TType) (r : (List TType)) (h : M221 F a1 a2 a3 = some r) : Mut Tryz.prog 221 [(V.own 0 a3.length), (iV a1), (iV a2), (V.fn (.func 123) [] [(V.iptr [(V.fn (.func 47) [] [])] 0)])] 1 [(0, (Ob.arr 104 2 (a3.map encTType)))] (resV []) 1 [(0, (Ob.arr 104 2 (r.map encTType)))] := by
  refine mut_enter Tryz.func221 rfl rfl (l := []) rfl rfl [(0, (V.own 0 a3.length)), (1, (iV a1)), (2, (iV a2)), (3, (V.fn (.func 123) [] [(V.iptr [(V.fn (.func 47) [] [])] 0)]))] rfl (fun w0 m0 β0 hg => en ?_)
  unfold M221 at h
  refine rn 12 rfl ?_
  refine lC (fun (p : Int × Int × (List TType)) => (⟨[(0, (V.own 0 (p.2.2).length)), (8, (iV (p.1))), (9, (iV (p.2.1)))], [(0, (Ob.arr 104 2 ((p.2.2).map encTType)))], 1⟩ : St)) (fun n (p : Int × Int × (List TType)) => M221_L1 F n p.1 p.2.1 p.2.2 = some r) (fun p h => by simp [M221_L1] at h) F (a1, (w64 (a2 - 1)), a3) h (gr [0] rfl (hR rfl rfl .nil) rfl) (fun n p h => ?_)
  obtain ⟨n23, n24, l25⟩ := p
  unfold M221_L1 at h
  refine rn 7 rfl ?_
  refine spC h rfl (fun hb26 h => ?_) (fun hb26 h => ?_)
  · obtain ⟨x27, hx28, h⟩ := bind_some h
    obtain ⟨x29, hx30, h⟩ := bind_some h
    obtain ⟨x31, hx32, h⟩ := bind_some h
    obtain ⟨x33, hx34, h⟩ := bind_some h
    refine rn 3 rfl ?_
    refine dr mixed (vs 6 rfl (oD (a := l25) hx28 rfl rfl rfl rfl (lD hx28 rfl rfl rfl rfl rfl (vs 2 rfl (oD (a := l25) hx30 rfl rfl rfl rfl (lD hx30 rfl rfl rfl rfl rfl (oD (a := l25) hx32 rfl rfl rfl rfl (xD (OD.mk [(28, (V.ptr 0 2 n23.toNat 0)), (23, (V.agg (encTType x27)))] [(0, (Ob.arr 104 2 (l25.map encTType)))] [] [(0, (Ob.arr 104 2 ((l25.set n23.toNat x27).map encTType)))]) ⟨⟨rfl, rfl, trivial⟩, ⟨rfl, trivial⟩⟩ (by exact fun S hn h hh => aops_store (encTType x27) ((l25.set n23.toNat x27).map encTType) tS104 wants_none h.1 h.2.1 rfl rfl hh.1 (idx_map encTType hx32) rfl (map_set encTType l25 _ x27) (aops_nil ⟨rfl, rfl⟩)) rfl (xD (OD.mk [(18, (V.own 0 l25.length)), (19, (iV n24))] [] [(29, (V.ptr 0 2 n24.toNat 0))] []) ⟨⟨rfl, rfl, trivial⟩, trivial⟩ (by exact fun S hn h hh => aops_index_own tSl23 wants_none h.1 h.2.1 (idx_some hx34).1 (by simpa using idx_lt hx34) rfl (aops_nil ⟨rfl, rfl⟩)) rfl (xD (OD.mk [(29, (V.ptr 0 2 n24.toNat 0)), (27, (V.agg (encTType x29)))] [(0, (Ob.arr 104 2 ((l25.set n23.toNat x27).map encTType)))] [] [(0, (Ob.arr 104 2 (((l25.set n23.toNat x27).set n24.toNat x29).map encTType)))]) ⟨⟨rfl, rfl, trivial⟩, ⟨rfl, trivial⟩⟩ (by exact fun S hn h hh => aops_store (encTType x29) (((l25.set n23.toNat x27).set n24.toNat x29).map encTType) tS104 wants_none h.1 h.2.1 rfl rfl hh.1 (idx_map encTType hx34) rfl (map_set encTType (l25.set n23.toNat x27) _ x29) (aops_nil ⟨rfl, rfl⟩)) rfl .nil)))))))))) (by kernel_rfl) ?_
    refine rn 12 rfl ?_
    exact jX ((w64 (n23 + 1)), (w64 (n24 - 1)), ((l25.set n23.toNat x27).set n24.toNat x29)) h (ghost_ren 1 (fun i => ([0] : List Nat).getD i 0) _ _ (by decide) (EnvSub.get (.cons (Sub.ownE rfl rfl (by simp)) (.cons (Sub.imm (Imm.con _)) (.cons (Sub.imm (Imm.con _)) .nil)))) (HpSub.get (.cons rfl (ObSub.rows (rows_imm imms_encTType)) .nil)) rfl)
  refine rn 1 rfl ?_
  replace h := Option.some.inj h
  subst h
  exact wE ⟨.inr rfl, [], (gr [0] rfl (hR rfl rfl .nil) rfl), .nil⟩
theorem W222 (F : Nat) (a1 : Int) (a2 : Int) (a3 : List TType) (r : (Bool × (List TType))) (h : M222 F a1 a2 a3 = some r) : Mut Tryz.prog 222 [(V.own 0 a3.length), (iV a1), (iV a2), (V.fn (.func 123) [] [(V.iptr [(V.fn (.func 47) [] [])] 0)])] 1 [(0, (Ob.arr 104 2 (a3.map encTType)))] (resV [(bV (r.1))]) 1 [(0, (Ob.arr 104 2 ((r.2).map encTType)))] := by
  refine mut_enter Tryz.func222 rfl rfl (l := [.tmp 8]) rfl rfl [(0, (V.own 0 a3.length)), (1, (iV a1)), (2, (iV a2)), (3, (V.fn (.func 123) [] [(V.iptr [(V.fn (.func 47) [] [])] 0)]))] rfl (fun w0 m0 β0 hg => en ?_)
  unfold M222 at h
  refine rn 15 rfl ?_
  refine jK h (fun (p : (List TType)) => (⟨[], [(0, (Ob.arr 104 2 (p.map encTType)))], 1⟩ : St)) (fun k91 (p : (List TType)) => k91 p = some r) (fun k91 h => ?_) ?_
  · refine rn 1 rfl ?_
    refine ck h (fun hA175 h => ?_)
    refine lC (fun (p : Int × Int × (List TType)) => (⟨[(0, (V.own 0 (p.2.2).length)), (1, (iV a1)), (2, (iV a2)), (3, (V.fn (.func 123) [] [(V.iptr [(V.fn (.func 47) [] [])] 0)])), (9, (iV (p.1))), (10, (iV (p.2.1)))], [(0, (Ob.arr 104 2 ((p.2.2).map encTType)))], 1⟩ : St)) (fun n (p : Int × Int × (List TType)) => RC 5 (fun tl nn => M222_L1 F a1 a2 k91 tl p.1 p.2.2 = some r) n p.2.1) (fun p h => RC.zero h) (Int.toNat 5 + 1) ((w64 (a1 + 1)), 0, a3) (RC.start h) (gr [0] rfl (hR rfl rfl .nil) rfl) (fun n p h => ?_)
    obtain ⟨n96, n97, l98⟩ := p
    refine rn 6 rfl ?_
    refine spL rfl (fun hb99 => ?_) (fun hb99 => ?_)
    · obtain ⟨tl, h, hk1⟩ := RC.t hA175 h hb99
      unfold M222_L1 at h
      refine rn 2 rfl ?_
      refine jK h (fun (p : Int × (List TType)) => (⟨[(0, (V.own 0 (p.2).length)), (1, (iV a1)), (2, (iV a2)), (3, (V.fn (.func 123) [] [(V.iptr [(V.fn (.func 47) [] [])] 0)])), (9, (iV (p.1))), (10, (iV n97))], [(0, (Ob.arr 104 2 ((p.2).map encTType)))], 1⟩ : St)) (fun k100 (p : Int × (List TType)) => k100 p.1 p.2 = some r) (fun k100 h => ?_) ?_
      · refine rn 2 rfl ?_
        refine jK h (fun (p : Int) => (⟨[(0, (V.own 0 l98.length)), (1, (iV a1)), (2, (iV a2)), (3, (V.fn (.func 123) [] [(V.iptr [(V.fn (.func 47) [] [])] 0)])), (9, (iV p)), (10, (iV n97))], [(0, (Ob.arr 104 2 (l98.map encTType)))], 1⟩ : St)) (fun k103 (p : Int) => k103 p = some r) (fun k103 h => ?_) ?_
        · refine rn 1 rfl ?_
          refine lC (fun (p : Int) => (⟨[(0, (V.own 0 l98.length)), (1, (iV a1)), (2, (iV a2)), (3, (V.fn (.func 123) [] [(V.iptr [(V.fn (.func 47) [] [])] 0)])), (9, (iV p)), (10, (iV n97))], [(0, (Ob.arr 104 2 (l98.map encTType)))], 1⟩ : St)) (fun n (p : Int) => M222_L2 F a2 l98 k103 n p = some r) (fun p h => by simp [M222_L2] at h) F n96 h (gr [0] rfl (hR rfl rfl .nil) rfl) (fun n n106 h => ?_)
          unfold M222_L2 at h
          refine rn 2 rfl ?_
          refine bs h (fun hb107 h => ?_) (fun hb107 h => ?_)
          · obtain ⟨x108, hx109, h⟩ := bind_some h
            obtain ⟨x110, hx111, h⟩ := bind_some h
            obtain ⟨y112, hx113, h⟩ := bind_some h
            refine dr mixed (vs 3 rfl (vb hb107 rfl (vs 3 rfl (oD (a := l98) hx109 rfl rfl rfl rfl (lD hx109 rfl rfl rfl rfl rfl (vs 3 rfl (oD (a := l98) hx111 rfl rfl rfl rfl (lD hx111 rfl rfl rfl rfl rfl (cD rfl rfl rfl rfl (W123 _ _ _ _ hx113) rfl (vs 3 rfl .nil)))))))))) (by kernel_rfl) ?_
            refine spC h rfl (fun hb114 h => ?_) (fun hb114 h => ?_)
            · refine rn 8 rfl ?_
              exact jX (w64 (n106 + 1)) h (gr [0] rfl (hR rfl rfl .nil) rfl)
            refine rn 1 rfl ?_
            exact jX n106 h (gr [0] rfl (hR rfl rfl .nil) rfl)
          refine dr mixed (vs 3 rfl (vb hb107 rfl (vs 14 rfl .nil))) (by kernel_rfl) ?_
          refine rn 2 rfl ?_
          exact jX n106 h (gr [0] rfl (hR rfl rfl .nil) rfl)
        intro n104 h
        refine rn 7 rfl ?_
        refine spC h rfl (fun hb115 h => ?_) (fun hb115 h => ?_)
        · refine rn 4 rfl ?_
          replace h := Option.some.inj h
          subst h
          exact wR ⟨.inl rfl, [(8, (bV true))], (gr [0] rfl (hR rfl rfl .nil) rfl), (.cons (.tmp rfl) .nil)⟩
        refine rn 9 rfl ?_
        refine spC h rfl (fun hb116 h => ?_) (fun hb116 h => ?_)
        · refine rn 4 rfl ?_
          replace h := Option.some.inj h
          subst h
          exact wR ⟨.inl rfl, [(8, (bV false))], (gr [0] rfl (hR rfl rfl .nil) rfl), (.cons (.tmp rfl) .nil)⟩
        obtain ⟨x117, hx118, h⟩ := bind_some h
        obtain ⟨x119, hx120, h⟩ := bind_some h
        obtain ⟨x121, hx122, h⟩ := bind_some h
        obtain ⟨x123, hx124, h⟩ := bind_some h
        refine rn 2 rfl ?_
        refine dr mixed (vs 8 rfl (oD (a := l98) hx118 rfl rfl rfl rfl (lD hx118 rfl rfl rfl rfl rfl (vs 2 rfl (oD (a := l98) hx120 rfl rfl rfl rfl (lD hx120 rfl rfl rfl rfl rfl (oD (a := l98) hx122 rfl rfl rfl rfl (xD (OD.mk [(60, (V.ptr 0 2 n104.toNat 0)), (55, (V.agg (encTType x117)))] [(0, (Ob.arr 104 2 (l98.map encTType)))] [] [(0, (Ob.arr 104 2 ((l98.set n104.toNat x117).map encTType)))]) ⟨⟨rfl, rfl, trivial⟩, ⟨rfl, trivial⟩⟩ (by exact fun S hn h hh => aops_store (encTType x117) ((l98.set n104.toNat x117).map encTType) tS104 wants_none h.1 h.2.1 rfl rfl hh.1 (idx_map encTType hx122) rfl (map_set encTType l98 _ x117) (aops_nil ⟨rfl, rfl⟩)) rfl (xD (OD.mk [(48, (V.own 0 l98.length)), (50, (iV (w64 (n104 - 1))))] [] [(61, (V.ptr 0 2 (w64 (n104 - 1)).toNat 0))] []) ⟨⟨rfl, rfl, trivial⟩, trivial⟩ (by exact fun S hn h hh => aops_index_own tSl23 wants_none h.1 h.2.1 (idx_some hx124).1 (by simpa using idx_lt hx124) rfl (aops_nil ⟨rfl, rfl⟩)) rfl (xD (OD.mk [(61, (V.ptr 0 2 (w64 (n104 - 1)).toNat 0)), (59, (V.agg (encTType x119)))] [(0, (Ob.arr 104 2 ((l98.set n104.toNat x117).map encTType)))] [] [(0, (Ob.arr 104 2 (((l98.set n104.toNat x117).set (w64 (n104 - 1)).toNat x119).map encTType)))]) ⟨⟨rfl, rfl, trivial⟩, ⟨rfl, trivial⟩⟩ (by exact fun S hn h hh => aops_store (encTType x119) (((l98.set n104.toNat x117).set (w64 (n104 - 1)).toNat x119).map encTType) tS104 wants_none h.1 h.2.1 rfl rfl hh.1 (idx_map encTType hx124) rfl (map_set encTType (l98.set n104.toNat x117) _ x119) (aops_nil ⟨rfl, rfl⟩)) rfl .nil)))))))))) (by kernel_rfl) ?_
        refine rn 8 rfl ?_
        refine jK h (fun (p : (List TType)) => (⟨[(0, (V.own 0 p.length)), (1, (iV a1)), (2, (iV a2)), (3, (V.fn (.func 123) [] [(V.iptr [(V.fn (.func 47) [] [])] 0)])), (9, (iV n104)), (10, (iV n97))], [(0, (Ob.arr 104 2 (p.map encTType)))], 1⟩ : St)) (fun k125 (p : (List TType)) => k125 p = some r) (fun k125 h => ?_) ?_
        · refine spC h rfl (fun hb127 h => ?_) (fun hb127 h => ?_)
          · refine rn 6 rfl ?_
            refine jK h (fun (p : (List TType)) => (⟨[(0, (V.own 0 p.length)), (1, (iV a1)), (2, (iV a2)), (3, (V.fn (.func 123) [] [(V.iptr [(V.fn (.func 47) [] [])] 0)])), (9, (iV n104)), (10, (iV n97))], [(0, (Ob.arr 104 2 (p.map encTType)))], 1⟩ : St)) (fun k128 (p : (List TType)) => k128 p = some r) (fun k128 h => ?_) ?_
            · refine rn 1 rfl ?_
              refine lC (fun (p : Int × (List TType)) => (⟨[(0, (V.own 0 (p.2).length)), (1, (iV a1)), (2, (iV a2)), (3, (V.fn (.func 123) [] [(V.iptr [(V.fn (.func 47) [] [])] 0)])), (9, (iV n104)), (10, (iV n97)), (11, (iV (p.1)))], [(0, (Ob.arr 104 2 ((p.2).map encTType)))], 1⟩ : St)) (fun n (p : Int × (List TType)) => M222_L3 F k128 n p.1 p.2 = some r) (fun p h => by simp [M222_L3] at h) F ((w64 (n104 - 1)), ((l98.set n104.toNat x117).set (w64 (n104 - 1)).toNat x119)) h (ghost_ren 1 (fun i => ([0] : List Nat).getD i 0) _ _ (by decide) (EnvSub.get (.cons (Sub.ownE rfl rfl (by simp)) (.cons (Sub.imm (Imm.con _)) (.cons (Sub.imm (Imm.con _)) (.cons (Sub.imm (Imm.fn .nil (.cons (Imm.iptr _ _) .nil))) (.cons (Sub.imm (Imm.con _)) (.cons (Sub.imm (Imm.con _)) (.cons (Sub.imm (Imm.con _)) .nil)))))))) (HpSub.get (.cons rfl (ObSub.rows (rows_imm imms_encTType)) .nil)) rfl) (fun n p h => ?_)
              obtain ⟨n132, l133⟩ := p
              unfold M222_L3 at h
              refine rn 6 rfl ?_
              refine spC h rfl (fun hb134 h => ?_) (fun hb134 h => ?_)
              · obtain ⟨x135, hx136, h⟩ := bind_some h
                obtain ⟨x137, hx138, h⟩ := bind_some h
                obtain ⟨y139, hx140, h⟩ := bind_some h
                refine rn 5 rfl ?_
                refine dr mixed (vs 3 rfl (oD (a := l133) hx136 rfl rfl rfl rfl (lD hx136 rfl rfl rfl rfl rfl (vs 3 rfl (oD (a := l133) hx138 rfl rfl rfl rfl (lD hx138 rfl rfl rfl rfl rfl (cD rfl rfl rfl rfl (W123 _ _ _ _ hx140) rfl (vs 2 rfl .nil)))))))) (by kernel_rfl) ?_
                refine spC h rfl (fun hb141 h => ?_) (fun hb141 h => ?_)
                · refine rn 1 rfl ?_
                  exact jX l133 h (gr [0] rfl (hR rfl rfl .nil) rfl)
                obtain ⟨x142, hx143, h⟩ := bind_some h
                obtain ⟨x144, hx145, h⟩ := bind_some h
                obtain ⟨x146, hx147, h⟩ := bind_some h
                obtain ⟨x148, hx149, h⟩ := bind_some h
                refine rn 1 rfl ?_
                refine dr mixed (vs 8 rfl (oD (a := l133) hx143 rfl rfl rfl rfl (lD hx143 rfl rfl rfl rfl rfl (vs 2 rfl (oD (a := l133) hx145 rfl rfl rfl rfl (lD hx145 rfl rfl rfl rfl rfl (oD (a := l133) hx147 rfl rfl rfl rfl (xD (OD.mk [(99, (V.ptr 0 2 n132.toNat 0)), (94, (V.agg (encTType x142)))] [(0, (Ob.arr 104 2 (l133.map encTType)))] [] [(0, (Ob.arr 104 2 ((l133.set n132.toNat x142).map encTType)))]) ⟨⟨rfl, rfl, trivial⟩, ⟨rfl, trivial⟩⟩ (by exact fun S hn h hh => aops_store (encTType x142) ((l133.set n132.toNat x142).map encTType) tS104 wants_none h.1 h.2.1 rfl rfl hh.1 (idx_map encTType hx147) rfl (map_set encTType l133 _ x142) (aops_nil ⟨rfl, rfl⟩)) rfl (xD (OD.mk [(87, (V.own 0 l133.length)), (89, (iV (w64 (n132 - 1))))] [] [(100, (V.ptr 0 2 (w64 (n132 - 1)).toNat 0))] []) ⟨⟨rfl, rfl, trivial⟩, trivial⟩ (by exact fun S hn h hh => aops_index_own tSl23 wants_none h.1 h.2.1 (idx_some hx149).1 (by simpa using idx_lt hx149) rfl (aops_nil ⟨rfl, rfl⟩)) rfl (xD (OD.mk [(100, (V.ptr 0 2 (w64 (n132 - 1)).toNat 0)), (98, (V.agg (encTType x144)))] [(0, (Ob.arr 104 2 ((l133.set n132.toNat x142).map encTType)))] [] [(0, (Ob.arr 104 2 (((l133.set n132.toNat x142).set (w64 (n132 - 1)).toNat x144).map encTType)))]) ⟨⟨rfl, rfl, trivial⟩, ⟨rfl, trivial⟩⟩ (by exact fun S hn h hh => aops_store (encTType x144) (((l133.set n132.toNat x142).set (w64 (n132 - 1)).toNat x144).map encTType) tS104 wants_none h.1 h.2.1 rfl rfl hh.1 (idx_map encTType hx149) rfl (map_set encTType (l133.set n132.toNat x142) _ x144) (aops_nil ⟨rfl, rfl⟩)) rfl .nil)))))))))) (by kernel_rfl) ?_
                refine rn 6 rfl ?_
                exact jX ((w64 (n132 - 1)), ((l133.set n132.toNat x142).set (w64 (n132 - 1)).toNat x144)) h (ghost_ren 1 (fun i => ([0] : List Nat).getD i 0) _ _ (by decide) (EnvSub.get (.cons (Sub.ownE rfl rfl (by simp)) (.cons (Sub.imm (Imm.con _)) (.cons (Sub.imm (Imm.con _)) (.cons (Sub.imm (Imm.fn .nil (.cons (Imm.iptr _ _) .nil))) (.cons (Sub.imm (Imm.con _)) (.cons (Sub.imm (Imm.con _)) (.cons (Sub.imm (Imm.con _)) .nil)))))))) (HpSub.get (.cons rfl (ObSub.rows (rows_imm imms_encTType)) .nil)) rfl)
              refine rn 1 rfl ?_
              exact jX l133 h (gr [0] rfl (hR rfl rfl .nil) rfl)
            intro l129 h
            exact jX l129 h (gr [0] rfl (hR rfl rfl .nil) rfl)
          refine rn 1 rfl ?_
          exact jX ((l98.set n104.toNat x117).set (w64 (n104 - 1)).toNat x119) h (ghost_ren 1 (fun i => ([0] : List Nat).getD i 0) _ _ (by decide) (EnvSub.get (.cons (Sub.ownE rfl rfl (by simp)) (.cons (Sub.imm (Imm.con _)) (.cons (Sub.imm (Imm.con _)) (.cons (Sub.imm (Imm.fn .nil (.cons (Imm.iptr _ _) .nil))) (.cons (Sub.imm (Imm.con _)) (.cons (Sub.imm (Imm.con _)) .nil))))))) (HpSub.get (.cons rfl (ObSub.rows (rows_imm imms_encTType)) .nil)) rfl)
        intro l126 h
        refine rn 7 rfl ?_
        refine jK h (fun (p : (List TType)) => (⟨[(0, (V.own 0 p.length)), (1, (iV a1)), (2, (iV a2)), (3, (V.fn (.func 123) [] [(V.iptr [(V.fn (.func 47) [] [])] 0)])), (9, (iV n104)), (10, (iV n97))], [(0, (Ob.arr 104 2 (p.map encTType)))], 1⟩ : St)) (fun k150 (p : (List TType)) => k150 p = some r) (fun k150 h => ?_) ?_
        · refine spC h rfl (fun hb152 h => ?_) (fun hb152 h => ?_)
          · refine rn 6 rfl ?_
            refine jK h (fun (p : (List TType)) => (⟨[(0, (V.own 0 p.length)), (1, (iV a1)), (2, (iV a2)), (3, (V.fn (.func 123) [] [(V.iptr [(V.fn (.func 47) [] [])] 0)])), (9, (iV n104)), (10, (iV n97))], [(0, (Ob.arr 104 2 (p.map encTType)))], 1⟩ : St)) (fun k153 (p : (List TType)) => k153 p = some r) (fun k153 h => ?_) ?_
            · refine rn 1 rfl ?_
              refine lC (fun (p : Int × (List TType)) => (⟨[(0, (V.own 0 (p.2).length)), (1, (iV a1)), (2, (iV a2)), (3, (V.fn (.func 123) [] [(V.iptr [(V.fn (.func 47) [] [])] 0)])), (9, (iV n104)), (10, (iV n97)), (12, (iV (p.1)))], [(0, (Ob.arr 104 2 ((p.2).map encTType)))], 1⟩ : St)) (fun n (p : Int × (List TType)) => M222_L4 F a2 k153 n p.1 p.2 = some r) (fun p h => by simp [M222_L4] at h) F ((w64 (n104 + 1)), l126) h (gr [0] rfl (hR rfl rfl .nil) rfl) (fun n p h => ?_)
              obtain ⟨n157, l158⟩ := p
              unfold M222_L4 at h
              refine rn 7 rfl ?_
              refine spC h rfl (fun hb159 h => ?_) (fun hb159 h => ?_)
              · obtain ⟨x160, hx161, h⟩ := bind_some h
                obtain ⟨x162, hx163, h⟩ := bind_some h
                obtain ⟨y164, hx165, h⟩ := bind_some h
                refine rn 5 rfl ?_
                refine dr mixed (vs 3 rfl (oD (a := l158) hx161 rfl rfl rfl rfl (lD hx161 rfl rfl rfl rfl rfl (vs 3 rfl (oD (a := l158) hx163 rfl rfl rfl rfl (lD hx163 rfl rfl rfl rfl rfl (cD rfl rfl rfl rfl (W123 _ _ _ _ hx165) rfl (vs 2 rfl .nil)))))))) (by kernel_rfl) ?_
                refine spC h rfl (fun hb166 h => ?_) (fun hb166 h => ?_)
                · refine rn 1 rfl ?_
                  exact jX l158 h (gr [0] rfl (hR rfl rfl .nil) rfl)
                obtain ⟨x167, hx168, h⟩ := bind_some h
                obtain ⟨x169, hx170, h⟩ := bind_some h
                obtain ⟨x171, hx172, h⟩ := bind_some h
                obtain ⟨x173, hx174, h⟩ := bind_some h
                refine rn 1 rfl ?_
                refine dr mixed (vs 8 rfl (oD (a := l158) hx168 rfl rfl rfl rfl (lD hx168 rfl rfl rfl rfl rfl (vs 2 rfl (oD (a := l158) hx170 rfl rfl rfl rfl (lD hx170 rfl rfl rfl rfl rfl (oD (a := l158) hx172 rfl rfl rfl rfl (xD (OD.mk [(139, (V.ptr 0 2 n157.toNat 0)), (134, (V.agg (encTType x167)))] [(0, (Ob.arr 104 2 (l158.map encTType)))] [] [(0, (Ob.arr 104 2 ((l158.set n157.toNat x167).map encTType)))]) ⟨⟨rfl, rfl, trivial⟩, ⟨rfl, trivial⟩⟩ (by exact fun S hn h hh => aops_store (encTType x167) ((l158.set n157.toNat x167).map encTType) tS104 wants_none h.1 h.2.1 rfl rfl hh.1 (idx_map encTType hx172) rfl (map_set encTType l158 _ x167) (aops_nil ⟨rfl, rfl⟩)) rfl (xD (OD.mk [(127, (V.own 0 l158.length)), (129, (iV (w64 (n157 - 1))))] [] [(140, (V.ptr 0 2 (w64 (n157 - 1)).toNat 0))] []) ⟨⟨rfl, rfl, trivial⟩, trivial⟩ (by exact fun S hn h hh => aops_index_own tSl23 wants_none h.1 h.2.1 (idx_some hx174).1 (by simpa using idx_lt hx174) rfl (aops_nil ⟨rfl, rfl⟩)) rfl (xD (OD.mk [(140, (V.ptr 0 2 (w64 (n157 - 1)).toNat 0)), (138, (V.agg (encTType x169)))] [(0, (Ob.arr 104 2 ((l158.set n157.toNat x167).map encTType)))] [] [(0, (Ob.arr 104 2 (((l158.set n157.toNat x167).set (w64 (n157 - 1)).toNat x169).map encTType)))]) ⟨⟨rfl, rfl, trivial⟩, ⟨rfl, trivial⟩⟩ (by exact fun S hn h hh => aops_store (encTType x169) (((l158.set n157.toNat x167).set (w64 (n157 - 1)).toNat x169).map encTType) tS104 wants_none h.1 h.2.1 rfl rfl hh.1 (idx_map encTType hx174) rfl (map_set encTType (l158.set n157.toNat x167) _ x169) (aops_nil ⟨rfl, rfl⟩)) rfl .nil)))))))))) (by kernel_rfl) ?_
                refine rn 6 rfl ?_
                exact jX ((w64 (n157 + 1)), ((l158.set n157.toNat x167).set (w64 (n157 - 1)).toNat x169)) h (ghost_ren 1 (fun i => ([0] : List Nat).getD i 0) _ _ (by decide) (EnvSub.get (.cons (Sub.ownE rfl rfl (by simp)) (.cons (Sub.imm (Imm.con _)) (.cons (Sub.imm (Imm.con _)) (.cons (Sub.imm (Imm.fn .nil (.cons (Imm.iptr _ _) .nil))) (.cons (Sub.imm (Imm.con _)) (.cons (Sub.imm (Imm.con _)) (.cons (Sub.imm (Imm.con _)) .nil)))))))) (HpSub.get (.cons rfl (ObSub.rows (rows_imm imms_encTType)) .nil)) rfl)
              refine rn 1 rfl ?_
              exact jX l158 h (gr [0] rfl (hR rfl rfl .nil) rfl)
            intro l154 h
            exact jX l154 h (gr [0] rfl (hR rfl rfl .nil) rfl)
          refine rn 1 rfl ?_
          exact jX l126 h (gr [0] rfl (hR rfl rfl .nil) rfl)
        intro l151 h
        refine rn 1 rfl ?_
        exact jX (n104, l151) h (gr [0] rfl (hR rfl rfl .nil) rfl)
      rintro ⟨n101, l102⟩ h
      refine rn 5 rfl ?_
      exact jX (n101, (w64 (n97 + 1)), l102) (hk1 _ h) (gr [0] rfl (hR rfl rfl .nil) rfl)
    replace h := RC.f h hb99
    unfold M222_L1 at h
    refine rn 1 rfl ?_
    exact jX l98 h (gr [0] rfl (hR rfl rfl .nil) rfl)
  intro l92 h
  refine rn 4 rfl ?_
  replace h := Option.some.inj h
  subst h
  exact wR ⟨.inl rfl, [(8, (bV false))], (gr [0] rfl (hR rfl rfl .nil) rfl), (.cons (.tmp rfl) .nil)⟩
theorem W223 (F : Nat) (a1 : Int) (a2 : Int) (a3 : Int) (a4 : List TType) (r : (Int × (List TType))) (h : M223 F a1 a2 a3 a4 = some r) : Mut Tryz.prog 223 [(V.own 0 a4.length), (iV a1), (iV a2), (iV a3), (V.fn (.func 123) [] [(V.iptr [(V.fn (.func 47) [] [])] 0)])] 1 [(0, (Ob.arr 104 2 (a4.map encTType)))] (resV [(iV (r.1))]) 1 [(0, (Ob.arr 104 2 ((r.2).map encTType)))] := by
  refine mut_enter Tryz.func223 rfl rfl (l := [.tmp 10]) rfl rfl [(0, (V.own 0 a4.length)), (1, (iV a1)), (2, (iV a2)), (3, (iV a3)), (4, (V.fn (.func 123) [] [(V.iptr [(V.fn (.func 47) [] [])] 0)]))] rfl (fun w0 m0 β0 hg => en ?_)
  unfold M223 at h
  obtain ⟨x61, hx62, h⟩ := bind_some h
  obtain ⟨x63, hx64, h⟩ := bind_some h
  obtain ⟨x65, hx66, h⟩ := bind_some h
  obtain ⟨x67, hx68, h⟩ := bind_some h
  refine rn 5 rfl ?_
  refine dr mixed (vs 6 rfl (oD (a := a4) hx62 rfl rfl rfl rfl (lD hx62 rfl rfl rfl rfl rfl (vs 2 rfl (oD (a := a4) hx64 rfl rfl rfl rfl (lD hx64 rfl rfl rfl rfl rfl (oD (a := a4) hx66 rfl rfl rfl rfl (xD (OD.mk [(25, (V.ptr 0 2 a1.toNat 0)), (20, (V.agg (encTType x61)))] [(0, (Ob.arr 104 2 (a4.map encTType)))] [] [(0, (Ob.arr 104 2 ((a4.set a1.toNat x61).map encTType)))]) ⟨⟨rfl, rfl, trivial⟩, ⟨rfl, trivial⟩⟩ (by exact fun S hn h hh => aops_store (encTType x61) ((a4.set a1.toNat x61).map encTType) tS104 wants_none h.1 h.2.1 rfl rfl hh.1 (idx_map encTType hx66) rfl (map_set encTType a4 _ x61) (aops_nil ⟨rfl, rfl⟩)) rfl (xD (OD.mk [(15, (V.own 0 a4.length)), (16, (iV a3))] [] [(26, (V.ptr 0 2 a3.toNat 0))] []) ⟨⟨rfl, rfl, trivial⟩, trivial⟩ (by exact fun S hn h hh => aops_index_own tSl23 wants_none h.1 h.2.1 (idx_some hx68).1 (by simpa using idx_lt hx68) rfl (aops_nil ⟨rfl, rfl⟩)) rfl (xD (OD.mk [(26, (V.ptr 0 2 a3.toNat 0)), (24, (V.agg (encTType x63)))] [(0, (Ob.arr 104 2 ((a4.set a1.toNat x61).map encTType)))] [] [(0, (Ob.arr 104 2 (((a4.set a1.toNat x61).set a3.toNat x63).map encTType)))]) ⟨⟨rfl, rfl, trivial⟩, ⟨rfl, trivial⟩⟩ (by exact fun S hn h hh => aops_store (encTType x63) (((a4.set a1.toNat x61).set a3.toNat x63).map encTType) tS104 wants_none h.1 h.2.1 rfl rfl hh.1 (idx_map encTType hx68) rfl (map_set encTType (a4.set a1.toNat x61) _ x63) (aops_nil ⟨rfl, rfl⟩)) rfl .nil)))))))))) (by kernel_rfl) ?_
  refine rn 10 rfl ?_
  refine jK h (fun (p : Int × (List TType)) => (⟨[(11, (iV (p.1)))], [(0, (Ob.arr 104 2 ((p.2).map encTType)))], 1⟩ : St)) (fun k69 (p : Int × (List TType)) => k69 p.1 p.2 = some r) (fun k69 h => ?_) ?_
  · refine rn 1 rfl ?_
    refine lC (fun (p : Int × Int × (List TType)) => (⟨[(0, (V.own 0 (p.2.2).length)), (1, (iV a1)), (4, (V.fn (.func 123) [] [(V.iptr [(V.fn (.func 47) [] [])] 0)])), (11, (iV (p.1))), (12, (iV (p.2.1)))], [(0, (Ob.arr 104 2 ((p.2.2).map encTType)))], 1⟩ : St)) (fun n (p : Int × Int × (List TType)) => M223_L1 F a1 k69 n p.1 p.2.1 p.2.2 = some r) (fun p h => by simp [M223_L1] at h) F ((w64 (a1 + 1)), (w64 (a2 - 1)), ((a4.set a1.toNat x61).set a3.toNat x63)) h (ghost_ren 1 (fun i => ([0] : List Nat).getD i 0) _ _ (by decide) (EnvSub.get (.cons (Sub.ownE rfl rfl (by simp)) (.cons (Sub.imm (Imm.con _)) (.cons (Sub.imm (Imm.fn .nil (.cons (Imm.iptr _ _) .nil))) (.cons (Sub.imm (Imm.con _)) (.cons (Sub.imm (Imm.con _)) .nil)))))) (HpSub.get (.cons rfl (ObSub.rows (rows_imm imms_encTType)) .nil)) rfl) (fun n p h => ?_)
    obtain ⟨n75, n76, l77⟩ := p
    unfold M223_L1 at h
    refine jK h (fun (p : Int × Int × (List TType)) => (⟨[(0, (V.own 0 (p.2.2).length)), (1, (iV a1)), (4, (V.fn (.func 123) [] [(V.iptr [(V.fn (.func 47) [] [])] 0)])), (11, (iV (p.1))), (12, (iV (p.2.1)))], [(0, (Ob.arr 104 2 ((p.2.2).map encTType)))], 1⟩ : St)) (fun k78 (p : Int × Int × (List TType)) => k78 p.1 p.2.1 p.2.2 = some r) (fun k78 h => ?_) ?_
    · refine rn 2 rfl ?_
      refine jK h (fun (p : Int) => (⟨[(0, (V.own 0 l77.length)), (1, (iV a1)), (4, (V.fn (.func 123) [] [(V.iptr [(V.fn (.func 47) [] [])] 0)])), (11, (iV p)), (12, (iV n76))], [(0, (Ob.arr 104 2 (l77.map encTType)))], 1⟩ : St)) (fun k82 (p : Int) => k82 p = some r) (fun k82 h => ?_) ?_
      · refine rn 1 rfl ?_
        refine lC (fun (p : Int) => (⟨[(0, (V.own 0 l77.length)), (1, (iV a1)), (4, (V.fn (.func 123) [] [(V.iptr [(V.fn (.func 47) [] [])] 0)])), (11, (iV p)), (12, (iV n76))], [(0, (Ob.arr 104 2 (l77.map encTType)))], 1⟩ : St)) (fun n (p : Int) => M223_L2 F a1 n76 l77 k82 n p = some r) (fun p h => by simp [M223_L2] at h) F n75 h (gr [0] rfl (hR rfl rfl .nil) rfl) (fun n n85 h => ?_)
        unfold M223_L2 at h
        refine rn 2 rfl ?_
        refine bs h (fun hb86 h => ?_) (fun hb86 h => ?_)
        · obtain ⟨x87, hx88, h⟩ := bind_some h
          obtain ⟨x89, hx90, h⟩ := bind_some h
          obtain ⟨y91, hx92, h⟩ := bind_some h
          refine dr mixed (vs 3 rfl (vb hb86 rfl (vs 3 rfl (oD (a := l77) hx88 rfl rfl rfl rfl (lD hx88 rfl rfl rfl rfl rfl (vs 2 rfl (oD (a := l77) hx90 rfl rfl rfl rfl (lD hx90 rfl rfl rfl rfl rfl (cD rfl rfl rfl rfl (W123 _ _ _ _ hx92) rfl (vs 3 rfl .nil)))))))))) (by kernel_rfl) ?_
          refine spC h rfl (fun hb93 h => ?_) (fun hb93 h => ?_)
          · refine rn 8 rfl ?_
            exact jX (w64 (n85 + 1)) h (gr [0] rfl (hR rfl rfl .nil) rfl)
          refine rn 1 rfl ?_
          exact jX n85 h (gr [0] rfl (hR rfl rfl .nil) rfl)
        refine dr mixed (vs 3 rfl (vb hb86 rfl (vs 13 rfl .nil))) (by kernel_rfl) ?_
        refine rn 2 rfl ?_
        exact jX n85 h (gr [0] rfl (hR rfl rfl .nil) rfl)
      intro n83 h
      refine rn 1 rfl ?_
      refine jK h (fun (p : Int) => (⟨[(0, (V.own 0 l77.length)), (1, (iV a1)), (4, (V.fn (.func 123) [] [(V.iptr [(V.fn (.func 47) [] [])] 0)])), (11, (iV n83)), (12, (iV p))], [(0, (Ob.arr 104 2 (l77.map encTType)))], 1⟩ : St)) (fun k94 (p : Int) => k94 p = some r) (fun k94 h => ?_) ?_
      · refine rn 1 rfl ?_
        refine lC (fun (p : Int) => (⟨[(0, (V.own 0 l77.length)), (1, (iV a1)), (4, (V.fn (.func 123) [] [(V.iptr [(V.fn (.func 47) [] [])] 0)])), (11, (iV n83)), (12, (iV p))], [(0, (Ob.arr 104 2 (l77.map encTType)))], 1⟩ : St)) (fun n (p : Int) => M223_L3 F a1 l77 n83 k94 n p = some r) (fun p h => by simp [M223_L3] at h) F n76 h (gr [0] rfl (hR rfl rfl .nil) rfl) (fun n n97 h => ?_)
        unfold M223_L3 at h
        refine rn 2 rfl ?_
        refine bs h (fun hb98 h => ?_) (fun hb98 h => ?_)
        · obtain ⟨x99, hx100, h⟩ := bind_some h
          obtain ⟨x101, hx102, h⟩ := bind_some h
          obtain ⟨y103, hx104, h⟩ := bind_some h
          refine dr mixed (vs 3 rfl (vb hb98 rfl (vs 3 rfl (oD (a := l77) hx100 rfl rfl rfl rfl (lD hx100 rfl rfl rfl rfl rfl (vs 2 rfl (oD (a := l77) hx102 rfl rfl rfl rfl (lD hx102 rfl rfl rfl rfl rfl (cD rfl rfl rfl rfl (W123 _ _ _ _ hx104) rfl (vs 2 rfl .nil)))))))))) (by kernel_rfl) ?_
          refine spC h rfl (fun hb105 h => ?_) (fun hb105 h => ?_)
          · refine rn 8 rfl ?_
            exact jX (w64 (n97 - 1)) h (gr [0] rfl (hR rfl rfl .nil) rfl)
          refine rn 1 rfl ?_
          exact jX n97 h (gr [0] rfl (hR rfl rfl .nil) rfl)
        refine dr mixed (vs 3 rfl (vb hb98 rfl (vs 12 rfl .nil))) (by kernel_rfl) ?_
        refine rn 2 rfl ?_
        exact jX n97 h (gr [0] rfl (hR rfl rfl .nil) rfl)
      intro n95 h
      refine rn 7 rfl ?_
      refine spC h rfl (fun hb106 h => ?_) (fun hb106 h => ?_)
      · refine rn 1 rfl ?_
        exact jX (n83, l77) h (gr [0] rfl (hR rfl rfl .nil) rfl)
      obtain ⟨x107, hx108, h⟩ := bind_some h
      obtain ⟨x109, hx110, h⟩ := bind_some h
      obtain ⟨x111, hx112, h⟩ := bind_some h
      obtain ⟨x113, hx114, h⟩ := bind_some h
      refine rn 2 rfl ?_
      refine dr mixed (vs 6 rfl (oD (a := l77) hx108 rfl rfl rfl rfl (lD hx108 rfl rfl rfl rfl rfl (vs 2 rfl (oD (a := l77) hx110 rfl rfl rfl rfl (lD hx110 rfl rfl rfl rfl rfl (oD (a := l77) hx112 rfl rfl rfl rfl (xD (OD.mk [(83, (V.ptr 0 2 n83.toNat 0)), (78, (V.agg (encTType x107)))] [(0, (Ob.arr 104 2 (l77.map encTType)))] [] [(0, (Ob.arr 104 2 ((l77.set n83.toNat x107).map encTType)))]) ⟨⟨rfl, rfl, trivial⟩, ⟨rfl, trivial⟩⟩ (by exact fun S hn h hh => aops_store (encTType x107) ((l77.set n83.toNat x107).map encTType) tS104 wants_none h.1 h.2.1 rfl rfl hh.1 (idx_map encTType hx112) rfl (map_set encTType l77 _ x107) (aops_nil ⟨rfl, rfl⟩)) rfl (xD (OD.mk [(73, (V.own 0 l77.length)), (74, (iV n95))] [] [(84, (V.ptr 0 2 n95.toNat 0))] []) ⟨⟨rfl, rfl, trivial⟩, trivial⟩ (by exact fun S hn h hh => aops_index_own tSl23 wants_none h.1 h.2.1 (idx_some hx114).1 (by simpa using idx_lt hx114) rfl (aops_nil ⟨rfl, rfl⟩)) rfl (xD (OD.mk [(84, (V.ptr 0 2 n95.toNat 0)), (82, (V.agg (encTType x109)))] [(0, (Ob.arr 104 2 ((l77.set n83.toNat x107).map encTType)))] [] [(0, (Ob.arr 104 2 (((l77.set n83.toNat x107).set n95.toNat x109).map encTType)))]) ⟨⟨rfl, rfl, trivial⟩, ⟨rfl, trivial⟩⟩ (by exact fun S hn h hh => aops_store (encTType x109) (((l77.set n83.toNat x107).set n95.toNat x109).map encTType) tS104 wants_none h.1 h.2.1 rfl rfl hh.1 (idx_map encTType hx114) rfl (map_set encTType (l77.set n83.toNat x107) _ x109) (aops_nil ⟨rfl, rfl⟩)) rfl .nil)))))))))) (by kernel_rfl) ?_
      refine rn 12 rfl ?_
      exact jX ((w64 (n83 + 1)), (w64 (n95 - 1)), ((l77.set n83.toNat x107).set n95.toNat x109)) h (ghost_ren 1 (fun i => ([0] : List Nat).getD i 0) _ _ (by decide) (EnvSub.get (.cons (Sub.ownE rfl rfl (by simp)) (.cons (Sub.imm (Imm.con _)) (.cons (Sub.imm (Imm.fn .nil (.cons (Imm.iptr _ _) .nil))) (.cons (Sub.imm (Imm.con _)) (.cons (Sub.imm (Imm.con _)) .nil)))))) (HpSub.get (.cons rfl (ObSub.rows (rows_imm imms_encTType)) .nil)) rfl)
    rintro ⟨n79, n80, l81⟩ h
    exact jX (n79, n80, l81) h (gr [0] rfl (hR rfl rfl .nil) rfl)
  rintro ⟨n70, l71⟩ h
  refine rn 5 rfl ?_
  replace h := Option.some.inj h
  subst h
  exact wR ⟨.inl rfl, [(10, (iV n70))], (gr [0] rfl (hR rfl rfl .nil) rfl), (.cons (.tmp rfl) .nil)⟩
theorem W224 (F : Nat) (a1 : Int) (a2 : Int) (a3 : Int) (a4 : List TType) (r : (Int × Bool × (List TType))) (h : M224 F a1 a2 a3 a4 = some r) : Mut Tryz.prog 224 [(V.own 0 a4.length), (iV a1), (iV a2), (iV a3), (V.fn (.func 123) [] [(V.iptr [(V.fn (.func 47) [] [])] 0)])] 1 [(0, (Ob.arr 104 2 (a4.map encTType)))] (resV [(iV (r.1)), (bV (r.2.1))]) 1 [(0, (Ob.arr 104 2 ((r.2.2).map encTType)))] := by
  refine mut_enter Tryz.func224 rfl rfl (l := [.tmp 10, .tmp 11]) rfl rfl [(0, (V.own 0 a4.length)), (1, (iV a1)), (2, (iV a2)), (3, (iV a3)), (4, (V.fn (.func 123) [] [(V.iptr [(V.fn (.func 47) [] [])] 0)]))] rfl (fun w0 m0 β0 hg => en ?_)
  unfold M224 at h
  obtain ⟨x111, hx112, h⟩ := bind_some h
  obtain ⟨x113, hx114, h⟩ := bind_some h
  obtain ⟨x115, hx116, h⟩ := bind_some h
  obtain ⟨x117, hx118, h⟩ := bind_some h
  refine rn 6 rfl ?_
  refine dr mixed (vs 6 rfl (oD (a := a4) hx112 rfl rfl rfl rfl (lD hx112 rfl rfl rfl rfl rfl (vs 2 rfl (oD (a := a4) hx114 rfl rfl rfl rfl (lD hx114 rfl rfl rfl rfl rfl (oD (a := a4) hx116 rfl rfl rfl rfl (xD (OD.mk [(26, (V.ptr 0 2 a1.toNat 0)), (21, (V.agg (encTType x111)))] [(0, (Ob.arr 104 2 (a4.map encTType)))] [] [(0, (Ob.arr 104 2 ((a4.set a1.toNat x111).map encTType)))]) ⟨⟨rfl, rfl, trivial⟩, ⟨rfl, trivial⟩⟩ (by exact fun S hn h hh => aops_store (encTType x111) ((a4.set a1.toNat x111).map encTType) tS104 wants_none h.1 h.2.1 rfl rfl hh.1 (idx_map encTType hx116) rfl (map_set encTType a4 _ x111) (aops_nil ⟨rfl, rfl⟩)) rfl (xD (OD.mk [(16, (V.own 0 a4.length)), (17, (iV a3))] [] [(27, (V.ptr 0 2 a3.toNat 0))] []) ⟨⟨rfl, rfl, trivial⟩, trivial⟩ (by exact fun S hn h hh => aops_index_own tSl23 wants_none h.1 h.2.1 (idx_some hx118).1 (by simpa using idx_lt hx118) rfl (aops_nil ⟨rfl, rfl⟩)) rfl (xD (OD.mk [(27, (V.ptr 0 2 a3.toNat 0)), (25, (V.agg (encTType x113)))] [(0, (Ob.arr 104 2 ((a4.set a1.toNat x111).map encTType)))] [] [(0, (Ob.arr 104 2 (((a4.set a1.toNat x111).set a3.toNat x113).map encTType)))]) ⟨⟨rfl, rfl, trivial⟩, ⟨rfl, trivial⟩⟩ (by exact fun S hn h hh => aops_store (encTType x113) (((a4.set a1.toNat x111).set a3.toNat x113).map encTType) tS104 wants_none h.1 h.2.1 rfl rfl hh.1 (idx_map encTType hx118) rfl (map_set encTType (a4.set a1.toNat x111) _ x113) (aops_nil ⟨rfl, rfl⟩)) rfl .nil)))))))))) (by kernel_rfl) ?_
  refine rn 10 rfl ?_
  refine jK h (fun (p : Int) => (⟨[(0, (V.own 0 ((a4.set a1.toNat x111).set a3.toNat x113).length)), (1, (iV a1)), (4, (V.fn (.func 123) [] [(V.iptr [(V.fn (.func 47) [] [])] 0)])), (12, (iV p)), (13, (iV (w64 (a2 - 1))))], [(0, (Ob.arr 104 2 (((a4.set a1.toNat x111).set a3.toNat x113).map encTType)))], 1⟩ : St)) (fun k119 (p : Int) => k119 p = some r) (fun k119 h => ?_) ?_
  · refine rn 1 rfl ?_
    refine lC (fun (p : Int) => (⟨[(0, (V.own 0 ((a4.set a1.toNat x111).set a3.toNat x113).length)), (1, (iV a1)), (4, (V.fn (.func 123) [] [(V.iptr [(V.fn (.func 47) [] [])] 0)])), (12, (iV p)), (13, (iV (w64 (a2 - 1))))], [(0, (Ob.arr 104 2 (((a4.set a1.toNat x111).set a3.toNat x113).map encTType)))], 1⟩ : St)) (fun n (p : Int) => M224_L1 F a1 a2 a3 a4 x111 x113 k119 n p = some r) (fun p h => by simp [M224_L1] at h) F (w64 (a1 + 1)) h (ghost_ren 1 (fun i => ([0] : List Nat).getD i 0) _ _ (by decide) (EnvSub.get (.cons (Sub.ownE rfl rfl (by simp)) (.cons (Sub.imm (Imm.con _)) (.cons (Sub.imm (Imm.fn .nil (.cons (Imm.iptr _ _) .nil))) (.cons (Sub.imm (Imm.con _)) (.cons (Sub.imm (Imm.con _)) .nil)))))) (HpSub.get (.cons rfl (ObSub.rows (rows_imm imms_encTType)) .nil)) rfl) (fun n n122 h => ?_)
    unfold M224_L1 at h
    refine rn 2 rfl ?_
    refine bs h (fun hb123 h => ?_) (fun hb123 h => ?_)
    · obtain ⟨x124, hx125, h⟩ := bind_some h
      obtain ⟨x126, hx127, h⟩ := bind_some h
      obtain ⟨y128, hx129, h⟩ := bind_some h
      refine dr mixed (vs 3 rfl (vb hb123 rfl (vs 3 rfl (oD (a := ((a4.set a1.toNat x111).set a3.toNat x113)) hx125 rfl rfl rfl rfl (lD hx125 rfl rfl rfl rfl rfl (vs 2 rfl (oD (a := ((a4.set a1.toNat x111).set a3.toNat x113)) hx127 rfl rfl rfl rfl (lD hx127 rfl rfl rfl rfl rfl (cD rfl rfl rfl rfl (W123 _ _ _ _ hx129) rfl (vs 2 rfl .nil)))))))))) (by kernel_rfl) ?_
      refine spC h rfl (fun hb130 h => ?_) (fun hb130 h => ?_)
      · refine rn 8 rfl ?_
        exact jX (w64 (n122 + 1)) h (gr [0] rfl (hR rfl rfl .nil) rfl)
      refine rn 1 rfl ?_
      exact jX n122 h (gr [0] rfl (hR rfl rfl .nil) rfl)
    refine dr mixed (vs 3 rfl (vb hb123 rfl (vs 12 rfl .nil))) (by kernel_rfl) ?_
    refine rn 2 rfl ?_
    exact jX n122 h (gr [0] rfl (hR rfl rfl .nil) rfl)
  intro n120 h
  refine rn 1 rfl ?_
  refine jK h (fun (p : Int) => (⟨[(0, (V.own 0 ((a4.set a1.toNat x111).set a3.toNat x113).length)), (1, (iV a1)), (4, (V.fn (.func 123) [] [(V.iptr [(V.fn (.func 47) [] [])] 0)])), (12, (iV n120)), (13, (iV p))], [(0, (Ob.arr 104 2 (((a4.set a1.toNat x111).set a3.toNat x113).map encTType)))], 1⟩ : St)) (fun k131 (p : Int) => k131 p = some r) (fun k131 h => ?_) ?_
  · refine rn 1 rfl ?_
    refine lC (fun (p : Int) => (⟨[(0, (V.own 0 ((a4.set a1.toNat x111).set a3.toNat x113).length)), (1, (iV a1)), (4, (V.fn (.func 123) [] [(V.iptr [(V.fn (.func 47) [] [])] 0)])), (12, (iV n120)), (13, (iV p))], [(0, (Ob.arr 104 2 (((a4.set a1.toNat x111).set a3.toNat x113).map encTType)))], 1⟩ : St)) (fun n (p : Int) => M224_L2 F a1 a3 a4 x111 x113 n120 k131 n p = some r) (fun p h => by simp [M224_L2] at h) F (w64 (a2 - 1)) h (gr [0] rfl (hR rfl rfl .nil) rfl) (fun n n134 h => ?_)
    unfold M224_L2 at h
    refine rn 2 rfl ?_
    refine bs h (fun hb135 h => ?_) (fun hb135 h => ?_)
    · obtain ⟨x136, hx137, h⟩ := bind_some h
      obtain ⟨x138, hx139, h⟩ := bind_some h
      obtain ⟨y140, hx141, h⟩ := bind_some h
      refine dr mixed (vs 3 rfl (vb hb135 rfl (vs 3 rfl (oD (a := ((a4.set a1.toNat x111).set a3.toNat x113)) hx137 rfl rfl rfl rfl (lD hx137 rfl rfl rfl rfl rfl (vs 2 rfl (oD (a := ((a4.set a1.toNat x111).set a3.toNat x113)) hx139 rfl rfl rfl rfl (lD hx139 rfl rfl rfl rfl rfl (cD rfl rfl rfl rfl (W123 _ _ _ _ hx141) rfl (vs 3 rfl .nil)))))))))) (by kernel_rfl) ?_
      refine spC h rfl (fun hb142 h => ?_) (fun hb142 h => ?_)
      · refine rn 8 rfl ?_
        exact jX (w64 (n134 - 1)) h (gr [0] rfl (hR rfl rfl .nil) rfl)
      refine rn 1 rfl ?_
      exact jX n134 h (gr [0] rfl (hR rfl rfl .nil) rfl)
    refine dr mixed (vs 3 rfl (vb hb135 rfl (vs 13 rfl .nil))) (by kernel_rfl) ?_
    refine rn 2 rfl ?_
    exact jX n134 h (gr [0] rfl (hR rfl rfl .nil) rfl)
  intro n132 h
  refine rn 7 rfl ?_
  refine spC h rfl (fun hb143 h => ?_) (fun hb143 h => ?_)
  · obtain ⟨x144, hx145, h⟩ := bind_some h
    obtain ⟨x146, hx147, h⟩ := bind_some h
    obtain ⟨x148, hx149, h⟩ := bind_some h
    obtain ⟨x150, hx151, h⟩ := bind_some h
    refine rn 1 rfl ?_
    refine dr mixed (vs 6 rfl (oD (a := ((a4.set a1.toNat x111).set a3.toNat x113)) hx145 rfl rfl rfl rfl (lD hx145 rfl rfl rfl rfl rfl (vs 2 rfl (oD (a := ((a4.set a1.toNat x111).set a3.toNat x113)) hx147 rfl rfl rfl rfl (lD hx147 rfl rfl rfl rfl rfl (oD (a := ((a4.set a1.toNat x111).set a3.toNat x113)) hx149 rfl rfl rfl rfl (xD (OD.mk [(84, (V.ptr 0 2 n132.toNat 0)), (79, (V.agg (encTType x144)))] [(0, (Ob.arr 104 2 (((a4.set a1.toNat x111).set a3.toNat x113).map encTType)))] [] [(0, (Ob.arr 104 2 ((((a4.set a1.toNat x111).set a3.toNat x113).set n132.toNat x144).map encTType)))]) ⟨⟨rfl, rfl, trivial⟩, ⟨rfl, trivial⟩⟩ (by exact fun S hn h hh => aops_store (encTType x144) ((((a4.set a1.toNat x111).set a3.toNat x113).set n132.toNat x144).map encTType) tS104 wants_none h.1 h.2.1 rfl rfl hh.1 (idx_map encTType hx149) rfl (map_set encTType ((a4.set a1.toNat x111).set a3.toNat x113) _ x144) (aops_nil ⟨rfl, rfl⟩)) rfl (xD (OD.mk [(74, (V.own 0 ((a4.set a1.toNat x111).set a3.toNat x113).length)), (75, (iV a1))] [] [(85, (V.ptr 0 2 a1.toNat 0))] []) ⟨⟨rfl, rfl, trivial⟩, trivial⟩ (by exact fun S hn h hh => aops_index_own tSl23 wants_none h.1 h.2.1 (idx_some hx151).1 (by simpa using idx_lt hx151) rfl (aops_nil ⟨rfl, rfl⟩)) rfl (xD (OD.mk [(85, (V.ptr 0 2 a1.toNat 0)), (83, (V.agg (encTType x146)))] [(0, (Ob.arr 104 2 ((((a4.set a1.toNat x111).set a3.toNat x113).set n132.toNat x144).map encTType)))] [] [(0, (Ob.arr 104 2 (((((a4.set a1.toNat x111).set a3.toNat x113).set n132.toNat x144).set a1.toNat x146).map encTType)))]) ⟨⟨rfl, rfl, trivial⟩, ⟨rfl, trivial⟩⟩ (by exact fun S hn h hh => aops_store (encTType x146) (((((a4.set a1.toNat x111).set a3.toNat x113).set n132.toNat x144).set a1.toNat x146).map encTType) tS104 wants_none h.1 h.2.1 rfl rfl hh.1 (idx_map encTType hx151) rfl (map_set encTType (((a4.set a1.toNat x111).set a3.toNat x113).set n132.toNat x144) _ x146) (aops_nil ⟨rfl, rfl⟩)) rfl .nil)))))))))) (by kernel_rfl) ?_
    refine rn 6 rfl ?_
    replace h := Option.some.inj h
    subst h
    exact wR ⟨.inl rfl, [(10, (iV n132)), (11, (bV true))], (gr [0] rfl (hR rfl rfl .nil) rfl), (.cons (.tmp rfl) (.cons (.tmp rfl) .nil))⟩
  obtain ⟨x152, hx153, h⟩ := bind_some h
  obtain ⟨x154, hx155, h⟩ := bind_some h
  obtain ⟨x156, hx157, h⟩ := bind_some h
  obtain ⟨x158, hx159, h⟩ := bind_some h
  refine rn 2 rfl ?_
  refine dr mixed (vs 6 rfl (oD (a := ((a4.set a1.toNat x111).set a3.toNat x113)) hx153 rfl rfl rfl rfl (lD hx153 rfl rfl rfl rfl rfl (vs 2 rfl (oD (a := ((a4.set a1.toNat x111).set a3.toNat x113)) hx155 rfl rfl rfl rfl (lD hx155 rfl rfl rfl rfl rfl (oD (a := ((a4.set a1.toNat x111).set a3.toNat x113)) hx157 rfl rfl rfl rfl (xD (OD.mk [(99, (V.ptr 0 2 n120.toNat 0)), (94, (V.agg (encTType x152)))] [(0, (Ob.arr 104 2 (((a4.set a1.toNat x111).set a3.toNat x113).map encTType)))] [] [(0, (Ob.arr 104 2 ((((a4.set a1.toNat x111).set a3.toNat x113).set n120.toNat x152).map encTType)))]) ⟨⟨rfl, rfl, trivial⟩, ⟨rfl, trivial⟩⟩ (by exact fun S hn h hh => aops_store (encTType x152) ((((a4.set a1.toNat x111).set a3.toNat x113).set n120.toNat x152).map encTType) tS104 wants_none h.1 h.2.1 rfl rfl hh.1 (idx_map encTType hx157) rfl (map_set encTType ((a4.set a1.toNat x111).set a3.toNat x113) _ x152) (aops_nil ⟨rfl, rfl⟩)) rfl (xD (OD.mk [(89, (V.own 0 ((a4.set a1.toNat x111).set a3.toNat x113).length)), (90, (iV n132))] [] [(100, (V.ptr 0 2 n132.toNat 0))] []) ⟨⟨rfl, rfl, trivial⟩, trivial⟩ (by exact fun S hn h hh => aops_index_own tSl23 wants_none h.1 h.2.1 (idx_some hx159).1 (by simpa using idx_lt hx159) rfl (aops_nil ⟨rfl, rfl⟩)) rfl (xD (OD.mk [(100, (V.ptr 0 2 n132.toNat 0)), (98, (V.agg (encTType x154)))] [(0, (Ob.arr 104 2 ((((a4.set a1.toNat x111).set a3.toNat x113).set n120.toNat x152).map encTType)))] [] [(0, (Ob.arr 104 2 (((((a4.set a1.toNat x111).set a3.toNat x113).set n120.toNat x152).set n132.toNat x154).map encTType)))]) ⟨⟨rfl, rfl, trivial⟩, ⟨rfl, trivial⟩⟩ (by exact fun S hn h hh => aops_store (encTType x154) (((((a4.set a1.toNat x111).set a3.toNat x113).set n120.toNat x152).set n132.toNat x154).map encTType) tS104 wants_none h.1 h.2.1 rfl rfl hh.1 (idx_map encTType hx159) rfl (map_set encTType (((a4.set a1.toNat x111).set a3.toNat x113).set n120.toNat x152) _ x154) (aops_nil ⟨rfl, rfl⟩)) rfl .nil)))))))))) (by kernel_rfl) ?_
  refine rn 13 rfl ?_
  refine jK h (fun (p : Int × (List TType)) => (⟨[(0, (V.own 0 (p.2).length)), (1, (iV a1)), (13, (iV (p.1)))], [(0, (Ob.arr 104 2 ((p.2).map encTType)))], 1⟩ : St)) (fun k160 (p : Int × (List TType)) => k160 p.1 p.2 = some r) (fun k160 h => ?_) ?_
  · refine rn 1 rfl ?_
    refine lC (fun (p : Int × Int × (List TType)) => (⟨[(0, (V.own 0 (p.2.2).length)), (1, (iV a1)), (4, (V.fn (.func 123) [] [(V.iptr [(V.fn (.func 47) [] [])] 0)])), (12, (iV (p.1))), (13, (iV (p.2.1)))], [(0, (Ob.arr 104 2 ((p.2.2).map encTType)))], 1⟩ : St)) (fun n (p : Int × Int × (List TType)) => M224_L3 F a1 k160 n p.1 p.2.1 p.2.2 = some r) (fun p h => by simp [M224_L3] at h) F ((w64 (n120 + 1)), (w64 (n132 - 1)), ((((a4.set a1.toNat x111).set a3.toNat x113).set n120.toNat x152).set n132.toNat x154)) h (ghost_ren 1 (fun i => ([0] : List Nat).getD i 0) _ _ (by decide) (EnvSub.get (.cons (Sub.ownE rfl rfl (by simp)) (.cons (Sub.imm (Imm.con _)) (.cons (Sub.imm (Imm.fn .nil (.cons (Imm.iptr _ _) .nil))) (.cons (Sub.imm (Imm.con _)) (.cons (Sub.imm (Imm.con _)) .nil)))))) (HpSub.get (.cons rfl (ObSub.rows (rows_imm imms_encTType)) .nil)) rfl) (fun n p h => ?_)
    obtain ⟨n166, n167, l168⟩ := p
    unfold M224_L3 at h
    refine jK h (fun (p : Int × Int × (List TType)) => (⟨[(0, (V.own 0 (p.2.2).length)), (1, (iV a1)), (4, (V.fn (.func 123) [] [(V.iptr [(V.fn (.func 47) [] [])] 0)])), (12, (iV (p.1))), (13, (iV (p.2.1)))], [(0, (Ob.arr 104 2 ((p.2.2).map encTType)))], 1⟩ : St)) (fun k169 (p : Int × Int × (List TType)) => k169 p.1 p.2.1 p.2.2 = some r) (fun k169 h => ?_) ?_
    · refine rn 2 rfl ?_
      refine jK h (fun (p : Int) => (⟨[(0, (V.own 0 l168.length)), (1, (iV a1)), (4, (V.fn (.func 123) [] [(V.iptr [(V.fn (.func 47) [] [])] 0)])), (12, (iV p)), (13, (iV n167))], [(0, (Ob.arr 104 2 (l168.map encTType)))], 1⟩ : St)) (fun k173 (p : Int) => k173 p = some r) (fun k173 h => ?_) ?_
      · refine rn 1 rfl ?_
        refine lC (fun (p : Int) => (⟨[(0, (V.own 0 l168.length)), (1, (iV a1)), (4, (V.fn (.func 123) [] [(V.iptr [(V.fn (.func 47) [] [])] 0)])), (12, (iV p)), (13, (iV n167))], [(0, (Ob.arr 104 2 (l168.map encTType)))], 1⟩ : St)) (fun n (p : Int) => M224_L4 F a1 n167 l168 k173 n p = some r) (fun p h => by simp [M224_L4] at h) F n166 h (gr [0] rfl (hR rfl rfl .nil) rfl) (fun n n176 h => ?_)
        unfold M224_L4 at h
        refine rn 2 rfl ?_
        refine bs h (fun hb177 h => ?_) (fun hb177 h => ?_)
        · obtain ⟨x178, hx179, h⟩ := bind_some h
          obtain ⟨x180, hx181, h⟩ := bind_some h
          obtain ⟨y182, hx183, h⟩ := bind_some h
          refine dr mixed (vs 3 rfl (vb hb177 rfl (vs 3 rfl (oD (a := l168) hx179 rfl rfl rfl rfl (lD hx179 rfl rfl rfl rfl rfl (vs 2 rfl (oD (a := l168) hx181 rfl rfl rfl rfl (lD hx181 rfl rfl rfl rfl rfl (cD rfl rfl rfl rfl (W123 _ _ _ _ hx183) rfl (vs 2 rfl .nil)))))))))) (by kernel_rfl) ?_
          refine spC h rfl (fun hb184 h => ?_) (fun hb184 h => ?_)
          · refine rn 8 rfl ?_
            exact jX (w64 (n176 + 1)) h (gr [0] rfl (hR rfl rfl .nil) rfl)
          refine rn 1 rfl ?_
          exact jX n176 h (gr [0] rfl (hR rfl rfl .nil) rfl)
        refine dr mixed (vs 3 rfl (vb hb177 rfl (vs 12 rfl .nil))) (by kernel_rfl) ?_
        refine rn 2 rfl ?_
        exact jX n176 h (gr [0] rfl (hR rfl rfl .nil) rfl)
      intro n174 h
      refine rn 1 rfl ?_
      refine jK h (fun (p : Int) => (⟨[(0, (V.own 0 l168.length)), (1, (iV a1)), (4, (V.fn (.func 123) [] [(V.iptr [(V.fn (.func 47) [] [])] 0)])), (12, (iV n174)), (13, (iV p))], [(0, (Ob.arr 104 2 (l168.map encTType)))], 1⟩ : St)) (fun k185 (p : Int) => k185 p = some r) (fun k185 h => ?_) ?_
      · refine rn 1 rfl ?_
        refine lC (fun (p : Int) => (⟨[(0, (V.own 0 l168.length)), (1, (iV a1)), (4, (V.fn (.func 123) [] [(V.iptr [(V.fn (.func 47) [] [])] 0)])), (12, (iV n174)), (13, (iV p))], [(0, (Ob.arr 104 2 (l168.map encTType)))], 1⟩ : St)) (fun n (p : Int) => M224_L5 F a1 l168 n174 k185 n p = some r) (fun p h => by simp [M224_L5] at h) F n167 h (gr [0] rfl (hR rfl rfl .nil) rfl) (fun n n188 h => ?_)
        unfold M224_L5 at h
        refine rn 2 rfl ?_
        refine bs h (fun hb189 h => ?_) (fun hb189 h => ?_)
        · obtain ⟨x190, hx191, h⟩ := bind_some h
          obtain ⟨x192, hx193, h⟩ := bind_some h
          obtain ⟨y194, hx195, h⟩ := bind_some h
          refine dr mixed (vs 3 rfl (vb hb189 rfl (vs 3 rfl (oD (a := l168) hx191 rfl rfl rfl rfl (lD hx191 rfl rfl rfl rfl rfl (vs 2 rfl (oD (a := l168) hx193 rfl rfl rfl rfl (lD hx193 rfl rfl rfl rfl rfl (cD rfl rfl rfl rfl (W123 _ _ _ _ hx195) rfl (vs 3 rfl .nil)))))))))) (by kernel_rfl) ?_
          refine spC h rfl (fun hb196 h => ?_) (fun hb196 h => ?_)
          · refine rn 8 rfl ?_
            exact jX (w64 (n188 - 1)) h (gr [0] rfl (hR rfl rfl .nil) rfl)
          refine rn 1 rfl ?_
          exact jX n188 h (gr [0] rfl (hR rfl rfl .nil) rfl)
        refine dr mixed (vs 3 rfl (vb hb189 rfl (vs 13 rfl .nil))) (by kernel_rfl) ?_
        refine rn 2 rfl ?_
        exact jX n188 h (gr [0] rfl (hR rfl rfl .nil) rfl)
      intro n186 h
      refine rn 7 rfl ?_
      refine spC h rfl (fun hb197 h => ?_) (fun hb197 h => ?_)
      · refine rn 1 rfl ?_
        exact jX (n186, l168) h (gr [0] rfl (hR rfl rfl .nil) rfl)
      obtain ⟨x198, hx199, h⟩ := bind_some h
      obtain ⟨x200, hx201, h⟩ := bind_some h
      obtain ⟨x202, hx203, h⟩ := bind_some h
      obtain ⟨x204, hx205, h⟩ := bind_some h
      refine rn 2 rfl ?_
      refine dr mixed (vs 6 rfl (oD (a := l168) hx199 rfl rfl rfl rfl (lD hx199 rfl rfl rfl rfl rfl (vs 2 rfl (oD (a := l168) hx201 rfl rfl rfl rfl (lD hx201 rfl rfl rfl rfl rfl (oD (a := l168) hx203 rfl rfl rfl rfl (xD (OD.mk [(157, (V.ptr 0 2 n174.toNat 0)), (152, (V.agg (encTType x198)))] [(0, (Ob.arr 104 2 (l168.map encTType)))] [] [(0, (Ob.arr 104 2 ((l168.set n174.toNat x198).map encTType)))]) ⟨⟨rfl, rfl, trivial⟩, ⟨rfl, trivial⟩⟩ (by exact fun S hn h hh => aops_store (encTType x198) ((l168.set n174.toNat x198).map encTType) tS104 wants_none h.1 h.2.1 rfl rfl hh.1 (idx_map encTType hx203) rfl (map_set encTType l168 _ x198) (aops_nil ⟨rfl, rfl⟩)) rfl (xD (OD.mk [(147, (V.own 0 l168.length)), (148, (iV n186))] [] [(158, (V.ptr 0 2 n186.toNat 0))] []) ⟨⟨rfl, rfl, trivial⟩, trivial⟩ (by exact fun S hn h hh => aops_index_own tSl23 wants_none h.1 h.2.1 (idx_some hx205).1 (by simpa using idx_lt hx205) rfl (aops_nil ⟨rfl, rfl⟩)) rfl (xD (OD.mk [(158, (V.ptr 0 2 n186.toNat 0)), (156, (V.agg (encTType x200)))] [(0, (Ob.arr 104 2 ((l168.set n174.toNat x198).map encTType)))] [] [(0, (Ob.arr 104 2 (((l168.set n174.toNat x198).set n186.toNat x200).map encTType)))]) ⟨⟨rfl, rfl, trivial⟩, ⟨rfl, trivial⟩⟩ (by exact fun S hn h hh => aops_store (encTType x200) (((l168.set n174.toNat x198).set n186.toNat x200).map encTType) tS104 wants_none h.1 h.2.1 rfl rfl hh.1 (idx_map encTType hx205) rfl (map_set encTType (l168.set n174.toNat x198) _ x200) (aops_nil ⟨rfl, rfl⟩)) rfl .nil)))))))))) (by kernel_rfl) ?_
      refine rn 12 rfl ?_
      exact jX ((w64 (n174 + 1)), (w64 (n186 - 1)), ((l168.set n174.toNat x198).set n186.toNat x200)) h (ghost_ren 1 (fun i => ([0] : List Nat).getD i 0) _ _ (by decide) (EnvSub.get (.cons (Sub.ownE rfl rfl (by simp)) (.cons (Sub.imm (Imm.con _)) (.cons (Sub.imm (Imm.fn .nil (.cons (Imm.iptr _ _) .nil))) (.cons (Sub.imm (Imm.con _)) (.cons (Sub.imm (Imm.con _)) .nil)))))) (HpSub.get (.cons rfl (ObSub.rows (rows_imm imms_encTType)) .nil)) rfl)
    rintro ⟨n170, n171, l172⟩ h
    exact jX (n170, n171, l172) h (gr [0] rfl (hR rfl rfl .nil) rfl)
  rintro ⟨n161, l162⟩ h
  obtain ⟨x206, hx207, h⟩ := bind_some h
  obtain ⟨x208, hx209, h⟩ := bind_some h
  obtain ⟨x210, hx211, h⟩ := bind_some h
  obtain ⟨x212, hx213, h⟩ := bind_some h
  refine rn 1 rfl ?_
  refine dr mixed (vs 6 rfl (oD (a := l162) hx207 rfl rfl rfl rfl (lD hx207 rfl rfl rfl rfl rfl (vs 2 rfl (oD (a := l162) hx209 rfl rfl rfl rfl (lD hx209 rfl rfl rfl rfl rfl (oD (a := l162) hx211 rfl rfl rfl rfl (xD (OD.mk [(175, (V.ptr 0 2 n161.toNat 0)), (170, (V.agg (encTType x206)))] [(0, (Ob.arr 104 2 (l162.map encTType)))] [] [(0, (Ob.arr 104 2 ((l162.set n161.toNat x206).map encTType)))]) ⟨⟨rfl, rfl, trivial⟩, ⟨rfl, trivial⟩⟩ (by exact fun S hn h hh => aops_store (encTType x206) ((l162.set n161.toNat x206).map encTType) tS104 wants_none h.1 h.2.1 rfl rfl hh.1 (idx_map encTType hx211) rfl (map_set encTType l162 _ x206) (aops_nil ⟨rfl, rfl⟩)) rfl (xD (OD.mk [(165, (V.own 0 l162.length)), (166, (iV a1))] [] [(176, (V.ptr 0 2 a1.toNat 0))] []) ⟨⟨rfl, rfl, trivial⟩, trivial⟩ (by exact fun S hn h hh => aops_index_own tSl23 wants_none h.1 h.2.1 (idx_some hx213).1 (by simpa using idx_lt hx213) rfl (aops_nil ⟨rfl, rfl⟩)) rfl (xD (OD.mk [(176, (V.ptr 0 2 a1.toNat 0)), (174, (V.agg (encTType x208)))] [(0, (Ob.arr 104 2 ((l162.set n161.toNat x206).map encTType)))] [] [(0, (Ob.arr 104 2 (((l162.set n161.toNat x206).set a1.toNat x208).map encTType)))]) ⟨⟨rfl, rfl, trivial⟩, ⟨rfl, trivial⟩⟩ (by exact fun S hn h hh => aops_store (encTType x208) (((l162.set n161.toNat x206).set a1.toNat x208).map encTType) tS104 wants_none h.1 h.2.1 rfl rfl hh.1 (idx_map encTType hx213) rfl (map_set encTType (l162.set n161.toNat x206) _ x208) (aops_nil ⟨rfl, rfl⟩)) rfl .nil)))))))))) (by kernel_rfl) ?_
  refine rn 6 rfl ?_
  replace h := Option.some.inj h
  subst h
  exact wR ⟨.inl rfl, [(10, (iV n161)), (11, (bV false))], (gr [0] rfl (hR rfl rfl .nil) rfl), (.cons (.tmp rfl) (.cons (.tmp rfl) .nil))⟩
theorem W219 (F : Nat) (a1 : Int) (a2 : Int) (a3 : List TType) (r : (List TType)) (h : M219 F a1 a2 a3 = some r) : Mut Tryz.prog 219 [(V.own 0 a3.length), (iV a1), (iV a2), (V.fn (.func 123) [] [(V.iptr [(V.fn (.func 47) [] [])] 0)])] 1 [(0, (Ob.arr 104 2 (a3.map encTType)))] (resV []) 1 [(0, (Ob.arr 104 2 (r.map encTType)))] := by
  refine mut_enter Tryz.func219 rfl rfl (l := []) rfl rfl [(0, (V.own 0 a3.length)), (1, (iV a1)), (2, (iV a2)), (3, (V.fn (.func 123) [] [(V.iptr [(V.fn (.func 47) [] [])] 0)]))] rfl (fun w0 m0 β0 hg => en ?_)
  unfold M219 at h
  refine rn 12 rfl ?_
  refine spC h rfl (fun hb28 h => ?_) (fun hb28 h => ?_)
  · refine rn 10 rfl ?_
    refine cl h rfl rfl rfl (W234 _ _) rfl (fun y29 hx30 h => ?_)
    refine rn 13 rfl ?_
    refine lC (fun (p : Int × (List TType) × Int) => (⟨[(0, (V.own 0 (p.2.1).length)), (1, (iV a1)), (8, (iV (w64 (a2 - a1)))), (9, (V.ptr 1 1 0 0)), (10, (V.con (.int .u64 y29))), (11, (iV (p.1)))], [(0, (Ob.arr 104 2 ((p.2.1).map encTType))), (1, (Ob.arr 332 1 [[(V.con (.int .u64 (p.2.2)))]]))], 2⟩ : St)) (fun n (p : Int × (List TType) × Int) => M219_L1 F a1 a2 y29 n p.1 p.2.1 p.2.2 = some r) (fun p h => by simp [M219_L1] at h) F ((w64 ((w64 (a1 + (w64 ((w64 (Int.tdiv (w64 (a2 - a1)) 4)) * 2)))) - 1)), a3, (IntKind.wrap .u64 (w64 (a2 - a1)))) h (gr [0, 1] rfl (hR rfl rfl (hB rfl rfl rfl .nil)) rfl) (fun n p h => ?_)
    obtain ⟨n34, l35, n36⟩ := p
    unfold M219_L1 at h
    refine rn 12 rfl ?_
    refine spC h rfl (fun hb37 h => ?_) (fun hb37 h => ?_)
    · obtain ⟨y38, hx39, h⟩ := bind_some h
      refine rn 5 rfl ?_
      refine aops_mcallS (V.con (.int .u64 (IntKind.wrap .u64 ((BitVec.ofInt (IntKind.bits .u64) (IntKind.wrap .u64 ((BitVec.ofInt (IntKind.bits .u64) (IntKind.wrap .u64 ((BitVec.ofInt (IntKind.bits .u64) n36 ^^^ BitVec.ofInt (IntKind.bits .u64) (IntKind.wrap .u64 (n36 * 2 ^ (min (Int.toNat 13) (IntKind.bits .u64))))).toNat : Int)) ^^^ BitVec.ofInt (IntKind.bits .u64) (Int.fdiv (IntKind.wrap .u64 ((BitVec.ofInt (IntKind.bits .u64) n36 ^^^ BitVec.ofInt (IntKind.bits .u64) (IntKind.wrap .u64 (n36 * 2 ^ (min (Int.toNat 13) (IntKind.bits .u64))))).toNat : Int)) (2 ^ (min (Int.toNat 7) (IntKind.bits .u64))))).toNat : Int)) ^^^ BitVec.ofInt (IntKind.bits .u64) (IntKind.wrap .u64 ((IntKind.wrap .u64 ((BitVec.ofInt (IntKind.bits .u64) (IntKind.wrap .u64 ((BitVec.ofInt (IntKind.bits .u64) n36 ^^^ BitVec.ofInt (IntKind.bits .u64) (IntKind.wrap .u64 (n36 * 2 ^ (min (Int.toNat 13) (IntKind.bits .u64))))).toNat : Int)) ^^^ BitVec.ofInt (IntKind.bits .u64) (Int.fdiv (IntKind.wrap .u64 ((BitVec.ofInt (IntKind.bits .u64) n36 ^^^ BitVec.ofInt (IntKind.bits .u64) (IntKind.wrap .u64 (n36 * 2 ^ (min (Int.toNat 13) (IntKind.bits .u64))))).toNat : Int)) (2 ^ (min (Int.toNat 7) (IntKind.bits .u64))))).toNat : Int)) * 2 ^ (min (Int.toNat 17) (IntKind.bits .u64))))).toNat : Int)))) [(V.ptr 1 1 0 0)] (fun i => ([1] : List Nat).getD i 0) (fun i => ([1] : List Nat).getD i 0) 2 2 [(1, (Ob.arr 332 1 [[(V.con (.int .u64 (IntKind.wrap .u64 ((BitVec.ofInt (IntKind.bits .u64) (IntKind.wrap .u64 ((BitVec.ofInt (IntKind.bits .u64) (IntKind.wrap .u64 ((BitVec.ofInt (IntKind.bits .u64) n36 ^^^ BitVec.ofInt (IntKind.bits .u64) (IntKind.wrap .u64 (n36 * 2 ^ (min (Int.toNat 13) (IntKind.bits .u64))))).toNat : Int)) ^^^ BitVec.ofInt (IntKind.bits .u64) (Int.fdiv (IntKind.wrap .u64 ((BitVec.ofInt (IntKind.bits .u64) n36 ^^^ BitVec.ofInt (IntKind.bits .u64) (IntKind.wrap .u64 (n36 * 2 ^ (min (Int.toNat 13) (IntKind.bits .u64))))).toNat : Int)) (2 ^ (min (Int.toNat 7) (IntKind.bits .u64))))).toNat : Int)) ^^^ BitVec.ofInt (IntKind.bits .u64) (IntKind.wrap .u64 ((IntKind.wrap .u64 ((BitVec.ofInt (IntKind.bits .u64) (IntKind.wrap .u64 ((BitVec.ofInt (IntKind.bits .u64) n36 ^^^ BitVec.ofInt (IntKind.bits .u64) (IntKind.wrap .u64 (n36 * 2 ^ (min (Int.toNat 13) (IntKind.bits .u64))))).toNat : Int)) ^^^ BitVec.ofInt (IntKind.bits .u64) (Int.fdiv (IntKind.wrap .u64 ((BitVec.ofInt (IntKind.bits .u64) n36 ^^^ BitVec.ofInt (IntKind.bits .u64) (IntKind.wrap .u64 (n36 * 2 ^ (min (Int.toNat 13) (IntKind.bits .u64))))).toNat : Int)) (2 ^ (min (Int.toNat 7) (IntKind.bits .u64))))).toNat : Int)) * 2 ^ (min (Int.toNat 17) (IntKind.bits .u64))))).toNat : Int))))]]))] fOk235 wants_none rfl (evm_cons rfl evm_nil) (.cons (Sub.ptr rfl rfl) .nil) (.cons rfl (ObSub.box (.cons (Sub.imm (Imm.con _)) .nil)) .nil) (W235 F n36 y38 hx39) rfl rfl rfl rfl (Sub.immT (Imm.con _)) (.cons rfl (ObSub.box (.cons (Sub.immT (Imm.con _)) .nil)) .nil) _ rfl ?_
      refine fo (rn 13 rfl ?_)
      refine jK h (fun (p : Int) => (⟨[(0, (V.own 0 l35.length)), (1, (iV a1)), (8, (iV (w64 (a2 - a1)))), (9, (V.ptr 1 1 0 0)), (10, (V.con (.int .u64 y29))), (11, (iV n34)), (12, (iV p))], [(0, (Ob.arr 104 2 (l35.map encTType))), (1, (Ob.arr 332 1 [[(V.con (.int .u64 (IntKind.wrap .u64 ((BitVec.ofInt (IntKind.bits .u64) (IntKind.wrap .u64 ((BitVec.ofInt (IntKind.bits .u64) (IntKind.wrap .u64 ((BitVec.ofInt (IntKind.bits .u64) n36 ^^^ BitVec.ofInt (IntKind.bits .u64) (IntKind.wrap .u64 (n36 * 2 ^ (min (Int.toNat 13) (IntKind.bits .u64))))).toNat : Int)) ^^^ BitVec.ofInt (IntKind.bits .u64) (Int.fdiv (IntKind.wrap .u64 ((BitVec.ofInt (IntKind.bits .u64) n36 ^^^ BitVec.ofInt (IntKind.bits .u64) (IntKind.wrap .u64 (n36 * 2 ^ (min (Int.toNat 13) (IntKind.bits .u64))))).toNat : Int)) (2 ^ (min (Int.toNat 7) (IntKind.bits .u64))))).toNat : Int)) ^^^ BitVec.ofInt (IntKind.bits .u64) (IntKind.wrap .u64 ((IntKind.wrap .u64 ((BitVec.ofInt (IntKind.bits .u64) (IntKind.wrap .u64 ((BitVec.ofInt (IntKind.bits .u64) n36 ^^^ BitVec.ofInt (IntKind.bits .u64) (IntKind.wrap .u64 (n36 * 2 ^ (min (Int.toNat 13) (IntKind.bits .u64))))).toNat : Int)) ^^^ BitVec.ofInt (IntKind.bits .u64) (Int.fdiv (IntKind.wrap .u64 ((BitVec.ofInt (IntKind.bits .u64) n36 ^^^ BitVec.ofInt (IntKind.bits .u64) (IntKind.wrap .u64 (n36 * 2 ^ (min (Int.toNat 13) (IntKind.bits .u64))))).toNat : Int)) (2 ^ (min (Int.toNat 7) (IntKind.bits .u64))))).toNat : Int)) * 2 ^ (min (Int.toNat 17) (IntKind.bits .u64))))).toNat : Int))))]]))], 2⟩ : St)) (fun k40 (p : Int) => k40 p = some r) (fun k40 h => ?_) ?_
      · refine spC h rfl (fun hb42 h => ?_) (fun hb42 h => ?_)
        · refine rn 6 rfl ?_
          exact jX (w64 ((w64 (IntKind.wrap .u64 ((BitVec.ofInt (IntKind.bits .u64) (IntKind.wrap .u64 ((BitVec.ofInt (IntKind.bits .u64) (IntKind.wrap .u64 ((BitVec.ofInt (IntKind.bits .u64) (IntKind.wrap .u64 ((BitVec.ofInt (IntKind.bits .u64) n36 ^^^ BitVec.ofInt (IntKind.bits .u64) (IntKind.wrap .u64 (n36 * 2 ^ (min (Int.toNat 13) (IntKind.bits .u64))))).toNat : Int)) ^^^ BitVec.ofInt (IntKind.bits .u64) (Int.fdiv (IntKind.wrap .u64 ((BitVec.ofInt (IntKind.bits .u64) n36 ^^^ BitVec.ofInt (IntKind.bits .u64) (IntKind.wrap .u64 (n36 * 2 ^ (min (Int.toNat 13) (IntKind.bits .u64))))).toNat : Int)) (2 ^ (min (Int.toNat 7) (IntKind.bits .u64))))).toNat : Int)) ^^^ BitVec.ofInt (IntKind.bits .u64) (IntKind.wrap .u64 ((IntKind.wrap .u64 ((BitVec.ofInt (IntKind.bits .u64) (IntKind.wrap .u64 ((BitVec.ofInt (IntKind.bits .u64) n36 ^^^ BitVec.ofInt (IntKind.bits .u64) (IntKind.wrap .u64 (n36 * 2 ^ (min (Int.toNat 13) (IntKind.bits .u64))))).toNat : Int)) ^^^ BitVec.ofInt (IntKind.bits .u64) (Int.fdiv (IntKind.wrap .u64 ((BitVec.ofInt (IntKind.bits .u64) n36 ^^^ BitVec.ofInt (IntKind.bits .u64) (IntKind.wrap .u64 (n36 * 2 ^ (min (Int.toNat 13) (IntKind.bits .u64))))).toNat : Int)) (2 ^ (min (Int.toNat 7) (IntKind.bits .u64))))).toNat : Int)) * 2 ^ (min (Int.toNat 17) (IntKind.bits .u64))))).toNat : Int)) &&& BitVec.ofInt (IntKind.bits .u64) (IntKind.wrap .u64 (y29 - 1))).toNat : Int))) - (w64 (a2 - a1)))) h (gr [0, 1] rfl (hR rfl rfl (hB rfl rfl rfl .nil)) rfl)
        refine rn 1 rfl ?_
        exact jX (w64 (IntKind.wrap .u64 ((BitVec.ofInt (IntKind.bits .u64) (IntKind.wrap .u64 ((BitVec.ofInt (IntKind.bits .u64) (IntKind.wrap .u64 ((BitVec.ofInt (IntKind.bits .u64) (IntKind.wrap .u64 ((BitVec.ofInt (IntKind.bits .u64) n36 ^^^ BitVec.ofInt (IntKind.bits .u64) (IntKind.wrap .u64 (n36 * 2 ^ (min (Int.toNat 13) (IntKind.bits .u64))))).toNat : Int)) ^^^ BitVec.ofInt (IntKind.bits .u64) (Int.fdiv (IntKind.wrap .u64 ((BitVec.ofInt (IntKind.bits .u64) n36 ^^^ BitVec.ofInt (IntKind.bits .u64) (IntKind.wrap .u64 (n36 * 2 ^ (min (Int.toNat 13) (IntKind.bits .u64))))).toNat : Int)) (2 ^ (min (Int.toNat 7) (IntKind.bits .u64))))).toNat : Int)) ^^^ BitVec.ofInt (IntKind.bits .u64) (IntKind.wrap .u64 ((IntKind.wrap .u64 ((BitVec.ofInt (IntKind.bits .u64) (IntKind.wrap .u64 ((BitVec.ofInt (IntKind.bits .u64) n36 ^^^ BitVec.ofInt (IntKind.bits .u64) (IntKind.wrap .u64 (n36 * 2 ^ (min (Int.toNat 13) (IntKind.bits .u64))))).toNat : Int)) ^^^ BitVec.ofInt (IntKind.bits .u64) (Int.fdiv (IntKind.wrap .u64 ((BitVec.ofInt (IntKind.bits .u64) n36 ^^^ BitVec.ofInt (IntKind.bits .u64) (IntKind.wrap .u64 (n36 * 2 ^ (min (Int.toNat 13) (IntKind.bits .u64))))).toNat : Int)) (2 ^ (min (Int.toNat 7) (IntKind.bits .u64))))).toNat : Int)) * 2 ^ (min (Int.toNat 17) (IntKind.bits .u64))))).toNat : Int)) &&& BitVec.ofInt (IntKind.bits .u64) (IntKind.wrap .u64 (y29 - 1))).toNat : Int))) h (gr [0, 1] rfl (hR rfl rfl (hB rfl rfl rfl .nil)) rfl)
      intro n41 h
      obtain ⟨x43, hx44, h⟩ := bind_some h
      obtain ⟨x45, hx46, h⟩ := bind_some h
      obtain ⟨x47, hx48, h⟩ := bind_some h
      obtain ⟨x49, hx50, h⟩ := bind_some h
      refine dr mixed (vs 10 rfl (oD (a := l35) hx44 rfl rfl rfl rfl (lD hx44 rfl rfl rfl rfl rfl (vs 2 rfl (oD (a := l35) hx46 rfl rfl rfl rfl (lD hx46 rfl rfl rfl rfl rfl (oD (a := l35) hx48 rfl rfl rfl rfl (xD (OD.mk [(65, (V.ptr 0 2 n34.toNat 0)), (60, (V.agg (encTType x43)))] [(0, (Ob.arr 104 2 (l35.map encTType)))] [] [(0, (Ob.arr 104 2 ((l35.set n34.toNat x43).map encTType)))]) ⟨⟨rfl, rfl, trivial⟩, ⟨rfl, trivial⟩⟩ (by exact fun S hn h hh => aops_store (encTType x43) ((l35.set n34.toNat x43).map encTType) tS104 wants_none h.1 h.2.1 rfl rfl hh.1 (idx_map encTType hx48) rfl (map_set encTType l35 _ x43) (aops_nil ⟨rfl, rfl⟩)) rfl (xD (OD.mk [(51, (V.own 0 l35.length)), (54, (iV (w64 (a1 + n41))))] [] [(66, (V.ptr 0 2 (w64 (a1 + n41)).toNat 0))] []) ⟨⟨rfl, rfl, trivial⟩, trivial⟩ (by exact fun S hn h hh => aops_index_own tSl23 wants_none h.1 h.2.1 (idx_some hx50).1 (by simpa using idx_lt hx50) rfl (aops_nil ⟨rfl, rfl⟩)) rfl (xD (OD.mk [(66, (V.ptr 0 2 (w64 (a1 + n41)).toNat 0)), (64, (V.agg (encTType x45)))] [(0, (Ob.arr 104 2 ((l35.set n34.toNat x43).map encTType)))] [] [(0, (Ob.arr 104 2 (((l35.set n34.toNat x43).set (w64 (a1 + n41)).toNat x45).map encTType)))]) ⟨⟨rfl, rfl, trivial⟩, ⟨rfl, trivial⟩⟩ (by exact fun S hn h hh => aops_store (encTType x45) (((l35.set n34.toNat x43).set (w64 (a1 + n41)).toNat x45).map encTType) tS104 wants_none h.1 h.2.1 rfl rfl hh.1 (idx_map encTType hx50) rfl (map_set encTType (l35.set n34.toNat x43) _ x45) (aops_nil ⟨rfl, rfl⟩)) rfl .nil)))))))))) (by kernel_rfl) ?_
      refine rn 6 rfl ?_
      exact jX ((w64 (n34 + 1)), ((l35.set n34.toNat x43).set (w64 (a1 + n41)).toNat x45), (IntKind.wrap .u64 ((BitVec.ofInt (IntKind.bits .u64) (IntKind.wrap .u64 ((BitVec.ofInt (IntKind.bits .u64) (IntKind.wrap .u64 ((BitVec.ofInt (IntKind.bits .u64) n36 ^^^ BitVec.ofInt (IntKind.bits .u64) (IntKind.wrap .u64 (n36 * 2 ^ (min (Int.toNat 13) (IntKind.bits .u64))))).toNat : Int)) ^^^ BitVec.ofInt (IntKind.bits .u64) (Int.fdiv (IntKind.wrap .u64 ((BitVec.ofInt (IntKind.bits .u64) n36 ^^^ BitVec.ofInt (IntKind.bits .u64) (IntKind.wrap .u64 (n36 * 2 ^ (min (Int.toNat 13) (IntKind.bits .u64))))).toNat : Int)) (2 ^ (min (Int.toNat 7) (IntKind.bits .u64))))).toNat : Int)) ^^^ BitVec.ofInt (IntKind.bits .u64) (IntKind.wrap .u64 ((IntKind.wrap .u64 ((BitVec.ofInt (IntKind.bits .u64) (IntKind.wrap .u64 ((BitVec.ofInt (IntKind.bits .u64) n36 ^^^ BitVec.ofInt (IntKind.bits .u64) (IntKind.wrap .u64 (n36 * 2 ^ (min (Int.toNat 13) (IntKind.bits .u64))))).toNat : Int)) ^^^ BitVec.ofInt (IntKind.bits .u64) (Int.fdiv (IntKind.wrap .u64 ((BitVec.ofInt (IntKind.bits .u64) n36 ^^^ BitVec.ofInt (IntKind.bits .u64) (IntKind.wrap .u64 (n36 * 2 ^ (min (Int.toNat 13) (IntKind.bits .u64))))).toNat : Int)) (2 ^ (min (Int.toNat 7) (IntKind.bits .u64))))).toNat : Int)) * 2 ^ (min (Int.toNat 17) (IntKind.bits .u64))))).toNat : Int))) h (ghost_ren 2 (fun i => ([0, 1] : List Nat).getD i 0) _ _ (by decide) (EnvSub.get (.cons (Sub.ownE rfl rfl (by simp)) (.cons (Sub.imm (Imm.con _)) (.cons (Sub.imm (Imm.con _)) (.cons (Sub.ptr rfl rfl) (.cons (Sub.imm (Imm.con _)) (.cons (Sub.imm (Imm.con _)) .nil))))))) (HpSub.get (.cons rfl (ObSub.rows (rows_imm imms_encTType)) (.cons rfl (ObSub.box (.cons (Sub.imm (Imm.con _)) .nil)) .nil))) rfl)
    refine rn 1 rfl ?_
    replace h := Option.some.inj h
    subst h
    exact wE ⟨.inr rfl, [], (gr [0] rfl (hR rfl rfl .nil) rfl), .nil⟩
  refine rn 1 rfl ?_
  replace h := Option.some.inj h
  subst h
  exact wE ⟨.inr rfl, [], (gr [0] rfl (hR rfl rfl .nil) rfl), .nil⟩
theorem W172_B (R172 : Int → Int → Int → (List TType) → Option (List TType)) (hR172 : ∀ (a1 : Int) (a2 : Int) (a3 : Int) (a4 : List TType) (r : (List TType)), R172 a1 a2 a3 a4 = some r → Mut Tryz.prog 172 [(V.own 0 a4.length), (iV a1), (iV a2), (iV a3), (V.fn (.func 123) [] [(V.iptr [(V.fn (.func 47) [] [])] 0)])] 1 [(0, (Ob.arr 104 2 (a4.map encTType)))] (resV []) 1 [(0, (Ob.arr 104 2 (r.map encTType)))]) (F : Nat) (a1 : Int) (a2 : Int) (a3 : Int) (a4 : List TType) (r : (List TType)) (h : M172_B R172 F a1 a2 a3 a4 = some r) : Mut Tryz.prog 172 [(V.own 0 a4.length), (iV a1), (iV a2), (iV a3), (V.fn (.func 123) [] [(V.iptr [(V.fn (.func 47) [] [])] 0)])] 1 [(0, (Ob.arr 104 2 (a4.map encTType)))] (resV []) 1 [(0, (Ob.arr 104 2 (r.map encTType)))] := by
  refine mut_enter Tryz.func172 rfl rfl (l := []) rfl rfl [(0, (V.own 0 a4.length)), (1, (iV a1)), (2, (iV a2)), (3, (iV a3)), (4, (V.fn (.func 123) [] [(V.iptr [(V.fn (.func 47) [] [])] 0)]))] rfl (fun w0 m0 β0 hg => en ?_)
  unfold M172_B at h
  refine rn 9 rfl ?_
  refine lC (fun (p : Int × Int × Int × Bool × Bool × (List TType)) => (⟨[(0, (V.own 0 (p.2.2.2.2.2).length)), (1, (iV (p.1))), (2, (iV (p.2.1))), (3, (iV (p.2.2.1))), (4, (V.fn (.func 123) [] [(V.iptr [(V.fn (.func 47) [] [])] 0)])), (10, (bV (p.2.2.2.1))), (11, (bV (p.2.2.2.2.1)))], [(0, (Ob.arr 104 2 ((p.2.2.2.2.2).map encTType)))], 1⟩ : St)) (fun n (p : Int × Int × Int × Bool × Bool × (List TType)) => M172_L1 R172 F n p.1 p.2.1 p.2.2.1 p.2.2.2.1 p.2.2.2.2.1 p.2.2.2.2.2 = some r) (fun p h => by simp [M172_L1] at h) F (a1, a2, a3, true, true, a4) h (gr [0] rfl (hR rfl rfl .nil) rfl) (fun n p h => ?_)
  obtain ⟨n191, n192, n193, b194, b195, l196⟩ := p
  unfold M172_L1 at h
  refine rn 14 rfl ?_
  refine spC h rfl (fun hb197 h => ?_) (fun hb197 h => ?_)
  · obtain ⟨y198, hx199, h⟩ := bind_some h
    refine rn 6 rfl ?_
    refine ck h (fun hc200 h => ?_)
    refine aops_mcallS (V.tup []) [(V.own 0 l196.length), (iV n191), (iV n192), (V.fn (.func 123) [] [(V.iptr [(V.fn (.func 47) [] [])] 0)])] (fun i => ([0] : List Nat).getD i 0) (fun i => ([0] : List Nat).getD i 0) 1 1 [(0, (Ob.arr 104 2 (y198.map encTType)))] fOk217 wants_none rfl (evm_cons rfl (evm_cons rfl (evm_cons rfl (evm_cons rfl evm_nil)))) (.cons (Sub.own rfl rfl) (.cons (Sub.imm (Imm.con _)) (.cons (Sub.imm (Imm.con _)) (.cons (Sub.imm (Imm.fn .nil (.cons (Imm.iptr _ _) .nil))) .nil)))) (.cons rfl (ObSub.rows (rows_imm imms_encTType)) .nil) (W217 F n191 n192 l196 y198 hx199) rfl rfl rfl rfl (Sub.immT (Imm.tup .nil)) (.cons rfl (ObSub.rowsT (rows_imm imms_encTType)) .nil) _ rfl ?_
    refine aops_ghost (ghost_tell 0 (V.own 0 y198.length) rfl (Sub.ownI hc200)) ?_
    refine aops_ghost (ghost_tell 26 (V.own 0 y198.length) rfl (Sub.ownI hc200)) ?_
    refine fo (rn 1 rfl ?_)
    replace h := Option.some.inj h
    subst h
    exact wR ⟨.inl rfl, [], (gr [0] rfl (hR rfl rfl .nil) rfl), .nil⟩
  refine rn 7 rfl ?_
  refine spC h rfl (fun hb201 h => ?_) (fun hb201 h => ?_)
  · obtain ⟨y202, hx203, h⟩ := bind_some h
    refine rn 6 rfl ?_
    refine ck h (fun hc204 h => ?_)
    refine aops_mcallS (V.tup []) [(V.own 0 l196.length), (iV n191), (iV n192), (V.fn (.func 123) [] [(V.iptr [(V.fn (.func 47) [] [])] 0)])] (fun i => ([0] : List Nat).getD i 0) (fun i => ([0] : List Nat).getD i 0) 1 1 [(0, (Ob.arr 104 2 (y202.map encTType)))] fOk218 wants_none rfl (evm_cons rfl (evm_cons rfl (evm_cons rfl (evm_cons rfl evm_nil)))) (.cons (Sub.own rfl rfl) (.cons (Sub.imm (Imm.con _)) (.cons (Sub.imm (Imm.con _)) (.cons (Sub.imm (Imm.fn .nil (.cons (Imm.iptr _ _) .nil))) .nil)))) (.cons rfl (ObSub.rows (rows_imm imms_encTType)) .nil) (W218 F n191 n192 l196 y202 hx203) rfl rfl rfl rfl (Sub.immT (Imm.tup .nil)) (.cons rfl (ObSub.rowsT (rows_imm imms_encTType)) .nil) _ rfl ?_
    refine aops_ghost (ghost_tell 0 (V.own 0 y202.length) rfl (Sub.ownI hc204)) ?_
    refine aops_ghost (ghost_tell 33 (V.own 0 y202.length) rfl (Sub.ownI hc204)) ?_
    refine fo (rn 1 rfl ?_)
    replace h := Option.some.inj h
    subst h
    exact wR ⟨.inl rfl, [], (gr [0] rfl (hR rfl rfl .nil) rfl), .nil⟩
  refine rn 7 rfl ?_
  refine jK h (fun (p : Int × (List TType)) => (⟨[(0, (V.own 0 (p.2).length)), (1, (iV n191)), (2, (iV n192)), (3, (iV (p.1))), (4, (V.fn (.func 123) [] [(V.iptr [(V.fn (.func 47) [] [])] 0)])), (10, (bV b194)), (11, (bV b195)), (12, (iV (w64 (n192 - n191))))], [(0, (Ob.arr 104 2 ((p.2).map encTType)))], 1⟩ : St)) (fun k205 (p : Int × (List TType)) => k205 p.1 p.2 = some r) (fun k205 h => ?_) ?_
  · refine spC h rfl (fun hb208 h => ?_) (fun hb208 h => ?_)
    · obtain ⟨y209, hx210, h⟩ := bind_some h
      refine rn 6 rfl ?_
      refine ck h (fun hc211 h => ?_)
      refine aops_mcallS (V.tup []) [(V.own 0 l196.length), (iV n191), (iV n192), (V.fn (.func 123) [] [(V.iptr [(V.fn (.func 47) [] [])] 0)])] (fun i => ([0] : List Nat).getD i 0) (fun i => ([0] : List Nat).getD i 0) 1 1 [(0, (Ob.arr 104 2 (y209.map encTType)))] fOk219 wants_none rfl (evm_cons rfl (evm_cons rfl (evm_cons rfl (evm_cons rfl evm_nil)))) (.cons (Sub.own rfl rfl) (.cons (Sub.imm (Imm.con _)) (.cons (Sub.imm (Imm.con _)) (.cons (Sub.imm (Imm.fn .nil (.cons (Imm.iptr _ _) .nil))) .nil)))) (.cons rfl (ObSub.rows (rows_imm imms_encTType)) .nil) (W219 F n191 n192 l196 y209 hx210) rfl rfl rfl rfl (Sub.immT (Imm.tup .nil)) (.cons rfl (ObSub.rowsT (rows_imm imms_encTType)) .nil) _ rfl ?_
      refine aops_ghost (ghost_tell 0 (V.own 0 y209.length) rfl (Sub.ownI hc211)) ?_
      refine aops_ghost (ghost_tell 40 (V.own 0 y209.length) rfl (Sub.ownI hc211)) ?_
      refine fo (rn 6 rfl ?_)
      exact jX ((w64 (n193 - 1)), y209) h (gr [0] rfl (hR rfl rfl .nil) rfl)
    refine rn 1 rfl ?_
    exact jX (n193, l196) h (gr [0] rfl (hR rfl rfl .nil) rfl)
  rintro ⟨n206, l207⟩ h
  obtain ⟨y212, hx213, h⟩ := bind_some h
  refine rn 6 rfl ?_
  refine aops_mcallS (V.tup [(iV (y212.1)), (iV (y212.2))]) [(V.own 0 l207.length), (iV n191), (iV n192), (V.fn (.func 123) [] [(V.iptr [(V.fn (.func 47) [] [])] 0)])] (fun i => ([0] : List Nat).getD i 0) (fun i => ([0] : List Nat).getD i 0) 1 1 [(0, (Ob.arr 104 2 (l207.map encTType)))] fOk220 wants_none rfl (evm_cons rfl (evm_cons rfl (evm_cons rfl (evm_cons rfl evm_nil)))) (.cons (Sub.own rfl rfl) (.cons (Sub.imm (Imm.con _)) (.cons (Sub.imm (Imm.con _)) (.cons (Sub.imm (Imm.fn .nil (.cons (Imm.iptr _ _) .nil))) .nil)))) (.cons rfl (ObSub.rows (rows_imm imms_encTType)) .nil) (W220 F n191 n192 l207 y212 hx213) rfl rfl rfl rfl (Sub.immT (Imm.tup (.cons (Imm.con _) (.cons (Imm.con _) .nil)))) (.cons rfl (ObSub.rowsT (rows_imm imms_encTType)) .nil) _ rfl ?_
  refine fo (rn 12 rfl ?_)
  refine jK h (fun (p : Int × Int × (List TType)) => (⟨[(0, (V.own 0 (p.2.2).length)), (1, (iV n191)), (2, (iV n192)), (3, (iV n206)), (4, (V.fn (.func 123) [] [(V.iptr [(V.fn (.func 47) [] [])] 0)])), (10, (bV b194)), (11, (bV b195)), (12, (iV (w64 (n192 - n191)))), (13, (iV (p.1))), (14, (iV (p.2.1)))], [(0, (Ob.arr 104 2 ((p.2.2).map encTType)))], 1⟩ : St)) (fun k214 (p : Int × Int × (List TType)) => k214 p.1 p.2.1 p.2.2 = some r) (fun k214 h => ?_) ?_
  · refine spC h rfl (fun hb218 h => ?_) (fun hb218 h => ?_)
    · obtain ⟨y219, hx220, h⟩ := bind_some h
      refine rn 6 rfl ?_
      refine ck h (fun hc221 h => ?_)
      refine aops_mcallS (V.tup []) [(V.own 0 l207.length), (iV n191), (iV n192), (V.fn (.func 123) [] [(V.iptr [(V.fn (.func 47) [] [])] 0)])] (fun i => ([0] : List Nat).getD i 0) (fun i => ([0] : List Nat).getD i 0) 1 1 [(0, (Ob.arr 104 2 (y219.map encTType)))] fOk221 wants_none rfl (evm_cons rfl (evm_cons rfl (evm_cons rfl (evm_cons rfl evm_nil)))) (.cons (Sub.own rfl rfl) (.cons (Sub.imm (Imm.con _)) (.cons (Sub.imm (Imm.con _)) (.cons (Sub.imm (Imm.fn .nil (.cons (Imm.iptr _ _) .nil))) .nil)))) (.cons rfl (ObSub.rows (rows_imm imms_encTType)) .nil) (W221 F n191 n192 l207 y219 hx220) rfl rfl rfl rfl (Sub.immT (Imm.tup .nil)) (.cons rfl (ObSub.rowsT (rows_imm imms_encTType)) .nil) _ rfl ?_
      refine aops_ghost (ghost_tell 0 (V.own 0 y219.length) rfl (Sub.ownI hc221)) ?_
      refine aops_ghost (ghost_tell 48 (V.own 0 y219.length) rfl (Sub.ownI hc221)) ?_
      refine aops_ghost (ghost_tell 57 (V.own 0 y219.length) rfl (Sub.ownI hc221)) ?_
      refine fo (rn 14 rfl ?_)
      exact jX ((w64 ((w64 (n192 - 1)) - (w64 ((y212.1) - n191)))), 1, y219) h (gr [0] rfl (hR rfl rfl .nil) rfl)
    refine rn 1 rfl ?_
    exact jX ((y212.1), (y212.2), l207) h (gr [0] rfl (hR rfl rfl .nil) rfl)
  rintro ⟨n215, n216, l217⟩ h
  refine rn 5 rfl ?_
  refine spO 69 h rfl (fun hb222 h => ?_) (fun hb222 h => ?_)
  · refine rn 3 rfl ?_
    refine spO 72 h rfl (fun hb223 h => ?_) (fun hb223 h => ?_)
    · refine rn 4 rfl ?_
      refine jK h (fun (p : (List TType)) => (⟨[(0, (V.own 0 p.length)), (1, (iV n191)), (2, (iV n192)), (3, (iV n206)), (4, (V.fn (.func 123) [] [(V.iptr [(V.fn (.func 47) [] [])] 0)])), (10, (bV b194)), (11, (bV b195)), (12, (iV (w64 (n192 - n191)))), (13, (iV n215)), (70, (bV b195)), (73, (iV n216)), (74, (bV (n216 == 1)))], [(0, (Ob.arr 104 2 (p.map encTType)))], 1⟩ : St)) (fun k224 (p : (List TType)) => k224 p = some r) (fun k224 h => ?_) ?_
      · refine spC h rfl (fun hb226 h => ?_) (fun hb226 h => ?_)
        · obtain ⟨y227, hx228, h⟩ := bind_some h
          refine rn 6 rfl ?_
          refine ck h (fun hc229 h => ?_)
          refine aops_mcallS (bV (y227.1)) [(V.own 0 l217.length), (iV n191), (iV n192), (V.fn (.func 123) [] [(V.iptr [(V.fn (.func 47) [] [])] 0)])] (fun i => ([0] : List Nat).getD i 0) (fun i => ([0] : List Nat).getD i 0) 1 1 [(0, (Ob.arr 104 2 ((y227.2).map encTType)))] fOk222 wants_none rfl (evm_cons rfl (evm_cons rfl (evm_cons rfl (evm_cons rfl evm_nil)))) (.cons (Sub.own rfl rfl) (.cons (Sub.imm (Imm.con _)) (.cons (Sub.imm (Imm.con _)) (.cons (Sub.imm (Imm.fn .nil (.cons (Imm.iptr _ _) .nil))) .nil)))) (.cons rfl (ObSub.rows (rows_imm imms_encTType)) .nil) (W222 F n191 n192 l217 y227 hx228) rfl rfl rfl rfl (Sub.immT (Imm.con _)) (.cons rfl (ObSub.rowsT (rows_imm imms_encTType)) .nil) _ rfl ?_
          refine aops_ghost (ghost_tell 0 (V.own 0 (y227.2).length) rfl (Sub.ownI hc229)) ?_
          refine aops_ghost (ghost_tell 76 (V.own 0 (y227.2).length) rfl (Sub.ownI hc229)) ?_
          refine fo (rn 1 rfl ?_)
          refine spC h rfl (fun hb230 h => ?_) (fun hb230 h => ?_)
          · replace h := Option.some.inj h
            subst h
            exact wR ⟨.inl rfl, [], (gr [0] rfl (hR rfl rfl .nil) rfl), .nil⟩
          refine rn 1 rfl ?_
          exact jX (y227.2) h (gr [0] rfl (hR rfl rfl .nil) rfl)
        refine rn 1 rfl ?_
        exact jX l217 h (gr [0] rfl (hR rfl rfl .nil) rfl)
      intro l225 h
      refine rn 2 rfl ?_
      refine bs h (fun hb231 h => ?_) (fun hb231 h => ?_)
      · obtain ⟨x232, hx233, h⟩ := bind_some h
        obtain ⟨x234, hx235, h⟩ := bind_some h
        obtain ⟨y236, hx237, h⟩ := bind_some h
        refine dr mixed (vs 2 rfl (vb hb231 rfl (vs 4 rfl (oD (a := l225) hx233 rfl rfl rfl rfl (lD hx233 rfl rfl rfl rfl rfl (vs 2 rfl (oD (a := l225) hx235 rfl rfl rfl rfl (lD hx235 rfl rfl rfl rfl rfl (cD rfl rfl rfl rfl (W123 _ _ _ _ hx237) rfl (vs 3 rfl .nil)))))))))) (by kernel_rfl) ?_
        refine spC h rfl (fun hb238 h => ?_) (fun hb238 h => ?_)
        · obtain ⟨y239, hx240, h⟩ := bind_some h
          refine rn 7 rfl ?_
          refine ck h (fun hc241 h => ?_)
          refine aops_mcallS (iV (y239.1)) [(V.own 0 l225.length), (iV n191), (iV n192), (iV n215), (V.fn (.func 123) [] [(V.iptr [(V.fn (.func 47) [] [])] 0)])] (fun i => ([0] : List Nat).getD i 0) (fun i => ([0] : List Nat).getD i 0) 1 1 [(0, (Ob.arr 104 2 ((y239.2).map encTType)))] fOk223 wants_none rfl (evm_cons rfl (evm_cons rfl (evm_cons rfl (evm_cons rfl (evm_cons rfl evm_nil))))) (.cons (Sub.own rfl rfl) (.cons (Sub.imm (Imm.con _)) (.cons (Sub.imm (Imm.con _)) (.cons (Sub.imm (Imm.con _)) (.cons (Sub.imm (Imm.fn .nil (.cons (Imm.iptr _ _) .nil))) .nil))))) (.cons rfl (ObSub.rows (rows_imm imms_encTType)) .nil) (W223 F n191 n192 n215 l225 y239 hx240) rfl rfl rfl rfl (Sub.immT (Imm.con _)) (.cons rfl (ObSub.rowsT (rows_imm imms_encTType)) .nil) _ rfl ?_
          refine aops_ghost (ghost_tell 0 (V.own 0 (y239.2).length) rfl (Sub.ownI hc241)) ?_
          refine aops_ghost (ghost_tell 85 (V.own 0 (y239.2).length) rfl (Sub.ownI hc241)) ?_
          refine aops_ghost (ghost_tell 90 (V.own 0 (y239.2).length) rfl (Sub.ownI hc241)) ?_
          refine aops_ghost (ghost_tell 98 (V.own 0 (y239.2).length) rfl (Sub.ownI hc241)) ?_
          refine fo (rn 8 rfl ?_)
          exact jX ((y239.1), n192, n206, b194, b195, (y239.2)) h (gr [0] rfl (hR rfl rfl .nil) rfl)
        obtain ⟨y242, hx243, h⟩ := bind_some h
        refine rn 8 rfl ?_
        refine ck h (fun hc244 h => ?_)
        refine aops_mcallS (V.tup [(iV (y242.1)), (bV (y242.2.1))]) [(V.own 0 l225.length), (iV n191), (iV n192), (iV n215), (V.fn (.func 123) [] [(V.iptr [(V.fn (.func 47) [] [])] 0)])] (fun i => ([0] : List Nat).getD i 0) (fun i => ([0] : List Nat).getD i 0) 1 1 [(0, (Ob.arr 104 2 ((y242.2.2).map encTType)))] fOk224 wants_none rfl (evm_cons rfl (evm_cons rfl (evm_cons rfl (evm_cons rfl (evm_cons rfl evm_nil))))) (.cons (Sub.own rfl rfl) (.cons (Sub.imm (Imm.con _)) (.cons (Sub.imm (Imm.con _)) (.cons (Sub.imm (Imm.con _)) (.cons (Sub.imm (Imm.fn .nil (.cons (Imm.iptr _ _) .nil))) .nil))))) (.cons rfl (ObSub.rows (rows_imm imms_encTType)) .nil) (W224 F n191 n192 n215 l225 y242 hx243) rfl rfl rfl rfl (Sub.immT (Imm.tup (.cons (Imm.con _) (.cons (Imm.con _) .nil)))) (.cons rfl (ObSub.rowsT (rows_imm imms_encTType)) .nil) _ rfl ?_
        refine aops_ghost (ghost_tell 0 (V.own 0 (y242.2.2).length) rfl (Sub.ownI hc244)) ?_
        refine aops_ghost (ghost_tell 85 (V.own 0 (y242.2.2).length) rfl (Sub.ownI hc244)) ?_
        refine aops_ghost (ghost_tell 90 (V.own 0 (y242.2.2).length) rfl (Sub.ownI hc244)) ?_
        refine aops_ghost (ghost_tell 106 (V.own 0 (y242.2.2).length) rfl (Sub.ownI hc244)) ?_
        refine fo (rn 34 rfl ?_)
        refine jK h (fun (p : Int × Int × Bool × (List TType)) => (⟨[(0, (V.own 0 (p.2.2.2).length)), (1, (iV (p.1))), (2, (iV (p.2.1))), (3, (iV n206)), (4, (V.fn (.func 123) [] [(V.iptr [(V.fn (.func 47) [] [])] 0)])), (10, (bV (p.2.2.1))), (11, (bV (y242.2.1))), (70, (bV b195)), (73, (iV n216)), (74, (bV (n216 == 1))), (84, (V.fn (.func 123) [] [(V.iptr [(V.fn (.func 47) [] [])] 0)])), (85, (V.own 0 (p.2.2.2).length)), (86, (iV n191)), (87, (iV (w64 (n191 - 1)))), (88, (V.ptr 0 2 (w64 (n191 - 1)).toNat 0)), (89, (V.agg (encTType x232))), (90, (V.own 0 (p.2.2.2).length)), (91, (iV n215)), (92, (V.ptr 0 2 n215.toNat 0)), (93, (V.agg (encTType x234))), (94, (iV y236)), (95, (bV (decide (y236 < 0)))), (96, (bV (!(decide (y236 < 0)))))], [(0, (Ob.arr 104 2 ((p.2.2.2).map encTType)))], 1⟩ : St)) (fun k245 (p : Int × Int × Bool × (List TType)) => k245 p.1 p.2.1 p.2.2.1 p.2.2.2 = some r) (fun k245 h => ?_) ?_
        · refine spC h rfl (fun hb250 h => ?_) (fun hb250 h => ?_)
          · obtain ⟨y251, hx252, h⟩ := bind_some h
            refine rn 14 rfl ?_
            refine ck h (fun hc253 h => ?_)
            refine aops_mcallS (V.tup []) [(V.own 0 (y242.2.2).length), (iV n191), (iV (y242.1)), (iV n206), (V.fn (.func 123) [] [(V.iptr [(V.fn (.func 47) [] [])] 0)])] (fun i => ([0] : List Nat).getD i 0) (fun i => ([0] : List Nat).getD i 0) 1 1 [(0, (Ob.arr 104 2 (y251.map encTType)))] fOk172 wants_none rfl (evm_cons rfl (evm_cons rfl (evm_cons rfl (evm_cons rfl (evm_cons rfl evm_nil))))) (.cons (Sub.own rfl rfl) (.cons (Sub.imm (Imm.con _)) (.cons (Sub.imm (Imm.con _)) (.cons (Sub.imm (Imm.con _)) (.cons (Sub.imm (Imm.fn .nil (.cons (Imm.iptr _ _) .nil))) .nil))))) (.cons rfl (ObSub.rows (rows_imm imms_encTType)) .nil) (hR172 n191 (y242.1) n206 (y242.2.2) _ hx252) rfl rfl rfl rfl (Sub.immT (Imm.tup .nil)) (.cons rfl (ObSub.rowsT (rows_imm imms_encTType)) .nil) _ rfl ?_
            refine aops_ghost (ghost_tell 0 (V.own 0 y251.length) rfl (Sub.ownI hc253)) ?_
            refine aops_ghost (ghost_tell 85 (V.own 0 y251.length) rfl (Sub.ownI hc253)) ?_
            refine aops_ghost (ghost_tell 90 (V.own 0 y251.length) rfl (Sub.ownI hc253)) ?_
            refine aops_ghost (ghost_tell 106 (V.own 0 y251.length) rfl (Sub.ownI hc253)) ?_
            refine aops_ghost (ghost_tell 129 (V.own 0 y251.length) rfl (Sub.ownI hc253)) ?_
            refine fo (rn 6 rfl ?_)
            exact jX ((w64 ((y242.1) + 1)), n192, (decide ((w64 ((y242.1) - n191)) ≥ (w64 (Int.tdiv (w64 (n192 - n191)) 8)))), y251) h (gr [0] rfl (hR rfl rfl .nil) rfl)
          obtain ⟨y254, hx255, h⟩ := bind_some h
          refine rn 15 rfl ?_
          refine ck h (fun hc256 h => ?_)
          refine aops_mcallS (V.tup []) [(V.own 0 (y242.2.2).length), (iV (w64 ((y242.1) + 1))), (iV n192), (iV n206), (V.fn (.func 123) [] [(V.iptr [(V.fn (.func 47) [] [])] 0)])] (fun i => ([0] : List Nat).getD i 0) (fun i => ([0] : List Nat).getD i 0) 1 1 [(0, (Ob.arr 104 2 (y254.map encTType)))] fOk172 wants_none rfl (evm_cons rfl (evm_cons rfl (evm_cons rfl (evm_cons rfl (evm_cons rfl evm_nil))))) (.cons (Sub.own rfl rfl) (.cons (Sub.imm (Imm.con _)) (.cons (Sub.imm (Imm.con _)) (.cons (Sub.imm (Imm.con _)) (.cons (Sub.imm (Imm.fn .nil (.cons (Imm.iptr _ _) .nil))) .nil))))) (.cons rfl (ObSub.rows (rows_imm imms_encTType)) .nil) (hR172 (w64 ((y242.1) + 1)) n192 n206 (y242.2.2) _ hx255) rfl rfl rfl rfl (Sub.immT (Imm.tup .nil)) (.cons rfl (ObSub.rowsT (rows_imm imms_encTType)) .nil) _ rfl ?_
          refine aops_ghost (ghost_tell 0 (V.own 0 y254.length) rfl (Sub.ownI hc256)) ?_
          refine aops_ghost (ghost_tell 85 (V.own 0 y254.length) rfl (Sub.ownI hc256)) ?_
          refine aops_ghost (ghost_tell 90 (V.own 0 y254.length) rfl (Sub.ownI hc256)) ?_
          refine aops_ghost (ghost_tell 106 (V.own 0 y254.length) rfl (Sub.ownI hc256)) ?_
          refine aops_ghost (ghost_tell 140 (V.own 0 y254.length) rfl (Sub.ownI hc256)) ?_
          refine fo (rn 5 rfl ?_)
          exact jX (n191, (y242.1), (decide ((w64 (n192 - (y242.1))) ≥ (w64 (Int.tdiv (w64 (n192 - n191)) 8)))), y254) h (gr [0] rfl (hR rfl rfl .nil) rfl)
        rintro ⟨n246, n247, b248, l249⟩ h
        refine rn 1 rfl ?_
        exact jX (n246, n247, n206, b248, (y242.2.1), l249) h (gr [0] rfl (hR rfl rfl .nil) rfl)
      refine dr mixed (vs 2 rfl (vb hb231 rfl (vs 14 rfl .nil))) (by kernel_rfl) ?_
      obtain ⟨y257, hx258, h⟩ := bind_some h
      refine rn 9 rfl ?_
      refine ck h (fun hc259 h => ?_)
      refine aops_mcallS (V.tup [(iV (y257.1)), (bV (y257.2.1))]) [(V.own 0 l225.length), (iV n191), (iV n192), (iV n215), (V.fn (.func 123) [] [(V.iptr [(V.fn (.func 47) [] [])] 0)])] (fun i => ([0] : List Nat).getD i 0) (fun i => ([0] : List Nat).getD i 0) 1 1 [(0, (Ob.arr 104 2 ((y257.2.2).map encTType)))] fOk224 wants_none rfl (evm_cons rfl (evm_cons rfl (evm_cons rfl (evm_cons rfl (evm_cons rfl evm_nil))))) (.cons (Sub.own rfl rfl) (.cons (Sub.imm (Imm.con _)) (.cons (Sub.imm (Imm.con _)) (.cons (Sub.imm (Imm.con _)) (.cons (Sub.imm (Imm.fn .nil (.cons (Imm.iptr _ _) .nil))) .nil))))) (.cons rfl (ObSub.rows (rows_imm imms_encTType)) .nil) (W224 F n191 n192 n215 l225 y257 hx258) rfl rfl rfl rfl (Sub.immT (Imm.tup (.cons (Imm.con _) (.cons (Imm.con _) .nil)))) (.cons rfl (ObSub.rowsT (rows_imm imms_encTType)) .nil) _ rfl ?_
      refine aops_ghost (ghost_tell 0 (V.own 0 (y257.2.2).length) rfl (Sub.ownI hc259)) ?_
      refine aops_ghost (ghost_tell 106 (V.own 0 (y257.2.2).length) rfl (Sub.ownI hc259)) ?_
      refine fo (rn 34 rfl ?_)
      refine jK h (fun (p : Int × Int × Bool × (List TType)) => (⟨[(0, (V.own 0 (p.2.2.2).length)), (1, (iV (p.1))), (2, (iV (p.2.1))), (3, (iV n206)), (4, (V.fn (.func 123) [] [(V.iptr [(V.fn (.func 47) [] [])] 0)])), (10, (bV (p.2.2.1))), (11, (bV (y257.2.1))), (70, (bV b195)), (73, (iV n216)), (74, (bV (n216 == 1))), (84, (V.con undef)), (85, (V.con undef)), (86, (V.con undef)), (87, (V.con undef)), (88, (V.con undef)), (89, (V.con undef)), (90, (V.con undef)), (91, (V.con undef)), (92, (V.con undef)), (93, (V.con undef)), (94, (V.con undef)), (95, (V.con undef)), (96, (V.con undef))], [(0, (Ob.arr 104 2 ((p.2.2.2).map encTType)))], 1⟩ : St)) (fun k260 (p : Int × Int × Bool × (List TType)) => k260 p.1 p.2.1 p.2.2.1 p.2.2.2 = some r) (fun k260 h => ?_) ?_
      · refine spC h rfl (fun hb265 h => ?_) (fun hb265 h => ?_)
        · obtain ⟨y266, hx267, h⟩ := bind_some h
          refine rn 14 rfl ?_
          refine ck h (fun hc268 h => ?_)
          refine aops_mcallS (V.tup []) [(V.own 0 (y257.2.2).length), (iV n191), (iV (y257.1)), (iV n206), (V.fn (.func 123) [] [(V.iptr [(V.fn (.func 47) [] [])] 0)])] (fun i => ([0] : List Nat).getD i 0) (fun i => ([0] : List Nat).getD i 0) 1 1 [(0, (Ob.arr 104 2 (y266.map encTType)))] fOk172 wants_none rfl (evm_cons rfl (evm_cons rfl (evm_cons rfl (evm_cons rfl (evm_cons rfl evm_nil))))) (.cons (Sub.own rfl rfl) (.cons (Sub.imm (Imm.con _)) (.cons (Sub.imm (Imm.con _)) (.cons (Sub.imm (Imm.con _)) (.cons (Sub.imm (Imm.fn .nil (.cons (Imm.iptr _ _) .nil))) .nil))))) (.cons rfl (ObSub.rows (rows_imm imms_encTType)) .nil) (hR172 n191 (y257.1) n206 (y257.2.2) _ hx267) rfl rfl rfl rfl (Sub.immT (Imm.tup .nil)) (.cons rfl (ObSub.rowsT (rows_imm imms_encTType)) .nil) _ rfl ?_
          refine aops_ghost (ghost_tell 0 (V.own 0 y266.length) rfl (Sub.ownI hc268)) ?_
          refine aops_ghost (ghost_tell 106 (V.own 0 y266.length) rfl (Sub.ownI hc268)) ?_
          refine aops_ghost (ghost_tell 129 (V.own 0 y266.length) rfl (Sub.ownI hc268)) ?_
          refine fo (rn 6 rfl ?_)
          exact jX ((w64 ((y257.1) + 1)), n192, (decide ((w64 ((y257.1) - n191)) ≥ (w64 (Int.tdiv (w64 (n192 - n191)) 8)))), y266) h (gr [0] rfl (hR rfl rfl .nil) rfl)
        obtain ⟨y269, hx270, h⟩ := bind_some h
        refine rn 15 rfl ?_
        refine ck h (fun hc271 h => ?_)
        refine aops_mcallS (V.tup []) [(V.own 0 (y257.2.2).length), (iV (w64 ((y257.1) + 1))), (iV n192), (iV n206), (V.fn (.func 123) [] [(V.iptr [(V.fn (.func 47) [] [])] 0)])] (fun i => ([0] : List Nat).getD i 0) (fun i => ([0] : List Nat).getD i 0) 1 1 [(0, (Ob.arr 104 2 (y269.map encTType)))] fOk172 wants_none rfl (evm_cons rfl (evm_cons rfl (evm_cons rfl (evm_cons rfl (evm_cons rfl evm_nil))))) (.cons (Sub.own rfl rfl) (.cons (Sub.imm (Imm.con _)) (.cons (Sub.imm (Imm.con _)) (.cons (Sub.imm (Imm.con _)) (.cons (Sub.imm (Imm.fn .nil (.cons (Imm.iptr _ _) .nil))) .nil))))) (.cons rfl (ObSub.rows (rows_imm imms_encTType)) .nil) (hR172 (w64 ((y257.1) + 1)) n192 n206 (y257.2.2) _ hx270) rfl rfl rfl rfl (Sub.immT (Imm.tup .nil)) (.cons rfl (ObSub.rowsT (rows_imm imms_encTType)) .nil) _ rfl ?_
        refine aops_ghost (ghost_tell 0 (V.own 0 y269.length) rfl (Sub.ownI hc271)) ?_
        refine aops_ghost (ghost_tell 106 (V.own 0 y269.length) rfl (Sub.ownI hc271)) ?_
        refine aops_ghost (ghost_tell 140 (V.own 0 y269.length) rfl (Sub.ownI hc271)) ?_
        refine fo (rn 5 rfl ?_)
        exact jX (n191, (y257.1), (decide ((w64 (n192 - (y257.1))) ≥ (w64 (Int.tdiv (w64 (n192 - n191)) 8)))), y269) h (gr [0] rfl (hR rfl rfl .nil) rfl)
      rintro ⟨n261, n262, b263, l264⟩ h
      refine rn 1 rfl ?_
      exact jX (n261, n262, n206, b263, (y257.2.1), l264) h (gr [0] rfl (hR rfl rfl .nil) rfl)
    refine rn 8 rfl ?_
    refine bs h (fun hb272 h => ?_) (fun hb272 h => ?_)
    · obtain ⟨x273, hx274, h⟩ := bind_some h
      obtain ⟨x275, hx276, h⟩ := bind_some h
      obtain ⟨y277, hx278, h⟩ := bind_some h
      refine dr mixed (vs 2 rfl (vb hb272 rfl (vs 4 rfl (oD (a := l217) hx274 rfl rfl rfl rfl (lD hx274 rfl rfl rfl rfl rfl (vs 2 rfl (oD (a := l217) hx276 rfl rfl rfl rfl (lD hx276 rfl rfl rfl rfl rfl (cD rfl rfl rfl rfl (W123 _ _ _ _ hx278) rfl (vs 3 rfl .nil)))))))))) (by kernel_rfl) ?_
      refine spC h rfl (fun hb279 h => ?_) (fun hb279 h => ?_)
      · obtain ⟨y280, hx281, h⟩ := bind_some h
        refine rn 7 rfl ?_
        refine ck h (fun hc282 h => ?_)
        refine aops_mcallS (iV (y280.1)) [(V.own 0 l217.length), (iV n191), (iV n192), (iV n215), (V.fn (.func 123) [] [(V.iptr [(V.fn (.func 47) [] [])] 0)])] (fun i => ([0] : List Nat).getD i 0) (fun i => ([0] : List Nat).getD i 0) 1 1 [(0, (Ob.arr 104 2 ((y280.2).map encTType)))] fOk223 wants_none rfl (evm_cons rfl (evm_cons rfl (evm_cons rfl (evm_cons rfl (evm_cons rfl evm_nil))))) (.cons (Sub.own rfl rfl) (.cons (Sub.imm (Imm.con _)) (.cons (Sub.imm (Imm.con _)) (.cons (Sub.imm (Imm.con _)) (.cons (Sub.imm (Imm.fn .nil (.cons (Imm.iptr _ _) .nil))) .nil))))) (.cons rfl (ObSub.rows (rows_imm imms_encTType)) .nil) (W223 F n191 n192 n215 l217 y280 hx281) rfl rfl rfl rfl (Sub.immT (Imm.con _)) (.cons rfl (ObSub.rowsT (rows_imm imms_encTType)) .nil) _ rfl ?_
        refine aops_ghost (ghost_tell 0 (V.own 0 (y280.2).length) rfl (Sub.ownI hc282)) ?_
        refine aops_ghost (ghost_tell 85 (V.own 0 (y280.2).length) rfl (Sub.ownI hc282)) ?_
        refine aops_ghost (ghost_tell 90 (V.own 0 (y280.2).length) rfl (Sub.ownI hc282)) ?_
        refine aops_ghost (ghost_tell 98 (V.own 0 (y280.2).length) rfl (Sub.ownI hc282)) ?_
        refine fo (rn 8 rfl ?_)
        exact jX ((y280.1), n192, n206, b194, b195, (y280.2)) h (gr [0] rfl (hR rfl rfl .nil) rfl)
      obtain ⟨y283, hx284, h⟩ := bind_some h
      refine rn 8 rfl ?_
      refine ck h (fun hc285 h => ?_)
      refine aops_mcallS (V.tup [(iV (y283.1)), (bV (y283.2.1))]) [(V.own 0 l217.length), (iV n191), (iV n192), (iV n215), (V.fn (.func 123) [] [(V.iptr [(V.fn (.func 47) [] [])] 0)])] (fun i => ([0] : List Nat).getD i 0) (fun i => ([0] : List Nat).getD i 0) 1 1 [(0, (Ob.arr 104 2 ((y283.2.2).map encTType)))] fOk224 wants_none rfl (evm_cons rfl (evm_cons rfl (evm_cons rfl (evm_cons rfl (evm_cons rfl evm_nil))))) (.cons (Sub.own rfl rfl) (.cons (Sub.imm (Imm.con _)) (.cons (Sub.imm (Imm.con _)) (.cons (Sub.imm (Imm.con _)) (.cons (Sub.imm (Imm.fn .nil (.cons (Imm.iptr _ _) .nil))) .nil))))) (.cons rfl (ObSub.rows (rows_imm imms_encTType)) .nil) (W224 F n191 n192 n215 l217 y283 hx284) rfl rfl rfl rfl (Sub.immT (Imm.tup (.cons (Imm.con _) (.cons (Imm.con _) .nil)))) (.cons rfl (ObSub.rowsT (rows_imm imms_encTType)) .nil) _ rfl ?_
      refine aops_ghost (ghost_tell 0 (V.own 0 (y283.2.2).length) rfl (Sub.ownI hc285)) ?_
      refine aops_ghost (ghost_tell 85 (V.own 0 (y283.2.2).length) rfl (Sub.ownI hc285)) ?_
      refine aops_ghost (ghost_tell 90 (V.own 0 (y283.2.2).length) rfl (Sub.ownI hc285)) ?_
      refine aops_ghost (ghost_tell 106 (V.own 0 (y283.2.2).length) rfl (Sub.ownI hc285)) ?_
      refine fo (rn 34 rfl ?_)
      refine jK h (fun (p : Int × Int × Bool × (List TType)) => (⟨[(0, (V.own 0 (p.2.2.2).length)), (1, (iV (p.1))), (2, (iV (p.2.1))), (3, (iV n206)), (4, (V.fn (.func 123) [] [(V.iptr [(V.fn (.func 47) [] [])] 0)])), (10, (bV (p.2.2.1))), (11, (bV (y283.2.1))), (70, (bV b195)), (73, (V.con undef)), (74, (V.con undef)), (84, (V.fn (.func 123) [] [(V.iptr [(V.fn (.func 47) [] [])] 0)])), (85, (V.own 0 (p.2.2.2).length)), (86, (iV n191)), (87, (iV (w64 (n191 - 1)))), (88, (V.ptr 0 2 (w64 (n191 - 1)).toNat 0)), (89, (V.agg (encTType x273))), (90, (V.own 0 (p.2.2.2).length)), (91, (iV n215)), (92, (V.ptr 0 2 n215.toNat 0)), (93, (V.agg (encTType x275))), (94, (iV y277)), (95, (bV (decide (y277 < 0)))), (96, (bV (!(decide (y277 < 0)))))], [(0, (Ob.arr 104 2 ((p.2.2.2).map encTType)))], 1⟩ : St)) (fun k286 (p : Int × Int × Bool × (List TType)) => k286 p.1 p.2.1 p.2.2.1 p.2.2.2 = some r) (fun k286 h => ?_) ?_
      · refine spC h rfl (fun hb291 h => ?_) (fun hb291 h => ?_)
        · obtain ⟨y292, hx293, h⟩ := bind_some h
          refine rn 14 rfl ?_
          refine ck h (fun hc294 h => ?_)
          refine aops_mcallS (V.tup []) [(V.own 0 (y283.2.2).length), (iV n191), (iV (y283.1)), (iV n206), (V.fn (.func 123) [] [(V.iptr [(V.fn (.func 47) [] [])] 0)])] (fun i => ([0] : List Nat).getD i 0) (fun i => ([0] : List Nat).getD i 0) 1 1 [(0, (Ob.arr 104 2 (y292.map encTType)))] fOk172 wants_none rfl (evm_cons rfl (evm_cons rfl (evm_cons rfl (evm_cons rfl (evm_cons rfl evm_nil))))) (.cons (Sub.own rfl rfl) (.cons (Sub.imm (Imm.con _)) (.cons (Sub.imm (Imm.con _)) (.cons (Sub.imm (Imm.con _)) (.cons (Sub.imm (Imm.fn .nil (.cons (Imm.iptr _ _) .nil))) .nil))))) (.cons rfl (ObSub.rows (rows_imm imms_encTType)) .nil) (hR172 n191 (y283.1) n206 (y283.2.2) _ hx293) rfl rfl rfl rfl (Sub.immT (Imm.tup .nil)) (.cons rfl (ObSub.rowsT (rows_imm imms_encTType)) .nil) _ rfl ?_
          refine aops_ghost (ghost_tell 0 (V.own 0 y292.length) rfl (Sub.ownI hc294)) ?_
          refine aops_ghost (ghost_tell 85 (V.own 0 y292.length) rfl (Sub.ownI hc294)) ?_
          refine aops_ghost (ghost_tell 90 (V.own 0 y292.length) rfl (Sub.ownI hc294)) ?_
          refine aops_ghost (ghost_tell 106 (V.own 0 y292.length) rfl (Sub.ownI hc294)) ?_
          refine aops_ghost (ghost_tell 129 (V.own 0 y292.length) rfl (Sub.ownI hc294)) ?_
          refine fo (rn 6 rfl ?_)
          exact jX ((w64 ((y283.1) + 1)), n192, (decide ((w64 ((y283.1) - n191)) ≥ (w64 (Int.tdiv (w64 (n192 - n191)) 8)))), y292) h (gr [0] rfl (hR rfl rfl .nil) rfl)
        obtain ⟨y295, hx296, h⟩ := bind_some h
        refine rn 15 rfl ?_
        refine ck h (fun hc297 h => ?_)
        refine aops_mcallS (V.tup []) [(V.own 0 (y283.2.2).length), (iV (w64 ((y283.1) + 1))), (iV n192), (iV n206), (V.fn (.func 123) [] [(V.iptr [(V.fn (.func 47) [] [])] 0)])] (fun i => ([0] : List Nat).getD i 0) (fun i => ([0] : List Nat).getD i 0) 1 1 [(0, (Ob.arr 104 2 (y295.map encTType)))] fOk172 wants_none rfl (evm_cons rfl (evm_cons rfl (evm_cons rfl (evm_cons rfl (evm_cons rfl evm_nil))))) (.cons (Sub.own rfl rfl) (.cons (Sub.imm (Imm.con _)) (.cons (Sub.imm (Imm.con _)) (.cons (Sub.imm (Imm.con _)) (.cons (Sub.imm (Imm.fn .nil (.cons (Imm.iptr _ _) .nil))) .nil))))) (.cons rfl (ObSub.rows (rows_imm imms_encTType)) .nil) (hR172 (w64 ((y283.1) + 1)) n192 n206 (y283.2.2) _ hx296) rfl rfl rfl rfl (Sub.immT (Imm.tup .nil)) (.cons rfl (ObSub.rowsT (rows_imm imms_encTType)) .nil) _ rfl ?_
        refine aops_ghost (ghost_tell 0 (V.own 0 y295.length) rfl (Sub.ownI hc297)) ?_
        refine aops_ghost (ghost_tell 85 (V.own 0 y295.length) rfl (Sub.ownI hc297)) ?_
        refine aops_ghost (ghost_tell 90 (V.own 0 y295.length) rfl (Sub.ownI hc297)) ?_
        refine aops_ghost (ghost_tell 106 (V.own 0 y295.length) rfl (Sub.ownI hc297)) ?_
        refine aops_ghost (ghost_tell 140 (V.own 0 y295.length) rfl (Sub.ownI hc297)) ?_
        refine fo (rn 5 rfl ?_)
        exact jX (n191, (y283.1), (decide ((w64 (n192 - (y283.1))) ≥ (w64 (Int.tdiv (w64 (n192 - n191)) 8)))), y295) h (gr [0] rfl (hR rfl rfl .nil) rfl)
      rintro ⟨n287, n288, b289, l290⟩ h
      refine rn 1 rfl ?_
      exact jX (n287, n288, n206, b289, (y283.2.1), l290) h (gr [0] rfl (hR rfl rfl .nil) rfl)
    refine dr mixed (vs 2 rfl (vb hb272 rfl (vs 14 rfl .nil))) (by kernel_rfl) ?_
    obtain ⟨y298, hx299, h⟩ := bind_some h
    refine rn 9 rfl ?_
    refine ck h (fun hc300 h => ?_)
    refine aops_mcallS (V.tup [(iV (y298.1)), (bV (y298.2.1))]) [(V.own 0 l217.length), (iV n191), (iV n192), (iV n215), (V.fn (.func 123) [] [(V.iptr [(V.fn (.func 47) [] [])] 0)])] (fun i => ([0] : List Nat).getD i 0) (fun i => ([0] : List Nat).getD i 0) 1 1 [(0, (Ob.arr 104 2 ((y298.2.2).map encTType)))] fOk224 wants_none rfl (evm_cons rfl (evm_cons rfl (evm_cons rfl (evm_cons rfl (evm_cons rfl evm_nil))))) (.cons (Sub.own rfl rfl) (.cons (Sub.imm (Imm.con _)) (.cons (Sub.imm (Imm.con _)) (.cons (Sub.imm (Imm.con _)) (.cons (Sub.imm (Imm.fn .nil (.cons (Imm.iptr _ _) .nil))) .nil))))) (.cons rfl (ObSub.rows (rows_imm imms_encTType)) .nil) (W224 F n191 n192 n215 l217 y298 hx299) rfl rfl rfl rfl (Sub.immT (Imm.tup (.cons (Imm.con _) (.cons (Imm.con _) .nil)))) (.cons rfl (ObSub.rowsT (rows_imm imms_encTType)) .nil) _ rfl ?_
    refine aops_ghost (ghost_tell 0 (V.own 0 (y298.2.2).length) rfl (Sub.ownI hc300)) ?_
    refine aops_ghost (ghost_tell 106 (V.own 0 (y298.2.2).length) rfl (Sub.ownI hc300)) ?_
    refine fo (rn 34 rfl ?_)
    refine jK h (fun (p : Int × Int × Bool × (List TType)) => (⟨[(0, (V.own 0 (p.2.2.2).length)), (1, (iV (p.1))), (2, (iV (p.2.1))), (3, (iV n206)), (4, (V.fn (.func 123) [] [(V.iptr [(V.fn (.func 47) [] [])] 0)])), (10, (bV (p.2.2.1))), (11, (bV (y298.2.1))), (70, (bV b195)), (73, (V.con undef)), (74, (V.con undef)), (84, (V.con undef)), (85, (V.con undef)), (86, (V.con undef)), (87, (V.con undef)), (88, (V.con undef)), (89, (V.con undef)), (90, (V.con undef)), (91, (V.con undef)), (92, (V.con undef)), (93, (V.con undef)), (94, (V.con undef)), (95, (V.con undef)), (96, (V.con undef))], [(0, (Ob.arr 104 2 ((p.2.2.2).map encTType)))], 1⟩ : St)) (fun k301 (p : Int × Int × Bool × (List TType)) => k301 p.1 p.2.1 p.2.2.1 p.2.2.2 = some r) (fun k301 h => ?_) ?_
    · refine spC h rfl (fun hb306 h => ?_) (fun hb306 h => ?_)
      · obtain ⟨y307, hx308, h⟩ := bind_some h
        refine rn 14 rfl ?_
        refine ck h (fun hc309 h => ?_)
        refine aops_mcallS (V.tup []) [(V.own 0 (y298.2.2).length), (iV n191), (iV (y298.1)), (iV n206), (V.fn (.func 123) [] [(V.iptr [(V.fn (.func 47) [] [])] 0)])] (fun i => ([0] : List Nat).getD i 0) (fun i => ([0] : List Nat).getD i 0) 1 1 [(0, (Ob.arr 104 2 (y307.map encTType)))] fOk172 wants_none rfl (evm_cons rfl (evm_cons rfl (evm_cons rfl (evm_cons rfl (evm_cons rfl evm_nil))))) (.cons (Sub.own rfl rfl) (.cons (Sub.imm (Imm.con _)) (.cons (Sub.imm (Imm.con _)) (.cons (Sub.imm (Imm.con _)) (.cons (Sub.imm (Imm.fn .nil (.cons (Imm.iptr _ _) .nil))) .nil))))) (.cons rfl (ObSub.rows (rows_imm imms_encTType)) .nil) (hR172 n191 (y298.1) n206 (y298.2.2) _ hx308) rfl rfl rfl rfl (Sub.immT (Imm.tup .nil)) (.cons rfl (ObSub.rowsT (rows_imm imms_encTType)) .nil) _ rfl ?_
        refine aops_ghost (ghost_tell 0 (V.own 0 y307.length) rfl (Sub.ownI hc309)) ?_
        refine aops_ghost (ghost_tell 106 (V.own 0 y307.length) rfl (Sub.ownI hc309)) ?_
        refine aops_ghost (ghost_tell 129 (V.own 0 y307.length) rfl (Sub.ownI hc309)) ?_
        refine fo (rn 6 rfl ?_)
        exact jX ((w64 ((y298.1) + 1)), n192, (decide ((w64 ((y298.1) - n191)) ≥ (w64 (Int.tdiv (w64 (n192 - n191)) 8)))), y307) h (gr [0] rfl (hR rfl rfl .nil) rfl)
      obtain ⟨y310, hx311, h⟩ := bind_some h
      refine rn 15 rfl ?_
      refine ck h (fun hc312 h => ?_)
      refine aops_mcallS (V.tup []) [(V.own 0 (y298.2.2).length), (iV (w64 ((y298.1) + 1))), (iV n192), (iV n206), (V.fn (.func 123) [] [(V.iptr [(V.fn (.func 47) [] [])] 0)])] (fun i => ([0] : List Nat).getD i 0) (fun i => ([0] : List Nat).getD i 0) 1 1 [(0, (Ob.arr 104 2 (y310.map encTType)))] fOk172 wants_none rfl (evm_cons rfl (evm_cons rfl (evm_cons rfl (evm_cons rfl (evm_cons rfl evm_nil))))) (.cons (Sub.own rfl rfl) (.cons (Sub.imm (Imm.con _)) (.cons (Sub.imm (Imm.con _)) (.cons (Sub.imm (Imm.con _)) (.cons (Sub.imm (Imm.fn .nil (.cons (Imm.iptr _ _) .nil))) .nil))))) (.cons rfl (ObSub.rows (rows_imm imms_encTType)) .nil) (hR172 (w64 ((y298.1) + 1)) n192 n206 (y298.2.2) _ hx311) rfl rfl rfl rfl (Sub.immT (Imm.tup .nil)) (.cons rfl (ObSub.rowsT (rows_imm imms_encTType)) .nil) _ rfl ?_
      refine aops_ghost (ghost_tell 0 (V.own 0 y310.length) rfl (Sub.ownI hc312)) ?_
      refine aops_ghost (ghost_tell 106 (V.own 0 y310.length) rfl (Sub.ownI hc312)) ?_
      refine aops_ghost (ghost_tell 140 (V.own 0 y310.length) rfl (Sub.ownI hc312)) ?_
      refine fo (rn 5 rfl ?_)
      exact jX (n191, (y298.1), (decide ((w64 (n192 - (y298.1))) ≥ (w64 (Int.tdiv (w64 (n192 - n191)) 8)))), y310) h (gr [0] rfl (hR rfl rfl .nil) rfl)
    rintro ⟨n302, n303, b304, l305⟩ h
    refine rn 1 rfl ?_
    exact jX (n302, n303, n206, b304, (y298.2.1), l305) h (gr [0] rfl (hR rfl rfl .nil) rfl)
  refine rn 11 rfl ?_
  refine bs h (fun hb313 h => ?_) (fun hb313 h => ?_)
  · obtain ⟨x314, hx315, h⟩ := bind_some h
    obtain ⟨x316, hx317, h⟩ := bind_some h
    obtain ⟨y318, hx319, h⟩ := bind_some h
    refine dr mixed (vs 2 rfl (vb hb313 rfl (vs 4 rfl (oD (a := l217) hx315 rfl rfl rfl rfl (lD hx315 rfl rfl rfl rfl rfl (vs 2 rfl (oD (a := l217) hx317 rfl rfl rfl rfl (lD hx317 rfl rfl rfl rfl rfl (cD rfl rfl rfl rfl (W123 _ _ _ _ hx319) rfl (vs 3 rfl .nil)))))))))) (by kernel_rfl) ?_
    refine spC h rfl (fun hb320 h => ?_) (fun hb320 h => ?_)
    · obtain ⟨y321, hx322, h⟩ := bind_some h
      refine rn 7 rfl ?_
      refine ck h (fun hc323 h => ?_)
      refine aops_mcallS (iV (y321.1)) [(V.own 0 l217.length), (iV n191), (iV n192), (iV n215), (V.fn (.func 123) [] [(V.iptr [(V.fn (.func 47) [] [])] 0)])] (fun i => ([0] : List Nat).getD i 0) (fun i => ([0] : List Nat).getD i 0) 1 1 [(0, (Ob.arr 104 2 ((y321.2).map encTType)))] fOk223 wants_none rfl (evm_cons rfl (evm_cons rfl (evm_cons rfl (evm_cons rfl (evm_cons rfl evm_nil))))) (.cons (Sub.own rfl rfl) (.cons (Sub.imm (Imm.con _)) (.cons (Sub.imm (Imm.con _)) (.cons (Sub.imm (Imm.con _)) (.cons (Sub.imm (Imm.fn .nil (.cons (Imm.iptr _ _) .nil))) .nil))))) (.cons rfl (ObSub.rows (rows_imm imms_encTType)) .nil) (W223 F n191 n192 n215 l217 y321 hx322) rfl rfl rfl rfl (Sub.immT (Imm.con _)) (.cons rfl (ObSub.rowsT (rows_imm imms_encTType)) .nil) _ rfl ?_
      refine aops_ghost (ghost_tell 0 (V.own 0 (y321.2).length) rfl (Sub.ownI hc323)) ?_
      refine aops_ghost (ghost_tell 85 (V.own 0 (y321.2).length) rfl (Sub.ownI hc323)) ?_
      refine aops_ghost (ghost_tell 90 (V.own 0 (y321.2).length) rfl (Sub.ownI hc323)) ?_
      refine aops_ghost (ghost_tell 98 (V.own 0 (y321.2).length) rfl (Sub.ownI hc323)) ?_
      refine fo (rn 8 rfl ?_)
      exact jX ((y321.1), n192, n206, b194, b195, (y321.2)) h (gr [0] rfl (hR rfl rfl .nil) rfl)
    obtain ⟨y324, hx325, h⟩ := bind_some h
    refine rn 8 rfl ?_
    refine ck h (fun hc326 h => ?_)
    refine aops_mcallS (V.tup [(iV (y324.1)), (bV (y324.2.1))]) [(V.own 0 l217.length), (iV n191), (iV n192), (iV n215), (V.fn (.func 123) [] [(V.iptr [(V.fn (.func 47) [] [])] 0)])] (fun i => ([0] : List Nat).getD i 0) (fun i => ([0] : List Nat).getD i 0) 1 1 [(0, (Ob.arr 104 2 ((y324.2.2).map encTType)))] fOk224 wants_none rfl (evm_cons rfl (evm_cons rfl (evm_cons rfl (evm_cons rfl (evm_cons rfl evm_nil))))) (.cons (Sub.own rfl rfl) (.cons (Sub.imm (Imm.con _)) (.cons (Sub.imm (Imm.con _)) (.cons (Sub.imm (Imm.con _)) (.cons (Sub.imm (Imm.fn .nil (.cons (Imm.iptr _ _) .nil))) .nil))))) (.cons rfl (ObSub.rows (rows_imm imms_encTType)) .nil) (W224 F n191 n192 n215 l217 y324 hx325) rfl rfl rfl rfl (Sub.immT (Imm.tup (.cons (Imm.con _) (.cons (Imm.con _) .nil)))) (.cons rfl (ObSub.rowsT (rows_imm imms_encTType)) .nil) _ rfl ?_
    refine aops_ghost (ghost_tell 0 (V.own 0 (y324.2.2).length) rfl (Sub.ownI hc326)) ?_
    refine aops_ghost (ghost_tell 85 (V.own 0 (y324.2.2).length) rfl (Sub.ownI hc326)) ?_
    refine aops_ghost (ghost_tell 90 (V.own 0 (y324.2.2).length) rfl (Sub.ownI hc326)) ?_
    refine aops_ghost (ghost_tell 106 (V.own 0 (y324.2.2).length) rfl (Sub.ownI hc326)) ?_
    refine fo (rn 34 rfl ?_)
    refine jK h (fun (p : Int × Int × Bool × (List TType)) => (⟨[(0, (V.own 0 (p.2.2.2).length)), (1, (iV (p.1))), (2, (iV (p.2.1))), (3, (iV n206)), (4, (V.fn (.func 123) [] [(V.iptr [(V.fn (.func 47) [] [])] 0)])), (10, (bV (p.2.2.1))), (11, (bV (y324.2.1))), (70, (V.con undef)), (73, (V.con undef)), (74, (V.con undef)), (84, (V.fn (.func 123) [] [(V.iptr [(V.fn (.func 47) [] [])] 0)])), (85, (V.own 0 (p.2.2.2).length)), (86, (iV n191)), (87, (iV (w64 (n191 - 1)))), (88, (V.ptr 0 2 (w64 (n191 - 1)).toNat 0)), (89, (V.agg (encTType x314))), (90, (V.own 0 (p.2.2.2).length)), (91, (iV n215)), (92, (V.ptr 0 2 n215.toNat 0)), (93, (V.agg (encTType x316))), (94, (iV y318)), (95, (bV (decide (y318 < 0)))), (96, (bV (!(decide (y318 < 0)))))], [(0, (Ob.arr 104 2 ((p.2.2.2).map encTType)))], 1⟩ : St)) (fun k327 (p : Int × Int × Bool × (List TType)) => k327 p.1 p.2.1 p.2.2.1 p.2.2.2 = some r) (fun k327 h => ?_) ?_
    · refine spC h rfl (fun hb332 h => ?_) (fun hb332 h => ?_)
      · obtain ⟨y333, hx334, h⟩ := bind_some h
        refine rn 14 rfl ?_
        refine ck h (fun hc335 h => ?_)
        refine aops_mcallS (V.tup []) [(V.own 0 (y324.2.2).length), (iV n191), (iV (y324.1)), (iV n206), (V.fn (.func 123) [] [(V.iptr [(V.fn (.func 47) [] [])] 0)])] (fun i => ([0] : List Nat).getD i 0) (fun i => ([0] : List Nat).getD i 0) 1 1 [(0, (Ob.arr 104 2 (y333.map encTType)))] fOk172 wants_none rfl (evm_cons rfl (evm_cons rfl (evm_cons rfl (evm_cons rfl (evm_cons rfl evm_nil))))) (.cons (Sub.own rfl rfl) (.cons (Sub.imm (Imm.con _)) (.cons (Sub.imm (Imm.con _)) (.cons (Sub.imm (Imm.con _)) (.cons (Sub.imm (Imm.fn .nil (.cons (Imm.iptr _ _) .nil))) .nil))))) (.cons rfl (ObSub.rows (rows_imm imms_encTType)) .nil) (hR172 n191 (y324.1) n206 (y324.2.2) _ hx334) rfl rfl rfl rfl (Sub.immT (Imm.tup .nil)) (.cons rfl (ObSub.rowsT (rows_imm imms_encTType)) .nil) _ rfl ?_
        refine aops_ghost (ghost_tell 0 (V.own 0 y333.length) rfl (Sub.ownI hc335)) ?_
        refine aops_ghost (ghost_tell 85 (V.own 0 y333.length) rfl (Sub.ownI hc335)) ?_
        refine aops_ghost (ghost_tell 90 (V.own 0 y333.length) rfl (Sub.ownI hc335)) ?_
        refine aops_ghost (ghost_tell 106 (V.own 0 y333.length) rfl (Sub.ownI hc335)) ?_
        refine aops_ghost (ghost_tell 129 (V.own 0 y333.length) rfl (Sub.ownI hc335)) ?_
        refine fo (rn 6 rfl ?_)
        exact jX ((w64 ((y324.1) + 1)), n192, (decide ((w64 ((y324.1) - n191)) ≥ (w64 (Int.tdiv (w64 (n192 - n191)) 8)))), y333) h (gr [0] rfl (hR rfl rfl .nil) rfl)
      obtain ⟨y336, hx337, h⟩ := bind_some h
      refine rn 15 rfl ?_
      refine ck h (fun hc338 h => ?_)
      refine aops_mcallS (V.tup []) [(V.own 0 (y324.2.2).length), (iV (w64 ((y324.1) + 1))), (iV n192), (iV n206), (V.fn (.func 123) [] [(V.iptr [(V.fn (.func 47) [] [])] 0)])] (fun i => ([0] : List Nat).getD i 0) (fun i => ([0] : List Nat).getD i 0) 1 1 [(0, (Ob.arr 104 2 (y336.map encTType)))] fOk172 wants_none rfl (evm_cons rfl (evm_cons rfl (evm_cons rfl (evm_cons rfl (evm_cons rfl evm_nil))))) (.cons (Sub.own rfl rfl) (.cons (Sub.imm (Imm.con _)) (.cons (Sub.imm (Imm.con _)) (.cons (Sub.imm (Imm.con _)) (.cons (Sub.imm (Imm.fn .nil (.cons (Imm.iptr _ _) .nil))) .nil))))) (.cons rfl (ObSub.rows (rows_imm imms_encTType)) .nil) (hR172 (w64 ((y324.1) + 1)) n192 n206 (y324.2.2) _ hx337) rfl rfl rfl rfl (Sub.immT (Imm.tup .nil)) (.cons rfl (ObSub.rowsT (rows_imm imms_encTType)) .nil) _ rfl ?_
      refine aops_ghost (ghost_tell 0 (V.own 0 y336.length) rfl (Sub.ownI hc338)) ?_
      refine aops_ghost (ghost_tell 85 (V.own 0 y336.length) rfl (Sub.ownI hc338)) ?_
      refine aops_ghost (ghost_tell 90 (V.own 0 y336.length) rfl (Sub.ownI hc338)) ?_
      refine aops_ghost (ghost_tell 106 (V.own 0 y336.length) rfl (Sub.ownI hc338)) ?_
      refine aops_ghost (ghost_tell 140 (V.own 0 y336.length) rfl (Sub.ownI hc338)) ?_
      refine fo (rn 5 rfl ?_)
      exact jX (n191, (y324.1), (decide ((w64 (n192 - (y324.1))) ≥ (w64 (Int.tdiv (w64 (n192 - n191)) 8)))), y336) h (gr [0] rfl (hR rfl rfl .nil) rfl)
    rintro ⟨n328, n329, b330, l331⟩ h
    refine rn 1 rfl ?_
    exact jX (n328, n329, n206, b330, (y324.2.1), l331) h (gr [0] rfl (hR rfl rfl .nil) rfl)
  refine dr mixed (vs 2 rfl (vb hb313 rfl (vs 14 rfl .nil))) (by kernel_rfl) ?_
  obtain ⟨y339, hx340, h⟩ := bind_some h
  refine rn 9 rfl ?_
  refine ck h (fun hc341 h => ?_)
  refine aops_mcallS (V.tup [(iV (y339.1)), (bV (y339.2.1))]) [(V.own 0 l217.length), (iV n191), (iV n192), (iV n215), (V.fn (.func 123) [] [(V.iptr [(V.fn (.func 47) [] [])] 0)])] (fun i => ([0] : List Nat).getD i 0) (fun i => ([0] : List Nat).getD i 0) 1 1 [(0, (Ob.arr 104 2 ((y339.2.2).map encTType)))] fOk224 wants_none rfl (evm_cons rfl (evm_cons rfl (evm_cons rfl (evm_cons rfl (evm_cons rfl evm_nil))))) (.cons (Sub.own rfl rfl) (.cons (Sub.imm (Imm.con _)) (.cons (Sub.imm (Imm.con _)) (.cons (Sub.imm (Imm.con _)) (.cons (Sub.imm (Imm.fn .nil (.cons (Imm.iptr _ _) .nil))) .nil))))) (.cons rfl (ObSub.rows (rows_imm imms_encTType)) .nil) (W224 F n191 n192 n215 l217 y339 hx340) rfl rfl rfl rfl (Sub.immT (Imm.tup (.cons (Imm.con _) (.cons (Imm.con _) .nil)))) (.cons rfl (ObSub.rowsT (rows_imm imms_encTType)) .nil) _ rfl ?_
  refine aops_ghost (ghost_tell 0 (V.own 0 (y339.2.2).length) rfl (Sub.ownI hc341)) ?_
  refine aops_ghost (ghost_tell 106 (V.own 0 (y339.2.2).length) rfl (Sub.ownI hc341)) ?_
  refine fo (rn 34 rfl ?_)
  refine jK h (fun (p : Int × Int × Bool × (List TType)) => (⟨[(0, (V.own 0 (p.2.2.2).length)), (1, (iV (p.1))), (2, (iV (p.2.1))), (3, (iV n206)), (4, (V.fn (.func 123) [] [(V.iptr [(V.fn (.func 47) [] [])] 0)])), (10, (bV (p.2.2.1))), (11, (bV (y339.2.1))), (70, (V.con undef)), (73, (V.con undef)), (74, (V.con undef)), (84, (V.con undef)), (85, (V.con undef)), (86, (V.con undef)), (87, (V.con undef)), (88, (V.con undef)), (89, (V.con undef)), (90, (V.con undef)), (91, (V.con undef)), (92, (V.con undef)), (93, (V.con undef)), (94, (V.con undef)), (95, (V.con undef)), (96, (V.con undef))], [(0, (Ob.arr 104 2 ((p.2.2.2).map encTType)))], 1⟩ : St)) (fun k342 (p : Int × Int × Bool × (List TType)) => k342 p.1 p.2.1 p.2.2.1 p.2.2.2 = some r) (fun k342 h => ?_) ?_
  · refine spC h rfl (fun hb347 h => ?_) (fun hb347 h => ?_)
    · obtain ⟨y348, hx349, h⟩ := bind_some h
      refine rn 14 rfl ?_
      refine ck h (fun hc350 h => ?_)
      refine aops_mcallS (V.tup []) [(V.own 0 (y339.2.2).length), (iV n191), (iV (y339.1)), (iV n206), (V.fn (.func 123) [] [(V.iptr [(V.fn (.func 47) [] [])] 0)])] (fun i => ([0] : List Nat).getD i 0) (fun i => ([0] : List Nat).getD i 0) 1 1 [(0, (Ob.arr 104 2 (y348.map encTType)))] fOk172 wants_none rfl (evm_cons rfl (evm_cons rfl (evm_cons rfl (evm_cons rfl (evm_cons rfl evm_nil))))) (.cons (Sub.own rfl rfl) (.cons (Sub.imm (Imm.con _)) (.cons (Sub.imm (Imm.con _)) (.cons (Sub.imm (Imm.con _)) (.cons (Sub.imm (Imm.fn .nil (.cons (Imm.iptr _ _) .nil))) .nil))))) (.cons rfl (ObSub.rows (rows_imm imms_encTType)) .nil) (hR172 n191 (y339.1) n206 (y339.2.2) _ hx349) rfl rfl rfl rfl (Sub.immT (Imm.tup .nil)) (.cons rfl (ObSub.rowsT (rows_imm imms_encTType)) .nil) _ rfl ?_
      refine aops_ghost (ghost_tell 0 (V.own 0 y348.length) rfl (Sub.ownI hc350)) ?_
      refine aops_ghost (ghost_tell 106 (V.own 0 y348.length) rfl (Sub.ownI hc350)) ?_
      refine aops_ghost (ghost_tell 129 (V.own 0 y348.length) rfl (Sub.ownI hc350)) ?_
      refine fo (rn 6 rfl ?_)
      exact jX ((w64 ((y339.1) + 1)), n192, (decide ((w64 ((y339.1) - n191)) ≥ (w64 (Int.tdiv (w64 (n192 - n191)) 8)))), y348) h (gr [0] rfl (hR rfl rfl .nil) rfl)
    obtain ⟨y351, hx352, h⟩ := bind_some h
    refine rn 15 rfl ?_
    refine ck h (fun hc353 h => ?_)
    refine aops_mcallS (V.tup []) [(V.own 0 (y339.2.2).length), (iV (w64 ((y339.1) + 1))), (iV n192), (iV n206), (V.fn (.func 123) [] [(V.iptr [(V.fn (.func 47) [] [])] 0)])] (fun i => ([0] : List Nat).getD i 0) (fun i => ([0] : List Nat).getD i 0) 1 1 [(0, (Ob.arr 104 2 (y351.map encTType)))] fOk172 wants_none rfl (evm_cons rfl (evm_cons rfl (evm_cons rfl (evm_cons rfl (evm_cons rfl evm_nil))))) (.cons (Sub.own rfl rfl) (.cons (Sub.imm (Imm.con _)) (.cons (Sub.imm (Imm.con _)) (.cons (Sub.imm (Imm.con _)) (.cons (Sub.imm (Imm.fn .nil (.cons (Imm.iptr _ _) .nil))) .nil))))) (.cons rfl (ObSub.rows (rows_imm imms_encTType)) .nil) (hR172 (w64 ((y339.1) + 1)) n192 n206 (y339.2.2) _ hx352) rfl rfl rfl rfl (Sub.immT (Imm.tup .nil)) (.cons rfl (ObSub.rowsT (rows_imm imms_encTType)) .nil) _ rfl ?_
    refine aops_ghost (ghost_tell 0 (V.own 0 y351.length) rfl (Sub.ownI hc353)) ?_
    refine aops_ghost (ghost_tell 106 (V.own 0 y351.length) rfl (Sub.ownI hc353)) ?_
    refine aops_ghost (ghost_tell 140 (V.own 0 y351.length) rfl (Sub.ownI hc353)) ?_
    refine fo (rn 5 rfl ?_)
    exact jX (n191, (y339.1), (decide ((w64 (n192 - (y339.1))) ≥ (w64 (Int.tdiv (w64 (n192 - n191)) 8)))), y351) h (gr [0] rfl (hR rfl rfl .nil) rfl)
  rintro ⟨n343, n344, b345, l346⟩ h
  refine rn 1 rfl ?_
  exact jX (n343, n344, n206, b345, (y339.2.1), l346) h (gr [0] rfl (hR rfl rfl .nil) rfl)
theorem W172 : ∀ (F : Nat) (a1 : Int) (a2 : Int) (a3 : Int) (a4 : List TType) (r : (List TType)) (h : M172 F a1 a2 a3 a4 = some r), Mut Tryz.prog 172 [(V.own 0 a4.length), (iV a1), (iV a2), (iV a3), (V.fn (.func 123) [] [(V.iptr [(V.fn (.func 47) [] [])] 0)])] 1 [(0, (Ob.arr 104 2 (a4.map encTType)))] (resV []) 1 [(0, (Ob.arr 104 2 (r.map encTType)))] := by
  intro F
  induction F with
  | zero => intros; simp [M172] at *
  | succ F ih => exact fun a1 a2 a3 a4 r h => W172_B (M172 F) ih F a1 a2 a3 a4 r h
theorem W122 (F : Nat) (a1 : List TType) (r : (List TType)) (h : M122 F a1 = some r) : Mut Tryz.prog 122 [(V.own 0 a1.length), (V.fn (.func 123) [] [(V.iptr [(V.fn (.func 47) [] [])] 0)])] 1 [(0, (Ob.arr 104 2 (a1.map encTType)))] (resV []) 1 [(0, (Ob.arr 104 2 (r.map encTType)))] := by
  refine mut_enter Tryz.func122 rfl rfl (l := []) rfl rfl [(0, (V.own 0 a1.length)), (1, (V.fn (.func 123) [] [(V.iptr [(V.fn (.func 47) [] [])] 0)]))] rfl (fun w0 m0 β0 hg => en ?_)
  unfold M122 at h
  refine rn 11 rfl ?_
  refine cl h rfl rfl rfl (W135 _ _) rfl (fun y8 hx9 h => ?_)
  obtain ⟨y10, hx11, h⟩ := bind_some h
  refine rn 1 rfl ?_
  refine ck h (fun hc12 h => ?_)
  refine aops_mcallS (V.tup []) [(V.own 0 a1.length), (iV 0), (iV ((a1.length : Nat) : Int)), (iV y8), (V.fn (.func 123) [] [(V.iptr [(V.fn (.func 47) [] [])] 0)])] (fun i => ([0] : List Nat).getD i 0) (fun i => ([0] : List Nat).getD i 0) 1 1 [(0, (Ob.arr 104 2 (y10.map encTType)))] fOk172 wants_none rfl (evm_cons rfl (evm_cons rfl (evm_cons rfl (evm_cons rfl (evm_cons rfl evm_nil))))) (.cons (Sub.own rfl rfl) (.cons (Sub.imm (Imm.con _)) (.cons (Sub.imm (Imm.con _)) (.cons (Sub.imm (Imm.con _)) (.cons (Sub.imm (Imm.fn .nil (.cons (Imm.iptr _ _) .nil))) .nil))))) (.cons rfl (ObSub.rows (rows_imm imms_encTType)) .nil) (W172 F 0 ((a1.length : Nat) : Int) y8 a1 y10 hx11) rfl rfl rfl rfl (Sub.immT (Imm.tup .nil)) (.cons rfl (ObSub.rowsT (rows_imm imms_encTType)) .nil) _ rfl ?_
  refine aops_ghost (ghost_tell 0 (V.own 0 y10.length) rfl (Sub.ownI hc12)) ?_
  refine aops_ghost (ghost_tell 5 (V.own 0 y10.length) rfl (Sub.ownI hc12)) ?_
  refine aops_ghost (ghost_tell 7 (V.own 0 y10.length) rfl (Sub.ownI hc12)) ?_
  refine fo (rn 1 rfl ?_)
  replace h := Option.some.inj h
  subst h
  exact wE ⟨.inr rfl, [], (gr [0] rfl (hR rfl rfl .nil) rfl), .nil⟩
theorem W46 (F : Nat) (a1 : (List TType)) (r : (List TType)) (h : M46 F a1 = some r) : Pure Tryz.prog 46 [(V.lst 2 (a1.map encTType)), (V.fn (.func 47) [] []), (V.fn (.func 48) [] [])] (V.lst 2 (r.map encTType)) := by
  refine pin (fun r => (V.lst 2 (r.map encTType))) r rfl Tryz.func46 rfl rfl rfl rfl rfl (fun w0 m0 hg => ?_)
  unfold M46 at h
  refine rn 13 rfl ?_
  refine ln rfl rfl ?_
  refine rn 2 rfl ?_
  refine jK h (fun (p : (List TType)) => (⟨[(4, (V.ptr 0 1 0 0)), (7, (V.own 1 p.length))], [(0, (Ob.arr 105 1 [[(V.fn (.func 47) [] [])]])), (1, (Ob.arr 104 2 (p.map encTType)))], 2⟩ : St)) (fun k2 (p : (List TType)) => k2 p = some r) (fun k2 h => ?_) ?_
  · refine rn 1 rfl ?_
    refine wl (A := a1) 0 rfl (fun hA14 => ?_)
    refine lC (fun (p : Int × (List TType)) => (⟨[(2, (V.fn (.func 48) [] [])), (4, (V.ptr 0 1 0 0)), (7, (V.own 1 (p.2).length)), (10, (V.lst 2 (a1.map encTType))), (11, (iV ((a1.length : Nat) : Int))), (12, (iV (p.1)))], [(0, (Ob.arr 105 1 [[(V.fn (.func 47) [] [])]])), (1, (Ob.arr 104 2 ((p.2).map encTType)))], 2⟩ : St)) (fun n (p : Int × (List TType)) => RG a1 (fun tl nn => M46_L1 F k2 tl p.2 = some r) n p.1) (fun p h => RG.zero h) (a1.length + 1) (0, ([] : List TType)) (RG.start h) (Ghost.trans (ghost_nilE 7 104 2 rfl) (ghost_ren 2 (fun i => ([0, 1] : List Nat).getD i 0) _ _ (by decide) (EnvSub.get (.cons (Sub.imm (Imm.fn .nil .nil)) (.cons (Sub.ptr rfl rfl) (.cons (Sub.ownE rfl rfl (by simp)) (.cons (Sub.imm (Imm.lst _ _)) (.cons (Sub.imm (Imm.con _)) (.cons (Sub.imm (Imm.con _)) .nil))))))) (HpSub.get (.cons rfl (ObSub.box (.cons (Sub.imm (Imm.fn .nil .nil)) .nil)) (.cons rfl (ObSub.rows (rows_imm imms_encTType)) .nil))) rfl)) (fun n p h => ?_)
    obtain ⟨n6, l7⟩ := p
    refine rn 5 rfl ?_
    refine spL rfl (fun hb8 => ?_) (fun hb8 => ?_)
    · obtain ⟨x9, tl, hx10, h, hk1⟩ := RG.t hA14 h hb8
      unfold M46_L1 at h
      refine rn 5 rfl ?_
      refine ixh hx10 rfl rfl ?_
      refine rn 8 rfl ?_
      refine cl h rfl rfl rfl (W48 _ _) rfl (fun y11 hx12 h => ?_)
      refine aops_buildSlice [(0, (V.agg (encTType y11)))] [(encTType y11)] tEl23 tZ104 rfl rfl rfl rfl wants_none (evp_cons rfl evp_nil) rfl rfl (by simp) rfl ?_
      refine fo ?_
      refine apO encTType h rfl rfl rfl rfl rfl rfl rfl rfl (fun h => ?_)
      refine rn 7 rfl ?_
      exact jX ((w64 (n6 + 1)), (l7 ++ ([y11] : List TType))) (hk1 _ h) (gr [0, 4] rfl (hB rfl rfl rfl (hR rfl rfl .nil)) rfl)
    replace h := RG.f h hb8
    unfold M46_L1 at h
    refine rn 1 rfl ?_
    exact jX l7 h (gr [0, 1] rfl (hB rfl rfl rfl (hR rfl rfl .nil)) rfl)
  intro l3 h
  obtain ⟨y15, hx16, h⟩ := bind_some h
  refine rn 4 rfl ?_
  refine ck h (fun hc17 h => ?_)
  refine aops_ghost (ghost_frzV 0 24 (V.fn (.func 123) [] [(V.iptr [(V.fn (.func 47) [] [])] 0)]) rfl (imms_rows (.cons (.cons (Imm.fn .nil .nil) .nil) .nil)) rfl (Sub.fnc (.cons (Sub.frzptr rfl) .nil))) ?_
  refine aops_mcallS (V.tup []) [(V.own 1 l3.length), (V.fn (.func 123) [] [(V.iptr [(V.fn (.func 47) [] [])] 0)])] (fun i => ([1] : List Nat).getD i 0) (fun i => ([1] : List Nat).getD i 0) 2 2 [(1, (Ob.arr 104 2 (y15.map encTType)))] fOk122 wants_none rfl (evm_cons rfl (evm_cons rfl evm_nil)) (.cons (Sub.own rfl rfl) (.cons (Sub.imm (Imm.fn .nil (.cons (Imm.iptr _ _) .nil))) .nil)) (.cons rfl (ObSub.rows (rows_imm imms_encTType)) .nil) (W122 F l3 y15 hx16) rfl rfl rfl rfl (Sub.immT (Imm.tup .nil)) (.cons rfl (ObSub.rowsT (rows_imm imms_encTType)) .nil) _ rfl ?_
  refine aops_ghost (ghost_tell 7 (V.own 1 y15.length) rfl (Sub.ownI hc17)) ?_
  refine aops_ghost (ghost_tell 23 (V.own 1 y15.length) rfl (Sub.ownI hc17)) ?_
  refine fo (rn 6 rfl ?_)
  refine awp_ghost (ghost_frzEs 1 [6, 7, 23, 26] rfl (rows_imm imms_encTType) (List.forall_mem_cons.2 ⟨rfl, (List.forall_mem_cons.2 ⟨rfl, (List.forall_mem_cons.2 ⟨rfl, (List.forall_mem_cons.2 ⟨rfl, (fun _ hx => nomatch hx)⟩)⟩)⟩)⟩) (List.length_map ..).symm) ?_
  refine fa ?_
  exact rt h rfl
theorem W11 (F : Nat) (a1 : TGraph) (a2 : (List TSite)) (r : (TGraph × Int)) (h : M11 F a1 a2 = some r) : Pure Tryz.prog 11 [(V.agg (encTGraph a1)), (V.lst 2 (a2.map encTSite))] (V.tup [(V.agg (encTGraph (r.1))), (iV (r.2))]) := by
  refine pin (fun r => (V.tup [(V.agg (encTGraph (r.1))), (iV (r.2))])) r rfl Tryz.func11 rfl rfl rfl rfl rfl (fun w0 m0 hg => ?_)
  unfold M11 at h
  refine rn 10 rfl ?_
  refine cl h rfl rfl rfl (W17 _ _) rfl (fun y3 hx4 h => ?_)
  refine rn 7 rfl ?_
  refine spC h rfl (fun hb5 h => ?_) (fun hb5 h => ?_)
  · refine rn 7 rfl ?_
    exact rt h rfl
  refine rn 4 rfl ?_
  refine cl h rfl rfl rfl (W41 _ _ _ _) rfl (fun y6 hx7 h => ?_)
  refine rn 11 rfl ?_
  refine ln rfl rfl ?_
  refine rn 2 rfl ?_
  refine jK h (fun (p : (List (TSite × Bool))) => (⟨[(2, (V.ptr 0 4 0 0)), (4, (V.ptr 1 4 0 0)), (8, (V.map 2))], [(0, (Ob.arr 27 4 [(encTGraph a1)])), (1, (Ob.arr 27 4 [[nV, nV, nV, nV]])), (2, (Ob.map (p.map encM70_4)))], 3⟩ : St)) (fun k8 (p : (List (TSite × Bool))) => k8 p = some r) (fun k8 h => ?_) ?_
  · obtain ⟨x10, hx11, h⟩ := bind_some h
    refine rn 1 rfl ?_
    refine opC 7 hx11 rfl ?_
    refine wl (A := a2) 1 rfl (fun hA42 => ?_)
    refine lC (fun (p : Int × (List (TSite × Bool))) => (⟨[(1, (V.lst 2 (a2.map encTSite))), (2, (V.ptr 0 4 0 0)), (4, (V.ptr 1 4 0 0)), (7, (V.iptr (encTreach_world x10) 0)), (8, (V.map 2)), (28, (V.lst 2 (a2.map encTSite))), (29, (iV ((a2.length : Nat) : Int))), (30, (iV (p.1)))], [(0, (Ob.arr 27 4 [(encTGraph a1)])), (1, (Ob.arr 27 4 [[nV, nV, nV, nV]])), (2, (Ob.map ((p.2).map encM70_4)))], 3⟩ : St)) (fun n (p : Int × (List (TSite × Bool))) => RG a2 (fun tl nn => M11_L1 F a1 a2 x10 k8 tl nn p.2 = some r) n p.1) (fun p h => RG.zero h) (a2.length + 1) (0, ([] : List (TSite × Bool))) (RG.start h) (gr [0, 1, 2] rfl (hB rfl rfl rfl (hB rfl rfl rfl (hM rfl rfl .nil))) rfl) (fun n p h => ?_)
    obtain ⟨n14, m15⟩ := p
    refine rn 5 rfl ?_
    refine spL rfl (fun hb16 => ?_) (fun hb16 => ?_)
    · obtain ⟨x17, tl, hx18, h, hk1⟩ := RG.t hA42 h hb16
      unfold M11_L1 at h
      refine rn 6 rfl ?_
      refine ixh hx18 rfl rfl ?_
      refine rn 6 rfl ?_
      refine dr mixed (vs 6 rfl (xD (OD.mk [(39, (V.imap (x10.funcs.map encM9_3))), (41, (sV x17.Func))] [] [(42, (V.tup [(iV ((mget x10.funcs x17.Func).getD 0)), (bV ((mget x10.funcs x17.Func).isSome))]))] []) ⟨⟨rfl, rfl, trivial⟩, trivial⟩ (by exact fun S hn h hh => aops_lookup_okB _ (iV 0) (iV ((mget x10.funcs x17.Func).getD 0)) tMap87 tKey9 tZo3 (irel_con _) wants_none h.1 .imm (.con h.2.1) ⟨_, rfl⟩ encM9_3_good (encM9_3_look x10.funcs x17.Func) (getD_map (encM9_3_val) (mget x10.funcs x17.Func) 0) (isSome_map ..) rfl (aops_nil ⟨rfl, rfl⟩)) rfl (vs 5 rfl .nil))) (by kernel_rfl) ?_
      refine rn 8 rfl ?_
      refine jK h (fun (p : (List UInt8) × (List UInt8) × (List TCall) × (List (List UInt8)) × (List UInt8) × (List UInt8) × (List TCall) × (List (List UInt8)) × (List TCall) × Int × Bool) => (⟨[(1, (V.lst 2 (a2.map encTSite))), (2, (V.ptr 0 4 0 0)), (4, (V.ptr 1 4 0 0)), (7, (V.iptr (encTreach_world x10) 0)), (8, (V.map 2)), (10, (V.ptr 3 2 0 0)), (28, (V.lst 2 (a2.map encTSite))), (29, (iV ((a2.length : Nat) : Int))), (30, (iV n14)), (54, (V.ptr 3 2 0 1)), (55, (iV x17.Call)), (56, (V.ptr 0 4 0 2)), (57, (V.lst 4 (a1.Funcs.map encTFunc))), (58, (iV ((mget x10.funcs x17.Func).getD 0))), (59, (V.iptr [(sV (p.1)), (sV (p.2.1)), (V.lst 4 ((p.2.2.1).map encTCall)), (V.lst 1 ((p.2.2.2.1).map encS))] 0)), (60, (V.iptr [(sV (p.2.2.2.2.1)), (sV (p.2.2.2.2.2.1)), (V.lst 4 ((p.2.2.2.2.2.2.1).map encTCall)), (V.lst 1 ((p.2.2.2.2.2.2.2.1).map encS))] 2)), (61, (V.lst 4 ((p.2.2.2.2.2.2.2.2.1).map encTCall))), (62, (iV (p.2.2.2.2.2.2.2.2.2.1))), (63, (bV (p.2.2.2.2.2.2.2.2.2.2)))], [(0, (Ob.arr 27 4 [(encTGraph a1)])), (1, (Ob.arr 27 4 [[nV, nV, nV, nV]])), (2, (Ob.map (m15.map encM70_4))), (3, (Ob.arr 70 2 [(encTSite x17)]))], 4⟩ : St)) (fun k19 (p : (List UInt8) × (List UInt8) × (List TCall) × (List (List UInt8)) × (List UInt8) × (List UInt8) × (List TCall) × (List (List UInt8)) × (List TCall) × Int × Bool) => k19 p.1 p.2.1 p.2.2.1 p.2.2.2.1 p.2.2.2.2.1 p.2.2.2.2.2.1 p.2.2.2.2.2.2.1 p.2.2.2.2.2.2.2.1 p.2.2.2.2.2.2.2.2.1 p.2.2.2.2.2.2.2.2.2.1 p.2.2.2.2.2.2.2.2.2.2 = some r) (fun k19 h => ?_) ?_
      · refine spC h rfl (fun hb31 h => ?_) (fun hb31 h => ?_)
        · refine rn 6 rfl ?_
          exact rt h rfl
        refine rn 1 rfl ?_
        refine bs h (fun hb32 h => ?_) (fun hb32 h => ?_)
        · refine dr mixed (vs 3 rfl (vb hb32 rfl (vs 12 rfl .nil))) (by kernel_rfl) ?_
          refine rn 7 rfl ?_
          exact rt h rfl
        obtain ⟨x33, hx34, h⟩ := bind_some h
        refine dr mixed (vs 3 rfl (vb hb32 rfl (vs 5 rfl (iD hx34 rfl rfl rfl (vs 2 rfl (nD rfl rfl rfl (vs 3 rfl .nil))))))) (by kernel_rfl) ?_
        refine spC h rfl (fun hb35 h => ?_) (fun hb35 h => ?_)
        · refine rn 6 rfl ?_
          exact rt h rfl
        refine rn 1 rfl ?_
        refine bs h (fun hb36 h => ?_) (fun hb36 h => ?_)
        · obtain ⟨x37, hx38, h⟩ := bind_some h
          obtain ⟨y39, hx40, h⟩ := bind_some h
          refine dr mixed (vs 2 rfl (vb hb36 rfl (vs 3 rfl (iD hx38 rfl rfl rfl (vs 2 rfl (cD rfl rfl rfl rfl (W42 _ _ _ _ hx40) rfl (vs 3 rfl .nil))))))) (by kernel_rfl) ?_
          refine spC h rfl (fun hb41 h => ?_) (fun hb41 h => ?_)
          · refine rn 6 rfl ?_
            exact rt h rfl
          refine rn 1 rfl ?_
          exact jX (x33.Name, x33.Component, x33.Calls, x33.Makes, x33.Name, x33.Component, x33.Calls, x33.Makes, x33.Calls, ((x33.Calls.length : Nat) : Int), (decide (x17.Call ≥ ((x33.Calls.length : Nat) : Int)))) h (gr [0, 1, 2, 3] rfl (hB rfl rfl rfl (hB rfl rfl rfl (hM rfl rfl (hB rfl rfl rfl .nil)))) rfl)
        refine dr mixed (vs 2 rfl (vb hb36 rfl (vs 10 rfl .nil))) (by kernel_rfl) ?_
        refine rn 2 rfl ?_
        exact jX (x33.Name, x33.Component, x33.Calls, x33.Makes, x33.Name, x33.Component, x33.Calls, x33.Makes, x33.Calls, ((x33.Calls.length : Nat) : Int), (decide (x17.Call ≥ ((x33.Calls.length : Nat) : Int)))) h (gr [0, 1, 2, 3] rfl (hB rfl rfl rfl (hB rfl rfl rfl (hM rfl rfl (hB rfl rfl rfl .nil)))) rfl)
      rintro ⟨s20, s21, l22, l23, s24, s25, l26, l27, l28, n29, b30⟩ h
      refine rn 4 rfl ?_
      refine aops_mapUpdate (es := m15.map encM70_4) ((mput m15 x17 true).map encM70_4) tMap85 tKey70 wants_none rfl rfl (.agg (cv70 x17) rfl) ⟨_, rfl⟩ encM70_4_good rfl (encM70_4_puts m15 x17 true) ?_
      refine fo (rn 6 rfl ?_)
      exact jX ((w64 (n14 + 1)), (mput m15 x17 true)) (hk1 _ h) (gr [0, 1, 2] rfl (hB rfl rfl rfl (hB rfl rfl rfl (hM rfl rfl .nil))) rfl)
    replace h := RG.f h hb16
    unfold M11_L1 at h
    refine rn 1 rfl ?_
    exact jX m15 h (gr [0, 1, 2] rfl (hB rfl rfl rfl (hB rfl rfl rfl (hM rfl rfl .nil))) rfl)
  intro m9 h
  obtain ⟨y43, hx44, h⟩ := bind_some h
  obtain ⟨y45, hx46, h⟩ := bind_some h
  obtain ⟨y47, hx48, h⟩ := bind_some h
  refine rn 1 rfl ?_
  refine awp_ghost ghost_res ?_
  refine fa ?_
  refine dr mixed (vs 2 rfl (cD rfl rfl rfl rfl (W43 _ _ _ hx44) rfl (vs 2 rfl (cD rfl rfl rfl rfl (W46 _ _ _ hx46) rfl (vs 2 rfl (cD rfl rfl rfl rfl (W49 _ _ _ hx48) rfl (vs 1 rfl (xD (OD.mk [] [(3, Ob.res)] [(13, (V.ptr 3 4 0 0))] [(3, (Ob.arr 27 4 [[nV, nV, nV, nV]]))]) ⟨trivial, ⟨rfl, trivial⟩⟩ (by exact fun S hn h hh => aops_alloc_at 3 rfl hn hh.1 tZ27 rfl rfl wants_none rfl (aops_nil ⟨rfl, rfl⟩)) rfl (vs 1 rfl .nil))))))))) (by kernel_rfl) ?_
  refine rn 5 rfl ?_
  refine ln rfl rfl ?_
  refine rn 2 rfl ?_
  refine jK h (fun (p : (List TFunc)) => (⟨[(4, (V.ptr 0 4 0 0)), (13, (V.ptr 1 4 0 0))], [(0, (Ob.arr 27 4 [[nV, nV, nV, nV]])), (1, (Ob.arr 27 4 [[(V.lst 2 (y43.map encTIface)), (V.lst 2 (y45.map encTType)), (V.own 2 p.length), (V.lst 1 (y47.map encS))]])), (2, (Ob.arr 94 4 (p.map encTFunc)))], 3⟩ : St)) (fun k49 (p : (List TFunc)) => k49 p = some r) (fun k49 h => ?_) ?_
  · refine rn 1 rfl ?_
    refine wl (A := a1.Funcs) 94 rfl (fun hA77 => ?_)
    refine lC (fun (p : Int × (List TFunc)) => (⟨[(4, (V.ptr 0 4 0 0)), (8, (V.map 1)), (13, (V.ptr 2 4 0 0)), (94, (V.lst 4 (a1.Funcs.map encTFunc))), (95, (iV ((a1.Funcs.length : Nat) : Int))), (96, (iV (p.1)))], [(0, (Ob.arr 27 4 [[nV, nV, nV, nV]])), (1, (Ob.map (m9.map encM70_4))), (2, (Ob.arr 27 4 [[(V.lst 2 (y43.map encTIface)), (V.lst 2 (y45.map encTType)), (V.own 3 (p.2).length), (V.lst 1 (y47.map encS))]])), (3, (Ob.arr 94 4 ((p.2).map encTFunc)))], 4⟩ : St)) (fun n (p : Int × (List TFunc)) => RG a1.Funcs (fun tl nn => M11_L2 F m9 k49 tl p.2 = some r) n p.1) (fun p h => RG.zero h) (a1.Funcs.length + 1) (0, ([] : List TFunc)) (RG.start h) (Ghost.trans (ghost_nilC 3 94 4 (Ob.arr 27 4 [[(V.lst 2 (y43.map encTIface)), (V.lst 2 (y45.map encTType)), (V.own 4 0), (V.lst 1 (y47.map encS))]]) (ObSub.box (.cons Sub.keepNil (.cons Sub.keepNil (.cons Sub.mkNil (.cons Sub.keepNil .nil)))))) (ghost_ren 4 (fun i => ([1, 2, 3, 4] : List Nat).getD i 0) _ _ (by decide) (EnvSub.get (.cons (Sub.ptr rfl rfl) (.cons (Sub.map rfl rfl) (.cons (Sub.ptr rfl rfl) (.cons (Sub.imm (Imm.lst _ _)) (.cons (Sub.imm (Imm.con _)) (.cons (Sub.imm (Imm.con _)) .nil))))))) (HpSub.get (.cons rfl (ObSub.box (.cons (Sub.imm (Imm.con _)) (.cons (Sub.imm (Imm.con _)) (.cons (Sub.imm (Imm.con _)) (.cons (Sub.imm (Imm.con _)) .nil))))) (.cons rfl (ObSub.maps encM70_4_imm) (.cons rfl (ObSub.box (.cons (Sub.imm (Imm.lst _ _)) (.cons (Sub.imm (Imm.lst _ _)) (.cons (Sub.ownE rfl rfl (by simp)) (.cons (Sub.imm (Imm.lst _ _)) .nil))))) (.cons rfl (ObSub.rows (rows_imm imms_encTFunc)) .nil))))) rfl)) (fun n p h => ?_)
    obtain ⟨n53, l54⟩ := p
    refine rn 5 rfl ?_
    refine spL rfl (fun hb55 => ?_) (fun hb55 => ?_)
    · obtain ⟨x58, tl, hx59, h, hk2⟩ := RG.t hA77 h hb55
      unfold M11_L2 at h
      refine rn 2 rfl ?_
      refine jK h (fun (p : (List TFunc)) => (⟨[(4, (V.ptr 0 4 0 0)), (8, (V.map 1)), (13, (V.ptr 2 4 0 0)), (94, (V.lst 4 (a1.Funcs.map encTFunc))), (95, (iV ((a1.Funcs.length : Nat) : Int))), (96, (iV n53))], [(0, (Ob.arr 27 4 [[nV, nV, nV, nV]])), (1, (Ob.map (m9.map encM70_4))), (2, (Ob.arr 27 4 [[(V.lst 2 (y43.map encTIface)), (V.lst 2 (y45.map encTType)), (V.own 3 p.length), (V.lst 1 (y47.map encS))]])), (3, (Ob.arr 94 4 (p.map encTFunc)))], 4⟩ : St)) (fun k56 (p : (List TFunc)) => k56 p = some r) (fun k56 h => ?_) ?_
      · refine rn 3 rfl ?_
        refine ixh hx59 rfl rfl ?_
        refine rn 8 rfl ?_
        refine cl h rfl rfl rfl (W49 _ _) rfl (fun y60 hx61 h => ?_)
        refine rn 12 rfl ?_
        refine ln rfl rfl ?_
        refine rn 2 rfl ?_
        refine jK h (fun (p : (List TCall)) => (⟨[(4, (V.ptr 0 4 0 0)), (8, (V.map 1)), (13, (V.ptr 2 4 0 0)), (15, (V.ptr 3 4 0 0)), (16, (V.own 4 p.length)), (94, (V.lst 4 (a1.Funcs.map encTFunc))), (95, (iV ((a1.Funcs.length : Nat) : Int))), (96, (iV n53))], [(0, (Ob.arr 27 4 [[nV, nV, nV, nV]])), (1, (Ob.map (m9.map encM70_4))), (2, (Ob.arr 27 4 [[(V.lst 2 (y43.map encTIface)), (V.lst 2 (y45.map encTType)), (V.own 5 l54.length), (V.lst 1 (y47.map encS))]])), (3, (Ob.arr 94 4 [[(sV x58.Name), (sV x58.Component), (V.lst 4 (x58.Calls.map encTCall)), (V.lst 1 (y60.map encS))]])), (4, (Ob.arr 109 4 (p.map encTCall))), (5, (Ob.arr 94 4 (l54.map encTFunc)))], 6⟩ : St)) (fun k62 (p : (List TCall)) => k62 p = some r) (fun k62 h => ?_) ?_
        · refine rn 1 rfl ?_
          refine wl (A := x58.Calls) 105 rfl (fun hA75 => ?_)
          refine lC (fun (p : Int × (List TCall)) => (⟨[(4, (V.ptr 0 4 0 0)), (8, (V.map 1)), (13, (V.ptr 2 4 0 0)), (15, (V.ptr 3 4 0 0)), (16, (V.own 4 (p.2).length)), (94, (V.lst 4 (a1.Funcs.map encTFunc))), (95, (iV ((a1.Funcs.length : Nat) : Int))), (96, (iV n53)), (105, (V.lst 4 (x58.Calls.map encTCall))), (106, (iV ((x58.Calls.length : Nat) : Int))), (107, (iV (p.1)))], [(0, (Ob.arr 27 4 [[nV, nV, nV, nV]])), (1, (Ob.map (m9.map encM70_4))), (2, (Ob.arr 27 4 [[(V.lst 2 (y43.map encTIface)), (V.lst 2 (y45.map encTType)), (V.own 5 l54.length), (V.lst 1 (y47.map encS))]])), (3, (Ob.arr 94 4 [[(sV x58.Name), (sV x58.Component), (V.lst 4 (x58.Calls.map encTCall)), (V.lst 1 (y60.map encS))]])), (4, (Ob.arr 109 4 ((p.2).map encTCall))), (5, (Ob.arr 94 4 (l54.map encTFunc)))], 6⟩ : St)) (fun n (p : Int × (List TCall)) => RG x58.Calls (fun tl nn => M11_L3 F m9 x58 k62 tl nn p.2 = some r) n p.1) (fun p h => RG.zero h) (x58.Calls.length + 1) (0, ([] : List TCall)) (RG.start h) (Ghost.trans (ghost_nilE 16 109 4 rfl) (ghost_ren 6 (fun i => ([0, 1, 2, 4, 5, 3] : List Nat).getD i 0) _ _ (by decide) (EnvSub.get (.cons (Sub.ptr rfl rfl) (.cons (Sub.map rfl rfl) (.cons (Sub.ptr rfl rfl) (.cons (Sub.ptr rfl rfl) (.cons (Sub.ownE rfl rfl (by simp)) (.cons (Sub.imm (Imm.lst _ _)) (.cons (Sub.imm (Imm.con _)) (.cons (Sub.imm (Imm.con _)) (.cons (Sub.imm (Imm.lst _ _)) (.cons (Sub.imm (Imm.con _)) (.cons (Sub.imm (Imm.con _)) .nil)))))))))))) (HpSub.get (.cons rfl (ObSub.box (.cons (Sub.imm (Imm.con _)) (.cons (Sub.imm (Imm.con _)) (.cons (Sub.imm (Imm.con _)) (.cons (Sub.imm (Imm.con _)) .nil))))) (.cons rfl (ObSub.maps encM70_4_imm) (.cons rfl (ObSub.box (.cons (Sub.imm (Imm.lst _ _)) (.cons (Sub.imm (Imm.lst _ _)) (.cons (Sub.own rfl rfl) (.cons (Sub.imm (Imm.lst _ _)) .nil))))) (.cons rfl (ObSub.box (.cons (Sub.imm (Imm.con _)) (.cons (Sub.imm (Imm.con _)) (.cons (Sub.imm (Imm.lst _ _)) (.cons (Sub.imm (Imm.lst _ _)) .nil))))) (.cons rfl (ObSub.rows (rows_imm imms_encTCall)) (.cons rfl (ObSub.rows (rows_imm imms_encTFunc)) .nil))))))) rfl)) (fun n p h => ?_)
          obtain ⟨n66, l67⟩ := p
          refine rn 5 rfl ?_
          refine spL rfl (fun hb68 => ?_) (fun hb68 => ?_)
          · obtain ⟨x69, tl, hx70, h, hk3⟩ := RG.t hA75 h hb68
            unfold M11_L3 at h
            refine rn 6 rfl ?_
            refine ixh hx70 rfl rfl ?_
            refine rn 12 rfl ?_
            refine aops_lookup _ (bV false) (bV ((mget m9 (TSite.mk x58.Name n66)).getD false)) tMap85 tKey70 tZo4 (irel_con _) wants_none rfl (.own rfl) (.agg (cv70 (TSite.mk x58.Name n66)) rfl) ⟨_, rfl⟩ encM70_4_good (encM70_4_look m9 (TSite.mk x58.Name n66)) (getD_map (encM70_4_val) (mget m9 (TSite.mk x58.Name n66)) false) rfl ?_
            refine fo (rn 2 rfl ?_)
            refine jK h (fun (p : (List TCall)) => (⟨[(4, (V.ptr 0 4 0 0)), (8, (V.map 1)), (13, (V.ptr 2 4 0 0)), (15, (V.ptr 3 4 0 0)), (16, (V.own 4 p.length)), (94, (V.lst 4 (a1.Funcs.map encTFunc))), (95, (iV ((a1.Funcs.length : Nat) : Int))), (96, (iV n53)), (105, (V.lst 4 (x58.Calls.map encTCall))), (106, (iV ((x58.Calls.length : Nat) : Int))), (107, (iV n66))], [(0, (Ob.arr 27 4 [[nV, nV, nV, nV]])), (1, (Ob.map (m9.map encM70_4))), (2, (Ob.arr 27 4 [[(V.lst 2 (y43.map encTIface)), (V.lst 2 (y45.map encTType)), (V.own 5 l54.length), (V.lst 1 (y47.map encS))]])), (3, (Ob.arr 94 4 [[(sV x58.Name), (sV x58.Component), (V.lst 4 (x58.Calls.map encTCall)), (V.lst 1 (y60.map encS))]])), (4, (Ob.arr 109 4 (p.map encTCall))), (5, (Ob.arr 94 4 (l54.map encTFunc)))], 6⟩ : St)) (fun k71 (p : (List TCall)) => k71 p = some r) (fun k71 h => ?_) ?_
            · refine spC h rfl (fun hb73 h => ?_) (fun hb73 h => ?_)
              · refine rn 3 rfl ?_
                refine aops_buildSlice [(0, (V.agg (encTCall x69)))] [(encTCall x69)] tEl92 tZ109 rfl rfl rfl rfl wants_none (evp_cons rfl evp_nil) rfl rfl (by simp) rfl ?_
                refine fo ?_
                refine apO encTCall h rfl rfl rfl rfl rfl rfl rfl rfl (fun h => ?_)
                refine rn 2 rfl ?_
                exact jX (l67 ++ ([x69] : List TCall)) h (gr [0, 1, 2, 3, 8, 5] rfl (hB rfl rfl rfl (hM rfl rfl (hB rfl rfl rfl (hB rfl rfl rfl (hR rfl rfl (hR rfl rfl .nil)))))) rfl)
              refine rn 1 rfl ?_
              exact jX l67 h (gr [0, 1, 2, 3, 4, 5] rfl (hB rfl rfl rfl (hM rfl rfl (hB rfl rfl rfl (hB rfl rfl rfl (hR rfl rfl (hR rfl rfl .nil)))))) rfl)
            intro l72 h
            refine rn 5 rfl ?_
            exact jX ((w64 (n66 + 1)), l72) (hk3 _ h) (gr [0, 1, 2, 3, 4, 5] rfl (hB rfl rfl rfl (hM rfl rfl (hB rfl rfl rfl (hB rfl rfl rfl (hR rfl rfl (hR rfl rfl .nil)))))) rfl)
          replace h := RG.f h hb68
          unfold M11_L3 at h
          refine rn 1 rfl ?_
          exact jX l67 h (gr [0, 1, 2, 3, 4, 5] rfl (hB rfl rfl rfl (hM rfl rfl (hB rfl rfl rfl (hB rfl rfl rfl (hR rfl rfl (hR rfl rfl .nil)))))) rfl)
        intro l63 h
        refine rn 10 rfl ?_
        refine aops_ghost (ghost_frzV 4 128 (V.agg [(sV x58.Name), (sV x58.Component), (V.lst 4 (l63.map encTCall)), (V.lst 1 (y60.map encS))]) rfl (rows_imm imms_encTCall) rfl (Sub.agg (.cons Sub.keep (.cons Sub.keep (.cons (Sub.frzAll (rows := l63.map encTCall) (List.length_map ..).symm) (.cons Sub.keep .nil)))))) ?_
        refine aops_buildSlice [(0, (V.agg [(sV x58.Name), (sV x58.Component), (V.lst 4 (l63.map encTCall)), (V.lst 1 (y60.map encS))]))] [[(sV x58.Name), (sV x58.Component), (V.lst 4 (l63.map encTCall)), (V.lst 1 (y60.map encS))]] tEl24 tZ94 rfl rfl rfl rfl wants_none (evp_cons rfl evp_nil) rfl rfl (by simp) rfl ?_
        refine fo ?_
        refine apO encTFunc h rfl rfl rfl rfl rfl rfl rfl rfl (fun h => ?_)
        refine rn 4 rfl ?_
        exact jX (l54 ++ ([(TFunc.mk x58.Name x58.Component l63 y60)] : List TFunc)) h (gr [0, 1, 2, 7] rfl (hB rfl rfl rfl (hM rfl rfl (hB rfl rfl rfl (hR rfl rfl .nil)))) rfl)
      intro l57 h
      refine rn 4 rfl ?_
      exact jX ((w64 (n53 + 1)), l57) (hk2 _ h) (gr [0, 1, 2, 3] rfl (hB rfl rfl rfl (hM rfl rfl (hB rfl rfl rfl (hR rfl rfl .nil)))) rfl)
    replace h := RG.f h hb55
    unfold M11_L2 at h
    refine rn 1 rfl ?_
    exact jX l54 h (gr [0, 2, 3] rfl (hB rfl rfl rfl (hB rfl rfl rfl (hR rfl rfl .nil))) rfl)
  intro l50 h
  refine rn 6 rfl ?_
  refine awp_ghost (ghost_frzC 2 0 (Ob.arr 27 4 [[(V.lst 2 (y43.map encTIface)), (V.lst 2 (y45.map encTType)), (V.lst 4 (l50.map encTFunc)), (V.lst 1 (y47.map encS))]]) rfl (rows_imm imms_encTFunc) (ObSub.box (.cons Sub.keep (.cons Sub.keep (.cons (Sub.frzAll (rows := l50.map encTFunc) (List.length_map ..).symm) (.cons Sub.keep .nil)))))) ?_
  refine fa ?_
  exact rt h rfl
theorem W72 (F : Nat) (a1 : TGraph) (r : Tprovenderref6_names) (h : M72 F a1 = some r) : Pure Tryz.prog 72 [(V.agg (encTGraph a1))] (V.agg (encTprovenderref6_names r)) := by
  refine pin (fun r => (V.agg (encTprovenderref6_names r))) r rfl Tryz.func72 rfl rfl rfl rfl rfl (fun w0 m0 hg => ?_)
  unfold M72 at h
  refine rn 19 rfl ?_
  refine ln rfl rfl ?_
  refine rn 2 rfl ?_
  refine jK h (fun (p : (List ((List UInt8) × (List ((List UInt8) × Bool))))) => (⟨[(1, (V.ptr 0 4 0 0)), (2, (V.ptr 1 3 0 0)), (3, (V.ptr 2 3 0 0))], [(0, (Ob.arr 27 4 [(encTGraph a1)])), (1, (Ob.arr 138 3 [[(V.con (.map none)), (V.con (.map none)), (V.con (.map none))]])), (2, (Ob.arr 138 3 [[(V.map 3), (V.map 4), (V.map 5)]])), (3, (Ob.map (p.map encM9_388))), (4, (Ob.map (([] : List ((List UInt8) × Bool)).map encM9_4))), (5, (Ob.map (([] : List ((List UInt8) × Bool)).map encM9_4)))], 6⟩ : St)) (fun k2 (p : (List ((List UInt8) × (List ((List UInt8) × Bool))))) => k2 p = some r) (fun k2 h => ?_) ?_
  · refine rn 1 rfl ?_
    refine wl (A := a1.Ifaces) 17 rfl (fun hA24 => ?_)
    refine lC (fun (p : Int × (List ((List UInt8) × (List ((List UInt8) × Bool))))) => (⟨[(1, (V.ptr 0 4 0 0)), (2, (V.ptr 1 3 0 0)), (3, (V.ptr 2 3 0 0)), (17, (V.lst 2 (a1.Ifaces.map encTIface))), (18, (iV ((a1.Ifaces.length : Nat) : Int))), (19, (iV (p.1)))], [(0, (Ob.arr 27 4 [(encTGraph a1)])), (1, (Ob.arr 138 3 [[(V.con (.map none)), (V.con (.map none)), (V.con (.map none))]])), (2, (Ob.arr 138 3 [[(V.map 3), (V.map 4), (V.map 5)]])), (3, (Ob.map ((p.2).map encM9_388))), (4, (Ob.map (([] : List ((List UInt8) × Bool)).map encM9_4))), (5, (Ob.map (([] : List ((List UInt8) × Bool)).map encM9_4)))], 6⟩ : St)) (fun n (p : Int × (List ((List UInt8) × (List ((List UInt8) × Bool))))) => RG a1.Ifaces (fun tl nn => M72_L1 F k2 tl p.2 = some r) n p.1) (fun p h => RG.zero h) (a1.Ifaces.length + 1) (0, ([] : List ((List UInt8) × (List ((List UInt8) × Bool))))) (RG.start h) (gr [0, 1, 5, 2, 3, 4] rfl (hB rfl rfl rfl (hB rfl rfl rfl (hB rfl rfl rfl (hM rfl rfl (hM rfl rfl (hM rfl rfl .nil)))))) rfl) (fun n p h => ?_)
    obtain ⟨n6, m7⟩ := p
    refine rn 5 rfl ?_
    refine spL rfl (fun hb8 => ?_) (fun hb8 => ?_)
    · obtain ⟨x11, tl, hx12, h, hk1⟩ := RG.t hA24 h hb8
      unfold M72_L1 at h
      refine rn 2 rfl ?_
      refine jK h (fun (p : (List ((List UInt8) × (List ((List UInt8) × Bool))))) => (⟨[(1, (V.ptr 0 4 0 0)), (2, (V.ptr 1 3 0 0)), (3, (V.ptr 2 3 0 0)), (17, (V.lst 2 (a1.Ifaces.map encTIface))), (18, (iV ((a1.Ifaces.length : Nat) : Int))), (19, (iV n6))], [(0, (Ob.arr 27 4 [(encTGraph a1)])), (1, (Ob.arr 138 3 [[(V.con (.map none)), (V.con (.map none)), (V.con (.map none))]])), (2, (Ob.arr 138 3 [[(V.map 3), (V.map 4), (V.map 5)]])), (3, (Ob.map (p.map encM9_388))), (4, (Ob.map (([] : List ((List UInt8) × Bool)).map encM9_4))), (5, (Ob.map (([] : List ((List UInt8) × Bool)).map encM9_4)))], 6⟩ : St)) (fun k9 (p : (List ((List UInt8) × (List ((List UInt8) × Bool))))) => k9 p = some r) (fun k9 h => ?_) ?_
      · refine rn 3 rfl ?_
        refine ixh hx12 rfl rfl ?_
        refine rn 11 rfl ?_
        refine aops_mapUpdate_deepG (id2 := 7) (o := (V.map 7)) (dv := (.dmp (([] : List ((List UInt8) × Bool)).map encM9_4))) (ob := (.map (([] : List ((List UInt8) × Bool)).map encM9_4))) ((mput m7 x11.Name ([] : List ((List UInt8) × Bool))).map encM9_388) tMap136 tKey9 wants_none rfl rfl (.con rfl) ⟨_, rfl⟩ encM9_388_good rfl (by simp [ovl]) rfl rfl (okeep_ents encM9_4_im ([] : List ((List UInt8) × Bool))) (puts_new encM9_388 (fun k => str k) encM9_4 (fun _ => rfl) inj_str x11.Name ([] : List ((List UInt8) × Bool)) m7) ?_
        refine fo (rn 5 rfl ?_)
        refine ln rfl rfl ?_
        refine rn 2 rfl ?_
        refine jK h (fun (p : (List ((List UInt8) × (List ((List UInt8) × Bool))))) => (⟨[(1, (V.ptr 0 4 0 0)), (2, (V.ptr 1 3 0 0)), (3, (V.ptr 2 3 0 0)), (17, (V.lst 2 (a1.Ifaces.map encTIface))), (18, (iV ((a1.Ifaces.length : Nat) : Int))), (19, (iV n6))], [(0, (Ob.arr 27 4 [(encTGraph a1)])), (1, (Ob.arr 138 3 [[(V.con (.map none)), (V.con (.map none)), (V.con (.map none))]])), (2, (Ob.arr 138 3 [[(V.map 3), (V.map 4), (V.map 5)]])), (3, (Ob.map (p.map encM9_388))), (4, (Ob.map (([] : List ((List UInt8) × Bool)).map encM9_4))), (5, (Ob.map (([] : List ((List UInt8) × Bool)).map encM9_4)))], 6⟩ : St)) (fun k13 (p : (List ((List UInt8) × (List ((List UInt8) × Bool))))) => k13 p = some r) (fun k13 h => ?_) ?_
        · refine rn 1 rfl ?_
          refine wl (A := x11.Methods) 29 rfl (fun hA23 => ?_)
          refine lC (fun (p : Int × (List ((List UInt8) × (List ((List UInt8) × Bool))))) => (⟨[(1, (V.ptr 0 4 0 0)), (2, (V.ptr 1 3 0 0)), (3, (V.ptr 2 3 0 0)), (5, (V.ptr 3 2 0 0)), (17, (V.lst 2 (a1.Ifaces.map encTIface))), (18, (iV ((a1.Ifaces.length : Nat) : Int))), (19, (iV n6)), (29, (V.lst 1 (x11.Methods.map encS))), (30, (iV ((x11.Methods.length : Nat) : Int))), (31, (iV (p.1)))], [(0, (Ob.arr 27 4 [(encTGraph a1)])), (1, (Ob.arr 138 3 [[(V.con (.map none)), (V.con (.map none)), (V.con (.map none))]])), (2, (Ob.arr 138 3 [[(V.map 4), (V.map 5), (V.map 6)]])), (3, (Ob.arr 98 2 [(encTIface x11)])), (4, (Ob.map ((p.2).map encM9_388))), (5, (Ob.map (([] : List ((List UInt8) × Bool)).map encM9_4))), (6, (Ob.map (([] : List ((List UInt8) × Bool)).map encM9_4)))], 7⟩ : St)) (fun n (p : Int × (List ((List UInt8) × (List ((List UInt8) × Bool))))) => RG x11.Methods (fun tl nn => M72_L2 F x11 k13 tl p.2 = some r) n p.1) (fun p h => RG.zero h) (x11.Methods.length + 1) (0, (mput m7 x11.Name ([] : List ((List UInt8) × Bool)))) (RG.start h) (gr [0, 1, 2, 6, 3, 4, 5] rfl (hB rfl rfl rfl (hB rfl rfl rfl (hB rfl rfl rfl (hB rfl rfl rfl (hM rfl rfl (hM rfl rfl (hM rfl rfl .nil))))))) rfl) (fun n p h => ?_)
          obtain ⟨n17, m18⟩ := p
          refine rn 5 rfl ?_
          refine spL rfl (fun hb19 => ?_) (fun hb19 => ?_)
          · obtain ⟨x20, tl, hx21, h, hk2⟩ := RG.t hA23 h hb19
            unfold M72_L2 at h
            refine rn 5 rfl ?_
            refine ixh hx21 rfl rfl ?_
            refine rn 8 rfl ?_
            refine ck h (fun hc22 h => ?_)
            refine aops_lookup_tkP tMap136 tKey9 wants_none rfl rfl (.con rfl) ⟨_, rfl⟩ encM9_388_good (lookD_enc encM9_388 (fun k => str k) encM9_4 7 (fun _ => rfl) inj_str x11.Name m18 hc22) rfl rfl ?_
            refine fo (rn 1 rfl ?_)
            refine aops_mapUpdate (es := ((mget m18 x11.Name).getD []).map encM9_4) ((mput ((mget m18 x11.Name).getD []) x20 true).map encM9_4) tMap89 tKey9 wants_none rfl rfl (.con rfl) ⟨_, rfl⟩ encM9_4_good rfl (encM9_4_puts ((mget m18 x11.Name).getD []) x20 true) ?_
            refine aops_ghost (ghost_putN 4 7 encM9_388 (fun k => str k) encM9_4 (fun _ => rfl) hc22 rfl rfl rfl encM9_4_im) ?_
            refine fo (rn 6 rfl ?_)
            exact jX ((w64 (n17 + 1)), (mput m18 x11.Name (mput ((mget m18 x11.Name).getD []) x20 true))) (hk2 _ h) (gr [0, 1, 2, 3, 4, 5, 6] rfl (hB rfl rfl rfl (hB rfl rfl rfl (hB rfl rfl rfl (hB rfl rfl rfl (hM rfl rfl (hM rfl rfl (hM rfl rfl .nil))))))) rfl)
          replace h := RG.f h hb19
          unfold M72_L2 at h
          refine rn 1 rfl ?_
          exact jX m18 h (gr [0, 1, 2, 4, 5, 6] rfl (hB rfl rfl rfl (hB rfl rfl rfl (hB rfl rfl rfl (hM rfl rfl (hM rfl rfl (hM rfl rfl .nil)))))) rfl)
        intro m14 h
        refine rn 1 rfl ?_
        exact jX m14 h (gr [0, 1, 2, 3, 4, 5] rfl (hB rfl rfl rfl (hB rfl rfl rfl (hB rfl rfl rfl (hM rfl rfl (hM rfl rfl (hM rfl rfl .nil)))))) rfl)
      intro m10 h
      refine rn 4 rfl ?_
      exact jX ((w64 (n6 + 1)), m10) (hk1 _ h) (gr [0, 1, 2, 3, 4, 5] rfl (hB rfl rfl rfl (hB rfl rfl rfl (hB rfl rfl rfl (hM rfl rfl (hM rfl rfl (hM rfl rfl .nil)))))) rfl)
    replace h := RG.f h hb8
    unfold M72_L1 at h
    refine rn 1 rfl ?_
    exact jX m7 h (gr [0, 1, 2, 3, 4, 5] rfl (hB rfl rfl rfl (hB rfl rfl rfl (hB rfl rfl rfl (hM rfl rfl (hM rfl rfl (hM rfl rfl .nil)))))) rfl)
  intro m3 h
  refine rn 5 rfl ?_
  refine ln rfl rfl ?_
  refine rn 2 rfl ?_
  refine jK h (fun (p : (List ((List UInt8) × Bool))) => (⟨[(1, (V.ptr 0 4 0 0)), (2, (V.ptr 1 3 0 0)), (3, (V.ptr 2 3 0 0))], [(0, (Ob.arr 27 4 [(encTGraph a1)])), (1, (Ob.arr 138 3 [[(V.con (.map none)), (V.con (.map none)), (V.con (.map none))]])), (2, (Ob.arr 138 3 [[(V.map 3), (V.map 4), (V.map 5)]])), (3, (Ob.map (m3.map encM9_388))), (4, (Ob.map (p.map encM9_4))), (5, (Ob.map (([] : List ((List UInt8) × Bool)).map encM9_4)))], 6⟩ : St)) (fun k25 (p : (List ((List UInt8) × Bool))) => k25 p = some r) (fun k25 h => ?_) ?_
  · refine rn 1 rfl ?_
    refine wl (A := a1.Types) 44 rfl (fun hA34 => ?_)
    refine lC (fun (p : Int × (List ((List UInt8) × Bool))) => (⟨[(1, (V.ptr 0 4 0 0)), (2, (V.ptr 1 3 0 0)), (3, (V.ptr 2 3 0 0)), (44, (V.lst 2 (a1.Types.map encTType))), (45, (iV ((a1.Types.length : Nat) : Int))), (46, (iV (p.1)))], [(0, (Ob.arr 27 4 [(encTGraph a1)])), (1, (Ob.arr 138 3 [[(V.con (.map none)), (V.con (.map none)), (V.con (.map none))]])), (2, (Ob.arr 138 3 [[(V.map 3), (V.map 4), (V.map 5)]])), (3, (Ob.map (m3.map encM9_388))), (4, (Ob.map ((p.2).map encM9_4))), (5, (Ob.map (([] : List ((List UInt8) × Bool)).map encM9_4)))], 6⟩ : St)) (fun n (p : Int × (List ((List UInt8) × Bool))) => RG a1.Types (fun tl nn => M72_L3 F k25 tl p.2 = some r) n p.1) (fun p h => RG.zero h) (a1.Types.length + 1) (0, ([] : List ((List UInt8) × Bool))) (RG.start h) (gr [0, 1, 2, 3, 4, 5] rfl (hB rfl rfl rfl (hB rfl rfl rfl (hB rfl rfl rfl (hM rfl rfl (hM rfl rfl (hM rfl rfl .nil)))))) rfl) (fun n p h => ?_)
    obtain ⟨n29, m30⟩ := p
    refine rn 5 rfl ?_
    refine spL rfl (fun hb31 => ?_) (fun hb31 => ?_)
    · obtain ⟨x32, tl, hx33, h, hk3⟩ := RG.t hA34 h hb31
      unfold M72_L3 at h
      refine rn 5 rfl ?_
      refine ixh hx33 rfl rfl ?_
      refine rn 9 rfl ?_
      refine aops_mapUpdate (es := m30.map encM9_4) ((mput m30 x32.Name true).map encM9_4) tMap89 tKey9 wants_none rfl rfl (.con rfl) ⟨_, rfl⟩ encM9_4_good rfl (encM9_4_puts m30 x32.Name true) ?_
      refine fo (rn 6 rfl ?_)
      exact jX ((w64 (n29 + 1)), (mput m30 x32.Name true)) (hk3 _ h) (gr [0, 1, 2, 3, 4, 5] rfl (hB rfl rfl rfl (hB rfl rfl rfl (hB rfl rfl rfl (hM rfl rfl (hM rfl rfl (hM rfl rfl .nil)))))) rfl)
    replace h := RG.f h hb31
    unfold M72_L3 at h
    refine rn 1 rfl ?_
    exact jX m30 h (gr [0, 1, 2, 3, 4, 5] rfl (hB rfl rfl rfl (hB rfl rfl rfl (hB rfl rfl rfl (hM rfl rfl (hM rfl rfl (hM rfl rfl .nil)))))) rfl)
  intro m26 h
  refine rn 5 rfl ?_
  refine ln rfl rfl ?_
  refine rn 2 rfl ?_
  refine jK h (fun (p : (List ((List UInt8) × Bool))) => (⟨[(2, (V.ptr 0 3 0 0)), (3, (V.ptr 1 3 0 0))], [(0, (Ob.arr 138 3 [[(V.con (.map none)), (V.con (.map none)), (V.con (.map none))]])), (1, (Ob.arr 138 3 [[(V.map 2), (V.map 3), (V.map 4)]])), (2, (Ob.map (m3.map encM9_388))), (3, (Ob.map (m26.map encM9_4))), (4, (Ob.map (p.map encM9_4)))], 5⟩ : St)) (fun k35 (p : (List ((List UInt8) × Bool))) => k35 p = some r) (fun k35 h => ?_) ?_
  · refine rn 1 rfl ?_
    refine wl (A := a1.Funcs) 56 rfl (fun hA44 => ?_)
    refine lC (fun (p : Int × (List ((List UInt8) × Bool))) => (⟨[(2, (V.ptr 0 3 0 0)), (3, (V.ptr 1 3 0 0)), (56, (V.lst 4 (a1.Funcs.map encTFunc))), (57, (iV ((a1.Funcs.length : Nat) : Int))), (58, (iV (p.1)))], [(0, (Ob.arr 138 3 [[(V.con (.map none)), (V.con (.map none)), (V.con (.map none))]])), (1, (Ob.arr 138 3 [[(V.map 2), (V.map 3), (V.map 4)]])), (2, (Ob.map (m3.map encM9_388))), (3, (Ob.map (m26.map encM9_4))), (4, (Ob.map ((p.2).map encM9_4)))], 5⟩ : St)) (fun n (p : Int × (List ((List UInt8) × Bool))) => RG a1.Funcs (fun tl nn => M72_L4 F k35 tl p.2 = some r) n p.1) (fun p h => RG.zero h) (a1.Funcs.length + 1) (0, ([] : List ((List UInt8) × Bool))) (RG.start h) (gr [1, 2, 3, 4, 5] rfl (hB rfl rfl rfl (hB rfl rfl rfl (hM rfl rfl (hM rfl rfl (hM rfl rfl .nil))))) rfl) (fun n p h => ?_)
    obtain ⟨n39, m40⟩ := p
    refine rn 5 rfl ?_
    refine spL rfl (fun hb41 => ?_) (fun hb41 => ?_)
    · obtain ⟨x42, tl, hx43, h, hk4⟩ := RG.t hA44 h hb41
      unfold M72_L4 at h
      refine rn 5 rfl ?_
      refine ixh hx43 rfl rfl ?_
      refine rn 9 rfl ?_
      refine aops_mapUpdate (es := m40.map encM9_4) ((mput m40 x42.Name true).map encM9_4) tMap89 tKey9 wants_none rfl rfl (.con rfl) ⟨_, rfl⟩ encM9_4_good rfl (encM9_4_puts m40 x42.Name true) ?_
      refine fo (rn 6 rfl ?_)
      exact jX ((w64 (n39 + 1)), (mput m40 x42.Name true)) (hk4 _ h) (gr [0, 1, 2, 3, 4] rfl (hB rfl rfl rfl (hB rfl rfl rfl (hM rfl rfl (hM rfl rfl (hM rfl rfl .nil))))) rfl)
    replace h := RG.f h hb41
    unfold M72_L4 at h
    refine rn 1 rfl ?_
    exact jX m40 h (gr [0, 1, 2, 3, 4] rfl (hB rfl rfl rfl (hB rfl rfl rfl (hM rfl rfl (hM rfl rfl (hM rfl rfl .nil))))) rfl)
  intro m36 h
  refine rn 5 rfl ?_
  refine awp_ghost (ghost_frzDMC 2 0 (m3.map encM9_89) (Ob.arr 138 3 [[(V.imap (m3.map encM9_89)), (V.map 3), (V.map 4)]]) rfl (by simp) (und_map encM9_388_und _) (ObSub.box (.cons Sub.frzM (.cons Sub.keepM (.cons Sub.keepM .nil))))) ?_
  refine awp_ghost (ghost_frzMC 3 0 (Ob.arr 138 3 [[(V.imap (m3.map encM9_89)), (V.imap (m26.map encM9_4)), (V.map 4)]]) rfl encM9_4_imm (ObSub.box (.cons Sub.keepM (.cons Sub.frzM (.cons Sub.keepM .nil))))) ?_
  refine awp_ghost (ghost_frzMC 4 0 (Ob.arr 138 3 [[(V.imap (m3.map encM9_89)), (V.imap (m26.map encM9_4)), (V.imap (m36.map encM9_4))]]) rfl encM9_4_imm (ObSub.box (.cons Sub.keepM (.cons Sub.keepM (.cons Sub.frzM .nil))))) ?_
  refine fa ?_
  exact rt h rfl
theorem W82 (F : Nat) (a1 : (List UInt8)) (r : Bool) (h : M82 F a1 = some r) : Pure Tryz.prog 82 [(sV a1)] (bV r) := by
  refine pin (fun r => (bV r)) r rfl Tryz.func82 rfl rfl rfl rfl rfl (fun w0 m0 hg => ?_)
  unfold M82 at h
  refine rn 9 rfl ?_
  refine jK h (fun _ : Unit => (⟨[(0, (sV a1))], [], 0⟩ : St)) (fun k2 (_ : Unit) => k2 = some r) (fun k2 h => ?_) ?_
  · refine rn 1 rfl ?_
    refine ck h (fun hA15 h => ?_)
    refine lC (fun (p : Int) => (⟨[(0, (sV a1)), (3, (iV p))], [], 0⟩ : St)) (fun n (p : Int) => RC (a1.length : Int) (fun tl nn => M82_L1 F a1 k2 tl nn = some r) n p) (fun p h => RC.zero h) (Int.toNat (a1.length : Int) + 1) 0 (RC.start h) (g0 rfl rfl) (fun n n4 h => ?_)
    refine rn 8 rfl ?_
    refine spL rfl (fun hb5 => ?_) (fun hb5 => ?_)
    · obtain ⟨tl, h, hk1⟩ := RC.t hA15 h hb5
      unfold M82_L1 at h
      refine rn 7 rfl ?_
      refine ixs h rfl rfl (fun c6 hx7 h => ?_)
      refine rn 2 rfl ?_
      refine spO 14 h rfl (fun hb8 h => ?_) (fun hb8 h => ?_)
      · refine rn 17 rfl ?_
        exact rt h rfl
      refine rn 2 rfl ?_
      refine ixs h rfl rfl (fun c9 hx10 h => ?_)
      refine rn 3 rfl ?_
      refine spO 20 h rfl (fun hb11 h => ?_) (fun hb11 h => ?_)
      · refine rn 11 rfl ?_
        exact rt h rfl
      refine rn 2 rfl ?_
      refine ixs h rfl rfl (fun c12 hx13 h => ?_)
      refine rn 3 rfl ?_
      refine spC h rfl (fun hb14 h => ?_) (fun hb14 h => ?_)
      · refine rn 4 rfl ?_
        exact rt h rfl
      refine rn 7 rfl ?_
      exact jX (w64 (n4 + 1)) (hk1 _ h) (g0 rfl rfl)
    replace h := RC.f h hb5
    unfold M82_L1 at h
    refine rn 1 rfl ?_
    exact jX () h (g0 rfl rfl)
  intro _ h
  refine rn 6 rfl ?_
  refine spO 29 h rfl (fun hb16 h => ?_) (fun hb16 h => ?_)
  · refine rn 6 rfl ?_
    exact rt h rfl
  refine rn 6 rfl ?_
  exact rt h rfl
theorem W139 (F : Nat) (a1 : (List (List UInt8))) (a2 : Int) (r : Int) (h : M139 F a1 a2 = some r) : Pure Tryz.prog 139 [(V.lst 1 (a1.map encS)), (iV a2)] (iV r) := by
  refine pin (fun r => (iV r)) r rfl Tryz.func139 rfl rfl rfl rfl rfl (fun w0 m0 hg => ?_)
  unfold M139 at h
  refine rn 6 rfl ?_
  refine bs h (fun hb3 h => ?_) (fun hb3 h => ?_)
  · obtain ⟨x4, hx5, h⟩ := bind_some h
    obtain ⟨x6, hx7, h⟩ := bind_some h
    refine dr mixed (vs 2 rfl (vb hb3 rfl (vs 2 rfl (iD hx5 rfl rfl rfl (vs 4 rfl (iD hx7 rfl rfl rfl (vs 3 rfl .nil))))))) (by kernel_rfl) ?_
    refine spC h rfl (fun hb8 h => ?_) (fun hb8 h => ?_)
    · refine rn 4 rfl ?_
      exact rt h rfl
    refine rn 5 rfl ?_
    exact rt h rfl
  refine dr mixed (vs 2 rfl (vb hb3 rfl (vs 11 rfl .nil))) (by kernel_rfl) ?_
  refine rn 6 rfl ?_
  exact rt h rfl
theorem W136 (F : Nat) (a1 : Tprovenderref6_checker) (r : Int) (h : M136 F a1 = some r) : Pure Tryz.prog 136 [(V.agg (encTprovenderref6_checker a1))] (iV r) := by
  refine pin (fun r => (iV r)) r rfl Tryz.func136 rfl rfl rfl rfl rfl (fun w0 m0 hg => ?_)
  unfold M136 at h
  refine rn 15 rfl ?_
  refine ln rfl rfl ?_
  refine rn 2 rfl ?_
  refine jK h (fun _ : Unit => (⟨[], [], 0⟩ : St)) (fun k2 (_ : Unit) => k2 = some r) (fun k2 h => ?_) ?_
  · refine rn 1 rfl ?_
    refine wl (A := a1.g.Ifaces) 11 rfl (fun hA31 => ?_)
    refine lC (fun (p : (List UInt8) × Int) => (⟨[(3, (sV (p.1))), (11, (V.lst 2 (a1.g.Ifaces.map encTIface))), (12, (iV ((a1.g.Ifaces.length : Nat) : Int))), (13, (iV (p.2)))], [], 0⟩ : St)) (fun n (p : (List UInt8) × Int) => RG a1.g.Ifaces (fun tl nn => M136_L1 F k2 tl p.1 = some r) n p.2) (fun p h => RG.zero h) (a1.g.Ifaces.length + 1) (([] : List UInt8), 0) (RG.start h) (g0 rfl rfl) (fun n p h => ?_)
    obtain ⟨s5, n6⟩ := p
    refine rn 5 rfl ?_
    refine spL rfl (fun hb7 => ?_) (fun hb7 => ?_)
    · obtain ⟨x10, tl, hx11, h, hk1⟩ := RG.t hA31 h hb7
      unfold M136_L1 at h
      refine rn 2 rfl ?_
      refine jK h (fun (p : (List UInt8)) => (⟨[(3, (sV p)), (11, (V.lst 2 (a1.g.Ifaces.map encTIface))), (12, (iV ((a1.g.Ifaces.length : Nat) : Int))), (13, (iV n6))], [], 0⟩ : St)) (fun k8 (p : (List UInt8)) => k8 p = some r) (fun k8 h => ?_) ?_
      · refine rn 3 rfl ?_
        refine ixh hx11 rfl rfl ?_
        refine rn 10 rfl ?_
        refine cl h rfl rfl rfl (W82 _ _) rfl (fun y12 hx13 h => ?_)
        refine rn 3 rfl ?_
        refine spC h rfl (fun hb14 h => ?_) (fun hb14 h => ?_)
        · refine rn 4 rfl ?_
          exact rt h rfl
        refine rn 8 rfl ?_
        refine spC h rfl (fun hb15 h => ?_) (fun hb15 h => ?_)
        · refine rn 4 rfl ?_
          exact rt h rfl
        refine rn 4 rfl ?_
        refine ln rfl rfl ?_
        refine rn 3 rfl ?_
        refine spC h rfl (fun hb16 h => ?_) (fun hb16 h => ?_)
        · refine rn 4 rfl ?_
          exact rt h rfl
        refine rn 4 rfl ?_
        refine ln rfl rfl ?_
        refine rn 3 rfl ?_
        refine spC h rfl (fun hb17 h => ?_) (fun hb17 h => ?_)
        · refine rn 4 rfl ?_
          exact rt h rfl
        refine rn 12 rfl ?_
        refine ln rfl rfl ?_
        refine rn 2 rfl ?_
        refine jK h (fun _ : Unit => (⟨[(3, (sV x10.Name)), (11, (V.lst 2 (a1.g.Ifaces.map encTIface))), (12, (iV ((a1.g.Ifaces.length : Nat) : Int))), (13, (iV n6))], [], 0⟩ : St)) (fun k18 (_ : Unit) => k18 = some r) (fun k18 h => ?_) ?_
        · refine rn 1 rfl ?_
          refine wl (A := x10.Methods) 29 rfl (fun hA30 => ?_)
          refine lC (fun (p : Int) => (⟨[(3, (sV x10.Name)), (5, (V.ptr 0 2 0 0)), (11, (V.lst 2 (a1.g.Ifaces.map encTIface))), (12, (iV ((a1.g.Ifaces.length : Nat) : Int))), (13, (iV n6)), (40, (V.lst 1 (x10.Methods.map encS))), (41, (iV ((x10.Methods.length : Nat) : Int))), (42, (iV p))], [(0, (Ob.arr 98 2 [(encTIface x10)]))], 1⟩ : St)) (fun n (p : Int) => RG x10.Methods (fun tl nn => M136_L2 F x10 k18 tl nn = some r) n p) (fun p h => RG.zero h) (x10.Methods.length + 1) 0 (RG.start h) (gr [0] rfl (hB rfl rfl rfl .nil) rfl) (fun n n20 h => ?_)
          refine rn 5 rfl ?_
          refine spL rfl (fun hb21 => ?_) (fun hb21 => ?_)
          · obtain ⟨x22, tl, hx23, h, hk2⟩ := RG.t hA30 h hb21
            unfold M136_L2 at h
            refine rn 6 rfl ?_
            refine ixh hx23 rfl rfl ?_
            refine rn 8 rfl ?_
            refine cl h rfl rfl rfl (W82 _ _) rfl (fun y24 hx25 h => ?_)
            refine rn 2 rfl ?_
            refine spC h rfl (fun hb26 h => ?_) (fun hb26 h => ?_)
            · refine rn 4 rfl ?_
              exact rt h rfl
            refine rn 6 rfl ?_
            refine cl h rfl rfl rfl (W139 _ _ _) rfl (fun y27 hx28 h => ?_)
            refine rn 7 rfl ?_
            refine spC h rfl (fun hb29 h => ?_) (fun hb29 h => ?_)
            · refine rn 5 rfl ?_
              exact rt h rfl
            refine rn 6 rfl ?_
            exact jX (w64 (n20 + 1)) (hk2 _ h) (gr [0] rfl (hB rfl rfl rfl .nil) rfl)
          replace h := RG.f h hb21
          unfold M136_L2 at h
          refine rn 1 rfl ?_
          exact jX () h (g0 rfl rfl)
        intro _ h
        refine rn 1 rfl ?_
        exact jX x10.Name h (g0 rfl rfl)
      intro s9 h
      refine rn 4 rfl ?_
      exact jX (s9, (w64 (n6 + 1))) (hk1 _ h) (g0 rfl rfl)
    replace h := RG.f h hb7
    unfold M136_L1 at h
    refine rn 1 rfl ?_
    exact jX () h (g0 rfl rfl)
  intro _ h
  refine rn 4 rfl ?_
  exact rt h rfl
theorem W137 (F : Nat) (a1 : Tprovenderref6_checker) (r : Int) (h : M137 F a1 = some r) : Pure Tryz.prog 137 [(V.agg (encTprovenderref6_checker a1))] (iV r) := by
  refine pin (fun r => (iV r)) r rfl Tryz.func137 rfl rfl rfl rfl rfl (fun w0 m0 hg => ?_)
  unfold M137 at h
  refine rn 15 rfl ?_
  refine ln rfl rfl ?_
  refine rn 2 rfl ?_
  refine jK h (fun _ : Unit => (⟨[], [], 0⟩ : St)) (fun k2 (_ : Unit) => k2 = some r) (fun k2 h => ?_) ?_
  · refine rn 1 rfl ?_
    refine wl (A := a1.g.Types) 11 rfl (fun hA33 => ?_)
    refine lC (fun (p : (List UInt8) × Int) => (⟨[(1, (V.ptr 0 8 0 0)), (3, (sV (p.1))), (11, (V.lst 2 (a1.g.Types.map encTType))), (12, (iV ((a1.g.Types.length : Nat) : Int))), (13, (iV (p.2)))], [(0, (Ob.arr 141 8 [(encTprovenderref6_checker a1)]))], 1⟩ : St)) (fun n (p : (List UInt8) × Int) => RG a1.g.Types (fun tl nn => M137_L1 F a1 k2 tl p.1 = some r) n p.2) (fun p h => RG.zero h) (a1.g.Types.length + 1) (([] : List UInt8), 0) (RG.start h) (gr [0] rfl (hB rfl rfl rfl .nil) rfl) (fun n p h => ?_)
    obtain ⟨s5, n6⟩ := p
    refine rn 5 rfl ?_
    refine spL rfl (fun hb7 => ?_) (fun hb7 => ?_)
    · obtain ⟨x10, tl, hx11, h, hk1⟩ := RG.t hA33 h hb7
      unfold M137_L1 at h
      refine rn 2 rfl ?_
      refine jK h (fun (p : (List UInt8)) => (⟨[(1, (V.ptr 0 8 0 0)), (3, (sV p)), (11, (V.lst 2 (a1.g.Types.map encTType))), (12, (iV ((a1.g.Types.length : Nat) : Int))), (13, (iV n6))], [(0, (Ob.arr 141 8 [(encTprovenderref6_checker a1)]))], 1⟩ : St)) (fun k8 (p : (List UInt8)) => k8 p = some r) (fun k8 h => ?_) ?_
      · refine rn 3 rfl ?_
        refine ixh hx11 rfl rfl ?_
        refine rn 10 rfl ?_
        refine cl h rfl rfl rfl (W82 _ _) rfl (fun y12 hx13 h => ?_)
        refine rn 3 rfl ?_
        refine spC h rfl (fun hb14 h => ?_) (fun hb14 h => ?_)
        · refine rn 4 rfl ?_
          exact rt h rfl
        refine rn 8 rfl ?_
        refine spC h rfl (fun hb15 h => ?_) (fun hb15 h => ?_)
        · refine rn 4 rfl ?_
          exact rt h rfl
        refine rn 4 rfl ?_
        refine ln rfl rfl ?_
        refine rn 3 rfl ?_
        refine spC h rfl (fun hb16 h => ?_) (fun hb16 h => ?_)
        · refine rn 4 rfl ?_
          exact rt h rfl
        refine rn 16 rfl ?_
        refine ln rfl rfl ?_
        refine rn 2 rfl ?_
        refine jK h (fun _ : Unit => (⟨[(1, (V.ptr 0 8 0 0)), (3, (sV x10.Name)), (11, (V.lst 2 (a1.g.Types.map encTType))), (12, (iV ((a1.g.Types.length : Nat) : Int))), (13, (iV n6))], [(0, (Ob.arr 141 8 [(encTprovenderref6_checker a1)]))], 1⟩ : St)) (fun k17 (_ : Unit) => k17 = some r) (fun k17 h => ?_) ?_
        · refine rn 1 rfl ?_
          refine wl (A := x10.Methods) 29 rfl (fun hA32 => ?_)
          refine lC (fun (p : (List UInt8) × Int) => (⟨[(1, (V.ptr 0 8 0 0)), (3, (sV x10.Name)), (6, (sV (p.1))), (11, (V.lst 2 (a1.g.Types.map encTType))), (12, (iV ((a1.g.Types.length : Nat) : Int))), (13, (iV n6)), (35, (V.lst 2 (x10.Methods.map encTMethod))), (36, (iV ((x10.Methods.length : Nat) : Int))), (37, (iV (p.2)))], [(0, (Ob.arr 141 8 [(encTprovenderref6_checker a1)]))], 1⟩ : St)) (fun n (p : (List UInt8) × Int) => RG x10.Methods (fun tl nn => M137_L2 F a1 k17 tl p.1 = some r) n p.2) (fun p h => RG.zero h) (x10.Methods.length + 1) (([] : List UInt8), 0) (RG.start h) (gr [0] rfl (hB rfl rfl rfl .nil) rfl) (fun n p h => ?_)
          obtain ⟨s20, n21⟩ := p
          refine rn 5 rfl ?_
          refine spL rfl (fun hb22 => ?_) (fun hb22 => ?_)
          · obtain ⟨x23, tl, hx24, h, hk2⟩ := RG.t hA32 h hb22
            unfold M137_L2 at h
            refine rn 5 rfl ?_
            refine ixh hx24 rfl rfl ?_
            refine rn 10 rfl ?_
            refine cl h rfl rfl rfl (W82 _ _) rfl (fun y25 hx26 h => ?_)
            refine rn 3 rfl ?_
            refine jK h (fun _ : Unit => (⟨[(1, (V.ptr 0 8 0 0)), (3, (sV x10.Name)), (8, (V.ptr 1 2 0 0)), (11, (V.lst 2 (a1.g.Types.map encTType))), (12, (iV ((a1.g.Types.length : Nat) : Int))), (13, (iV n6)), (35, (V.lst 2 (x10.Methods.map encTMethod))), (36, (iV ((x10.Methods.length : Nat) : Int))), (37, (iV n21))], [(0, (Ob.arr 141 8 [(encTprovenderref6_checker a1)])), (1, (Ob.arr 116 2 [(encTMethod x23)]))], 2⟩ : St)) (fun k27 (_ : Unit) => k27 = some r) (fun k27 h => ?_) ?_
            · refine spC h rfl (fun hb28 h => ?_) (fun hb28 h => ?_)
              · refine rn 4 rfl ?_
                exact rt h rfl
              refine rn 8 rfl ?_
              refine spC h rfl (fun hb29 h => ?_) (fun hb29 h => ?_)
              · refine rn 4 rfl ?_
                exact rt h rfl
              refine rn 6 rfl ?_
              refine spO 55 h rfl (fun hb30 h => ?_) (fun hb30 h => ?_)
              · refine rn 5 rfl ?_
                refine aops_lookup _ (bV false) (bV ((mget a1.n.funcs x23.Func).getD false)) tMap89 tKey9 tZo4 (irel_con _) (wants_some (c := true) (b := true) 55 rfl rfl rfl) rfl .imm (.con rfl) ⟨_, rfl⟩ encM9_4_good (encM9_4_look a1.n.funcs x23.Func) (getD_map (encM9_4_val) (mget a1.n.funcs x23.Func) false) rfl ?_
                refine fo (rn 4 rfl ?_)
                refine spC h rfl (fun hb31 h => ?_) (fun hb31 h => ?_)
                · refine rn 4 rfl ?_
                  exact rt h rfl
                refine rn 1 rfl ?_
                exact jX () h (gr [0, 1] rfl (hB rfl rfl rfl (hB rfl rfl rfl .nil)) rfl)
              refine rn 12 rfl ?_
              exact jX () h (gr [0, 1] rfl (hB rfl rfl rfl (hB rfl rfl rfl .nil)) rfl)
            intro _ h
            refine rn 11 rfl ?_
            exact jX (x23.Name, (w64 (n21 + 1))) (hk2 _ h) (gr [0] rfl (hB rfl rfl rfl .nil) rfl)
          replace h := RG.f h hb22
          unfold M137_L2 at h
          refine rn 1 rfl ?_
          exact jX () h (gr [0] rfl (hB rfl rfl rfl .nil) rfl)
        intro _ h
        refine rn 1 rfl ?_
        exact jX x10.Name h (gr [0] rfl (hB rfl rfl rfl .nil) rfl)
      intro s9 h
      refine rn 4 rfl ?_
      exact jX (s9, (w64 (n6 + 1))) (hk1 _ h) (gr [0] rfl (hB rfl rfl rfl .nil) rfl)
    replace h := RG.f h hb7
    unfold M137_L1 at h
    refine rn 1 rfl ?_
    exact jX () h (g0 rfl rfl)
  intro _ h
  refine rn 4 rfl ?_
  exact rt h rfl
theorem W187 (F : Nat) (a1 : Tprovenderref6_checker) (a2 : TCall) (r : Int) (h : M187 F a1 a2 = some r) : Pure Tryz.prog 187 [(V.agg (encTprovenderref6_checker a1)), (V.agg (encTCall a2))] (iV r) := by
  refine pin (fun r => (iV r)) r rfl Tryz.func187 rfl rfl rfl rfl rfl (fun w0 m0 hg => ?_)
  unfold M187 at h
  refine rn 18 rfl ?_
  refine jK h (fun _ : Unit => (⟨[(3, (V.ptr 0 4 0 0))], [(0, (Ob.arr 109 4 [(encTCall a2)]))], 1⟩ : St)) (fun k3 (_ : Unit) => k3 = some r) (fun k3 h => ?_) ?_
  · refine spC h rfl (fun hb4 h => ?_) (fun hb4 h => ?_)
    · refine rn 7 rfl ?_
      refine spO 14 h rfl (fun hb5 h => ?_) (fun hb5 h => ?_)
      · refine rn 5 rfl ?_
        refine aops_lookup _ (bV false) (bV ((mget a1.n.funcs a2.Target).getD false)) tMap89 tKey9 tZo4 (irel_con _) (wants_some (c := true) (b := true) 14 rfl rfl rfl) rfl .imm (.con rfl) ⟨_, rfl⟩ encM9_4_good (encM9_4_look a1.n.funcs a2.Target) (getD_map (encM9_4_val) (mget a1.n.funcs a2.Target) false) rfl ?_
        refine fo (rn 3 rfl ?_)
        refine spC h rfl (fun hb6 h => ?_) (fun hb6 h => ?_)
        · refine rn 4 rfl ?_
          exact rt h rfl
        refine rn 7 rfl ?_
        refine spC h rfl (fun hb7 h => ?_) (fun hb7 h => ?_)
        · refine rn 4 rfl ?_
          exact rt h rfl
        refine rn 1 rfl ?_
        exact jX () h (gr [1] rfl (hB rfl rfl rfl .nil) rfl)
      refine rn 17 rfl ?_
      refine spC h rfl (fun hb8 h => ?_) (fun hb8 h => ?_)
      · refine rn 4 rfl ?_
        exact rt h rfl
      refine rn 1 rfl ?_
      exact jX () h (gr [1] rfl (hB rfl rfl rfl .nil) rfl)
    refine rn 5 rfl ?_
    refine spC h rfl (fun hb9 h => ?_) (fun hb9 h => ?_)
    · refine rn 7 rfl ?_
      refine bs h (fun hb10 h => ?_) (fun hb10 h => ?_)
      · refine aops_lookup_okB _ (V.con (.map none)) (V.imap (((mget a1.n.ifaces a2.Target).getD []).map encM9_4)) tMap136 tKey9 tZo89 (irel_con _) wants_none rfl .imm (.con rfl) ⟨_, rfl⟩ encM9_89_good (encM9_89_look a1.n.ifaces a2.Target) (getD_mapT (y := []) hb10) (isSomeT hb10) rfl ?_
        refine fo (rn 12 rfl ?_)
        refine spO 40 h rfl (fun hb11 h => ?_) (fun hb11 h => ?_)
        · refine rn 6 rfl ?_
          refine aops_lookup _ (bV false) (bV ((mget ((mget a1.n.ifaces a2.Target).getD []) a2.Method).getD false)) tMap89 tKey9 tZo4 (irel_con _) (wants_some (c := false) (b := false) 43 rfl rfl rfl) rfl .imm (.con rfl) ⟨_, rfl⟩ encM9_4_good (encM9_4_look ((mget a1.n.ifaces a2.Target).getD []) a2.Method) (getD_map (encM9_4_val) (mget ((mget a1.n.ifaces a2.Target).getD []) a2.Method) false) rfl ?_
          refine fo (rn 4 rfl ?_)
          refine spC h rfl (fun hb12 h => ?_) (fun hb12 h => ?_)
          · refine rn 4 rfl ?_
            exact rt h rfl
          refine rn 1 rfl ?_
          exact jX () h (gr [1] rfl (hB rfl rfl rfl .nil) rfl)
        refine rn 13 rfl ?_
        exact jX () h (gr [1] rfl (hB rfl rfl rfl .nil) rfl)
      refine aops_lookup_okB _ (V.con (.map none)) (V.con (.map none)) tMap136 tKey9 tZo89 (irel_con _) wants_none rfl .imm (.con rfl) ⟨_, rfl⟩ encM9_89_good (encM9_89_look a1.n.ifaces a2.Target) (getD_mapF hb10) (isSomeT hb10) rfl ?_
      refine fo (rn 12 rfl ?_)
      refine spO 40 h rfl (fun hb13 h => ?_) (fun hb13 h => ?_)
      · refine rn 16 rfl ?_
        exact rt h rfl
      refine rn 13 rfl ?_
      exact jX () h (gr [1] rfl (hB rfl rfl rfl .nil) rfl)
    refine rn 4 rfl ?_
    exact rt h rfl
  intro _ h
  refine rn 8 rfl ?_
  refine spO 54 h rfl (fun hb14 h => ?_) (fun hb14 h => ?_)
  · refine rn 2 rfl ?_
    refine cl h rfl rfl rfl (W82 _ _) rfl (fun y15 hx16 h => ?_)
    refine rn 3 rfl ?_
    refine spC h rfl (fun hb17 h => ?_) (fun hb17 h => ?_)
    · refine rn 4 rfl ?_
      exact rt h rfl
    refine rn 5 rfl ?_
    exact rt h rfl
  refine rn 12 rfl ?_
  exact rt h rfl
theorem W138 (F : Nat) (a1 : Tprovenderref6_checker) (r : Int) (h : M138 F a1 = some r) : Pure Tryz.prog 138 [(V.agg (encTprovenderref6_checker a1))] (iV r) := by
  refine pin (fun r => (iV r)) r rfl Tryz.func138 rfl rfl rfl rfl rfl (fun w0 m0 hg => ?_)
  unfold M138 at h
  refine rn 15 rfl ?_
  refine ln rfl rfl ?_
  refine rn 2 rfl ?_
  refine jK h (fun _ : Unit => (⟨[], [], 0⟩ : St)) (fun k2 (_ : Unit) => k2 = some r) (fun k2 h => ?_) ?_
  · refine rn 1 rfl ?_
    refine wl (A := a1.g.Funcs) 14 rfl (fun hA46 => ?_)
    refine lC (fun (p : (List UInt8) × Int) => (⟨[(1, (V.ptr 0 8 0 0)), (3, (sV (p.1))), (14, (V.lst 4 (a1.g.Funcs.map encTFunc))), (15, (iV ((a1.g.Funcs.length : Nat) : Int))), (16, (iV (p.2)))], [(0, (Ob.arr 141 8 [(encTprovenderref6_checker a1)]))], 1⟩ : St)) (fun n (p : (List UInt8) × Int) => RG a1.g.Funcs (fun tl nn => M138_L1 F a1 k2 tl p.1 = some r) n p.2) (fun p h => RG.zero h) (a1.g.Funcs.length + 1) (([] : List UInt8), 0) (RG.start h) (gr [0] rfl (hB rfl rfl rfl .nil) rfl) (fun n p h => ?_)
    obtain ⟨s5, n6⟩ := p
    refine rn 5 rfl ?_
    refine spL rfl (fun hb7 => ?_) (fun hb7 => ?_)
    · obtain ⟨x10, tl, hx11, h, hk1⟩ := RG.t hA46 h hb7
      unfold M138_L1 at h
      refine rn 2 rfl ?_
      refine jK h (fun (p : (List UInt8)) => (⟨[(1, (V.ptr 0 8 0 0)), (3, (sV p)), (14, (V.lst 4 (a1.g.Funcs.map encTFunc))), (15, (iV ((a1.g.Funcs.length : Nat) : Int))), (16, (iV n6))], [(0, (Ob.arr 141 8 [(encTprovenderref6_checker a1)]))], 1⟩ : St)) (fun k8 (p : (List UInt8)) => k8 p = some r) (fun k8 h => ?_) ?_
      · refine rn 3 rfl ?_
        refine ixh hx11 rfl rfl ?_
        refine rn 10 rfl ?_
        refine cl h rfl rfl rfl (W82 _ _) rfl (fun y12 hx13 h => ?_)
        refine rn 3 rfl ?_
        refine spC h rfl (fun hb14 h => ?_) (fun hb14 h => ?_)
        · refine rn 4 rfl ?_
          exact rt h rfl
        refine rn 8 rfl ?_
        refine spC h rfl (fun hb15 h => ?_) (fun hb15 h => ?_)
        · refine rn 4 rfl ?_
          exact rt h rfl
        refine rn 4 rfl ?_
        refine cl h rfl rfl rfl (W82 _ _) rfl (fun y16 hx17 h => ?_)
        refine rn 3 rfl ?_
        refine spC h rfl (fun hb18 h => ?_) (fun hb18 h => ?_)
        · refine rn 4 rfl ?_
          exact rt h rfl
        refine rn 4 rfl ?_
        refine ln rfl rfl ?_
        refine rn 3 rfl ?_
        refine spC h rfl (fun hb19 h => ?_) (fun hb19 h => ?_)
        · refine rn 4 rfl ?_
          exact rt h rfl
        refine rn 13 rfl ?_
        refine ln rfl rfl ?_
        refine rn 2 rfl ?_
        refine jK h (fun _ : Unit => (⟨[(1, (V.ptr 0 8 0 0)), (3, (sV x10.Name)), (5, (V.ptr 1 4 0 0)), (14, (V.lst 4 (a1.g.Funcs.map encTFunc))), (15, (iV ((a1.g.Funcs.length : Nat) : Int))), (16, (iV n6))], [(0, (Ob.arr 141 8 [(encTprovenderref6_checker a1)])), (1, (Ob.arr 94 4 [(encTFunc x10)]))], 2⟩ : St)) (fun k20 (_ : Unit) => k20 = some r) (fun k20 h => ?_) ?_
        · refine rn 1 rfl ?_
          refine wl (A := x10.Calls) 37 rfl (fun hA29 => ?_)
          refine lC (fun (p : Int) => (⟨[(1, (V.ptr 0 8 0 0)), (3, (sV x10.Name)), (5, (V.ptr 1 4 0 0)), (14, (V.lst 4 (a1.g.Funcs.map encTFunc))), (15, (iV ((a1.g.Funcs.length : Nat) : Int))), (16, (iV n6)), (43, (V.lst 4 (x10.Calls.map encTCall))), (44, (iV ((x10.Calls.length : Nat) : Int))), (45, (iV p))], [(0, (Ob.arr 141 8 [(encTprovenderref6_checker a1)])), (1, (Ob.arr 94 4 [(encTFunc x10)]))], 2⟩ : St)) (fun n (p : Int) => RG x10.Calls (fun tl nn => M138_L2 F a1 k20 tl = some r) n p) (fun p h => RG.zero h) (x10.Calls.length + 1) 0 (RG.start h) (gr [0, 1] rfl (hB rfl rfl rfl (hB rfl rfl rfl .nil)) rfl) (fun n n22 h => ?_)
          refine rn 5 rfl ?_
          refine spL rfl (fun hb23 => ?_) (fun hb23 => ?_)
          · obtain ⟨x24, tl, hx25, h, hk2⟩ := RG.t hA29 h hb23
            unfold M138_L2 at h
            refine rn 5 rfl ?_
            refine ixh hx25 rfl rfl ?_
            refine rn 8 rfl ?_
            refine cl h rfl rfl rfl (W187 _ _ _) rfl (fun y26 hx27 h => ?_)
            refine rn 7 rfl ?_
            refine spC h rfl (fun hb28 h => ?_) (fun hb28 h => ?_)
            · refine rn 5 rfl ?_
              exact rt h rfl
            refine rn 6 rfl ?_
            exact jX (w64 (n22 + 1)) (hk2 _ h) (gr [0, 1] rfl (hB rfl rfl rfl (hB rfl rfl rfl .nil)) rfl)
          replace h := RG.f h hb23
          unfold M138_L2 at h
          refine rn 1 rfl ?_
          exact jX () h (gr [0, 1] rfl (hB rfl rfl rfl (hB rfl rfl rfl .nil)) rfl)
        intro _ h
        refine rn 4 rfl ?_
        refine ln rfl rfl ?_
        refine rn 2 rfl ?_
        refine jK h (fun _ : Unit => (⟨[(1, (V.ptr 0 8 0 0)), (3, (sV x10.Name)), (14, (V.lst 4 (a1.g.Funcs.map encTFunc))), (15, (iV ((a1.g.Funcs.length : Nat) : Int))), (16, (iV n6))], [(0, (Ob.arr 141 8 [(encTprovenderref6_checker a1)]))], 1⟩ : St)) (fun k30 (_ : Unit) => k30 = some r) (fun k30 h => ?_) ?_
        · refine rn 1 rfl ?_
          refine wl (A := x10.Makes) 57 rfl (fun hA45 => ?_)
          refine lC (fun (p : Int) => (⟨[(1, (V.ptr 0 8 0 0)), (3, (sV x10.Name)), (5, (V.ptr 1 4 0 0)), (14, (V.lst 4 (a1.g.Funcs.map encTFunc))), (15, (iV ((a1.g.Funcs.length : Nat) : Int))), (16, (iV n6)), (57, (V.lst 1 (x10.Makes.map encS))), (58, (iV ((x10.Makes.length : Nat) : Int))), (59, (iV p))], [(0, (Ob.arr 141 8 [(encTprovenderref6_checker a1)])), (1, (Ob.arr 94 4 [(encTFunc x10)]))], 2⟩ : St)) (fun n (p : Int) => RG x10.Makes (fun tl nn => M138_L3 F a1 x10 k30 tl nn = some r) n p) (fun p h => RG.zero h) (x10.Makes.length + 1) 0 (RG.start h) (gr [0, 1] rfl (hB rfl rfl rfl (hB rfl rfl rfl .nil)) rfl) (fun n n32 h => ?_)
          refine rn 5 rfl ?_
          refine spL rfl (fun hb33 => ?_) (fun hb33 => ?_)
          · obtain ⟨x35, tl, hx36, h, hk3⟩ := RG.t hA45 h hb33
            unfold M138_L3 at h
            refine rn 2 rfl ?_
            refine jK h (fun _ : Unit => (⟨[(1, (V.ptr 0 8 0 0)), (3, (sV x10.Name)), (5, (V.ptr 1 4 0 0)), (14, (V.lst 4 (a1.g.Funcs.map encTFunc))), (15, (iV ((a1.g.Funcs.length : Nat) : Int))), (16, (iV n6)), (57, (V.lst 1 (x10.Makes.map encS))), (58, (iV ((x10.Makes.length : Nat) : Int))), (59, (iV n32))], [(0, (Ob.arr 141 8 [(encTprovenderref6_checker a1)])), (1, (Ob.arr 94 4 [(encTFunc x10)]))], 2⟩ : St)) (fun k34 (_ : Unit) => k34 = some r) (fun k34 h => ?_) ?_
            · refine rn 4 rfl ?_
              refine ixh hx36 rfl rfl ?_
              refine rn 11 rfl ?_
              refine spO 67 h rfl (fun hb37 h => ?_) (fun hb37 h => ?_)
              · refine rn 4 rfl ?_
                refine aops_lookup _ (bV false) (bV ((mget a1.n.types x35).getD false)) tMap89 tKey9 tZo4 (irel_con _) (wants_some (c := true) (b := true) 67 rfl rfl rfl) rfl .imm (.con rfl) ⟨_, rfl⟩ encM9_4_good (encM9_4_look a1.n.types x35) (getD_map (encM9_4_val) (mget a1.n.types x35) false) rfl ?_
                refine fo (rn 3 rfl ?_)
                refine spC h rfl (fun hb38 h => ?_) (fun hb38 h => ?_)
                · refine rn 4 rfl ?_
                  exact rt h rfl
                refine rn 6 rfl ?_
                refine cl h rfl rfl rfl (W139 _ _ _) rfl (fun y39 hx40 h => ?_)
                refine rn 7 rfl ?_
                refine spC h rfl (fun hb41 h => ?_) (fun hb41 h => ?_)
                · refine rn 5 rfl ?_
                  exact rt h rfl
                refine rn 2 rfl ?_
                exact jX () h (gr [0, 1] rfl (hB rfl rfl rfl (hB rfl rfl rfl .nil)) rfl)
              refine rn 15 rfl ?_
              refine cl h rfl rfl rfl (W139 _ _ _) rfl (fun y42 hx43 h => ?_)
              refine rn 7 rfl ?_
              refine spC h rfl (fun hb44 h => ?_) (fun hb44 h => ?_)
              · refine rn 5 rfl ?_
                exact rt h rfl
              refine rn 2 rfl ?_
              exact jX () h (gr [0, 1] rfl (hB rfl rfl rfl (hB rfl rfl rfl .nil)) rfl)
            intro _ h
            refine rn 4 rfl ?_
            exact jX (w64 (n32 + 1)) (hk3 _ h) (gr [0, 1] rfl (hB rfl rfl rfl (hB rfl rfl rfl .nil)) rfl)
          replace h := RG.f h hb33
          unfold M138_L3 at h
          refine rn 1 rfl ?_
          exact jX () h (gr [0] rfl (hB rfl rfl rfl .nil) rfl)
        intro _ h
        refine rn 1 rfl ?_
        exact jX x10.Name h (gr [0] rfl (hB rfl rfl rfl .nil) rfl)
      intro s9 h
      refine rn 4 rfl ?_
      exact jX (s9, (w64 (n6 + 1))) (hk1 _ h) (gr [0] rfl (hB rfl rfl rfl .nil) rfl)
    replace h := RG.f h hb7
    unfold M138_L1 at h
    refine rn 1 rfl ?_
    exact jX () h (g0 rfl rfl)
  intro _ h
  refine rn 4 rfl ?_
  exact rt h rfl
theorem W73 (F : Nat) (a1 : Tprovenderref6_checker) (r : Int) (h : M73 F a1 = some r) : Pure Tryz.prog 73 [(V.agg (encTprovenderref6_checker a1))] (iV r) := by
  refine pin (fun r => (iV r)) r rfl Tryz.func73 rfl rfl rfl rfl rfl (fun w0 m0 hg => ?_)
  unfold M73 at h
  refine rn 11 rfl ?_
  refine ln rfl rfl ?_
  refine rn 2 rfl ?_
  refine spO 14 h rfl (fun hb2 h => ?_) (fun hb2 h => ?_)
  · refine rn 19 rfl ?_
    exact rt h rfl
  refine rn 3 rfl ?_
  refine ln rfl rfl ?_
  refine rn 3 rfl ?_
  refine spO 21 h rfl (fun hb3 h => ?_) (fun hb3 h => ?_)
  · refine rn 12 rfl ?_
    exact rt h rfl
  refine rn 3 rfl ?_
  refine ln rfl rfl ?_
  refine rn 3 rfl ?_
  refine spC h rfl (fun hb4 h => ?_) (fun hb4 h => ?_)
  · refine rn 4 rfl ?_
    exact rt h rfl
  refine rn 5 rfl ?_
  refine cl h rfl rfl rfl (W136 _ _) rfl (fun y5 hx6 h => ?_)
  refine rn 7 rfl ?_
  refine spC h rfl (fun hb7 h => ?_) (fun hb7 h => ?_)
  · refine rn 5 rfl ?_
    exact rt h rfl
  refine rn 5 rfl ?_
  refine cl h rfl rfl rfl (W137 _ _) rfl (fun y8 hx9 h => ?_)
  refine rn 7 rfl ?_
  refine spC h rfl (fun hb10 h => ?_) (fun hb10 h => ?_)
  · refine rn 5 rfl ?_
    exact rt h rfl
  refine rn 5 rfl ?_
  refine cl h rfl rfl rfl (W138 _ _) rfl (fun y11 hx12 h => ?_)
  refine rn 7 rfl ?_
  refine spC h rfl (fun hb13 h => ?_) (fun hb13 h => ?_)
  · refine rn 5 rfl ?_
    exact rt h rfl
  refine rn 7 rfl ?_
  refine ln rfl rfl ?_
  refine rn 2 rfl ?_
  refine jK h (fun _ : Unit => (⟨[], [], 0⟩ : St)) (fun k14 (_ : Unit) => k14 = some r) (fun k14 h => ?_) ?_
  · refine rn 1 rfl ?_
    refine wl (A := a1.g.Entries) 45 rfl (fun hA29 => ?_)
    refine lC (fun (p : Int) => (⟨[(1, (V.ptr 0 8 0 0)), (45, (V.lst 1 (a1.g.Entries.map encS))), (46, (iV ((a1.g.Entries.length : Nat) : Int))), (47, (iV p))], [(0, (Ob.arr 141 8 [(encTprovenderref6_checker a1)]))], 1⟩ : St)) (fun n (p : Int) => RG a1.g.Entries (fun tl nn => M73_L1 F a1 k14 tl nn = some r) n p) (fun p h => RG.zero h) (a1.g.Entries.length + 1) 0 (RG.start h) (gr [0] rfl (hB rfl rfl rfl .nil) rfl) (fun n n16 h => ?_)
    refine rn 5 rfl ?_
    refine spL rfl (fun hb17 => ?_) (fun hb17 => ?_)
    · obtain ⟨x19, tl, hx20, h, hk1⟩ := RG.t hA29 h hb17
      unfold M73_L1 at h
      refine rn 2 rfl ?_
      refine jK h (fun _ : Unit => (⟨[(1, (V.ptr 0 8 0 0)), (45, (V.lst 1 (a1.g.Entries.map encS))), (46, (iV ((a1.g.Entries.length : Nat) : Int))), (47, (iV n16))], [(0, (Ob.arr 141 8 [(encTprovenderref6_checker a1)]))], 1⟩ : St)) (fun k18 (_ : Unit) => k18 = some r) (fun k18 h => ?_) ?_
      · refine rn 4 rfl ?_
        refine ixh hx20 rfl rfl ?_
        refine rn 11 rfl ?_
        refine spO 55 h rfl (fun hb21 h => ?_) (fun hb21 h => ?_)
        · refine rn 4 rfl ?_
          refine aops_lookup _ (bV false) (bV ((mget a1.n.funcs x19).getD false)) tMap89 tKey9 tZo4 (irel_con _) (wants_some (c := true) (b := true) 55 rfl rfl rfl) rfl .imm (.con rfl) ⟨_, rfl⟩ encM9_4_good (encM9_4_look a1.n.funcs x19) (getD_map (encM9_4_val) (mget a1.n.funcs x19) false) rfl ?_
          refine fo (rn 3 rfl ?_)
          refine spC h rfl (fun hb22 h => ?_) (fun hb22 h => ?_)
          · refine rn 4 rfl ?_
            exact rt h rfl
          refine rn 7 rfl ?_
          refine cl h rfl rfl rfl (W139 _ _ _) rfl (fun y23 hx24 h => ?_)
          refine rn 7 rfl ?_
          refine spC h rfl (fun hb25 h => ?_) (fun hb25 h => ?_)
          · refine rn 5 rfl ?_
            exact rt h rfl
          refine rn 2 rfl ?_
          exact jX () h (gr [0] rfl (hB rfl rfl rfl .nil) rfl)
        refine rn 16 rfl ?_
        refine cl h rfl rfl rfl (W139 _ _ _) rfl (fun y26 hx27 h => ?_)
        refine rn 7 rfl ?_
        refine spC h rfl (fun hb28 h => ?_) (fun hb28 h => ?_)
        · refine rn 5 rfl ?_
          exact rt h rfl
        refine rn 2 rfl ?_
        exact jX () h (gr [0] rfl (hB rfl rfl rfl .nil) rfl)
      intro _ h
      refine rn 4 rfl ?_
      exact jX (w64 (n16 + 1)) (hk1 _ h) (gr [0] rfl (hB rfl rfl rfl .nil) rfl)
    replace h := RG.f h hb17
    unfold M73_L1 at h
    refine rn 1 rfl ?_
    exact jX () h (g0 rfl rfl)
  intro _ h
  refine rn 4 rfl ?_
  exact rt h rfl
theorem W18 (F : Nat) (a1 : TGraph) (r : Int) (h : M18 F a1 = some r) : Pure Tryz.prog 18 [(V.agg (encTGraph a1))] (iV r) := by
  refine pin (fun r => (iV r)) r rfl Tryz.func18 rfl rfl rfl rfl rfl (fun w0 m0 hg => ?_)
  unfold M18 at h
  obtain ⟨y2, hx3, h⟩ := bind_some h
  obtain ⟨y4, hx5, h⟩ := bind_some h
  refine rn 6 rfl ?_
  refine dr mixed (vs 2 rfl (cD rfl rfl rfl rfl (W72 _ _ _ hx3) rfl (vs 1 rfl (cD rfl rfl rfl rfl (W73 _ _ _ hx5) rfl (vs 1 rfl .nil))))) (by kernel_rfl) ?_
  exact rt h rfl
theorem W125 (F : Nat) (a1 : TGraph) (a2 : (List UInt8)) (r : (TFunc × Bool)) (h : M125 F a1 a2 = some r) : Pure Tryz.prog 125 [(V.agg (encTGraph a1)), (sV a2)] (V.tup [(V.agg (encTFunc (r.1))), (bV (r.2))]) := by
  refine pin (fun r => (V.tup [(V.agg (encTFunc (r.1))), (bV (r.2))])) r rfl Tryz.func125 rfl rfl rfl rfl rfl (fun w0 m0 hg => ?_)
  unfold M125 at h
  refine rn 11 rfl ?_
  refine ln rfl rfl ?_
  refine rn 2 rfl ?_
  refine jK h (fun _ : Unit => (⟨[(4, (V.ptr 0 4 0 0))], [(0, (Ob.arr 94 4 [[(sV ([] : List UInt8)), (sV ([] : List UInt8)), nV, nV]]))], 1⟩ : St)) (fun k3 (_ : Unit) => k3 = some r) (fun k3 h => ?_) ?_
  · refine rn 1 rfl ?_
    refine wl (A := a1.Funcs) 9 rfl (fun hA10 => ?_)
    refine lC (fun (p : Int) => (⟨[(1, (sV a2)), (4, (V.ptr 0 4 0 0)), (9, (V.lst 4 (a1.Funcs.map encTFunc))), (10, (iV ((a1.Funcs.length : Nat) : Int))), (11, (iV p))], [(0, (Ob.arr 94 4 [[(sV ([] : List UInt8)), (sV ([] : List UInt8)), nV, nV]]))], 1⟩ : St)) (fun n (p : Int) => RG a1.Funcs (fun tl nn => M125_L1 F a2 k3 tl = some r) n p) (fun p h => RG.zero h) (a1.Funcs.length + 1) 0 (RG.start h) (gr [1] rfl (hB rfl rfl rfl .nil) rfl) (fun n n5 h => ?_)
    refine rn 5 rfl ?_
    refine spL rfl (fun hb6 => ?_) (fun hb6 => ?_)
    · obtain ⟨x7, tl, hx8, h, hk1⟩ := RG.t hA10 h hb6
      unfold M125_L1 at h
      refine rn 5 rfl ?_
      refine ixh hx8 rfl rfl ?_
      refine rn 11 rfl ?_
      refine spC h rfl (fun hb9 h => ?_) (fun hb9 h => ?_)
      · refine rn 6 rfl ?_
        exact rt h rfl
      refine rn 6 rfl ?_
      exact jX (w64 (n5 + 1)) (hk1 _ h) (gr [0] rfl (hB rfl rfl rfl .nil) rfl)
    replace h := RG.f h hb6
    unfold M125_L1 at h
    refine rn 1 rfl ?_
    exact jX () h (gr [0] rfl (hB rfl rfl rfl .nil) rfl)
  intro _ h
  refine rn 6 rfl ?_
  exact rt h rfl
theorem W50 (F : Nat) (a1 : TGraph) (a2 : TSite) (r : (TCall × Int)) (h : M50 F a1 a2 = some r) : Pure Tryz.prog 50 [(V.agg (encTGraph a1)), (V.agg (encTSite a2))] (V.tup [(V.agg (encTCall (r.1))), (iV (r.2))]) := by
  refine pin (fun r => (V.tup [(V.agg (encTCall (r.1))), (iV (r.2))])) r rfl Tryz.func50 rfl rfl rfl rfl rfl (fun w0 m0 hg => ?_)
  unfold M50 at h
  refine rn 12 rfl ?_
  refine cl h rfl rfl rfl (W125 _ _ _) rfl (fun y3 hx4 h => ?_)
  refine rn 13 rfl ?_
  refine spC h rfl (fun hb5 h => ?_) (fun hb5 h => ?_)
  · refine rn 6 rfl ?_
    exact rt h rfl
  refine rn 8 rfl ?_
  refine spO 21 h rfl (fun hb6 h => ?_) (fun hb6 h => ?_)
  · refine rn 15 rfl ?_
    exact rt h rfl
  refine rn 4 rfl ?_
  refine ln rfl rfl ?_
  refine rn 3 rfl ?_
  refine spC h rfl (fun hb7 h => ?_) (fun hb7 h => ?_)
  · refine rn 6 rfl ?_
    exact rt h rfl
  refine rn 7 rfl ?_
  refine ixl h rfl rfl (fun x8 hx9 h => ?_)
  refine rn 4 rfl ?_
  exact rt h rfl
theorem W51 (F : Nat) (a1 : TSite) (a2 : TSite) (r : Bool) (h : M51 F a1 a2 = some r) : Pure Tryz.prog 51 [(V.agg (encTSite a1)), (V.agg (encTSite a2))] (bV r) := by
  refine pin (fun r => (bV r)) r rfl Tryz.func51 rfl rfl rfl rfl rfl (fun w0 m0 hg => ?_)
  unfold M51 at h
  refine rn 14 rfl ?_
  refine spO 10 h rfl (fun hb3 h => ?_) (fun hb3 h => ?_)
  · refine rn 15 rfl ?_
    exact rt h rfl
  refine rn 6 rfl ?_
  refine spO 16 h rfl (fun hb4 h => ?_) (fun hb4 h => ?_)
  · refine rn 9 rfl ?_
    exact rt h rfl
  refine rn 9 rfl ?_
  exact rt h rfl
theorem W12 (F : Nat) (a1 : TGraph) (a2 : (List TSite)) (r : (TGraph × Int)) (h : M12 F a1 a2 = some r) : Pure Tryz.prog 12 [(V.agg (encTGraph a1)), (V.lst 2 (a2.map encTSite))] (V.tup [(V.agg (encTGraph (r.1))), (iV (r.2))]) := by
  refine pin (fun r => (V.tup [(V.agg (encTGraph (r.1))), (iV (r.2))])) r rfl Tryz.func12 rfl rfl rfl rfl rfl (fun w0 m0 hg => ?_)
  unfold M12 at h
  refine rn 10 rfl ?_
  refine cl h rfl rfl rfl (W18 _ _) rfl (fun y3 hx4 h => ?_)
  refine rn 7 rfl ?_
  refine spC h rfl (fun hb5 h => ?_) (fun hb5 h => ?_)
  · refine rn 7 rfl ?_
    exact rt h rfl
  refine rn 10 rfl ?_
  refine ln rfl rfl ?_
  refine rn 2 rfl ?_
  refine jK h (fun (p : (List (TSite × Bool))) => (⟨[(2, (V.ptr 0 4 0 0)), (4, (V.ptr 1 4 0 0)), (7, (V.map 2))], [(0, (Ob.arr 27 4 [(encTGraph a1)])), (1, (Ob.arr 27 4 [[nV, nV, nV, nV]])), (2, (Ob.map (p.map encM70_4)))], 3⟩ : St)) (fun k6 (p : (List (TSite × Bool))) => k6 p = some r) (fun k6 h => ?_) ?_
  · refine rn 1 rfl ?_
    refine wl (A := a2) 1 rfl (fun hA26 => ?_)
    refine lC (fun (p : Int × (List (TSite × Bool))) => (⟨[(1, (V.lst 2 (a2.map encTSite))), (2, (V.ptr 0 4 0 0)), (4, (V.ptr 1 4 0 0)), (7, (V.map 2)), (25, (V.lst 2 (a2.map encTSite))), (26, (iV ((a2.length : Nat) : Int))), (27, (iV (p.1)))], [(0, (Ob.arr 27 4 [(encTGraph a1)])), (1, (Ob.arr 27 4 [[nV, nV, nV, nV]])), (2, (Ob.map ((p.2).map encM70_4)))], 3⟩ : St)) (fun n (p : Int × (List (TSite × Bool))) => RG a2 (fun tl nn => M12_L1 F a1 a2 k6 tl nn p.2 = some r) n p.1) (fun p h => RG.zero h) (a2.length + 1) (0, ([] : List (TSite × Bool))) (RG.start h) (gr [0, 1, 2] rfl (hB rfl rfl rfl (hB rfl rfl rfl (hM rfl rfl .nil))) rfl) (fun n p h => ?_)
    obtain ⟨n10, m11⟩ := p
    refine rn 5 rfl ?_
    refine spL rfl (fun hb12 => ?_) (fun hb12 => ?_)
    · obtain ⟨x15, tl, hx16, h, hk1⟩ := RG.t hA26 h hb12
      unfold M12_L1 at h
      refine rn 2 rfl ?_
      refine jK h (fun (p : (List (TSite × Bool))) => (⟨[(1, (V.lst 2 (a2.map encTSite))), (2, (V.ptr 0 4 0 0)), (4, (V.ptr 1 4 0 0)), (7, (V.map 2)), (25, (V.lst 2 (a2.map encTSite))), (26, (iV ((a2.length : Nat) : Int))), (27, (iV n10))], [(0, (Ob.arr 27 4 [(encTGraph a1)])), (1, (Ob.arr 27 4 [[nV, nV, nV, nV]])), (2, (Ob.map (p.map encM70_4)))], 3⟩ : St)) (fun k13 (p : (List (TSite × Bool))) => k13 p = some r) (fun k13 h => ?_) ?_
      · refine rn 4 rfl ?_
        refine ixh hx16 rfl rfl ?_
        refine rn 10 rfl ?_
        refine cl h rfl rfl rfl (W50 _ _ _) rfl (fun y17 hx18 h => ?_)
        refine rn 12 rfl ?_
        refine spC h rfl (fun hb19 h => ?_) (fun hb19 h => ?_)
        · refine rn 7 rfl ?_
          exact rt h rfl
        refine rn 3 rfl ?_
        refine bs h (fun hb20 h => ?_) (fun hb20 h => ?_)
        · obtain ⟨x21, hx22, h⟩ := bind_some h
          obtain ⟨y23, hx24, h⟩ := bind_some h
          refine dr mixed (vs 2 rfl (vb hb20 rfl (vs 3 rfl (iD hx22 rfl rfl rfl (vs 2 rfl (cD rfl rfl rfl rfl (W51 _ _ _ _ hx24) rfl (vs 2 rfl .nil))))))) (by kernel_rfl) ?_
          refine spC h rfl (fun hb25 h => ?_) (fun hb25 h => ?_)
          · refine rn 6 rfl ?_
            exact rt h rfl
          refine rn 4 rfl ?_
          refine aops_mapUpdate (es := m11.map encM70_4) ((mput m11 x15 true).map encM70_4) tMap85 tKey70 wants_none rfl rfl (.agg (cv70 x15) rfl) ⟨_, rfl⟩ encM70_4_good rfl (encM70_4_puts m11 x15 true) ?_
          refine fo (rn 2 rfl ?_)
          exact jX (mput m11 x15 true) h (gr [0, 1, 2] rfl (hB rfl rfl rfl (hB rfl rfl rfl (hM rfl rfl .nil))) rfl)
        refine dr mixed (vs 2 rfl (vb hb20 rfl (vs 9 rfl .nil))) (by kernel_rfl) ?_
        refine rn 5 rfl ?_
        refine aops_mapUpdate (es := m11.map encM70_4) ((mput m11 x15 true).map encM70_4) tMap85 tKey70 wants_none rfl rfl (.agg (cv70 x15) rfl) ⟨_, rfl⟩ encM70_4_good rfl (encM70_4_puts m11 x15 true) ?_
        refine fo (rn 2 rfl ?_)
        exact jX (mput m11 x15 true) h (gr [0, 1, 2] rfl (hB rfl rfl rfl (hB rfl rfl rfl (hM rfl rfl .nil))) rfl)
      intro m14 h
      refine rn 4 rfl ?_
      exact jX ((w64 (n10 + 1)), m14) (hk1 _ h) (gr [0, 1, 2] rfl (hB rfl rfl rfl (hB rfl rfl rfl (hM rfl rfl .nil))) rfl)
    replace h := RG.f h hb12
    unfold M12_L1 at h
    refine rn 1 rfl ?_
    exact jX m11 h (gr [0, 1, 2] rfl (hB rfl rfl rfl (hB rfl rfl rfl (hM rfl rfl .nil))) rfl)
  intro m7 h
  refine rn 16 rfl ?_
  refine ln rfl rfl ?_
  refine rn 2 rfl ?_
  refine jK h (fun (p : (List TFunc)) => (⟨[(4, (V.ptr 0 4 0 0)), (12, (V.ptr 1 4 0 0))], [(0, (Ob.arr 27 4 [[nV, nV, nV, nV]])), (1, (Ob.arr 27 4 [[(V.lst 2 (a1.Ifaces.map encTIface)), (V.lst 2 (a1.Types.map encTType)), (V.own 2 p.length), (V.lst 1 (a1.Entries.map encS))]])), (2, (Ob.arr 94 4 (p.map encTFunc)))], 3⟩ : St)) (fun k27 (p : (List TFunc)) => k27 p = some r) (fun k27 h => ?_) ?_
  · refine rn 1 rfl ?_
    refine wl (A := a1.Funcs) 61 rfl (fun hA53 => ?_)
    refine lC (fun (p : Int × (List TFunc)) => (⟨[(4, (V.ptr 0 4 0 0)), (7, (V.map 1)), (12, (V.ptr 2 4 0 0)), (61, (V.lst 4 (a1.Funcs.map encTFunc))), (62, (iV ((a1.Funcs.length : Nat) : Int))), (63, (iV (p.1)))], [(0, (Ob.arr 27 4 [[nV, nV, nV, nV]])), (1, (Ob.map (m7.map encM70_4))), (2, (Ob.arr 27 4 [[(V.lst 2 (a1.Ifaces.map encTIface)), (V.lst 2 (a1.Types.map encTType)), (V.own 3 (p.2).length), (V.lst 1 (a1.Entries.map encS))]])), (3, (Ob.arr 94 4 ((p.2).map encTFunc)))], 4⟩ : St)) (fun n (p : Int × (List TFunc)) => RG a1.Funcs (fun tl nn => M12_L2 F m7 k27 tl p.2 = some r) n p.1) (fun p h => RG.zero h) (a1.Funcs.length + 1) (0, ([] : List TFunc)) (RG.start h) (Ghost.trans (ghost_nilC 3 94 4 (Ob.arr 27 4 [[(V.lst 2 (a1.Ifaces.map encTIface)), (V.lst 2 (a1.Types.map encTType)), (V.own 4 0), (V.lst 1 (a1.Entries.map encS))]]) (ObSub.box (.cons Sub.keepNil (.cons Sub.keepNil (.cons Sub.mkNil (.cons Sub.keepNil .nil)))))) (ghost_ren 4 (fun i => ([1, 2, 3, 4] : List Nat).getD i 0) _ _ (by decide) (EnvSub.get (.cons (Sub.ptr rfl rfl) (.cons (Sub.map rfl rfl) (.cons (Sub.ptr rfl rfl) (.cons (Sub.imm (Imm.lst _ _)) (.cons (Sub.imm (Imm.con _)) (.cons (Sub.imm (Imm.con _)) .nil))))))) (HpSub.get (.cons rfl (ObSub.box (.cons (Sub.imm (Imm.con _)) (.cons (Sub.imm (Imm.con _)) (.cons (Sub.imm (Imm.con _)) (.cons (Sub.imm (Imm.con _)) .nil))))) (.cons rfl (ObSub.maps encM70_4_imm) (.cons rfl (ObSub.box (.cons (Sub.imm (Imm.lst _ _)) (.cons (Sub.imm (Imm.lst _ _)) (.cons (Sub.ownE rfl rfl (by simp)) (.cons (Sub.imm (Imm.lst _ _)) .nil))))) (.cons rfl (ObSub.rows (rows_imm imms_encTFunc)) .nil))))) rfl)) (fun n p h => ?_)
    obtain ⟨n31, l32⟩ := p
    refine rn 5 rfl ?_
    refine spL rfl (fun hb33 => ?_) (fun hb33 => ?_)
    · obtain ⟨x36, tl, hx37, h, hk2⟩ := RG.t hA53 h hb33
      unfold M12_L2 at h
      refine rn 2 rfl ?_
      refine jK h (fun (p : (List TFunc)) => (⟨[(4, (V.ptr 0 4 0 0)), (7, (V.map 1)), (12, (V.ptr 2 4 0 0)), (61, (V.lst 4 (a1.Funcs.map encTFunc))), (62, (iV ((a1.Funcs.length : Nat) : Int))), (63, (iV n31))], [(0, (Ob.arr 27 4 [[nV, nV, nV, nV]])), (1, (Ob.map (m7.map encM70_4))), (2, (Ob.arr 27 4 [[(V.lst 2 (a1.Ifaces.map encTIface)), (V.lst 2 (a1.Types.map encTType)), (V.own 3 p.length), (V.lst 1 (a1.Entries.map encS))]])), (3, (Ob.arr 94 4 (p.map encTFunc)))], 4⟩ : St)) (fun k34 (p : (List TFunc)) => k34 p = some r) (fun k34 h => ?_) ?_
      · refine rn 3 rfl ?_
        refine ixh hx37 rfl rfl ?_
        refine rn 13 rfl ?_
        refine ln rfl rfl ?_
        refine rn 2 rfl ?_
        refine jK h (fun (p : (List TCall)) => (⟨[(4, (V.ptr 0 4 0 0)), (7, (V.map 1)), (12, (V.ptr 2 4 0 0)), (14, (V.ptr 3 4 0 0)), (15, (V.own 4 p.length)), (61, (V.lst 4 (a1.Funcs.map encTFunc))), (62, (iV ((a1.Funcs.length : Nat) : Int))), (63, (iV n31))], [(0, (Ob.arr 27 4 [[nV, nV, nV, nV]])), (1, (Ob.map (m7.map encM70_4))), (2, (Ob.arr 27 4 [[(V.lst 2 (a1.Ifaces.map encTIface)), (V.lst 2 (a1.Types.map encTType)), (V.own 5 l32.length), (V.lst 1 (a1.Entries.map encS))]])), (3, (Ob.arr 94 4 [(encTFunc x36)])), (4, (Ob.arr 109 4 (p.map encTCall))), (5, (Ob.arr 94 4 (l32.map encTFunc)))], 6⟩ : St)) (fun k38 (p : (List TCall)) => k38 p = some r) (fun k38 h => ?_) ?_
        · refine rn 1 rfl ?_
          refine wl (A := x36.Calls) 68 rfl (fun hA51 => ?_)
          refine lC (fun (p : Int × (List TCall)) => (⟨[(4, (V.ptr 0 4 0 0)), (7, (V.map 1)), (12, (V.ptr 2 4 0 0)), (14, (V.ptr 3 4 0 0)), (15, (V.own 4 (p.2).length)), (61, (V.lst 4 (a1.Funcs.map encTFunc))), (62, (iV ((a1.Funcs.length : Nat) : Int))), (63, (iV n31)), (68, (V.lst 4 (x36.Calls.map encTCall))), (69, (iV ((x36.Calls.length : Nat) : Int))), (70, (iV (p.1)))], [(0, (Ob.arr 27 4 [[nV, nV, nV, nV]])), (1, (Ob.map (m7.map encM70_4))), (2, (Ob.arr 27 4 [[(V.lst 2 (a1.Ifaces.map encTIface)), (V.lst 2 (a1.Types.map encTType)), (V.own 5 l32.length), (V.lst 1 (a1.Entries.map encS))]])), (3, (Ob.arr 94 4 [(encTFunc x36)])), (4, (Ob.arr 109 4 ((p.2).map encTCall))), (5, (Ob.arr 94 4 (l32.map encTFunc)))], 6⟩ : St)) (fun n (p : Int × (List TCall)) => RG x36.Calls (fun tl nn => M12_L3 F m7 x36 k38 tl nn p.2 = some r) n p.1) (fun p h => RG.zero h) (x36.Calls.length + 1) (0, ([] : List TCall)) (RG.start h) (Ghost.trans (ghost_nilE 15 109 4 rfl) (ghost_ren 6 (fun i => ([0, 1, 2, 4, 5, 3] : List Nat).getD i 0) _ _ (by decide) (EnvSub.get (.cons (Sub.ptr rfl rfl) (.cons (Sub.map rfl rfl) (.cons (Sub.ptr rfl rfl) (.cons (Sub.ptr rfl rfl) (.cons (Sub.ownE rfl rfl (by simp)) (.cons (Sub.imm (Imm.lst _ _)) (.cons (Sub.imm (Imm.con _)) (.cons (Sub.imm (Imm.con _)) (.cons (Sub.imm (Imm.lst _ _)) (.cons (Sub.imm (Imm.con _)) (.cons (Sub.imm (Imm.con _)) .nil)))))))))))) (HpSub.get (.cons rfl (ObSub.box (.cons (Sub.imm (Imm.con _)) (.cons (Sub.imm (Imm.con _)) (.cons (Sub.imm (Imm.con _)) (.cons (Sub.imm (Imm.con _)) .nil))))) (.cons rfl (ObSub.maps encM70_4_imm) (.cons rfl (ObSub.box (.cons (Sub.imm (Imm.lst _ _)) (.cons (Sub.imm (Imm.lst _ _)) (.cons (Sub.own rfl rfl) (.cons (Sub.imm (Imm.lst _ _)) .nil))))) (.cons rfl (ObSub.box (.cons (Sub.imm (Imm.con _)) (.cons (Sub.imm (Imm.con _)) (.cons (Sub.imm (Imm.lst _ _)) (.cons (Sub.imm (Imm.lst _ _)) .nil))))) (.cons rfl (ObSub.rows (rows_imm imms_encTCall)) (.cons rfl (ObSub.rows (rows_imm imms_encTFunc)) .nil))))))) rfl)) (fun n p h => ?_)
          obtain ⟨n42, l43⟩ := p
          refine rn 5 rfl ?_
          refine spL rfl (fun hb44 => ?_) (fun hb44 => ?_)
          · obtain ⟨x45, tl, hx46, h, hk3⟩ := RG.t hA51 h hb44
            unfold M12_L3 at h
            refine rn 6 rfl ?_
            refine ixh hx46 rfl rfl ?_
            refine rn 12 rfl ?_
            refine aops_lookup _ (bV false) (bV ((mget m7 (TSite.mk x36.Name n42)).getD false)) tMap85 tKey70 tZo4 (irel_con _) wants_none rfl (.own rfl) (.agg (cv70 (TSite.mk x36.Name n42)) rfl) ⟨_, rfl⟩ encM70_4_good (encM70_4_look m7 (TSite.mk x36.Name n42)) (getD_map (encM70_4_val) (mget m7 (TSite.mk x36.Name n42)) false) rfl ?_
            refine fo (rn 2 rfl ?_)
            refine jK h (fun (p : (List TCall)) => (⟨[(4, (V.ptr 0 4 0 0)), (7, (V.map 1)), (12, (V.ptr 2 4 0 0)), (14, (V.ptr 3 4 0 0)), (15, (V.own 4 p.length)), (61, (V.lst 4 (a1.Funcs.map encTFunc))), (62, (iV ((a1.Funcs.length : Nat) : Int))), (63, (iV n31)), (68, (V.lst 4 (x36.Calls.map encTCall))), (69, (iV ((x36.Calls.length : Nat) : Int))), (70, (iV n42))], [(0, (Ob.arr 27 4 [[nV, nV, nV, nV]])), (1, (Ob.map (m7.map encM70_4))), (2, (Ob.arr 27 4 [[(V.lst 2 (a1.Ifaces.map encTIface)), (V.lst 2 (a1.Types.map encTType)), (V.own 5 l32.length), (V.lst 1 (a1.Entries.map encS))]])), (3, (Ob.arr 94 4 [(encTFunc x36)])), (4, (Ob.arr 109 4 (p.map encTCall))), (5, (Ob.arr 94 4 (l32.map encTFunc)))], 6⟩ : St)) (fun k47 (p : (List TCall)) => k47 p = some r) (fun k47 h => ?_) ?_
            · refine spC h rfl (fun hb49 h => ?_) (fun hb49 h => ?_)
              · refine rn 3 rfl ?_
                refine aops_buildSlice [(0, (V.agg (encTCall x45)))] [(encTCall x45)] tEl92 tZ109 rfl rfl rfl rfl wants_none (evp_cons rfl evp_nil) rfl rfl (by simp) rfl ?_
                refine fo ?_
                refine apO encTCall h rfl rfl rfl rfl rfl rfl rfl rfl (fun h => ?_)
                refine rn 2 rfl ?_
                exact jX (l43 ++ ([x45] : List TCall)) h (gr [0, 1, 2, 3, 8, 5] rfl (hB rfl rfl rfl (hM rfl rfl (hB rfl rfl rfl (hB rfl rfl rfl (hR rfl rfl (hR rfl rfl .nil)))))) rfl)
              refine rn 1 rfl ?_
              exact jX l43 h (gr [0, 1, 2, 3, 4, 5] rfl (hB rfl rfl rfl (hM rfl rfl (hB rfl rfl rfl (hB rfl rfl rfl (hR rfl rfl (hR rfl rfl .nil)))))) rfl)
            intro l48 h
            refine rn 5 rfl ?_
            exact jX ((w64 (n42 + 1)), l48) (hk3 _ h) (gr [0, 1, 2, 3, 4, 5] rfl (hB rfl rfl rfl (hM rfl rfl (hB rfl rfl rfl (hB rfl rfl rfl (hR rfl rfl (hR rfl rfl .nil)))))) rfl)
          replace h := RG.f h hb44
          unfold M12_L3 at h
          refine rn 1 rfl ?_
          exact jX l43 h (gr [0, 1, 2, 3, 4, 5] rfl (hB rfl rfl rfl (hM rfl rfl (hB rfl rfl rfl (hB rfl rfl rfl (hR rfl rfl (hR rfl rfl .nil)))))) rfl)
        intro l39 h
        refine rn 10 rfl ?_
        refine aops_ghost (ghost_frzV 4 91 (V.agg [(sV x36.Name), (sV x36.Component), (V.lst 4 (l39.map encTCall)), (V.lst 1 (x36.Makes.map encS))]) rfl (rows_imm imms_encTCall) rfl (Sub.agg (.cons Sub.keep (.cons Sub.keep (.cons (Sub.frzAll (rows := l39.map encTCall) (List.length_map ..).symm) (.cons Sub.keep .nil)))))) ?_
        refine aops_buildSlice [(0, (V.agg [(sV x36.Name), (sV x36.Component), (V.lst 4 (l39.map encTCall)), (V.lst 1 (x36.Makes.map encS))]))] [[(sV x36.Name), (sV x36.Component), (V.lst 4 (l39.map encTCall)), (V.lst 1 (x36.Makes.map encS))]] tEl24 tZ94 rfl rfl rfl rfl wants_none (evp_cons rfl evp_nil) rfl rfl (by simp) rfl ?_
        refine fo ?_
        refine apO encTFunc h rfl rfl rfl rfl rfl rfl rfl rfl (fun h => ?_)
        refine rn 4 rfl ?_
        exact jX (l32 ++ ([(TFunc.mk x36.Name x36.Component l39 x36.Makes)] : List TFunc)) h (gr [0, 1, 2, 7] rfl (hB rfl rfl rfl (hM rfl rfl (hB rfl rfl rfl (hR rfl rfl .nil)))) rfl)
      intro l35 h
      refine rn 4 rfl ?_
      exact jX ((w64 (n31 + 1)), l35) (hk2 _ h) (gr [0, 1, 2, 3] rfl (hB rfl rfl rfl (hM rfl rfl (hB rfl rfl rfl (hR rfl rfl .nil)))) rfl)
    replace h := RG.f h hb33
    unfold M12_L2 at h
    refine rn 1 rfl ?_
    exact jX l32 h (gr [0, 2, 3] rfl (hB rfl rfl rfl (hB rfl rfl rfl (hR rfl rfl .nil))) rfl)
  intro l28 h
  refine rn 6 rfl ?_
  refine awp_ghost (ghost_frzC 2 0 (Ob.arr 27 4 [[(V.lst 2 (a1.Ifaces.map encTIface)), (V.lst 2 (a1.Types.map encTType)), (V.lst 4 (l28.map encTFunc)), (V.lst 1 (a1.Entries.map encS))]]) rfl (rows_imm imms_encTFunc) (ObSub.box (.cons Sub.keep (.cons Sub.keep (.cons (Sub.frzAll (rows := l28.map encTFunc) (List.length_map ..).symm) (.cons Sub.keep .nil)))))) ?_
  refine fa ?_
  exact rt h rfl
theorem W26 (F : Nat) (a1 : (List (List UInt8))) (a2 : (List (List UInt8))) (r : Bool) (h : M26 F a1 a2 = some r) : Pure Tryz.prog 26 [(V.lst 1 (a1.map encS)), (V.lst 1 (a2.map encS))] (bV r) := by
  refine pin (fun r => (bV r)) r rfl Tryz.func26 rfl rfl rfl rfl rfl (fun w0 m0 hg => ?_)
  unfold M26 at h
  refine rn 8 rfl ?_
  refine ln rfl rfl ?_
  refine rn 1 rfl ?_
  refine ln rfl rfl ?_
  refine rn 2 rfl ?_
  refine spC h rfl (fun hb3 h => ?_) (fun hb3 h => ?_)
  · refine rn 4 rfl ?_
    exact rt h rfl
  refine rn 5 rfl ?_
  refine ln rfl rfl ?_
  refine rn 2 rfl ?_
  refine jK h (fun _ : Unit => (⟨[], [], 0⟩ : St)) (fun k4 (_ : Unit) => k4 = some r) (fun k4 h => ?_) ?_
  · refine rn 1 rfl ?_
    refine wl (A := a1) 0 rfl (fun hA13 => ?_)
    refine lC (fun (p : Int) => (⟨[(0, (V.lst 1 (a1.map encS))), (1, (V.lst 1 (a2.map encS))), (12, (iV ((a1.length : Nat) : Int))), (13, (iV p))], [], 0⟩ : St)) (fun n (p : Int) => RG a1 (fun tl nn => M26_L1 F a2 k4 tl nn = some r) n p) (fun p h => RG.zero h) (a1.length + 1) 0 (RG.start h) (g0 rfl rfl) (fun n n6 h => ?_)
    refine rn 5 rfl ?_
    refine spL rfl (fun hb7 => ?_) (fun hb7 => ?_)
    · obtain ⟨x8, tl, hx9, h, hk1⟩ := RG.t hA13 h hb7
      unfold M26_L1 at h
      obtain ⟨x10, hx11, h⟩ := bind_some h
      refine rn 9 rfl ?_
      refine dr mixed (vs 2 rfl (iD hx9 rfl rfl rfl (vs 3 rfl (iD hx11 rfl rfl rfl (vs 2 rfl .nil))))) (by kernel_rfl) ?_
      refine spC h rfl (fun hb12 h => ?_) (fun hb12 h => ?_)
      · refine rn 4 rfl ?_
        exact rt h rfl
      refine rn 6 rfl ?_
      exact jX (w64 (n6 + 1)) (hk1 _ h) (g0 rfl rfl)
    replace h := RG.f h hb7
    unfold M26_L1 at h
    refine rn 1 rfl ?_
    exact jX () h (g0 rfl rfl)
  intro _ h
  refine rn 4 rfl ?_
  exact rt h rfl
theorem W52 (F : Nat) (a1 : TIface) (a2 : TIface) (r : Bool) (h : M52 F a1 a2 = some r) : Pure Tryz.prog 52 [(V.agg (encTIface a1)), (V.agg (encTIface a2))] (bV r) := by
  refine pin (fun r => (bV r)) r rfl Tryz.func52 rfl rfl rfl rfl rfl (fun w0 m0 hg => ?_)
  unfold M52 at h
  refine rn 14 rfl ?_
  refine spO 10 h rfl (fun hb3 h => ?_) (fun hb3 h => ?_)
  · refine rn 4 rfl ?_
    refine cl h rfl rfl rfl (W26 _ _ _) rfl (fun y4 hx5 h => ?_)
    refine rn 3 rfl ?_
    exact rt h rfl
  refine rn 8 rfl ?_
  exact rt h rfl
end Go.Proofs.YtpbkggamiipdmaaGreat
