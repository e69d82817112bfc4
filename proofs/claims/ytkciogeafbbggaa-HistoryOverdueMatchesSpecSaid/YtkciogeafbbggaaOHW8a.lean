/- Part of the proof: HW8a. -/
import Derived.Test.YtkciogeafbbggaaOHM
import Derived.Test.YtkciogeafbbggaaOHW3a
import Derived.Test.YtkciogeafbbggaaOHW6a
import Derived.Test.YtkciogeafbbggaaOHW7a
import Derived.KernelRfl
namespace Go.Proofs.Ytkciogeafbbggaa
open Go Go.Pv
set_option linter.unusedVariables false
set_option maxRecDepth 100000
theorem W147 (F : Nat) (a1 : (List TWindow)) (r : (List TWindow)) (h : M147 F a1 = some r) : Mut Try.prog 147 [(V.lst 6 (a1.map encTWindow))] 0 [] (resV [(V.own 0 r.length)]) 1 [(0, (Ob.arr 35 6 (r.map encTWindow)))] := by
  refine mut_enter Try.func147 rfl rfl (l := [.tmp 2]) rfl rfl [(0, (V.lst 6 (a1.map encTWindow)))] rfl (fun w0 m0 β0 => en ?_)
  unfold M147 at h
  refine rn 8 rfl ?_
  refine aops_isNil (n := a1.length) false tIsSl59 wants_none rfl rfl (congrArg some (List.length_map ..)) rfl (fun b7 hn8 => ?_)
  replace h := nilq_elim h hn8
  refine fo (rn 1 rfl ?_)
  refine spC h rfl (fun hb9 h => ?_) (fun hb9 h => ?_)
  · refine rn 4 rfl ?_
    replace h := Option.some.inj h
    subst h
    exact wR ⟨.inl rfl, [(2, (V.own 0 ([] : List TWindow).length))], (Ghost.trans (ghost_nilE 2 35 6 rfl) (ghost_ren 1 (fun i => ([0] : List Nat).getD i 0) _ _ (by decide) (EnvSub.get (.cons (Sub.ownE rfl rfl (by simp)) .nil)) (HpSub.get (.cons rfl (ObSub.rows (rows_imm imms_encTWindow)) .nil)) rfl)), (.cons (.tmp rfl) .nil)⟩
  refine rn 3 rfl ?_
  refine aops_emptySlice tEl59 wants_none rfl ?_
  refine fo (rn 1 rfl ?_)
  refine apL encTWindow h rfl rfl rfl (by simp) rfl (fun h => ?_)
  refine rn 2 rfl ?_
  replace h := Option.some.inj h
  subst h
  exact wR ⟨.inl rfl, [(2, (V.own 0 (([] : List TWindow) ++ a1).length))], (gr [1] rfl (hR rfl rfl .nil) rfl), (.cons (.tmp rfl) .nil)⟩
theorem W116 (F : Nat) (a1 : Int) (a2 : Int) (r : Int) (h : M116 F a1 a2 = some r) : Pure Try.prog 116 [(iV a1), (iV a2)] (iV r) := by
  refine pin (fun r => (iV r)) r rfl Try.func116 rfl rfl rfl rfl rfl (fun w0 m0 => ?_)
  unfold M116 at h
  refine rn 7 rfl ?_
  refine cl h rfl rfl rfl (W140 _ _) rfl (fun y3 hx4 h => ?_)
  refine rn 5 rfl ?_
  refine cl h rfl rfl rfl (W140 _ _) rfl (fun y5 hx6 h => ?_)
  refine rn 7 rfl ?_
  refine spC h rfl (fun hb7 h => ?_) (fun hb7 h => ?_)
  · refine rn 5 rfl ?_
    refine spC h rfl (fun hb8 h => ?_) (fun hb8 h => ?_)
    · refine rn 4 rfl ?_
      exact rt h rfl
    refine rn 5 rfl ?_
    exact rt h rfl
  refine rn 6 rfl ?_
  refine spC h rfl (fun hb9 h => ?_) (fun hb9 h => ?_)
  · refine rn 4 rfl ?_
    exact rt h rfl
  refine rn 8 rfl ?_
  refine spC h rfl (fun hb10 h => ?_) (fun hb10 h => ?_)
  · refine rn 4 rfl ?_
    exact rt h rfl
  refine rn 8 rfl ?_
  refine spC h rfl (fun hb11 h => ?_) (fun hb11 h => ?_)
  · refine rn 4 rfl ?_
    exact rt h rfl
  refine rn 5 rfl ?_
  exact rt h rfl
theorem W134 (F : Nat) (a1 : TWindow) (a2 : TWindow) (r : Int) (h : M134 F a1 a2 = some r) : Pure Try.prog 134 [(V.agg (encTWindow a1)), (V.agg (encTWindow a2))] (iV r) := by
  refine pin (fun r => (iV r)) r rfl Try.func134 rfl rfl rfl rfl rfl (fun w0 m0 => ?_)
  unfold M134 at h
  obtain ⟨y3, hx4, h⟩ := bind_some h
  obtain ⟨y5, hx6, h⟩ := bind_some h
  obtain ⟨y7, hx8, h⟩ := bind_some h
  obtain ⟨y9, hx10, h⟩ := bind_some h
  refine rn 7 rfl ?_
  refine dr mixed (vs 4 rfl (cD rfl rfl rfl rfl (W116 _ _ _ _ hx4) rfl (vs 4 rfl (cD rfl rfl rfl rfl (W138 _ _ _ _ hx6) rfl (vs 4 rfl (cD rfl rfl rfl rfl (W138 _ _ _ _ hx8) rfl (xD (OD.mk [(9, (iV y3)), (14, (iV y5)), (19, (iV y7))] [] [(20, (V.lst 1 (([y3, y5, y7] : List Int).map encI_i64)))] []) ⟨⟨rfl, rfl, rfl, trivial⟩, trivial⟩ (by exact fun S hn h hh => aops_buildSlice_imm [(0, (iV y3)), (1, (iV y5)), (2, (iV y7))] [[(iV y3)], [(iV y5)], [(iV y7)]] tEl22 tZ3 wants_none rfl rfl rfl rfl (evp_cons h.1 (evp_cons h.2.1 (evp_cons h.2.2.1 evp_nil))) rfl rfl (by simp) (imms_rows (.cons (.cons (Imm.con _) .nil) (.cons (.cons (Imm.con _) .nil) (.cons (.cons (Imm.con _) .nil) .nil)))) rfl (aops_nil ⟨rfl, rfl⟩)) rfl (cD rfl rfl rfl rfl (W149 _ _ _ hx10) rfl (vs 1 rfl .nil))))))))) (by kernel_rfl) ?_
  exact rt h rfl
theorem W171 (F : Nat) (a1 : Int) (a2 : Int) (a3 : List TWindow) (r : (List TWindow)) (h : M171 F a1 a2 a3 = some r) : Mut Try.prog 171 [(V.own 0 a3.length), (iV a1), (iV a2), (V.fn (.func 134) [] [])] 1 [(0, (Ob.arr 35 6 (a3.map encTWindow)))] (resV []) 1 [(0, (Ob.arr 35 6 (r.map encTWindow)))] := by
  refine mut_enter Try.func171 rfl rfl (l := []) rfl rfl [(0, (V.own 0 a3.length)), (1, (iV a1)), (2, (iV a2)), (3, (V.fn (.func 134) [] []))] rfl (fun w0 m0 β0 => en ?_)
  unfold M171 at h
  refine rn 7 rfl ?_
  refine lC (fun (p : Int × (List TWindow)) => (⟨[(0, (V.own 0 (p.2).length)), (1, (iV a1)), (2, (iV a2)), (3, (V.fn (.func 134) [] [])), (8, (iV (p.1)))], [(0, (Ob.arr 35 6 ((p.2).map encTWindow)))], 1⟩ : St)) (fun n (p : Int × (List TWindow)) => M171_L1 F a1 a2 n p.1 p.2 = some r) (fun p h => by simp [M171_L1] at h) F ((w64 (a1 + 1)), a3) h (gr [0] rfl (hR rfl rfl .nil) rfl) (fun n p h => ?_)
  obtain ⟨n36, l37⟩ := p
  unfold M171_L1 at h
  refine rn 7 rfl ?_
  refine spC h rfl (fun hb38 h => ?_) (fun hb38 h => ?_)
  · refine rn 2 rfl ?_
    refine jK h (fun (p : (List TWindow)) => (⟨[(0, (V.own 0 p.length)), (1, (iV a1)), (2, (iV a2)), (3, (V.fn (.func 134) [] [])), (8, (iV n36))], [(0, (Ob.arr 35 6 (p.map encTWindow)))], 1⟩ : St)) (fun k39 (p : (List TWindow)) => k39 p = some r) (fun k39 h => ?_) ?_
    · refine rn 6 rfl ?_
      refine jK h (fun (p : (List TWindow)) => (⟨[(0, (V.own 0 p.length)), (1, (iV a1)), (2, (iV a2)), (3, (V.fn (.func 134) [] [])), (8, (iV n36))], [(0, (Ob.arr 35 6 (p.map encTWindow)))], 1⟩ : St)) (fun k41 (p : (List TWindow)) => k41 p = some r) (fun k41 h => ?_) ?_
      · refine rn 1 rfl ?_
        refine lC (fun (p : Int × (List TWindow)) => (⟨[(0, (V.own 0 (p.2).length)), (1, (iV a1)), (2, (iV a2)), (3, (V.fn (.func 134) [] [])), (8, (iV n36)), (9, (iV (p.1)))], [(0, (Ob.arr 35 6 ((p.2).map encTWindow)))], 1⟩ : St)) (fun n (p : Int × (List TWindow)) => M171_L2 F a1 k41 n p.1 p.2 = some r) (fun p h => by simp [M171_L2] at h) F (n36, l37) h (gr [0] rfl (hR rfl rfl .nil) rfl) (fun n p h => ?_)
        obtain ⟨n45, l46⟩ := p
        unfold M171_L2 at h
        refine rn 2 rfl ?_
        refine bs h (fun hb47 h => ?_) (fun hb47 h => ?_)
        · obtain ⟨x48, hx49, h⟩ := bind_some h
          obtain ⟨x50, hx51, h⟩ := bind_some h
          obtain ⟨y52, hx53, h⟩ := bind_some h
          refine dr mixed (vs 3 rfl (vb hb47 rfl (vs 3 rfl (oD (a := l46) hx49 rfl rfl rfl rfl (lD hx49 rfl rfl rfl rfl rfl (vs 3 rfl (oD (a := l46) hx51 rfl rfl rfl rfl (lD hx51 rfl rfl rfl rfl rfl (cD rfl rfl rfl rfl (W134 _ _ _ _ hx53) rfl (vs 2 rfl .nil)))))))))) (by kernel_rfl) ?_
          refine spC h rfl (fun hb54 h => ?_) (fun hb54 h => ?_)
          · obtain ⟨x55, hx56, h⟩ := bind_some h
            obtain ⟨x57, hx58, h⟩ := bind_some h
            obtain ⟨x59, hx60, h⟩ := bind_some h
            obtain ⟨x61, hx62, h⟩ := bind_some h
            refine rn 3 rfl ?_
            refine dr mixed (vs 8 rfl (oD (a := l46) hx56 rfl rfl rfl rfl (lD hx56 rfl rfl rfl rfl rfl (vs 2 rfl (oD (a := l46) hx58 rfl rfl rfl rfl (lD hx58 rfl rfl rfl rfl rfl (oD (a := l46) hx60 rfl rfl rfl rfl (xD (OD.mk [(51, (V.ptr 0 6 n45.toNat 0)), (46, (V.agg (encTWindow x55)))] [(0, (Ob.arr 35 6 (l46.map encTWindow)))] [] [(0, (Ob.arr 35 6 ((l46.set n45.toNat x55).map encTWindow)))]) ⟨⟨rfl, rfl, trivial⟩, ⟨rfl, trivial⟩⟩ (by exact fun S hn h hh => aops_store (encTWindow x55) ((l46.set n45.toNat x55).map encTWindow) tS35 wants_none h.1 h.2.1 rfl rfl hh.1 (idx_map encTWindow hx60) rfl (map_set encTWindow l46 _ x55) (aops_nil ⟨rfl, rfl⟩)) rfl (xD (OD.mk [(39, (V.own 0 l46.length)), (41, (iV (w64 (n45 - 1))))] [] [(52, (V.ptr 0 6 (w64 (n45 - 1)).toNat 0))] []) ⟨⟨rfl, rfl, trivial⟩, trivial⟩ (by exact fun S hn h hh => aops_index_own tSl59 wants_none h.1 h.2.1 (idx_some hx62).1 (by simpa using idx_lt hx62) rfl (aops_nil ⟨rfl, rfl⟩)) rfl (xD (OD.mk [(52, (V.ptr 0 6 (w64 (n45 - 1)).toNat 0)), (50, (V.agg (encTWindow x57)))] [(0, (Ob.arr 35 6 ((l46.set n45.toNat x55).map encTWindow)))] [] [(0, (Ob.arr 35 6 (((l46.set n45.toNat x55).set (w64 (n45 - 1)).toNat x57).map encTWindow)))]) ⟨⟨rfl, rfl, trivial⟩, ⟨rfl, trivial⟩⟩ (by exact fun S hn h hh => aops_store (encTWindow x57) (((l46.set n45.toNat x55).set (w64 (n45 - 1)).toNat x57).map encTWindow) tS35 wants_none h.1 h.2.1 rfl rfl hh.1 (idx_map encTWindow hx62) rfl (map_set encTWindow (l46.set n45.toNat x55) _ x57) (aops_nil ⟨rfl, rfl⟩)) rfl .nil)))))))))) (by kernel_rfl) ?_
            refine rn 6 rfl ?_
            exact jX ((w64 (n45 - 1)), ((l46.set n45.toNat x55).set (w64 (n45 - 1)).toNat x57)) h (ghost_ren 1 (fun i => ([0] : List Nat).getD i 0) _ _ (by decide) (EnvSub.get (.cons (Sub.ownE rfl rfl (by simp)) (.cons (Sub.imm (Imm.con _)) (.cons (Sub.imm (Imm.con _)) (.cons (Sub.imm (Imm.fn .nil .nil)) (.cons (Sub.imm (Imm.con _)) (.cons (Sub.imm (Imm.con _)) .nil))))))) (HpSub.get (.cons rfl (ObSub.rows (rows_imm imms_encTWindow)) .nil)) rfl)
          refine rn 1 rfl ?_
          exact jX l46 h (gr [0] rfl (hR rfl rfl .nil) rfl)
        refine dr mixed (vs 3 rfl (vb hb47 rfl (vs 13 rfl .nil))) (by kernel_rfl) ?_
        refine rn 2 rfl ?_
        exact jX l46 h (gr [0] rfl (hR rfl rfl .nil) rfl)
      intro l42 h
      refine rn 1 rfl ?_
      exact jX l42 h (gr [0] rfl (hR rfl rfl .nil) rfl)
    intro l40 h
    refine rn 5 rfl ?_
    exact jX ((w64 (n36 + 1)), l40) h (gr [0] rfl (hR rfl rfl .nil) rfl)
  refine rn 1 rfl ?_
  replace h := Option.some.inj h
  subst h
  exact wE ⟨.inr rfl, [], (gr [0] rfl (hR rfl rfl .nil) rfl), .nil⟩
theorem W185 (F : Nat) (a1 : Int) (a2 : Int) (a3 : Int) (a4 : List TWindow) (r : (List TWindow)) (h : M185 F a1 a2 a3 a4 = some r) : Mut Try.prog 185 [(V.own 0 a4.length), (iV a1), (iV a2), (iV a3), (V.fn (.func 134) [] [])] 1 [(0, (Ob.arr 35 6 (a4.map encTWindow)))] (resV []) 1 [(0, (Ob.arr 35 6 (r.map encTWindow)))] := by
  refine mut_enter Try.func185 rfl rfl (l := []) rfl rfl [(0, (V.own 0 a4.length)), (1, (iV a1)), (2, (iV a2)), (3, (iV a3)), (4, (V.fn (.func 134) [] []))] rfl (fun w0 m0 β0 => en ?_)
  unfold M185 at h
  refine rn 5 rfl ?_
  refine ck h (fun hA33 h => ?_)
  refine lC (fun (p : Int × (List TWindow)) => (⟨[(0, (V.own 0 (p.2).length)), (1, (iV a1)), (2, (iV a2)), (3, (iV a3)), (10, (iV (p.1)))], [(0, (Ob.arr 35 6 ((p.2).map encTWindow)))], 1⟩ : St)) (fun n (p : Int × (List TWindow)) => RC a3 (fun tl nn => M185_L1 F a1 a2 tl nn p.2 = some r) n p.1) (fun p h => RC.zero h) (Int.toNat a3 + 1) (0, a4) (RC.start h) (gr [0] rfl (hR rfl rfl .nil) rfl) (fun n p h => ?_)
  obtain ⟨n22, l23⟩ := p
  refine rn 7 rfl ?_
  refine spL rfl (fun hb24 => ?_) (fun hb24 => ?_)
  · obtain ⟨tl, h, hk1⟩ := RC.t hA33 h hb24
    unfold M185_L1 at h
    obtain ⟨x25, hx26, h⟩ := bind_some h
    obtain ⟨x27, hx28, h⟩ := bind_some h
    obtain ⟨x29, hx30, h⟩ := bind_some h
    obtain ⟨x31, hx32, h⟩ := bind_some h
    refine rn 3 rfl ?_
    refine dr mixed (vs 12 rfl (oD (a := l23) hx26 rfl rfl rfl rfl (lD hx26 rfl rfl rfl rfl rfl (vs 4 rfl (oD (a := l23) hx28 rfl rfl rfl rfl (lD hx28 rfl rfl rfl rfl rfl (oD (a := l23) hx30 rfl rfl rfl rfl (xD (OD.mk [(36, (V.ptr 0 6 (w64 (a1 + n22)).toNat 0)), (29, (V.agg (encTWindow x25)))] [(0, (Ob.arr 35 6 (l23.map encTWindow)))] [] [(0, (Ob.arr 35 6 ((l23.set (w64 (a1 + n22)).toNat x25).map encTWindow)))]) ⟨⟨rfl, rfl, trivial⟩, ⟨rfl, trivial⟩⟩ (by exact fun S hn h hh => aops_store (encTWindow x25) ((l23.set (w64 (a1 + n22)).toNat x25).map encTWindow) tS35 wants_none h.1 h.2.1 rfl rfl hh.1 (idx_map encTWindow hx30) rfl (map_set encTWindow l23 _ x25) (aops_nil ⟨rfl, rfl⟩)) rfl (xD (OD.mk [(20, (V.own 0 l23.length)), (23, (iV (w64 (a2 + n22))))] [] [(37, (V.ptr 0 6 (w64 (a2 + n22)).toNat 0))] []) ⟨⟨rfl, rfl, trivial⟩, trivial⟩ (by exact fun S hn h hh => aops_index_own tSl59 wants_none h.1 h.2.1 (idx_some hx32).1 (by simpa using idx_lt hx32) rfl (aops_nil ⟨rfl, rfl⟩)) rfl (xD (OD.mk [(37, (V.ptr 0 6 (w64 (a2 + n22)).toNat 0)), (35, (V.agg (encTWindow x27)))] [(0, (Ob.arr 35 6 ((l23.set (w64 (a1 + n22)).toNat x25).map encTWindow)))] [] [(0, (Ob.arr 35 6 (((l23.set (w64 (a1 + n22)).toNat x25).set (w64 (a2 + n22)).toNat x27).map encTWindow)))]) ⟨⟨rfl, rfl, trivial⟩, ⟨rfl, trivial⟩⟩ (by exact fun S hn h hh => aops_store (encTWindow x27) (((l23.set (w64 (a1 + n22)).toNat x25).set (w64 (a2 + n22)).toNat x27).map encTWindow) tS35 wants_none h.1 h.2.1 rfl rfl hh.1 (idx_map encTWindow hx32) rfl (map_set encTWindow (l23.set (w64 (a1 + n22)).toNat x25) _ x27) (aops_nil ⟨rfl, rfl⟩)) rfl .nil)))))))))) (by kernel_rfl) ?_
    refine rn 6 rfl ?_
    exact jX ((w64 (n22 + 1)), ((l23.set (w64 (a1 + n22)).toNat x25).set (w64 (a2 + n22)).toNat x27)) (hk1 _ h) (ghost_ren 1 (fun i => ([0] : List Nat).getD i 0) _ _ (by decide) (EnvSub.get (.cons (Sub.ownE rfl rfl (by simp)) (.cons (Sub.imm (Imm.con _)) (.cons (Sub.imm (Imm.con _)) (.cons (Sub.imm (Imm.con _)) (.cons (Sub.imm (Imm.con _)) .nil)))))) (HpSub.get (.cons rfl (ObSub.rows (rows_imm imms_encTWindow)) .nil)) rfl)
  replace h := RC.f h hb24
  unfold M185_L1 at h
  refine rn 1 rfl ?_
  replace h := Option.some.inj h
  subst h
  exact wE ⟨.inr rfl, [], (gr [0] rfl (hR rfl rfl .nil) rfl), .nil⟩
theorem W181 (F : Nat) (a1 : Int) (a2 : Int) (a3 : Int) (a4 : List TWindow) (r : (List TWindow)) (h : M181 F a1 a2 a3 a4 = some r) : Mut Try.prog 181 [(V.own 0 a4.length), (iV a1), (iV a2), (iV a3), (V.fn (.func 134) [] [])] 1 [(0, (Ob.arr 35 6 (a4.map encTWindow)))] (resV []) 1 [(0, (Ob.arr 35 6 (r.map encTWindow)))] := by
  refine mut_enter Try.func181 rfl rfl (l := []) rfl rfl [(0, (V.own 0 a4.length)), (1, (iV a1)), (2, (iV a2)), (3, (iV a3)), (4, (V.fn (.func 134) [] []))] rfl (fun w0 m0 β0 => en ?_)
  unfold M181 at h
  refine rn 15 rfl ?_
  refine jK h (fun (p : Int × (List TWindow)) => (⟨[(0, (V.own 0 (p.2).length)), (2, (iV a2)), (4, (V.fn (.func 134) [] [])), (10, (iV (p.1)))], [(0, (Ob.arr 35 6 ((p.2).map encTWindow)))], 1⟩ : St)) (fun k30 (p : Int × (List TWindow)) => k30 p.1 p.2 = some r) (fun k30 h => ?_) ?_
  · refine rn 1 rfl ?_
    refine lC (fun (p : Int × Int × (List TWindow)) => (⟨[(0, (V.own 0 (p.2.2).length)), (2, (iV a2)), (4, (V.fn (.func 134) [] [])), (10, (iV (p.1))), (11, (iV (p.2.1)))], [(0, (Ob.arr 35 6 ((p.2.2).map encTWindow)))], 1⟩ : St)) (fun n (p : Int × Int × (List TWindow)) => M181_L1 F a2 k30 n p.1 p.2.1 p.2.2 = some r) (fun p h => by simp [M181_L1] at h) F ((w64 (a2 - a1)), (w64 (a3 - a2)), a4) h (gr [0] rfl (hR rfl rfl .nil) rfl) (fun n p h => ?_)
    obtain ⟨n36, n37, l38⟩ := p
    unfold M181_L1 at h
    refine rn 7 rfl ?_
    refine spC h rfl (fun hb39 h => ?_) (fun hb39 h => ?_)
    · refine rn 8 rfl ?_
      refine jK h (fun (p : Int × Int × (List TWindow)) => (⟨[(0, (V.own 0 (p.2.2).length)), (2, (iV a2)), (4, (V.fn (.func 134) [] [])), (10, (iV (p.1))), (11, (iV (p.2.1)))], [(0, (Ob.arr 35 6 ((p.2.2).map encTWindow)))], 1⟩ : St)) (fun k40 (p : Int × Int × (List TWindow)) => k40 p.1 p.2.1 p.2.2 = some r) (fun k40 h => ?_) ?_
      · refine spC h rfl (fun hb44 h => ?_) (fun hb44 h => ?_)
        · obtain ⟨y45, hx46, h⟩ := bind_some h
          refine rn 9 rfl ?_
          refine ck h (fun hc47 h => ?_)
          refine aops_mcall (V.tup []) [(V.own 0 l38.length), (iV (w64 (a2 - n36))), (iV a2), (iV n37), (V.fn (.func 134) [] [])] (fun i => ([0] : List Nat).getD i 0) (fun i => ([0] : List Nat).getD i 0) 1 1 [(0, (Ob.arr 35 6 (y45.map encTWindow)))] fOk185 wants_none rfl (evm_cons rfl (evm_cons rfl (evm_cons rfl (evm_cons rfl (evm_cons rfl evm_nil))))) (.cons (Sub.own rfl rfl) (.cons (Sub.imm (Imm.con _)) (.cons (Sub.imm (Imm.con _)) (.cons (Sub.imm (Imm.con _)) (.cons (Sub.imm (Imm.fn .nil .nil)) .nil))))) (.cons rfl (ObSub.rows (rows_imm imms_encTWindow)) .nil) (W185 F (w64 (a2 - n36)) a2 n37 l38 y45 hx46) rfl rfl rfl rfl rfl (Sub.immT (Imm.tup .nil)) (.cons rfl (ObSub.rowsT (rows_imm imms_encTWindow)) .nil) ?_
          refine aops_ghost (ghost_tell 0 (V.own 0 y45.length) rfl (Sub.ownI hc47)) ?_
          refine aops_ghost (ghost_tell 24 (V.own 0 y45.length) rfl (Sub.ownI hc47)) ?_
          refine fo (rn 7 rfl ?_)
          exact jX ((w64 (n36 - n37)), n37, y45) h (gr [0] rfl (hR rfl rfl .nil) rfl)
        obtain ⟨y48, hx49, h⟩ := bind_some h
        refine rn 13 rfl ?_
        refine ck h (fun hc50 h => ?_)
        refine aops_mcall (V.tup []) [(V.own 0 l38.length), (iV (w64 (a2 - n36))), (iV (w64 ((w64 (a2 + n37)) - n36))), (iV n36), (V.fn (.func 134) [] [])] (fun i => ([0] : List Nat).getD i 0) (fun i => ([0] : List Nat).getD i 0) 1 1 [(0, (Ob.arr 35 6 (y48.map encTWindow)))] fOk185 wants_none rfl (evm_cons rfl (evm_cons rfl (evm_cons rfl (evm_cons rfl (evm_cons rfl evm_nil))))) (.cons (Sub.own rfl rfl) (.cons (Sub.imm (Imm.con _)) (.cons (Sub.imm (Imm.con _)) (.cons (Sub.imm (Imm.con _)) (.cons (Sub.imm (Imm.fn .nil .nil)) .nil))))) (.cons rfl (ObSub.rows (rows_imm imms_encTWindow)) .nil) (W185 F (w64 (a2 - n36)) (w64 ((w64 (a2 + n37)) - n36)) n36 l38 y48 hx49) rfl rfl rfl rfl rfl (Sub.immT (Imm.tup .nil)) (.cons rfl (ObSub.rowsT (rows_imm imms_encTWindow)) .nil) ?_
        refine aops_ghost (ghost_tell 0 (V.own 0 y48.length) rfl (Sub.ownI hc50)) ?_
        refine aops_ghost (ghost_tell 35 (V.own 0 y48.length) rfl (Sub.ownI hc50)) ?_
        refine fo (rn 7 rfl ?_)
        exact jX (n36, (w64 (n37 - n36)), y48) h (gr [0] rfl (hR rfl rfl .nil) rfl)
      rintro ⟨n41, n42, l43⟩ h
      refine rn 1 rfl ?_
      exact jX (n41, n42, l43) h (gr [0] rfl (hR rfl rfl .nil) rfl)
    refine rn 1 rfl ?_
    exact jX (n36, l38) h (gr [0] rfl (hR rfl rfl .nil) rfl)
  rintro ⟨n31, l32⟩ h
  obtain ⟨y51, hx52, h⟩ := bind_some h
  refine rn 8 rfl ?_
  refine ck h (fun hc53 h => ?_)
  refine aops_mcall (V.tup []) [(V.own 0 l32.length), (iV (w64 (a2 - n31))), (iV a2), (iV n31), (V.fn (.func 134) [] [])] (fun i => ([0] : List Nat).getD i 0) (fun i => ([0] : List Nat).getD i 0) 1 1 [(0, (Ob.arr 35 6 (y51.map encTWindow)))] fOk185 wants_none rfl (evm_cons rfl (evm_cons rfl (evm_cons rfl (evm_cons rfl (evm_cons rfl evm_nil))))) (.cons (Sub.own rfl rfl) (.cons (Sub.imm (Imm.con _)) (.cons (Sub.imm (Imm.con _)) (.cons (Sub.imm (Imm.con _)) (.cons (Sub.imm (Imm.fn .nil .nil)) .nil))))) (.cons rfl (ObSub.rows (rows_imm imms_encTWindow)) .nil) (W185 F (w64 (a2 - n31)) a2 n31 l32 y51 hx52) rfl rfl rfl rfl rfl (Sub.immT (Imm.tup .nil)) (.cons rfl (ObSub.rowsT (rows_imm imms_encTWindow)) .nil) ?_
  refine aops_ghost (ghost_tell 0 (V.own 0 y51.length) rfl (Sub.ownI hc53)) ?_
  refine aops_ghost (ghost_tell 50 (V.own 0 y51.length) rfl (Sub.ownI hc53)) ?_
  refine fo (rn 1 rfl ?_)
  replace h := Option.some.inj h
  subst h
  exact wE ⟨.inr rfl, [], (gr [0] rfl (hR rfl rfl .nil) rfl), .nil⟩
theorem W172_B (R172 : Int → Int → Int → (List TWindow) → Option (List TWindow)) (hR172 : ∀ (a1 : Int) (a2 : Int) (a3 : Int) (a4 : List TWindow) (r : (List TWindow)), R172 a1 a2 a3 a4 = some r → Mut Try.prog 172 [(V.own 0 a4.length), (iV a1), (iV a2), (iV a3), (V.fn (.func 134) [] [])] 1 [(0, (Ob.arr 35 6 (a4.map encTWindow)))] (resV []) 1 [(0, (Ob.arr 35 6 (r.map encTWindow)))]) (F : Nat) (a1 : Int) (a2 : Int) (a3 : Int) (a4 : List TWindow) (r : (List TWindow)) (h : M172_B R172 F a1 a2 a3 a4 = some r) : Mut Try.prog 172 [(V.own 0 a4.length), (iV a1), (iV a2), (iV a3), (V.fn (.func 134) [] [])] 1 [(0, (Ob.arr 35 6 (a4.map encTWindow)))] (resV []) 1 [(0, (Ob.arr 35 6 (r.map encTWindow)))] := by
  refine mut_enter Try.func172 rfl rfl (l := []) rfl rfl [(0, (V.own 0 a4.length)), (1, (iV a1)), (2, (iV a2)), (3, (iV a3)), (4, (V.fn (.func 134) [] []))] rfl (fun w0 m0 β0 => en ?_)
  unfold M172_B at h
  refine rn 8 rfl ?_
  refine spC h rfl (fun hb112 h => ?_) (fun hb112 h => ?_)
  · refine rn 11 rfl ?_
    refine jK h (fun (p : Int) => (⟨[(0, (V.own 0 a4.length)), (1, (iV a1)), (10, (iV p))], [(0, (Ob.arr 35 6 (a4.map encTWindow)))], 1⟩ : St)) (fun k113 (p : Int) => k113 p = some r) (fun k113 h => ?_) ?_
    · refine rn 1 rfl ?_
      refine lC (fun (p : Int × Int) => (⟨[(0, (V.own 0 a4.length)), (1, (iV a1)), (4, (V.fn (.func 134) [] [])), (10, (iV (p.1))), (11, (iV (p.2)))], [(0, (Ob.arr 35 6 (a4.map encTWindow)))], 1⟩ : St)) (fun n (p : Int × Int) => M172_L1 F a1 a4 k113 n p.1 p.2 = some r) (fun p h => by simp [M172_L1] at h) F (a2, a3) h (gr [0] rfl (hR rfl rfl .nil) rfl) (fun n p h => ?_)
      obtain ⟨n117, n118⟩ := p
      unfold M172_L1 at h
      refine rn 7 rfl ?_
      refine spC h rfl (fun hb119 h => ?_) (fun hb119 h => ?_)
      · obtain ⟨x120, hx121, h⟩ := bind_some h
        obtain ⟨x122, hx123, h⟩ := bind_some h
        obtain ⟨y124, hx125, h⟩ := bind_some h
        refine rn 13 rfl ?_
        refine dr mixed (vs 3 rfl (oD (a := a4) hx121 rfl rfl rfl rfl (lD hx121 rfl rfl rfl rfl rfl (vs 2 rfl (oD (a := a4) hx123 rfl rfl rfl rfl (lD hx123 rfl rfl rfl rfl rfl (cD rfl rfl rfl rfl (W134 _ _ _ _ hx125) rfl (vs 1 rfl .nil)))))))) (by kernel_rfl) ?_
        refine jK h (fun (p : Int × Int) => (⟨[(0, (V.own 0 a4.length)), (1, (iV a1)), (4, (V.fn (.func 134) [] [])), (10, (iV (p.1))), (11, (iV (p.2)))], [(0, (Ob.arr 35 6 (a4.map encTWindow)))], 1⟩ : St)) (fun k126 (p : Int × Int) => k126 p.1 p.2 = some r) (fun k126 h => ?_) ?_
        · refine spC h rfl (fun hb129 h => ?_) (fun hb129 h => ?_)
          · refine rn 5 rfl ?_
            exact jX ((w64 ((w64 (Int.fdiv (IntKind.wrap .u64 (w64 (n117 + n118))) (2 ^ (min (Int.toNat 1) (IntKind.bits .u64))))) + 1)), n118) h (gr [0] rfl (hR rfl rfl .nil) rfl)
          refine rn 4 rfl ?_
          exact jX (n117, (w64 (Int.fdiv (IntKind.wrap .u64 (w64 (n117 + n118))) (2 ^ (min (Int.toNat 1) (IntKind.bits .u64)))))) h (gr [0] rfl (hR rfl rfl .nil) rfl)
        rintro ⟨n127, n128⟩ h
        refine rn 1 rfl ?_
        exact jX (n127, n128) h (gr [0] rfl (hR rfl rfl .nil) rfl)
      refine rn 1 rfl ?_
      exact jX n117 h (gr [0] rfl (hR rfl rfl .nil) rfl)
    intro n114 h
    refine rn 6 rfl ?_
    refine jK h (fun (p : (List TWindow)) => (⟨[], [(0, (Ob.arr 35 6 (p.map encTWindow)))], 1⟩ : St)) (fun k130 (p : (List TWindow)) => k130 p = some r) (fun k130 h => ?_) ?_
    · refine rn 1 rfl ?_
      refine lC (fun (p : Int × (List TWindow)) => (⟨[(0, (V.own 0 (p.2).length)), (10, (iV n114)), (13, (iV (p.1)))], [(0, (Ob.arr 35 6 ((p.2).map encTWindow)))], 1⟩ : St)) (fun n (p : Int × (List TWindow)) => M172_L2 F n114 k130 n p.1 p.2 = some r) (fun p h => by simp [M172_L2] at h) F (a1, a4) h (gr [0] rfl (hR rfl rfl .nil) rfl) (fun n p h => ?_)
      obtain ⟨n134, l135⟩ := p
      unfold M172_L2 at h
      refine rn 8 rfl ?_
      refine spC h rfl (fun hb136 h => ?_) (fun hb136 h => ?_)
      · obtain ⟨x137, hx138, h⟩ := bind_some h
        obtain ⟨x139, hx140, h⟩ := bind_some h
        obtain ⟨x141, hx142, h⟩ := bind_some h
        obtain ⟨x143, hx144, h⟩ := bind_some h
        refine rn 3 rfl ?_
        refine dr mixed (vs 8 rfl (oD (a := l135) hx138 rfl rfl rfl rfl (lD hx138 rfl rfl rfl rfl rfl (vs 2 rfl (oD (a := l135) hx140 rfl rfl rfl rfl (lD hx140 rfl rfl rfl rfl rfl (oD (a := l135) hx142 rfl rfl rfl rfl (xD (OD.mk [(75, (V.ptr 0 6 n134.toNat 0)), (70, (V.agg (encTWindow x137)))] [(0, (Ob.arr 35 6 (l135.map encTWindow)))] [] [(0, (Ob.arr 35 6 ((l135.set n134.toNat x137).map encTWindow)))]) ⟨⟨rfl, rfl, trivial⟩, ⟨rfl, trivial⟩⟩ (by exact fun S hn h hh => aops_store (encTWindow x137) ((l135.set n134.toNat x137).map encTWindow) tS35 wants_none h.1 h.2.1 rfl rfl hh.1 (idx_map encTWindow hx142) rfl (map_set encTWindow l135 _ x137) (aops_nil ⟨rfl, rfl⟩)) rfl (xD (OD.mk [(63, (V.own 0 l135.length)), (65, (iV (w64 (n134 + 1))))] [] [(76, (V.ptr 0 6 (w64 (n134 + 1)).toNat 0))] []) ⟨⟨rfl, rfl, trivial⟩, trivial⟩ (by exact fun S hn h hh => aops_index_own tSl59 wants_none h.1 h.2.1 (idx_some hx144).1 (by simpa using idx_lt hx144) rfl (aops_nil ⟨rfl, rfl⟩)) rfl (xD (OD.mk [(76, (V.ptr 0 6 (w64 (n134 + 1)).toNat 0)), (74, (V.agg (encTWindow x139)))] [(0, (Ob.arr 35 6 ((l135.set n134.toNat x137).map encTWindow)))] [] [(0, (Ob.arr 35 6 (((l135.set n134.toNat x137).set (w64 (n134 + 1)).toNat x139).map encTWindow)))]) ⟨⟨rfl, rfl, trivial⟩, ⟨rfl, trivial⟩⟩ (by exact fun S hn h hh => aops_store (encTWindow x139) (((l135.set n134.toNat x137).set (w64 (n134 + 1)).toNat x139).map encTWindow) tS35 wants_none h.1 h.2.1 rfl rfl hh.1 (idx_map encTWindow hx144) rfl (map_set encTWindow (l135.set n134.toNat x137) _ x139) (aops_nil ⟨rfl, rfl⟩)) rfl .nil)))))))))) (by kernel_rfl) ?_
        refine rn 6 rfl ?_
        exact jX ((w64 (n134 + 1)), ((l135.set n134.toNat x137).set (w64 (n134 + 1)).toNat x139)) h (ghost_ren 1 (fun i => ([0] : List Nat).getD i 0) _ _ (by decide) (EnvSub.get (.cons (Sub.ownE rfl rfl (by simp)) (.cons (Sub.imm (Imm.con _)) (.cons (Sub.imm (Imm.con _)) .nil)))) (HpSub.get (.cons rfl (ObSub.rows (rows_imm imms_encTWindow)) .nil)) rfl)
      refine rn 1 rfl ?_
      exact jX l135 h (gr [0] rfl (hR rfl rfl .nil) rfl)
    intro l131 h
    replace h := Option.some.inj h
    subst h
    exact wR ⟨.inl rfl, [], (gr [0] rfl (hR rfl rfl .nil) rfl), .nil⟩
  refine rn 9 rfl ?_
  refine spC h rfl (fun hb145 h => ?_) (fun hb145 h => ?_)
  · refine rn 11 rfl ?_
    refine jK h (fun (p : Int) => (⟨[(0, (V.own 0 a4.length)), (2, (iV a2)), (14, (iV p))], [(0, (Ob.arr 35 6 (a4.map encTWindow)))], 1⟩ : St)) (fun k146 (p : Int) => k146 p = some r) (fun k146 h => ?_) ?_
    · refine rn 1 rfl ?_
      refine lC (fun (p : Int × Int) => (⟨[(0, (V.own 0 a4.length)), (2, (iV a2)), (4, (V.fn (.func 134) [] [])), (14, (iV (p.1))), (15, (iV (p.2)))], [(0, (Ob.arr 35 6 (a4.map encTWindow)))], 1⟩ : St)) (fun n (p : Int × Int) => M172_L3 F a2 a4 k146 n p.1 p.2 = some r) (fun p h => by simp [M172_L3] at h) F (a1, a2) h (gr [0] rfl (hR rfl rfl .nil) rfl) (fun n p h => ?_)
      obtain ⟨n150, n151⟩ := p
      unfold M172_L3 at h
      refine rn 7 rfl ?_
      refine spC h rfl (fun hb152 h => ?_) (fun hb152 h => ?_)
      · obtain ⟨x153, hx154, h⟩ := bind_some h
        obtain ⟨x155, hx156, h⟩ := bind_some h
        obtain ⟨y157, hx158, h⟩ := bind_some h
        refine rn 13 rfl ?_
        refine dr mixed (vs 3 rfl (oD (a := a4) hx154 rfl rfl rfl rfl (lD hx154 rfl rfl rfl rfl rfl (vs 2 rfl (oD (a := a4) hx156 rfl rfl rfl rfl (lD hx156 rfl rfl rfl rfl rfl (cD rfl rfl rfl rfl (W134 _ _ _ _ hx158) rfl (vs 2 rfl .nil)))))))) (by kernel_rfl) ?_
        refine jK h (fun (p : Int × Int) => (⟨[(0, (V.own 0 a4.length)), (2, (iV a2)), (4, (V.fn (.func 134) [] [])), (14, (iV (p.1))), (15, (iV (p.2)))], [(0, (Ob.arr 35 6 (a4.map encTWindow)))], 1⟩ : St)) (fun k159 (p : Int × Int) => k159 p.1 p.2 = some r) (fun k159 h => ?_) ?_
        · refine spC h rfl (fun hb162 h => ?_) (fun hb162 h => ?_)
          · refine rn 5 rfl ?_
            exact jX ((w64 ((w64 (Int.fdiv (IntKind.wrap .u64 (w64 (n150 + n151))) (2 ^ (min (Int.toNat 1) (IntKind.bits .u64))))) + 1)), n151) h (gr [0] rfl (hR rfl rfl .nil) rfl)
          refine rn 4 rfl ?_
          exact jX (n150, (w64 (Int.fdiv (IntKind.wrap .u64 (w64 (n150 + n151))) (2 ^ (min (Int.toNat 1) (IntKind.bits .u64)))))) h (gr [0] rfl (hR rfl rfl .nil) rfl)
        rintro ⟨n160, n161⟩ h
        refine rn 1 rfl ?_
        exact jX (n160, n161) h (gr [0] rfl (hR rfl rfl .nil) rfl)
      refine rn 1 rfl ?_
      exact jX n150 h (gr [0] rfl (hR rfl rfl .nil) rfl)
    intro n147 h
    refine rn 6 rfl ?_
    refine jK h (fun (p : (List TWindow)) => (⟨[], [(0, (Ob.arr 35 6 (p.map encTWindow)))], 1⟩ : St)) (fun k163 (p : (List TWindow)) => k163 p = some r) (fun k163 h => ?_) ?_
    · refine rn 1 rfl ?_
      refine lC (fun (p : Int × (List TWindow)) => (⟨[(0, (V.own 0 (p.2).length)), (14, (iV n147)), (17, (iV (p.1)))], [(0, (Ob.arr 35 6 ((p.2).map encTWindow)))], 1⟩ : St)) (fun n (p : Int × (List TWindow)) => M172_L4 F n147 k163 n p.1 p.2 = some r) (fun p h => by simp [M172_L4] at h) F (a2, a4) h (gr [0] rfl (hR rfl rfl .nil) rfl) (fun n p h => ?_)
      obtain ⟨n167, l168⟩ := p
      unfold M172_L4 at h
      refine rn 7 rfl ?_
      refine spC h rfl (fun hb169 h => ?_) (fun hb169 h => ?_)
      · obtain ⟨x170, hx171, h⟩ := bind_some h
        obtain ⟨x172, hx173, h⟩ := bind_some h
        obtain ⟨x174, hx175, h⟩ := bind_some h
        obtain ⟨x176, hx177, h⟩ := bind_some h
        refine rn 3 rfl ?_
        refine dr mixed (vs 8 rfl (oD (a := l168) hx171 rfl rfl rfl rfl (lD hx171 rfl rfl rfl rfl rfl (vs 2 rfl (oD (a := l168) hx173 rfl rfl rfl rfl (lD hx173 rfl rfl rfl rfl rfl (oD (a := l168) hx175 rfl rfl rfl rfl (xD (OD.mk [(127, (V.ptr 0 6 n167.toNat 0)), (122, (V.agg (encTWindow x170)))] [(0, (Ob.arr 35 6 (l168.map encTWindow)))] [] [(0, (Ob.arr 35 6 ((l168.set n167.toNat x170).map encTWindow)))]) ⟨⟨rfl, rfl, trivial⟩, ⟨rfl, trivial⟩⟩ (by exact fun S hn h hh => aops_store (encTWindow x170) ((l168.set n167.toNat x170).map encTWindow) tS35 wants_none h.1 h.2.1 rfl rfl hh.1 (idx_map encTWindow hx175) rfl (map_set encTWindow l168 _ x170) (aops_nil ⟨rfl, rfl⟩)) rfl (xD (OD.mk [(115, (V.own 0 l168.length)), (117, (iV (w64 (n167 - 1))))] [] [(128, (V.ptr 0 6 (w64 (n167 - 1)).toNat 0))] []) ⟨⟨rfl, rfl, trivial⟩, trivial⟩ (by exact fun S hn h hh => aops_index_own tSl59 wants_none h.1 h.2.1 (idx_some hx177).1 (by simpa using idx_lt hx177) rfl (aops_nil ⟨rfl, rfl⟩)) rfl (xD (OD.mk [(128, (V.ptr 0 6 (w64 (n167 - 1)).toNat 0)), (126, (V.agg (encTWindow x172)))] [(0, (Ob.arr 35 6 ((l168.set n167.toNat x170).map encTWindow)))] [] [(0, (Ob.arr 35 6 (((l168.set n167.toNat x170).set (w64 (n167 - 1)).toNat x172).map encTWindow)))]) ⟨⟨rfl, rfl, trivial⟩, ⟨rfl, trivial⟩⟩ (by exact fun S hn h hh => aops_store (encTWindow x172) (((l168.set n167.toNat x170).set (w64 (n167 - 1)).toNat x172).map encTWindow) tS35 wants_none h.1 h.2.1 rfl rfl hh.1 (idx_map encTWindow hx177) rfl (map_set encTWindow (l168.set n167.toNat x170) _ x172) (aops_nil ⟨rfl, rfl⟩)) rfl .nil)))))))))) (by kernel_rfl) ?_
        refine rn 6 rfl ?_
        exact jX ((w64 (n167 - 1)), ((l168.set n167.toNat x170).set (w64 (n167 - 1)).toNat x172)) h (ghost_ren 1 (fun i => ([0] : List Nat).getD i 0) _ _ (by decide) (EnvSub.get (.cons (Sub.ownE rfl rfl (by simp)) (.cons (Sub.imm (Imm.con _)) (.cons (Sub.imm (Imm.con _)) .nil)))) (HpSub.get (.cons rfl (ObSub.rows (rows_imm imms_encTWindow)) .nil)) rfl)
      refine rn 1 rfl ?_
      exact jX l168 h (gr [0] rfl (hR rfl rfl .nil) rfl)
    intro l164 h
    replace h := Option.some.inj h
    subst h
    exact wR ⟨.inl rfl, [], (gr [0] rfl (hR rfl rfl .nil) rfl), .nil⟩
  refine rn 30 rfl ?_
  refine jK h (fun (p : Int × Int) => (⟨[(0, (V.own 0 a4.length)), (1, (iV a1)), (2, (iV a2)), (3, (iV a3)), (4, (V.fn (.func 134) [] [])), (18, (iV (w64 (Int.fdiv (IntKind.wrap .u64 (w64 (a1 + a3))) (2 ^ (min (Int.toNat 1) (IntKind.bits .u64))))))), (19, (iV (w64 ((w64 (Int.fdiv (IntKind.wrap .u64 (w64 (a1 + a3))) (2 ^ (min (Int.toNat 1) (IntKind.bits .u64))))) + a2)))), (20, (iV (p.1))), (21, (iV (p.2)))], [(0, (Ob.arr 35 6 (a4.map encTWindow)))], 1⟩ : St)) (fun k178 (p : Int × Int) => k178 p.1 p.2 = some r) (fun k178 h => ?_) ?_
  · refine spC h rfl (fun hb181 h => ?_) (fun hb181 h => ?_)
    · refine rn 11 rfl ?_
      exact jX ((w64 ((w64 ((w64 (Int.fdiv (IntKind.wrap .u64 (w64 (a1 + a3))) (2 ^ (min (Int.toNat 1) (IntKind.bits .u64))))) + a2)) - a3)), (w64 (Int.fdiv (IntKind.wrap .u64 (w64 (a1 + a3))) (2 ^ (min (Int.toNat 1) (IntKind.bits .u64)))))) h (gr [0] rfl (hR rfl rfl .nil) rfl)
    refine rn 9 rfl ?_
    exact jX (a1, a2) h (gr [0] rfl (hR rfl rfl .nil) rfl)
  rintro ⟨n179, n180⟩ h
  refine rn 7 rfl ?_
  refine jK h (fun (p : Int) => (⟨[(0, (V.own 0 a4.length)), (1, (iV a1)), (2, (iV a2)), (3, (iV a3)), (4, (V.fn (.func 134) [] [])), (18, (iV (w64 (Int.fdiv (IntKind.wrap .u64 (w64 (a1 + a3))) (2 ^ (min (Int.toNat 1) (IntKind.bits .u64))))))), (19, (iV (w64 ((w64 (Int.fdiv (IntKind.wrap .u64 (w64 (a1 + a3))) (2 ^ (min (Int.toNat 1) (IntKind.bits .u64))))) + a2)))), (20, (iV p))], [(0, (Ob.arr 35 6 (a4.map encTWindow)))], 1⟩ : St)) (fun k182 (p : Int) => k182 p = some r) (fun k182 h => ?_) ?_
  · refine rn 1 rfl ?_
    refine lC (fun (p : Int × Int) => (⟨[(0, (V.own 0 a4.length)), (1, (iV a1)), (2, (iV a2)), (3, (iV a3)), (4, (V.fn (.func 134) [] [])), (18, (iV (w64 (Int.fdiv (IntKind.wrap .u64 (w64 (a1 + a3))) (2 ^ (min (Int.toNat 1) (IntKind.bits .u64))))))), (19, (iV (w64 ((w64 (Int.fdiv (IntKind.wrap .u64 (w64 (a1 + a3))) (2 ^ (min (Int.toNat 1) (IntKind.bits .u64))))) + a2)))), (20, (iV (p.1))), (21, (iV (p.2))), (22, (iV (w64 ((w64 ((w64 (Int.fdiv (IntKind.wrap .u64 (w64 (a1 + a3))) (2 ^ (min (Int.toNat 1) (IntKind.bits .u64))))) + a2)) - 1))))], [(0, (Ob.arr 35 6 (a4.map encTWindow)))], 1⟩ : St)) (fun n (p : Int × Int) => M172_L5 F a1 a2 a3 a4 k182 n p.1 p.2 = some r) (fun p h => by simp [M172_L5] at h) F (n179, n180) h (gr [0] rfl (hR rfl rfl .nil) rfl) (fun n p h => ?_)
    obtain ⟨n186, n187⟩ := p
    unfold M172_L5 at h
    refine rn 7 rfl ?_
    refine spC h rfl (fun hb188 h => ?_) (fun hb188 h => ?_)
    · obtain ⟨x189, hx190, h⟩ := bind_some h
      obtain ⟨x191, hx192, h⟩ := bind_some h
      obtain ⟨y193, hx194, h⟩ := bind_some h
      refine rn 13 rfl ?_
      refine dr mixed (vs 5 rfl (oD (a := a4) hx190 rfl rfl rfl rfl (lD hx190 rfl rfl rfl rfl rfl (vs 2 rfl (oD (a := a4) hx192 rfl rfl rfl rfl (lD hx192 rfl rfl rfl rfl rfl (cD rfl rfl rfl rfl (W134 _ _ _ _ hx194) rfl (vs 2 rfl .nil)))))))) (by kernel_rfl) ?_
      refine jK h (fun (p : Int × Int) => (⟨[(0, (V.own 0 a4.length)), (1, (iV a1)), (2, (iV a2)), (3, (iV a3)), (4, (V.fn (.func 134) [] [])), (18, (iV (w64 (Int.fdiv (IntKind.wrap .u64 (w64 (a1 + a3))) (2 ^ (min (Int.toNat 1) (IntKind.bits .u64))))))), (19, (iV (w64 ((w64 (Int.fdiv (IntKind.wrap .u64 (w64 (a1 + a3))) (2 ^ (min (Int.toNat 1) (IntKind.bits .u64))))) + a2)))), (20, (iV (p.1))), (21, (iV (p.2))), (22, (iV (w64 ((w64 ((w64 (Int.fdiv (IntKind.wrap .u64 (w64 (a1 + a3))) (2 ^ (min (Int.toNat 1) (IntKind.bits .u64))))) + a2)) - 1))))], [(0, (Ob.arr 35 6 (a4.map encTWindow)))], 1⟩ : St)) (fun k195 (p : Int × Int) => k195 p.1 p.2 = some r) (fun k195 h => ?_) ?_
      · refine spC h rfl (fun hb198 h => ?_) (fun hb198 h => ?_)
        · refine rn 5 rfl ?_
          exact jX ((w64 ((w64 (Int.fdiv (IntKind.wrap .u64 (w64 (n186 + n187))) (2 ^ (min (Int.toNat 1) (IntKind.bits .u64))))) + 1)), n187) h (gr [0] rfl (hR rfl rfl .nil) rfl)
        refine rn 4 rfl ?_
        exact jX (n186, (w64 (Int.fdiv (IntKind.wrap .u64 (w64 (n186 + n187))) (2 ^ (min (Int.toNat 1) (IntKind.bits .u64)))))) h (gr [0] rfl (hR rfl rfl .nil) rfl)
      rintro ⟨n196, n197⟩ h
      refine rn 1 rfl ?_
      exact jX (n196, n197) h (gr [0] rfl (hR rfl rfl .nil) rfl)
    refine rn 1 rfl ?_
    exact jX n186 h (gr [0] rfl (hR rfl rfl .nil) rfl)
  intro n183 h
  refine rn 14 rfl ?_
  refine spO 181 h rfl (fun hb199 h => ?_) (fun hb199 h => ?_)
  · refine rn 5 rfl ?_
    refine jK h (fun (p : (List TWindow)) => (⟨[(0, (V.own 0 p.length)), (1, (iV a1)), (3, (iV a3)), (4, (V.fn (.func 134) [] [])), (18, (iV (w64 (Int.fdiv (IntKind.wrap .u64 (w64 (a1 + a3))) (2 ^ (min (Int.toNat 1) (IntKind.bits .u64))))))), (20, (iV n183)), (24, (iV (w64 ((w64 ((w64 (Int.fdiv (IntKind.wrap .u64 (w64 (a1 + a3))) (2 ^ (min (Int.toNat 1) (IntKind.bits .u64))))) + a2)) - n183))))], [(0, (Ob.arr 35 6 (p.map encTWindow)))], 1⟩ : St)) (fun k200 (p : (List TWindow)) => k200 p = some r) (fun k200 h => ?_) ?_
    · refine spC h rfl (fun hb202 h => ?_) (fun hb202 h => ?_)
      · obtain ⟨y203, hx204, h⟩ := bind_some h
        refine rn 6 rfl ?_
        refine ck h (fun hc205 h => ?_)
        refine aops_mcall (V.tup []) [(V.own 0 a4.length), (iV n183), (iV a2), (iV (w64 ((w64 ((w64 (Int.fdiv (IntKind.wrap .u64 (w64 (a1 + a3))) (2 ^ (min (Int.toNat 1) (IntKind.bits .u64))))) + a2)) - n183))), (V.fn (.func 134) [] [])] (fun i => ([0] : List Nat).getD i 0) (fun i => ([0] : List Nat).getD i 0) 1 1 [(0, (Ob.arr 35 6 (y203.map encTWindow)))] fOk181 wants_none rfl (evm_cons rfl (evm_cons rfl (evm_cons rfl (evm_cons rfl (evm_cons rfl evm_nil))))) (.cons (Sub.own rfl rfl) (.cons (Sub.imm (Imm.con _)) (.cons (Sub.imm (Imm.con _)) (.cons (Sub.imm (Imm.con _)) (.cons (Sub.imm (Imm.fn .nil .nil)) .nil))))) (.cons rfl (ObSub.rows (rows_imm imms_encTWindow)) .nil) (W181 F n183 a2 (w64 ((w64 ((w64 (Int.fdiv (IntKind.wrap .u64 (w64 (a1 + a3))) (2 ^ (min (Int.toNat 1) (IntKind.bits .u64))))) + a2)) - n183)) a4 y203 hx204) rfl rfl rfl rfl rfl (Sub.immT (Imm.tup .nil)) (.cons rfl (ObSub.rowsT (rows_imm imms_encTWindow)) .nil) ?_
        refine aops_ghost (ghost_tell 0 (V.own 0 y203.length) rfl (Sub.ownI hc205)) ?_
        refine aops_ghost (ghost_tell 186 (V.own 0 y203.length) rfl (Sub.ownI hc205)) ?_
        refine fo (rn 1 rfl ?_)
        exact jX y203 h (gr [0] rfl (hR rfl rfl .nil) rfl)
      refine rn 1 rfl ?_
      exact jX a4 h (gr [0] rfl (hR rfl rfl .nil) rfl)
    intro l201 h
    refine rn 7 rfl ?_
    refine spO 195 h rfl (fun hb206 h => ?_) (fun hb206 h => ?_)
    · refine rn 5 rfl ?_
      refine jK h (fun (p : (List TWindow)) => (⟨[(0, (V.own 0 p.length)), (3, (iV a3)), (4, (V.fn (.func 134) [] [])), (18, (iV (w64 (Int.fdiv (IntKind.wrap .u64 (w64 (a1 + a3))) (2 ^ (min (Int.toNat 1) (IntKind.bits .u64))))))), (24, (iV (w64 ((w64 ((w64 (Int.fdiv (IntKind.wrap .u64 (w64 (a1 + a3))) (2 ^ (min (Int.toNat 1) (IntKind.bits .u64))))) + a2)) - n183))))], [(0, (Ob.arr 35 6 (p.map encTWindow)))], 1⟩ : St)) (fun k207 (p : (List TWindow)) => k207 p = some r) (fun k207 h => ?_) ?_
      · refine spC h rfl (fun hb209 h => ?_) (fun hb209 h => ?_)
        · obtain ⟨y210, hx211, h⟩ := bind_some h
          refine rn 6 rfl ?_
          refine ck h (fun hc212 h => ?_)
          refine aops_mcall (V.tup []) [(V.own 0 l201.length), (iV a1), (iV n183), (iV (w64 (Int.fdiv (IntKind.wrap .u64 (w64 (a1 + a3))) (2 ^ (min (Int.toNat 1) (IntKind.bits .u64)))))), (V.fn (.func 134) [] [])] (fun i => ([0] : List Nat).getD i 0) (fun i => ([0] : List Nat).getD i 0) 1 1 [(0, (Ob.arr 35 6 (y210.map encTWindow)))] fOk172 wants_none rfl (evm_cons rfl (evm_cons rfl (evm_cons rfl (evm_cons rfl (evm_cons rfl evm_nil))))) (.cons (Sub.own rfl rfl) (.cons (Sub.imm (Imm.con _)) (.cons (Sub.imm (Imm.con _)) (.cons (Sub.imm (Imm.con _)) (.cons (Sub.imm (Imm.fn .nil .nil)) .nil))))) (.cons rfl (ObSub.rows (rows_imm imms_encTWindow)) .nil) (hR172 a1 n183 (w64 (Int.fdiv (IntKind.wrap .u64 (w64 (a1 + a3))) (2 ^ (min (Int.toNat 1) (IntKind.bits .u64))))) l201 _ hx211) rfl rfl rfl rfl rfl (Sub.immT (Imm.tup .nil)) (.cons rfl (ObSub.rowsT (rows_imm imms_encTWindow)) .nil) ?_
          refine aops_ghost (ghost_tell 0 (V.own 0 y210.length) rfl (Sub.ownI hc212)) ?_
          refine aops_ghost (ghost_tell 200 (V.own 0 y210.length) rfl (Sub.ownI hc212)) ?_
          refine fo (rn 1 rfl ?_)
          exact jX y210 h (gr [0] rfl (hR rfl rfl .nil) rfl)
        refine rn 1 rfl ?_
        exact jX l201 h (gr [0] rfl (hR rfl rfl .nil) rfl)
      intro l208 h
      refine rn 6 rfl ?_
      refine spO 209 h rfl (fun hb213 h => ?_) (fun hb213 h => ?_)
      · refine rn 5 rfl ?_
        refine spC h rfl (fun hb214 h => ?_) (fun hb214 h => ?_)
        · obtain ⟨y215, hx216, h⟩ := bind_some h
          refine rn 6 rfl ?_
          refine ck h (fun hc217 h => ?_)
          refine aops_mcall (V.tup []) [(V.own 0 l208.length), (iV (w64 (Int.fdiv (IntKind.wrap .u64 (w64 (a1 + a3))) (2 ^ (min (Int.toNat 1) (IntKind.bits .u64)))))), (iV (w64 ((w64 ((w64 (Int.fdiv (IntKind.wrap .u64 (w64 (a1 + a3))) (2 ^ (min (Int.toNat 1) (IntKind.bits .u64))))) + a2)) - n183))), (iV a3), (V.fn (.func 134) [] [])] (fun i => ([0] : List Nat).getD i 0) (fun i => ([0] : List Nat).getD i 0) 1 1 [(0, (Ob.arr 35 6 (y215.map encTWindow)))] fOk172 wants_none rfl (evm_cons rfl (evm_cons rfl (evm_cons rfl (evm_cons rfl (evm_cons rfl evm_nil))))) (.cons (Sub.own rfl rfl) (.cons (Sub.imm (Imm.con _)) (.cons (Sub.imm (Imm.con _)) (.cons (Sub.imm (Imm.con _)) (.cons (Sub.imm (Imm.fn .nil .nil)) .nil))))) (.cons rfl (ObSub.rows (rows_imm imms_encTWindow)) .nil) (hR172 (w64 (Int.fdiv (IntKind.wrap .u64 (w64 (a1 + a3))) (2 ^ (min (Int.toNat 1) (IntKind.bits .u64))))) (w64 ((w64 ((w64 (Int.fdiv (IntKind.wrap .u64 (w64 (a1 + a3))) (2 ^ (min (Int.toNat 1) (IntKind.bits .u64))))) + a2)) - n183)) a3 l208 _ hx216) rfl rfl rfl rfl rfl (Sub.immT (Imm.tup .nil)) (.cons rfl (ObSub.rowsT (rows_imm imms_encTWindow)) .nil) ?_
          refine aops_ghost (ghost_tell 0 (V.own 0 y215.length) rfl (Sub.ownI hc217)) ?_
          refine aops_ghost (ghost_tell 214 (V.own 0 y215.length) rfl (Sub.ownI hc217)) ?_
          refine fo (rn 1 rfl ?_)
          replace h := Option.some.inj h
          subst h
          exact wE ⟨.inr rfl, [], (gr [0] rfl (hR rfl rfl .nil) rfl), .nil⟩
        refine rn 1 rfl ?_
        replace h := Option.some.inj h
        subst h
        exact wE ⟨.inr rfl, [], (gr [0] rfl (hR rfl rfl .nil) rfl), .nil⟩
      refine rn 7 rfl ?_
      replace h := Option.some.inj h
      subst h
      exact wE ⟨.inr rfl, [], (gr [0] rfl (hR rfl rfl .nil) rfl), .nil⟩
    refine rn 13 rfl ?_
    refine spO 209 h rfl (fun hb218 h => ?_) (fun hb218 h => ?_)
    · refine rn 5 rfl ?_
      refine spC h rfl (fun hb219 h => ?_) (fun hb219 h => ?_)
      · obtain ⟨y220, hx221, h⟩ := bind_some h
        refine rn 6 rfl ?_
        refine ck h (fun hc222 h => ?_)
        refine aops_mcall (V.tup []) [(V.own 0 l201.length), (iV (w64 (Int.fdiv (IntKind.wrap .u64 (w64 (a1 + a3))) (2 ^ (min (Int.toNat 1) (IntKind.bits .u64)))))), (iV (w64 ((w64 ((w64 (Int.fdiv (IntKind.wrap .u64 (w64 (a1 + a3))) (2 ^ (min (Int.toNat 1) (IntKind.bits .u64))))) + a2)) - n183))), (iV a3), (V.fn (.func 134) [] [])] (fun i => ([0] : List Nat).getD i 0) (fun i => ([0] : List Nat).getD i 0) 1 1 [(0, (Ob.arr 35 6 (y220.map encTWindow)))] fOk172 wants_none rfl (evm_cons rfl (evm_cons rfl (evm_cons rfl (evm_cons rfl (evm_cons rfl evm_nil))))) (.cons (Sub.own rfl rfl) (.cons (Sub.imm (Imm.con _)) (.cons (Sub.imm (Imm.con _)) (.cons (Sub.imm (Imm.con _)) (.cons (Sub.imm (Imm.fn .nil .nil)) .nil))))) (.cons rfl (ObSub.rows (rows_imm imms_encTWindow)) .nil) (hR172 (w64 (Int.fdiv (IntKind.wrap .u64 (w64 (a1 + a3))) (2 ^ (min (Int.toNat 1) (IntKind.bits .u64))))) (w64 ((w64 ((w64 (Int.fdiv (IntKind.wrap .u64 (w64 (a1 + a3))) (2 ^ (min (Int.toNat 1) (IntKind.bits .u64))))) + a2)) - n183)) a3 l201 _ hx221) rfl rfl rfl rfl rfl (Sub.immT (Imm.tup .nil)) (.cons rfl (ObSub.rowsT (rows_imm imms_encTWindow)) .nil) ?_
        refine aops_ghost (ghost_tell 0 (V.own 0 y220.length) rfl (Sub.ownI hc222)) ?_
        refine aops_ghost (ghost_tell 214 (V.own 0 y220.length) rfl (Sub.ownI hc222)) ?_
        refine fo (rn 1 rfl ?_)
        replace h := Option.some.inj h
        subst h
        exact wE ⟨.inr rfl, [], (gr [0] rfl (hR rfl rfl .nil) rfl), .nil⟩
      refine rn 1 rfl ?_
      replace h := Option.some.inj h
      subst h
      exact wE ⟨.inr rfl, [], (gr [0] rfl (hR rfl rfl .nil) rfl), .nil⟩
    refine rn 7 rfl ?_
    replace h := Option.some.inj h
    subst h
    exact wE ⟨.inr rfl, [], (gr [0] rfl (hR rfl rfl .nil) rfl), .nil⟩
  refine rn 14 rfl ?_
  refine spO 195 h rfl (fun hb223 h => ?_) (fun hb223 h => ?_)
  · refine rn 5 rfl ?_
    refine jK h (fun (p : (List TWindow)) => (⟨[(0, (V.own 0 p.length)), (3, (iV a3)), (4, (V.fn (.func 134) [] [])), (18, (iV (w64 (Int.fdiv (IntKind.wrap .u64 (w64 (a1 + a3))) (2 ^ (min (Int.toNat 1) (IntKind.bits .u64))))))), (24, (iV (w64 ((w64 ((w64 (Int.fdiv (IntKind.wrap .u64 (w64 (a1 + a3))) (2 ^ (min (Int.toNat 1) (IntKind.bits .u64))))) + a2)) - n183))))], [(0, (Ob.arr 35 6 (p.map encTWindow)))], 1⟩ : St)) (fun k224 (p : (List TWindow)) => k224 p = some r) (fun k224 h => ?_) ?_
    · refine spC h rfl (fun hb226 h => ?_) (fun hb226 h => ?_)
      · obtain ⟨y227, hx228, h⟩ := bind_some h
        refine rn 6 rfl ?_
        refine ck h (fun hc229 h => ?_)
        refine aops_mcall (V.tup []) [(V.own 0 a4.length), (iV a1), (iV n183), (iV (w64 (Int.fdiv (IntKind.wrap .u64 (w64 (a1 + a3))) (2 ^ (min (Int.toNat 1) (IntKind.bits .u64)))))), (V.fn (.func 134) [] [])] (fun i => ([0] : List Nat).getD i 0) (fun i => ([0] : List Nat).getD i 0) 1 1 [(0, (Ob.arr 35 6 (y227.map encTWindow)))] fOk172 wants_none rfl (evm_cons rfl (evm_cons rfl (evm_cons rfl (evm_cons rfl (evm_cons rfl evm_nil))))) (.cons (Sub.own rfl rfl) (.cons (Sub.imm (Imm.con _)) (.cons (Sub.imm (Imm.con _)) (.cons (Sub.imm (Imm.con _)) (.cons (Sub.imm (Imm.fn .nil .nil)) .nil))))) (.cons rfl (ObSub.rows (rows_imm imms_encTWindow)) .nil) (hR172 a1 n183 (w64 (Int.fdiv (IntKind.wrap .u64 (w64 (a1 + a3))) (2 ^ (min (Int.toNat 1) (IntKind.bits .u64))))) a4 _ hx228) rfl rfl rfl rfl rfl (Sub.immT (Imm.tup .nil)) (.cons rfl (ObSub.rowsT (rows_imm imms_encTWindow)) .nil) ?_
        refine aops_ghost (ghost_tell 0 (V.own 0 y227.length) rfl (Sub.ownI hc229)) ?_
        refine aops_ghost (ghost_tell 200 (V.own 0 y227.length) rfl (Sub.ownI hc229)) ?_
        refine fo (rn 1 rfl ?_)
        exact jX y227 h (gr [0] rfl (hR rfl rfl .nil) rfl)
      refine rn 1 rfl ?_
      exact jX a4 h (gr [0] rfl (hR rfl rfl .nil) rfl)
    intro l225 h
    refine rn 6 rfl ?_
    refine spO 209 h rfl (fun hb230 h => ?_) (fun hb230 h => ?_)
    · refine rn 5 rfl ?_
      refine spC h rfl (fun hb231 h => ?_) (fun hb231 h => ?_)
      · obtain ⟨y232, hx233, h⟩ := bind_some h
        refine rn 6 rfl ?_
        refine ck h (fun hc234 h => ?_)
        refine aops_mcall (V.tup []) [(V.own 0 l225.length), (iV (w64 (Int.fdiv (IntKind.wrap .u64 (w64 (a1 + a3))) (2 ^ (min (Int.toNat 1) (IntKind.bits .u64)))))), (iV (w64 ((w64 ((w64 (Int.fdiv (IntKind.wrap .u64 (w64 (a1 + a3))) (2 ^ (min (Int.toNat 1) (IntKind.bits .u64))))) + a2)) - n183))), (iV a3), (V.fn (.func 134) [] [])] (fun i => ([0] : List Nat).getD i 0) (fun i => ([0] : List Nat).getD i 0) 1 1 [(0, (Ob.arr 35 6 (y232.map encTWindow)))] fOk172 wants_none rfl (evm_cons rfl (evm_cons rfl (evm_cons rfl (evm_cons rfl (evm_cons rfl evm_nil))))) (.cons (Sub.own rfl rfl) (.cons (Sub.imm (Imm.con _)) (.cons (Sub.imm (Imm.con _)) (.cons (Sub.imm (Imm.con _)) (.cons (Sub.imm (Imm.fn .nil .nil)) .nil))))) (.cons rfl (ObSub.rows (rows_imm imms_encTWindow)) .nil) (hR172 (w64 (Int.fdiv (IntKind.wrap .u64 (w64 (a1 + a3))) (2 ^ (min (Int.toNat 1) (IntKind.bits .u64))))) (w64 ((w64 ((w64 (Int.fdiv (IntKind.wrap .u64 (w64 (a1 + a3))) (2 ^ (min (Int.toNat 1) (IntKind.bits .u64))))) + a2)) - n183)) a3 l225 _ hx233) rfl rfl rfl rfl rfl (Sub.immT (Imm.tup .nil)) (.cons rfl (ObSub.rowsT (rows_imm imms_encTWindow)) .nil) ?_
        refine aops_ghost (ghost_tell 0 (V.own 0 y232.length) rfl (Sub.ownI hc234)) ?_
        refine aops_ghost (ghost_tell 214 (V.own 0 y232.length) rfl (Sub.ownI hc234)) ?_
        refine fo (rn 1 rfl ?_)
        replace h := Option.some.inj h
        subst h
        exact wE ⟨.inr rfl, [], (gr [0] rfl (hR rfl rfl .nil) rfl), .nil⟩
      refine rn 1 rfl ?_
      replace h := Option.some.inj h
      subst h
      exact wE ⟨.inr rfl, [], (gr [0] rfl (hR rfl rfl .nil) rfl), .nil⟩
    refine rn 7 rfl ?_
    replace h := Option.some.inj h
    subst h
    exact wE ⟨.inr rfl, [], (gr [0] rfl (hR rfl rfl .nil) rfl), .nil⟩
  refine rn 13 rfl ?_
  refine spO 209 h rfl (fun hb235 h => ?_) (fun hb235 h => ?_)
  · refine rn 5 rfl ?_
    refine spC h rfl (fun hb236 h => ?_) (fun hb236 h => ?_)
    · obtain ⟨y237, hx238, h⟩ := bind_some h
      refine rn 6 rfl ?_
      refine ck h (fun hc239 h => ?_)
      refine aops_mcall (V.tup []) [(V.own 0 a4.length), (iV (w64 (Int.fdiv (IntKind.wrap .u64 (w64 (a1 + a3))) (2 ^ (min (Int.toNat 1) (IntKind.bits .u64)))))), (iV (w64 ((w64 ((w64 (Int.fdiv (IntKind.wrap .u64 (w64 (a1 + a3))) (2 ^ (min (Int.toNat 1) (IntKind.bits .u64))))) + a2)) - n183))), (iV a3), (V.fn (.func 134) [] [])] (fun i => ([0] : List Nat).getD i 0) (fun i => ([0] : List Nat).getD i 0) 1 1 [(0, (Ob.arr 35 6 (y237.map encTWindow)))] fOk172 wants_none rfl (evm_cons rfl (evm_cons rfl (evm_cons rfl (evm_cons rfl (evm_cons rfl evm_nil))))) (.cons (Sub.own rfl rfl) (.cons (Sub.imm (Imm.con _)) (.cons (Sub.imm (Imm.con _)) (.cons (Sub.imm (Imm.con _)) (.cons (Sub.imm (Imm.fn .nil .nil)) .nil))))) (.cons rfl (ObSub.rows (rows_imm imms_encTWindow)) .nil) (hR172 (w64 (Int.fdiv (IntKind.wrap .u64 (w64 (a1 + a3))) (2 ^ (min (Int.toNat 1) (IntKind.bits .u64))))) (w64 ((w64 ((w64 (Int.fdiv (IntKind.wrap .u64 (w64 (a1 + a3))) (2 ^ (min (Int.toNat 1) (IntKind.bits .u64))))) + a2)) - n183)) a3 a4 _ hx238) rfl rfl rfl rfl rfl (Sub.immT (Imm.tup .nil)) (.cons rfl (ObSub.rowsT (rows_imm imms_encTWindow)) .nil) ?_
      refine aops_ghost (ghost_tell 0 (V.own 0 y237.length) rfl (Sub.ownI hc239)) ?_
      refine aops_ghost (ghost_tell 214 (V.own 0 y237.length) rfl (Sub.ownI hc239)) ?_
      refine fo (rn 1 rfl ?_)
      replace h := Option.some.inj h
      subst h
      exact wE ⟨.inr rfl, [], (gr [0] rfl (hR rfl rfl .nil) rfl), .nil⟩
    refine rn 1 rfl ?_
    replace h := Option.some.inj h
    subst h
    exact wE ⟨.inr rfl, [], (gr [0] rfl (hR rfl rfl .nil) rfl), .nil⟩
  refine rn 7 rfl ?_
  replace h := Option.some.inj h
  subst h
  exact wE ⟨.inr rfl, [], (gr [0] rfl (hR rfl rfl .nil) rfl), .nil⟩
theorem W172 : ∀ (F : Nat) (a1 : Int) (a2 : Int) (a3 : Int) (a4 : List TWindow) (r : (List TWindow)) (h : M172 F a1 a2 a3 a4 = some r), Mut Try.prog 172 [(V.own 0 a4.length), (iV a1), (iV a2), (iV a3), (V.fn (.func 134) [] [])] 1 [(0, (Ob.arr 35 6 (a4.map encTWindow)))] (resV []) 1 [(0, (Ob.arr 35 6 (r.map encTWindow)))] := by
  intro F
  induction F with
  | zero => intros; simp [M172] at *
  | succ F ih => exact fun a1 a2 a3 a4 r h => W172_B (M172 F) ih F a1 a2 a3 a4 r h
theorem W157 (F : Nat) (a1 : Int) (a2 : List TWindow) (r : (List TWindow)) (h : M157 F a1 a2 = some r) : Mut Try.prog 157 [(V.own 0 a2.length), (iV a1), (V.fn (.func 134) [] [])] 1 [(0, (Ob.arr 35 6 (a2.map encTWindow)))] (resV []) 1 [(0, (Ob.arr 35 6 (r.map encTWindow)))] := by
  refine mut_enter Try.func157 rfl rfl (l := []) rfl rfl [(0, (V.own 0 a2.length)), (1, (iV a1)), (2, (V.fn (.func 134) [] []))] rfl (fun w0 m0 β0 => en ?_)
  unfold M157 at h
  refine rn 11 rfl ?_
  refine jK h (fun (p : Int × (List TWindow)) => (⟨[(0, (V.own 0 (p.2).length)), (1, (iV a1)), (2, (V.fn (.func 134) [] [])), (6, (iV 20)), (7, (iV (p.1)))], [(0, (Ob.arr 35 6 ((p.2).map encTWindow)))], 1⟩ : St)) (fun k46 (p : Int × (List TWindow)) => k46 p.1 p.2 = some r) (fun k46 h => ?_) ?_
  · refine rn 1 rfl ?_
    refine lC (fun (p : Int × Int × (List TWindow)) => (⟨[(0, (V.own 0 (p.2.2).length)), (1, (iV a1)), (2, (V.fn (.func 134) [] [])), (6, (iV 20)), (7, (iV (p.1))), (8, (iV (p.2.1)))], [(0, (Ob.arr 35 6 ((p.2.2).map encTWindow)))], 1⟩ : St)) (fun n (p : Int × Int × (List TWindow)) => M157_L1 F a1 k46 n p.1 p.2.1 p.2.2 = some r) (fun p h => by simp [M157_L1] at h) F (0, 20, a2) h (gr [0] rfl (hR rfl rfl .nil) rfl) (fun n p h => ?_)
    obtain ⟨n52, n53, l54⟩ := p
    unfold M157_L1 at h
    refine rn 7 rfl ?_
    refine spC h rfl (fun hb55 h => ?_) (fun hb55 h => ?_)
    · obtain ⟨y56, hx57, h⟩ := bind_some h
      refine rn 8 rfl ?_
      refine ck h (fun hc58 h => ?_)
      refine aops_mcall (V.tup []) [(V.own 0 l54.length), (iV n52), (iV n53), (V.fn (.func 134) [] [])] (fun i => ([0] : List Nat).getD i 0) (fun i => ([0] : List Nat).getD i 0) 1 1 [(0, (Ob.arr 35 6 (y56.map encTWindow)))] fOk171 wants_none rfl (evm_cons rfl (evm_cons rfl (evm_cons rfl (evm_cons rfl evm_nil)))) (.cons (Sub.own rfl rfl) (.cons (Sub.imm (Imm.con _)) (.cons (Sub.imm (Imm.con _)) (.cons (Sub.imm (Imm.fn .nil .nil)) .nil)))) (.cons rfl (ObSub.rows (rows_imm imms_encTWindow)) .nil) (W171 F n52 n53 l54 y56 hx57) rfl rfl rfl rfl rfl (Sub.immT (Imm.tup .nil)) (.cons rfl (ObSub.rowsT (rows_imm imms_encTWindow)) .nil) ?_
      refine aops_ghost (ghost_tell 0 (V.own 0 y56.length) rfl (Sub.ownI hc58)) ?_
      refine aops_ghost (ghost_tell 14 (V.own 0 y56.length) rfl (Sub.ownI hc58)) ?_
      refine fo (rn 13 rfl ?_)
      exact jX (n53, (w64 (n53 + 20)), y56) h (gr [0] rfl (hR rfl rfl .nil) rfl)
    refine rn 1 rfl ?_
    exact jX (n52, l54) h (gr [0] rfl (hR rfl rfl .nil) rfl)
  rintro ⟨n47, l48⟩ h
  obtain ⟨y59, hx60, h⟩ := bind_some h
  refine rn 6 rfl ?_
  refine ck h (fun hc61 h => ?_)
  refine aops_mcall (V.tup []) [(V.own 0 l48.length), (iV n47), (iV a1), (V.fn (.func 134) [] [])] (fun i => ([0] : List Nat).getD i 0) (fun i => ([0] : List Nat).getD i 0) 1 1 [(0, (Ob.arr 35 6 (y59.map encTWindow)))] fOk171 wants_none rfl (evm_cons rfl (evm_cons rfl (evm_cons rfl (evm_cons rfl evm_nil)))) (.cons (Sub.own rfl rfl) (.cons (Sub.imm (Imm.con _)) (.cons (Sub.imm (Imm.con _)) (.cons (Sub.imm (Imm.fn .nil .nil)) .nil)))) (.cons rfl (ObSub.rows (rows_imm imms_encTWindow)) .nil) (W171 F n47 a1 l48 y59 hx60) rfl rfl rfl rfl rfl (Sub.immT (Imm.tup .nil)) (.cons rfl (ObSub.rowsT (rows_imm imms_encTWindow)) .nil) ?_
  refine aops_ghost (ghost_tell 0 (V.own 0 y59.length) rfl (Sub.ownI hc61)) ?_
  refine aops_ghost (ghost_tell 23 (V.own 0 y59.length) rfl (Sub.ownI hc61)) ?_
  refine fo (rn 2 rfl ?_)
  refine lC (fun (p : Int × (List TWindow)) => (⟨[(0, (V.own 0 (p.2).length)), (1, (iV a1)), (2, (V.fn (.func 134) [] [])), (6, (iV (p.1)))], [(0, (Ob.arr 35 6 ((p.2).map encTWindow)))], 1⟩ : St)) (fun n (p : Int × (List TWindow)) => M157_L2 F a1 n p.1 p.2 = some r) (fun p h => by simp [M157_L2] at h) F (20, y59) h (gr [0] rfl (hR rfl rfl .nil) rfl) (fun n p h => ?_)
  obtain ⟨n64, l65⟩ := p
  unfold M157_L2 at h
  refine rn 7 rfl ?_
  refine spC h rfl (fun hb66 h => ?_) (fun hb66 h => ?_)
  · refine rn 1 rfl ?_
    refine jK h (fun (p : (List TWindow)) => (⟨[(0, (V.own 0 p.length)), (1, (iV a1)), (2, (V.fn (.func 134) [] [])), (6, (iV (w64 (n64 * 2))))], [(0, (Ob.arr 35 6 (p.map encTWindow)))], 1⟩ : St)) (fun k67 (p : (List TWindow)) => k67 p = some r) (fun k67 h => ?_) ?_
    · refine rn 9 rfl ?_
      refine jK h (fun (p : Int × (List TWindow)) => (⟨[(0, (V.own 0 (p.2).length)), (1, (iV a1)), (2, (V.fn (.func 134) [] [])), (6, (iV n64)), (7, (iV (p.1)))], [(0, (Ob.arr 35 6 ((p.2).map encTWindow)))], 1⟩ : St)) (fun k69 (p : Int × (List TWindow)) => k69 p.1 p.2 = some r) (fun k69 h => ?_) ?_
      · refine rn 1 rfl ?_
        refine lC (fun (p : Int × Int × (List TWindow)) => (⟨[(0, (V.own 0 (p.2.2).length)), (1, (iV a1)), (2, (V.fn (.func 134) [] [])), (6, (iV n64)), (7, (iV (p.1))), (8, (iV (p.2.1)))], [(0, (Ob.arr 35 6 ((p.2.2).map encTWindow)))], 1⟩ : St)) (fun n (p : Int × Int × (List TWindow)) => M157_L3 F a1 n64 k69 n p.1 p.2.1 p.2.2 = some r) (fun p h => by simp [M157_L3] at h) F (0, (w64 (2 * n64)), l65) h (gr [0] rfl (hR rfl rfl .nil) rfl) (fun n p h => ?_)
        obtain ⟨n75, n76, l77⟩ := p
        unfold M157_L3 at h
        refine rn 7 rfl ?_
        refine spC h rfl (fun hb78 h => ?_) (fun hb78 h => ?_)
        · obtain ⟨y79, hx80, h⟩ := bind_some h
          refine rn 11 rfl ?_
          refine ck h (fun hc81 h => ?_)
          refine aops_mcall (V.tup []) [(V.own 0 l77.length), (iV n75), (iV (w64 (n75 + n64))), (iV n76), (V.fn (.func 134) [] [])] (fun i => ([0] : List Nat).getD i 0) (fun i => ([0] : List Nat).getD i 0) 1 1 [(0, (Ob.arr 35 6 (y79.map encTWindow)))] fOk172 wants_none rfl (evm_cons rfl (evm_cons rfl (evm_cons rfl (evm_cons rfl (evm_cons rfl evm_nil))))) (.cons (Sub.own rfl rfl) (.cons (Sub.imm (Imm.con _)) (.cons (Sub.imm (Imm.con _)) (.cons (Sub.imm (Imm.con _)) (.cons (Sub.imm (Imm.fn .nil .nil)) .nil))))) (.cons rfl (ObSub.rows (rows_imm imms_encTWindow)) .nil) (W172 F n75 (w64 (n75 + n64)) n76 l77 y79 hx80) rfl rfl rfl rfl rfl (Sub.immT (Imm.tup .nil)) (.cons rfl (ObSub.rowsT (rows_imm imms_encTWindow)) .nil) ?_
          refine aops_ghost (ghost_tell 0 (V.own 0 y79.length) rfl (Sub.ownI hc81)) ?_
          refine aops_ghost (ghost_tell 36 (V.own 0 y79.length) rfl (Sub.ownI hc81)) ?_
          refine fo (rn 14 rfl ?_)
          exact jX (n76, (w64 (n76 + (w64 (2 * n64)))), y79) h (gr [0] rfl (hR rfl rfl .nil) rfl)
        refine rn 1 rfl ?_
        exact jX (n75, l77) h (gr [0] rfl (hR rfl rfl .nil) rfl)
      rintro ⟨n70, l71⟩ h
      refine rn 14 rfl ?_
      refine jK h (fun (p : (List TWindow)) => (⟨[(0, (V.own 0 p.length)), (1, (iV a1)), (2, (V.fn (.func 134) [] [])), (6, (iV n64))], [(0, (Ob.arr 35 6 (p.map encTWindow)))], 1⟩ : St)) (fun k82 (p : (List TWindow)) => k82 p = some r) (fun k82 h => ?_) ?_
      · refine spC h rfl (fun hb84 h => ?_) (fun hb84 h => ?_)
        · obtain ⟨y85, hx86, h⟩ := bind_some h
          refine rn 6 rfl ?_
          refine ck h (fun hc87 h => ?_)
          refine aops_mcall (V.tup []) [(V.own 0 l71.length), (iV n70), (iV (w64 (n70 + n64))), (iV a1), (V.fn (.func 134) [] [])] (fun i => ([0] : List Nat).getD i 0) (fun i => ([0] : List Nat).getD i 0) 1 1 [(0, (Ob.arr 35 6 (y85.map encTWindow)))] fOk172 wants_none rfl (evm_cons rfl (evm_cons rfl (evm_cons rfl (evm_cons rfl (evm_cons rfl evm_nil))))) (.cons (Sub.own rfl rfl) (.cons (Sub.imm (Imm.con _)) (.cons (Sub.imm (Imm.con _)) (.cons (Sub.imm (Imm.con _)) (.cons (Sub.imm (Imm.fn .nil .nil)) .nil))))) (.cons rfl (ObSub.rows (rows_imm imms_encTWindow)) .nil) (W172 F n70 (w64 (n70 + n64)) a1 l71 y85 hx86) rfl rfl rfl rfl rfl (Sub.immT (Imm.tup .nil)) (.cons rfl (ObSub.rowsT (rows_imm imms_encTWindow)) .nil) ?_
          refine aops_ghost (ghost_tell 0 (V.own 0 y85.length) rfl (Sub.ownI hc87)) ?_
          refine aops_ghost (ghost_tell 55 (V.own 0 y85.length) rfl (Sub.ownI hc87)) ?_
          refine fo (rn 1 rfl ?_)
          exact jX y85 h (gr [0] rfl (hR rfl rfl .nil) rfl)
        refine rn 1 rfl ?_
        exact jX l71 h (gr [0] rfl (hR rfl rfl .nil) rfl)
      intro l83 h
      refine rn 6 rfl ?_
      exact jX l83 h (gr [0] rfl (hR rfl rfl .nil) rfl)
    intro l68 h
    exact jX ((w64 (n64 * 2)), l68) h (gr [0] rfl (hR rfl rfl .nil) rfl)
  refine rn 1 rfl ?_
  replace h := Option.some.inj h
  subst h
  exact wE ⟨.inr rfl, [], (gr [0] rfl (hR rfl rfl .nil) rfl), .nil⟩
theorem W148 (F : Nat) (a1 : List TWindow) (r : (List TWindow)) (h : M148 F a1 = some r) : Mut Try.prog 148 [(V.own 0 a1.length), (V.fn (.func 134) [] [])] 1 [(0, (Ob.arr 35 6 (a1.map encTWindow)))] (resV []) 1 [(0, (Ob.arr 35 6 (r.map encTWindow)))] := by
  refine mut_enter Try.func148 rfl rfl (l := []) rfl rfl [(0, (V.own 0 a1.length)), (1, (V.fn (.func 134) [] []))] rfl (fun w0 m0 β0 => en ?_)
  unfold M148 at h
  obtain ⟨y6, hx7, h⟩ := bind_some h
  refine rn 5 rfl ?_
  refine ck h (fun hc8 h => ?_)
  refine aops_mcall (V.tup []) [(V.own 0 a1.length), (iV ((a1.length : Nat) : Int)), (V.fn (.func 134) [] [])] (fun i => ([0] : List Nat).getD i 0) (fun i => ([0] : List Nat).getD i 0) 1 1 [(0, (Ob.arr 35 6 (y6.map encTWindow)))] fOk157 wants_none rfl (evm_cons rfl (evm_cons rfl (evm_cons rfl evm_nil))) (.cons (Sub.own rfl rfl) (.cons (Sub.imm (Imm.con _)) (.cons (Sub.imm (Imm.fn .nil .nil)) .nil))) (.cons rfl (ObSub.rows (rows_imm imms_encTWindow)) .nil) (W157 F ((a1.length : Nat) : Int) a1 y6 hx7) rfl rfl rfl rfl rfl (Sub.immT (Imm.tup .nil)) (.cons rfl (ObSub.rowsT (rows_imm imms_encTWindow)) .nil) ?_
  refine aops_ghost (ghost_tell 0 (V.own 0 y6.length) rfl (Sub.ownI hc8)) ?_
  refine aops_ghost (ghost_tell 4 (V.own 0 y6.length) rfl (Sub.ownI hc8)) ?_
  refine aops_ghost (ghost_tell 5 (V.own 0 y6.length) rfl (Sub.ownI hc8)) ?_
  refine fo (rn 1 rfl ?_)
  replace h := Option.some.inj h
  subst h
  exact wE ⟨.inr rfl, [], (gr [0] rfl (hR rfl rfl .nil) rfl), .nil⟩
theorem W133 (F : Nat) (a1 : (List TWindow)) (r : (List TWindow)) (h : M133 F a1 = some r) : Pure Try.prog 133 [(V.lst 6 (a1.map encTWindow)), (V.fn (.func 134) [] [])] (V.lst 6 (r.map encTWindow)) := by
  refine pin (fun r => (V.lst 6 (r.map encTWindow))) r rfl Try.func133 rfl rfl rfl rfl rfl (fun w0 m0 => ?_)
  unfold M133 at h
  obtain ⟨y2, hx3, h⟩ := bind_some h
  refine rn 7 rfl ?_
  refine aops_mcall (V.own 0 y2.length) [(V.lst 6 (a1.map encTWindow))] (fun i => ([] : List Nat).getD i 0) (fun i => ([0] : List Nat).getD i 0) 0 1 [(0, (Ob.arr 35 6 (y2.map encTWindow)))] fOk147 wants_none rfl (evm_cons rfl evm_nil) (.cons (Sub.imm (Imm.lst _ _)) .nil) .nil (W147 F a1 y2 hx3) rfl rfl rfl rfl rfl (Sub.ownT rfl rfl) (.cons rfl (ObSub.rowsT (rows_imm imms_encTWindow)) .nil) ?_
  obtain ⟨y4, hx5, h⟩ := bind_some h
  refine fo (rn 6 rfl ?_)
  refine ck h (fun hc6 h => ?_)
  refine aops_mcall (V.tup []) [(V.own 0 y2.length), (V.fn (.func 134) [] [])] (fun i => ([0] : List Nat).getD i 0) (fun i => ([0] : List Nat).getD i 0) 1 1 [(0, (Ob.arr 35 6 (y4.map encTWindow)))] fOk148 wants_none rfl (evm_cons rfl (evm_cons rfl evm_nil)) (.cons (Sub.own rfl rfl) (.cons (Sub.imm (Imm.fn .nil .nil)) .nil)) (.cons rfl (ObSub.rows (rows_imm imms_encTWindow)) .nil) (W148 F y2 y4 hx5) rfl rfl rfl rfl rfl (Sub.immT (Imm.tup .nil)) (.cons rfl (ObSub.rowsT (rows_imm imms_encTWindow)) .nil) ?_
  refine aops_ghost (ghost_tell 7 (V.own 0 y4.length) rfl (Sub.ownI hc6)) ?_
  refine aops_ghost (ghost_tell 5 (V.own 0 y4.length) rfl (Sub.ownI hc6)) ?_
  refine aops_ghost (ghost_tell 8 (V.own 0 y4.length) rfl (Sub.ownI hc6)) ?_
  refine fo (rn 6 rfl ?_)
  refine awp_ghost (ghost_frzE 0 4 rfl (rows_imm imms_encTWindow) rfl (List.length_map ..).symm) ?_
  refine fa ?_
  exact rt h rfl
theorem W98 (F : Nat) (a1 : TStory) (r : (List TWindow)) (h : M98 F a1 = some r) : Pure Try.prog 98 [(V.agg (encTStory a1))] (V.lst 6 (r.map encTWindow)) := by
  refine pin (fun r => (V.lst 6 (r.map encTWindow))) r rfl Try.func98 rfl rfl rfl rfl rfl (fun w0 m0 => ?_)
  unfold M98 at h
  refine rn 18 rfl ?_
  refine cl h rfl rfl rfl (W90 _ _) rfl (fun y2 hx3 h => ?_)
  refine ln rfl rfl ?_
  refine rn 2 rfl ?_
  refine jK h (fun (p : (List TWindow)) => (⟨[(1, (V.ptr 0 4 0 0)), (3, (V.own 1 p.length))], [(0, (Ob.arr 52 4 [(encTStory a1)])), (1, (Ob.arr 35 6 (p.map encTWindow)))], 2⟩ : St)) (fun k4 (p : (List TWindow)) => k4 p = some r) (fun k4 h => ?_) ?_
  · refine rn 1 rfl ?_
    refine wl (A := y2) 13 rfl (fun hA30 => ?_)
    refine lC (fun (p : Int × (List TWindow) × (List (Thistory_key × Int))) => (⟨[(1, (V.ptr 0 4 0 0)), (3, (V.own 1 (p.2.1).length)), (4, (V.map 2)), (13, (V.lst 5 (y2.map encThistory_piece))), (14, (iV ((y2.length : Nat) : Int))), (15, (iV (p.1)))], [(0, (Ob.arr 52 4 [(encTStory a1)])), (1, (Ob.arr 35 6 ((p.2.1).map encTWindow))), (2, (Ob.map ((p.2.2).map encM118_3)))], 3⟩ : St)) (fun n (p : Int × (List TWindow) × (List (Thistory_key × Int))) => RG y2 (fun tl nn => M98_L1 F k4 tl p.2.1 p.2.2 = some r) n p.1) (fun p h => RG.zero h) (y2.length + 1) (0, ([] : List TWindow), ([] : List (Thistory_key × Int))) (RG.start h) (Ghost.trans (ghost_nilE 3 35 6 rfl) (ghost_ren 3 (fun i => ([0, 2, 1] : List Nat).getD i 0) _ _ (by decide) (EnvSub.get (.cons (Sub.ptr rfl rfl) (.cons (Sub.ownE rfl rfl (by simp)) (.cons (Sub.map rfl rfl) (.cons (Sub.imm (Imm.lst _ _)) (.cons (Sub.imm (Imm.con _)) (.cons (Sub.imm (Imm.con _)) .nil))))))) (HpSub.get (.cons rfl (ObSub.box (.cons (Sub.imm (Imm.con _)) (.cons (Sub.imm (Imm.lst _ _)) (.cons (Sub.imm (Imm.lst _ _)) (.cons (Sub.imm (Imm.con _)) .nil))))) (.cons rfl (ObSub.rows (rows_imm imms_encTWindow)) (.cons rfl (ObSub.maps encM118_3_imm) .nil)))) rfl)) (fun n p h => ?_)
    obtain ⟨n9, l10, m11⟩ := p
    refine rn 5 rfl ?_
    refine spL rfl (fun hb12 => ?_) (fun hb12 => ?_)
    · obtain ⟨x16, tl, hx17, h, hk1⟩ := RG.t hA30 h hb12
      unfold M98_L1 at h
      refine rn 2 rfl ?_
      refine jK h (fun (p : (List TWindow) × (List (Thistory_key × Int))) => (⟨[(1, (V.ptr 0 4 0 0)), (3, (V.own 1 (p.1).length)), (4, (V.map 2)), (13, (V.lst 5 (y2.map encThistory_piece))), (14, (iV ((y2.length : Nat) : Int))), (15, (iV n9))], [(0, (Ob.arr 52 4 [(encTStory a1)])), (1, (Ob.arr 35 6 ((p.1).map encTWindow))), (2, (Ob.map ((p.2).map encM118_3)))], 3⟩ : St)) (fun k13 (p : (List TWindow) × (List (Thistory_key × Int))) => k13 p.1 p.2 = some r) (fun k13 h => ?_) ?_
      · refine rn 3 rfl ?_
        refine ixh hx17 rfl rfl ?_
        refine rn 8 rfl ?_
        refine cl h rfl rfl rfl (W84 _ _) rfl (fun y18 hx19 h => ?_)
        refine rn 8 rfl ?_
        refine aops_lookup_okB _ (iV 0) (iV ((mget m11 y18).getD 0)) tMap172 tKey118 tZo3 (irel_con _) wants_none rfl (.own rfl) (.agg (cv118 y18) rfl) ⟨_, rfl⟩ encM118_3_good (encM118_3_look m11 y18) (getD_map (encM118_3_val) (mget m11 y18) 0) (isSome_map ..) rfl ?_
        refine fo (rn 7 rfl ?_)
        refine bs h (fun hb20 h => ?_) (fun hb20 h => ?_)
        · obtain ⟨x21, hx22, h⟩ := bind_some h
          refine dr mixed (vs 1 rfl (vb hb20 rfl (vs 2 rfl (oD (a := l10) hx22 rfl rfl rfl rfl (vs 1 rfl (lD hx22 rfl rfl rfl rfl rfl (vs 4 rfl .nil))))))) (by kernel_rfl) ?_
          refine spC h rfl (fun hb23 h => ?_) (fun hb23 h => ?_)
          · obtain ⟨x24, hx25, h⟩ := bind_some h
            obtain ⟨x26, hx27, h⟩ := bind_some h
            refine rn 1 rfl ?_
            refine dr mixed (vs 9 rfl (oD (a := l10) hx25 rfl rfl rfl rfl (vs 1 rfl (xD (OD.mk [(49, (V.ptr 1 6 ((mget m11 y18).getD 0).toNat 4)), (44, (iV x16.to))] [(1, (Ob.arr 35 6 (l10.map encTWindow)))] [] [(1, (Ob.arr 35 6 ((l10.set ((mget m11 y18).getD 0).toNat (TWindow.mk x24.Advisory x24.Component x24.Severity x24.From x16.to x24.Open)).map encTWindow)))]) ⟨⟨rfl, rfl, trivial⟩, ⟨rfl, trivial⟩⟩ (by exact fun S hn h hh => aops_store [(iV x16.to)] ((l10.set ((mget m11 y18).getD 0).toNat (TWindow.mk x24.Advisory x24.Component x24.Severity x24.From x16.to x24.Open)).map encTWindow) tS3 wants_none h.1 h.2.1 rfl rfl hh.1 (idx_map encTWindow hx25) rfl (map_set encTWindow l10 _ (TWindow.mk x24.Advisory x24.Component x24.Severity x24.From x16.to x24.Open)) (aops_nil ⟨rfl, rfl⟩)) rfl (xD (OD.mk [(41, (V.own 1 l10.length)), (42, (iV ((mget m11 y18).getD 0)))] [] [(50, (V.ptr 1 6 ((mget m11 y18).getD 0).toNat 0))] []) ⟨⟨rfl, rfl, trivial⟩, trivial⟩ (by exact fun S hn h hh => aops_index_own tSl59 wants_none h.1 h.2.1 (idx_some hx27).1 (by simpa using idx_lt hx27) rfl (aops_nil ⟨rfl, rfl⟩)) rfl (vs 1 rfl (xD (OD.mk [(51, (V.ptr 1 6 ((mget m11 y18).getD 0).toNat 2)), (47, (iV x16.x.Severity))] [(1, (Ob.arr 35 6 ((l10.set ((mget m11 y18).getD 0).toNat (TWindow.mk x24.Advisory x24.Component x24.Severity x24.From x16.to x24.Open)).map encTWindow)))] [] [(1, (Ob.arr 35 6 (((l10.set ((mget m11 y18).getD 0).toNat (TWindow.mk x24.Advisory x24.Component x24.Severity x24.From x16.to x24.Open)).set ((mget m11 y18).getD 0).toNat (TWindow.mk x26.Advisory x26.Component x16.x.Severity x26.From x26.To x26.Open)).map encTWindow)))]) ⟨⟨rfl, rfl, trivial⟩, ⟨rfl, trivial⟩⟩ (by exact fun S hn h hh => aops_store [(iV x16.x.Severity)] (((l10.set ((mget m11 y18).getD 0).toNat (TWindow.mk x24.Advisory x24.Component x24.Severity x24.From x16.to x24.Open)).set ((mget m11 y18).getD 0).toNat (TWindow.mk x26.Advisory x26.Component x16.x.Severity x26.From x26.To x26.Open)).map encTWindow) tS3 wants_none h.1 h.2.1 rfl rfl hh.1 (idx_map encTWindow hx27) rfl (map_set encTWindow (l10.set ((mget m11 y18).getD 0).toNat (TWindow.mk x24.Advisory x24.Component x24.Severity x24.From x16.to x24.Open)) _ (TWindow.mk x26.Advisory x26.Component x16.x.Severity x26.From x26.To x26.Open)) (aops_nil ⟨rfl, rfl⟩)) rfl .nil))))))) (by kernel_rfl) ?_
            refine rn 1 rfl ?_
            exact jX (((l10.set ((mget m11 y18).getD 0).toNat (TWindow.mk x24.Advisory x24.Component x24.Severity x24.From x16.to x24.Open)).set ((mget m11 y18).getD 0).toNat (TWindow.mk x26.Advisory x26.Component x16.x.Severity x26.From x26.To x26.Open)), m11) h (ghost_ren 3 (fun i => ([0, 1, 2] : List Nat).getD i 0) _ _ (by decide) (EnvSub.get (.cons (Sub.ptr rfl rfl) (.cons (Sub.ownE rfl rfl (by simp)) (.cons (Sub.map rfl rfl) (.cons (Sub.imm (Imm.lst _ _)) (.cons (Sub.imm (Imm.con _)) (.cons (Sub.imm (Imm.con _)) .nil))))))) (HpSub.get (.cons rfl (ObSub.box (.cons (Sub.imm (Imm.con _)) (.cons (Sub.imm (Imm.lst _ _)) (.cons (Sub.imm (Imm.lst _ _)) (.cons (Sub.imm (Imm.con _)) .nil))))) (.cons rfl (ObSub.rows (rows_imm imms_encTWindow)) (.cons rfl (ObSub.maps encM118_3_imm) .nil)))) rfl)
          refine rn 7 rfl ?_
          refine aops_mapUpdate ((mput m11 y18 ((l10.length : Nat) : Int)).map encM118_3) tMap172 tKey118 wants_none rfl rfl (.agg (cv118 y18) rfl) ⟨_, rfl⟩ encM118_3_good rfl (encM118_3_puts m11 y18 ((l10.length : Nat) : Int)) ?_
          refine fo (rn 17 rfl ?_)
          refine aops_buildSlice [(0, (V.agg [(sV x16.x.Advisory), (sV x16.x.Component), (iV x16.x.Severity), (iV x16.from_), (iV x16.to), (bV false)]))] [[(sV x16.x.Advisory), (sV x16.x.Component), (iV x16.x.Severity), (iV x16.from_), (iV x16.to), (bV false)]] tEl59 tZ35 rfl rfl rfl rfl wants_none (evp_cons rfl evp_nil) rfl rfl (by simp) rfl ?_
          refine fo ?_
          refine apO encTWindow h rfl rfl rfl rfl rfl rfl rfl rfl (fun h => ?_)
          refine rn 3 rfl ?_
          exact jX ((l10 ++ ([(TWindow.mk x16.x.Advisory x16.x.Component x16.x.Severity x16.from_ x16.to false)] : List TWindow)), (mput m11 y18 ((l10.length : Nat) : Int))) h (gr [0, 6, 2] rfl (hB rfl rfl rfl (hR rfl rfl (hM rfl rfl .nil))) rfl)
        refine dr mixed (vs 1 rfl (vb hb20 rfl (vs 9 rfl .nil))) (by kernel_rfl) ?_
        refine rn 8 rfl ?_
        refine aops_mapUpdate ((mput m11 y18 ((l10.length : Nat) : Int)).map encM118_3) tMap172 tKey118 wants_none rfl rfl (.agg (cv118 y18) rfl) ⟨_, rfl⟩ encM118_3_good rfl (encM118_3_puts m11 y18 ((l10.length : Nat) : Int)) ?_
        refine fo (rn 17 rfl ?_)
        refine aops_buildSlice [(0, (V.agg [(sV x16.x.Advisory), (sV x16.x.Component), (iV x16.x.Severity), (iV x16.from_), (iV x16.to), (bV false)]))] [[(sV x16.x.Advisory), (sV x16.x.Component), (iV x16.x.Severity), (iV x16.from_), (iV x16.to), (bV false)]] tEl59 tZ35 rfl rfl rfl rfl wants_none (evp_cons rfl evp_nil) rfl rfl (by simp) rfl ?_
        refine fo ?_
        refine apO encTWindow h rfl rfl rfl rfl rfl rfl rfl rfl (fun h => ?_)
        refine rn 3 rfl ?_
        exact jX ((l10 ++ ([(TWindow.mk x16.x.Advisory x16.x.Component x16.x.Severity x16.from_ x16.to false)] : List TWindow)), (mput m11 y18 ((l10.length : Nat) : Int))) h (gr [0, 6, 2] rfl (hB rfl rfl rfl (hR rfl rfl (hM rfl rfl .nil))) rfl)
      rintro ⟨l14, m15⟩ h
      refine rn 4 rfl ?_
      exact jX ((w64 (n9 + 1)), l14, m15) (hk1 _ h) (gr [0, 1, 2] rfl (hB rfl rfl rfl (hR rfl rfl (hM rfl rfl .nil))) rfl)
    replace h := RG.f h hb12
    unfold M98_L1 at h
    refine rn 1 rfl ?_
    exact jX l10 h (gr [0, 1] rfl (hB rfl rfl rfl (hR rfl rfl .nil)) rfl)
  intro l5 h
  refine rn 7 rfl ?_
  refine jK h (fun (p : (List TWindow)) => (⟨[(3, (V.own 0 p.length))], [(0, (Ob.arr 35 6 (p.map encTWindow)))], 1⟩ : St)) (fun k31 (p : (List TWindow)) => k31 p = some r) (fun k31 h => ?_) ?_
  · refine rn 1 rfl ?_
    refine wlO (A := l5) 1 rfl (fun hA42 => ?_)
    refine lC (fun (p : Int × (List TWindow)) => (⟨[(1, (V.ptr 0 4 0 0)), (3, (V.own 1 (p.2).length)), (75, (iV ((l5.length : Nat) : Int))), (76, (iV (p.1)))], [(0, (Ob.arr 52 4 [(encTStory a1)])), (1, (Ob.arr 35 6 ((p.2).map encTWindow)))], 2⟩ : St)) (fun n (p : Int × (List TWindow)) => RC ((l5.length : Nat) : Int) (fun tl nn => M98_L2 F a1 k31 tl nn p.2 = some r) n p.1) (fun p h => RC.zero h) (Int.toNat ((l5.length : Nat) : Int) + 1) (0, l5) (RC.start h) (gr [0, 1] rfl (hB rfl rfl rfl (hR rfl rfl .nil)) rfl) (fun n p h => ?_)
    obtain ⟨n35, l36⟩ := p
    refine rn 5 rfl ?_
    refine spL rfl (fun hb37 => ?_) (fun hb37 => ?_)
    · obtain ⟨tl, h, hk2⟩ := RC.t (by unfold maxLen at hA42; omega) h hb37
      unfold M98_L2 at h
      obtain ⟨x38, hx39, h⟩ := bind_some h
      obtain ⟨x40, hx41, h⟩ := bind_some h
      refine rn 8 rfl ?_
      refine dr mixed (vs 4 rfl (oD (a := l36) hx39 rfl rfl rfl rfl (vs 1 rfl (lD hx39 rfl rfl rfl rfl rfl (vs 3 rfl (oD (a := l36) hx41 rfl rfl rfl rfl (vs 1 rfl (xD (OD.mk [(90, (V.ptr 1 6 n35.toNat 5)), (88, (bV (x38.To == a1.Until)))] [(1, (Ob.arr 35 6 (l36.map encTWindow)))] [] [(1, (Ob.arr 35 6 ((l36.set n35.toNat (TWindow.mk x40.Advisory x40.Component x40.Severity x40.From x40.To (x38.To == a1.Until))).map encTWindow)))]) ⟨⟨rfl, rfl, trivial⟩, ⟨rfl, trivial⟩⟩ (by exact fun S hn h hh => aops_store [(bV (x38.To == a1.Until))] ((l36.set n35.toNat (TWindow.mk x40.Advisory x40.Component x40.Severity x40.From x40.To (x38.To == a1.Until))).map encTWindow) tS4 wants_none h.1 h.2.1 rfl rfl hh.1 (idx_map encTWindow hx41) rfl (map_set encTWindow l36 _ (TWindow.mk x40.Advisory x40.Component x40.Severity x40.From x40.To (x38.To == a1.Until))) (aops_nil ⟨rfl, rfl⟩)) rfl .nil)))))))) (by kernel_rfl) ?_
      refine rn 5 rfl ?_
      exact jX ((w64 (n35 + 1)), (l36.set n35.toNat (TWindow.mk x40.Advisory x40.Component x40.Severity x40.From x40.To (x38.To == a1.Until)))) (hk2 _ h) (ghost_ren 2 (fun i => ([0, 1] : List Nat).getD i 0) _ _ (by decide) (EnvSub.get (.cons (Sub.ptr rfl rfl) (.cons (Sub.ownE rfl rfl (by simp)) (.cons (Sub.imm (Imm.con _)) (.cons (Sub.imm (Imm.con _)) .nil))))) (HpSub.get (.cons rfl (ObSub.box (.cons (Sub.imm (Imm.con _)) (.cons (Sub.imm (Imm.lst _ _)) (.cons (Sub.imm (Imm.lst _ _)) (.cons (Sub.imm (Imm.con _)) .nil))))) (.cons rfl (ObSub.rows (rows_imm imms_encTWindow)) .nil))) rfl)
    replace h := RC.f h hb37
    unfold M98_L2 at h
    refine rn 1 rfl ?_
    exact jX l36 h (gr [1] rfl (hR rfl rfl .nil) rfl)
  intro l32 h
  obtain ⟨y43, hx44, h⟩ := bind_some h
  refine rn 3 rfl ?_
  refine aops_ghost (ghost_frzE 0 92 rfl (rows_imm imms_encTWindow) rfl (List.length_map ..).symm) ?_
  refine aops_call (V.lst 6 (y43.map encTWindow)) [(V.lst 6 (l32.map encTWindow)), (V.fn (.func 134) [] [])] fOk133 wants_none (evm_cons rfl (evm_cons rfl evm_nil)) (.cons (Imm.lst _ _) (.cons (Imm.fn .nil .nil) .nil)) (W133 F l32 y43 hx44) rfl ?_
  refine fo (rn 2 rfl ?_)
  exact rt h rfl
theorem W118 (F : Nat) (a1 : Tprovenderref11_view) (r : (List Tprovenderref11_stretch)) (h : M118 F a1 = some r) : Pure Try.prog 118 [(V.agg (encTprovenderref11_view a1))] (V.lst 5 (r.map encTprovenderref11_stretch)) := by
  refine pin (fun r => (V.lst 5 (r.map encTprovenderref11_stretch))) r rfl Try.func118 rfl rfl rfl rfl rfl (fun w0 m0 => ?_)
  unfold M118 at h
  refine rn 15 rfl ?_
  refine ln rfl rfl ?_
  refine rn 2 rfl ?_
  refine jK h (fun (p : (List Tprovenderref11_stretch)) => (⟨[(3, (V.own 0 p.length))], [(0, (Ob.arr 162 5 (p.map encTprovenderref11_stretch)))], 1⟩ : St)) (fun k2 (p : (List Tprovenderref11_stretch)) => k2 p = some r) (fun k2 h => ?_) ?_
  · refine rn 1 rfl ?_
    refine wl (A := a1.s.Releases) 14 rfl (fun hA35 => ?_)
    refine lC (fun (p : Int × (List Tprovenderref11_stretch)) => (⟨[(1, (V.ptr 0 5 0 0)), (3, (V.own 1 (p.2).length)), (14, (V.lst 3 (a1.s.Releases.map encTRelease))), (15, (iV ((a1.s.Releases.length : Nat) : Int))), (16, (iV (p.1)))], [(0, (Ob.arr 131 5 [(encTprovenderref11_view a1)])), (1, (Ob.arr 162 5 ((p.2).map encTprovenderref11_stretch)))], 2⟩ : St)) (fun n (p : Int × (List Tprovenderref11_stretch)) => RG a1.s.Releases (fun tl nn => M118_L1 F a1 k2 tl nn p.2 = some r) n p.1) (fun p h => RG.zero h) (a1.s.Releases.length + 1) (0, ([] : List Tprovenderref11_stretch)) (RG.start h) (Ghost.trans (ghost_nilE 3 162 5 rfl) (ghost_ren 2 (fun i => ([0, 1] : List Nat).getD i 0) _ _ (by decide) (EnvSub.get (.cons (Sub.ptr rfl rfl) (.cons (Sub.ownE rfl rfl (by simp)) (.cons (Sub.imm (Imm.lst _ _)) (.cons (Sub.imm (Imm.con _)) (.cons (Sub.imm (Imm.con _)) .nil)))))) (HpSub.get (.cons rfl (ObSub.box (.cons (Sub.imm (Imm.con _)) (.cons (Sub.imm (Imm.lst _ _)) (.cons (Sub.imm (Imm.lst _ _)) (.cons (Sub.imm (Imm.con _)) (.cons (Sub.imm (Imm.imap _)) .nil)))))) (.cons rfl (ObSub.rows (rows_imm imms_encTprovenderref11_stretch)) .nil))) rfl)) (fun n p h => ?_)
    obtain ⟨n6, l7⟩ := p
    refine rn 5 rfl ?_
    refine spL rfl (fun hb8 => ?_) (fun hb8 => ?_)
    · obtain ⟨x11, tl, hx12, h, hk1⟩ := RG.t hA35 h hb8
      unfold M118_L1 at h
      refine rn 2 rfl ?_
      refine jK h (fun (p : (List Tprovenderref11_stretch)) => (⟨[(1, (V.ptr 0 5 0 0)), (3, (V.own 1 p.length)), (14, (V.lst 3 (a1.s.Releases.map encTRelease))), (15, (iV ((a1.s.Releases.length : Nat) : Int))), (16, (iV n6))], [(0, (Ob.arr 131 5 [(encTprovenderref11_view a1)])), (1, (Ob.arr 162 5 (p.map encTprovenderref11_stretch)))], 2⟩ : St)) (fun k9 (p : (List Tprovenderref11_stretch)) => k9 p = some r) (fun k9 h => ?_) ?_
      · refine rn 4 rfl ?_
        refine ixh hx12 rfl rfl ?_
        refine rn 20 rfl ?_
        refine ln rfl rfl ?_
        refine rn 2 rfl ?_
        refine jK h (fun (p : Int) => (⟨[(1, (V.ptr 0 5 0 0)), (3, (V.own 1 l7.length)), (5, (V.ptr 2 3 0 0)), (6, (iV p)), (14, (V.lst 3 (a1.s.Releases.map encTRelease))), (15, (iV ((a1.s.Releases.length : Nat) : Int))), (16, (iV n6))], [(0, (Ob.arr 131 5 [(encTprovenderref11_view a1)])), (1, (Ob.arr 162 5 (l7.map encTprovenderref11_stretch))), (2, (Ob.arr 42 3 [(encTRelease x11)]))], 3⟩ : St)) (fun k13 (p : Int) => k13 p = some r) (fun k13 h => ?_) ?_
        · refine spC h rfl (fun hb15 h => ?_) (fun hb15 h => ?_)
          · refine rn 6 rfl ?_
            refine ixl h rfl rfl (fun x16 hx17 h => ?_)
            refine rn 4 rfl ?_
            exact jX x16.Day h (gr [0, 1, 2] rfl (hB rfl rfl rfl (hR rfl rfl (hB rfl rfl rfl .nil))) rfl)
          refine rn 1 rfl ?_
          exact jX a1.s.Until h (gr [0, 1, 2] rfl (hB rfl rfl rfl (hR rfl rfl (hB rfl rfl rfl .nil))) rfl)
        intro n14 h
        refine rn 4 rfl ?_
        refine ln rfl rfl ?_
        refine rn 2 rfl ?_
        refine jK h (fun (p : (List Tprovenderref11_stretch)) => (⟨[(1, (V.ptr 0 5 0 0)), (3, (V.own 1 p.length)), (14, (V.lst 3 (a1.s.Releases.map encTRelease))), (15, (iV ((a1.s.Releases.length : Nat) : Int))), (16, (iV n6))], [(0, (Ob.arr 131 5 [(encTprovenderref11_view a1)])), (1, (Ob.arr 162 5 (p.map encTprovenderref11_stretch)))], 2⟩ : St)) (fun k18 (p : (List Tprovenderref11_stretch)) => k18 p = some r) (fun k18 h => ?_) ?_
        · refine rn 1 rfl ?_
          refine wl (A := x11.Exposures) 40 rfl (fun hA34 => ?_)
          refine lC (fun (p : Int × (List Tprovenderref11_stretch)) => (⟨[(1, (V.ptr 0 5 0 0)), (3, (V.own 1 (p.2).length)), (5, (V.ptr 2 3 0 0)), (6, (iV n14)), (14, (V.lst 3 (a1.s.Releases.map encTRelease))), (15, (iV ((a1.s.Releases.length : Nat) : Int))), (16, (iV n6)), (40, (V.lst 3 (x11.Exposures.map encTExposure))), (41, (iV ((x11.Exposures.length : Nat) : Int))), (42, (iV (p.1)))], [(0, (Ob.arr 131 5 [(encTprovenderref11_view a1)])), (1, (Ob.arr 162 5 ((p.2).map encTprovenderref11_stretch))), (2, (Ob.arr 42 3 [(encTRelease x11)]))], 3⟩ : St)) (fun n (p : Int × (List Tprovenderref11_stretch)) => RG x11.Exposures (fun tl nn => M118_L2 F a1 x11 n14 k18 tl p.2 = some r) n p.1) (fun p h => RG.zero h) (x11.Exposures.length + 1) (0, l7) (RG.start h) (gr [0, 1, 2] rfl (hB rfl rfl rfl (hR rfl rfl (hB rfl rfl rfl .nil))) rfl) (fun n p h => ?_)
          obtain ⟨n22, l23⟩ := p
          refine rn 5 rfl ?_
          refine spL rfl (fun hb24 => ?_) (fun hb24 => ?_)
          · obtain ⟨x25, tl, hx26, h, hk2⟩ := RG.t hA34 h hb24
            unfold M118_L2 at h
            refine rn 5 rfl ?_
            refine ixh hx26 rfl rfl ?_
            refine rn 10 rfl ?_
            refine aops_lookup _ (V.agg [(sV ([] : List UInt8)), (iV 0), (iV 0)]) (V.agg (encTPublished ((mget a1.known x25.Advisory).getD (TPublished.mk ([] : List UInt8) 0 0)))) tMap129 tKey9 tZo137 (irel_conAgg [str ([] : List UInt8), .int .i64 0, .int .i64 0]) wants_none rfl .imm (.con rfl) ⟨_, rfl⟩ encM9_137_good (encM9_137_look a1.known x25.Advisory) (getD_map (encM9_137_val) (mget a1.known x25.Advisory) (TPublished.mk ([] : List UInt8) 0 0)) rfl ?_
            refine fo (rn 21 rfl ?_)
            refine jK h (fun (p : Int) => (⟨[(1, (V.ptr 0 5 0 0)), (3, (V.own 1 l23.length)), (5, (V.ptr 2 3 0 0)), (6, (iV n14)), (8, (V.ptr 3 3 0 0)), (10, (iV (if ((mget a1.known x25.Advisory).getD (TPublished.mk ([] : List UInt8) 0 0)).Day > x11.Day then ((mget a1.known x25.Advisory).getD (TPublished.mk ([] : List UInt8) 0 0)).Day else x11.Day))), (11, (iV p)), (14, (V.lst 3 (a1.s.Releases.map encTRelease))), (15, (iV ((a1.s.Releases.length : Nat) : Int))), (16, (iV n6)), (40, (V.lst 3 (x11.Exposures.map encTExposure))), (41, (iV ((x11.Exposures.length : Nat) : Int))), (42, (iV n22))], [(0, (Ob.arr 131 5 [(encTprovenderref11_view a1)])), (1, (Ob.arr 162 5 (l23.map encTprovenderref11_stretch))), (2, (Ob.arr 42 3 [(encTRelease x11)])), (3, (Ob.arr 47 3 [(encTExposure x25)]))], 4⟩ : St)) (fun k27 (p : Int) => k27 p = some r) (fun k27 h => ?_) ?_
            · refine spC h rfl (fun hb29 h => ?_) (fun hb29 h => ?_)
              · refine rn 7 rfl ?_
                exact jX (if ((mget a1.known x25.Advisory).getD (TPublished.mk ([] : List UInt8) 0 0)).Ended < n14 then ((mget a1.known x25.Advisory).getD (TPublished.mk ([] : List UInt8) 0 0)).Ended else n14) h (gr [0, 1, 2, 3] rfl (hB rfl rfl rfl (hR rfl rfl (hB rfl rfl rfl (hB rfl rfl rfl .nil)))) rfl)
              refine rn 1 rfl ?_
              exact jX n14 h (gr [0, 1, 2, 3] rfl (hB rfl rfl rfl (hR rfl rfl (hB rfl rfl rfl (hB rfl rfl rfl .nil)))) rfl)
            intro n28 h
            refine rn 6 rfl ?_
            refine jK h (fun (p : (List Tprovenderref11_stretch)) => (⟨[(1, (V.ptr 0 5 0 0)), (3, (V.own 1 p.length)), (5, (V.ptr 2 3 0 0)), (6, (iV n14)), (14, (V.lst 3 (a1.s.Releases.map encTRelease))), (15, (iV ((a1.s.Releases.length : Nat) : Int))), (16, (iV n6)), (40, (V.lst 3 (x11.Exposures.map encTExposure))), (41, (iV ((x11.Exposures.length : Nat) : Int))), (42, (iV n22))], [(0, (Ob.arr 131 5 [(encTprovenderref11_view a1)])), (1, (Ob.arr 162 5 (p.map encTprovenderref11_stretch))), (2, (Ob.arr 42 3 [(encTRelease x11)]))], 3⟩ : St)) (fun k30 (p : (List Tprovenderref11_stretch)) => k30 p = some r) (fun k30 h => ?_) ?_
            · refine spC h rfl (fun hb32 h => ?_) (fun hb32 h => ?_)
              · refine rn 6 rfl ?_
                refine aops_buildSlice [(0, (V.agg [(sV x25.Advisory), (sV x25.Component), (iV x25.Severity), (iV (if ((mget a1.known x25.Advisory).getD (TPublished.mk ([] : List UInt8) 0 0)).Day > x11.Day then ((mget a1.known x25.Advisory).getD (TPublished.mk ([] : List UInt8) 0 0)).Day else x11.Day)), (iV n28)]))] [[(sV x25.Advisory), (sV x25.Component), (iV x25.Severity), (iV (if ((mget a1.known x25.Advisory).getD (TPublished.mk ([] : List UInt8) 0 0)).Day > x11.Day then ((mget a1.known x25.Advisory).getD (TPublished.mk ([] : List UInt8) 0 0)).Day else x11.Day)), (iV n28)]] tEl159 tZ162 rfl rfl rfl rfl wants_none (evp_cons rfl evp_nil) rfl rfl (by simp) rfl ?_
                refine fo ?_
                refine apO encTprovenderref11_stretch h rfl rfl rfl rfl rfl rfl rfl rfl (fun h => ?_)
                refine rn 2 rfl ?_
                exact jX (l23 ++ ([(Tprovenderref11_stretch.mk x25 (if ((mget a1.known x25.Advisory).getD (TPublished.mk ([] : List UInt8) 0 0)).Day > x11.Day then ((mget a1.known x25.Advisory).getD (TPublished.mk ([] : List UInt8) 0 0)).Day else x11.Day) n28)] : List Tprovenderref11_stretch)) h (gr [0, 5, 2] rfl (hB rfl rfl rfl (hR rfl rfl (hB rfl rfl rfl .nil))) rfl)
              refine rn 1 rfl ?_
              exact jX l23 h (gr [0, 1, 2] rfl (hB rfl rfl rfl (hR rfl rfl (hB rfl rfl rfl .nil))) rfl)
            intro l31 h
            refine rn 5 rfl ?_
            exact jX ((w64 (n22 + 1)), l31) (hk2 _ h) (gr [0, 1, 2] rfl (hB rfl rfl rfl (hR rfl rfl (hB rfl rfl rfl .nil))) rfl)
          replace h := RG.f h hb24
          unfold M118_L2 at h
          refine rn 1 rfl ?_
          exact jX l23 h (gr [0, 1] rfl (hB rfl rfl rfl (hR rfl rfl .nil)) rfl)
        intro l19 h
        refine rn 1 rfl ?_
        exact jX l19 h (gr [0, 1] rfl (hB rfl rfl rfl (hR rfl rfl .nil)) rfl)
      intro l10 h
      refine rn 4 rfl ?_
      exact jX ((w64 (n6 + 1)), l10) (hk1 _ h) (gr [0, 1] rfl (hB rfl rfl rfl (hR rfl rfl .nil)) rfl)
    replace h := RG.f h hb8
    unfold M118_L1 at h
    refine rn 1 rfl ?_
    exact jX l7 h (gr [1] rfl (hR rfl rfl .nil) rfl)
  intro l3 h
  refine rn 5 rfl ?_
  refine awp_ghost (ghost_frzE 0 2 rfl (rows_imm imms_encTprovenderref11_stretch) rfl (List.length_map ..).symm) ?_
  refine fa ?_
  exact rt h rfl
theorem W150 (F : Nat) (a1 : TWindow) (a2 : TWindow) (r : Bool) (h : M150 F a1 a2 = some r) : Pure Try.prog 150 [(V.agg (encTWindow a1)), (V.agg (encTWindow a2))] (bV r) := by
  refine pin (fun r => (bV r)) r rfl Try.func150 rfl rfl rfl rfl rfl (fun w0 m0 => ?_)
  unfold M150 at h
  refine rn 7 rfl ?_
  refine awp_ghost ghost_res ?_
  refine awp_ghost ghost_res ?_
  refine fa ?_
  refine dr mixed (vs 10 rfl (xD (OD.mk [] [(2, Ob.res)] [(5, (V.ptr 2 3 0 0))] [(2, (Ob.arr 47 3 [[(sV ([] : List UInt8)), (sV ([] : List UInt8)), (iV 0)]]))]) ⟨trivial, ⟨rfl, trivial⟩⟩ (by exact fun S hn h hh => aops_alloc_at 2 rfl hn hh.1 tZ47 rfl rfl wants_none rfl (aops_nil ⟨rfl, rfl⟩)) rfl (xD (OD.mk [] [(3, Ob.res)] [(6, (V.ptr 3 3 0 0))] [(3, (Ob.arr 47 3 [[(sV ([] : List UInt8)), (sV ([] : List UInt8)), (iV 0)]]))]) ⟨trivial, ⟨rfl, trivial⟩⟩ (by exact fun S hn h hh => aops_alloc_at 3 rfl hn hh.1 tZ47 rfl rfl wants_none rfl (aops_nil ⟨rfl, rfl⟩)) rfl (vs 2 rfl .nil)))) (by kernel_rfl) ?_
  refine rn 8 rfl ?_
  refine spO 22 h rfl (fun hb3 h => ?_) (fun hb3 h => ?_)
  · refine rn 13 rfl ?_
    exact rt h rfl
  refine rn 6 rfl ?_
  refine spO 28 h rfl (fun hb4 h => ?_) (fun hb4 h => ?_)
  · refine rn 2 rfl ?_
    refine cl h rfl rfl rfl (W132 _ _ _) rfl (fun y5 hx6 h => ?_)
    refine rn 4 rfl ?_
    exact rt h rfl
  refine rn 7 rfl ?_
  exact rt h rfl
theorem W135_B (R135 : (List TWindow) → Option (List TWindow)) (hR135 : ∀ (a1 : (List TWindow)) (r : (List TWindow)), R135 a1 = some r → Pure Try.prog 135 [(V.lst 6 (a1.map encTWindow))] (V.lst 6 (r.map encTWindow))) (F : Nat) (a1 : (List TWindow)) (r : (List TWindow)) (h : M135_B R135 F a1 = some r) : Pure Try.prog 135 [(V.lst 6 (a1.map encTWindow))] (V.lst 6 (r.map encTWindow)) := by
  refine pin (fun r => (V.lst 6 (r.map encTWindow))) r rfl Try.func135 rfl rfl rfl rfl rfl (fun w0 m0 => ?_)
  unfold M135_B at h
  refine rn 8 rfl ?_
  refine ln rfl rfl ?_
  refine rn 2 rfl ?_
  refine spC h rfl (fun hb2 h => ?_) (fun hb2 h => ?_)
  · refine rn 5 rfl ?_
    exact rt h rfl
  refine rn 2 rfl ?_
  refine ck h (fun hc3 h => ?_)
  obtain ⟨y4, hx5, h⟩ := bind_some h
  refine ck h (fun hc6 h => ?_)
  obtain ⟨y7, hx8, h⟩ := bind_some h
  refine dr mixed (vs 2 rfl (nD rfl rfl rfl (vs 1 rfl (xD (OD.mk [(10, (V.lst 6 (a1.map encTWindow))), (13, (iV (w64 (Int.tdiv ((a1.length : Nat) : Int) 2))))] [] [(14, (V.lst 6 ((a1.take (w64 (Int.tdiv ((a1.length : Nat) : Int) 2)).toNat).map encTWindow)))] []) ⟨⟨rfl, rfl, trivial⟩, trivial⟩ (by exact fun S hn h hh => aops_slice_lst (0) ((w64 (Int.tdiv ((a1.length : Nat) : Int) 2)).toNat) ((a1.take (w64 (Int.tdiv ((a1.length : Nat) : Int) 2)).toNat).map encTWindow) tSl59 wants_none h.1 rfl ⟨_, (by rw [Int.toNat_of_nonneg hc3.1]; exact h.2.1)⟩ (Nat.zero_le _) (by simpa using hc3.2) slL_lo rfl (aops_nil ⟨rfl, rfl⟩)) rfl (cD rfl rfl rfl rfl (hR135 _ _ hx5) rfl (vs 2 rfl (nD rfl rfl rfl (vs 1 rfl (xD (OD.mk [(16, (V.lst 6 (a1.map encTWindow))), (19, (iV (w64 (Int.tdiv ((a1.length : Nat) : Int) 2))))] [] [(20, (V.lst 6 ((a1.drop (w64 (Int.tdiv ((a1.length : Nat) : Int) 2)).toNat).map encTWindow)))] []) ⟨⟨rfl, rfl, trivial⟩, trivial⟩ (by exact fun S hn h hh => aops_slice_lst ((w64 (Int.tdiv ((a1.length : Nat) : Int) 2)).toNat) (a1.length) ((a1.drop (w64 (Int.tdiv ((a1.length : Nat) : Int) 2)).toNat).map encTWindow) tSl59 wants_none h.1 ⟨_, (by rw [Int.toNat_of_nonneg hc6.1]; exact h.2.1)⟩ (List.length_map ..).symm hc6.2 (Nat.le_of_eq (List.length_map ..).symm) slL_hi rfl (aops_nil ⟨rfl, rfl⟩)) rfl (cD rfl rfl rfl rfl (hR135 _ _ hx8) rfl (vs 2 rfl .nil))))))))))) (by kernel_rfl) ?_
  refine rn 5 rfl ?_
  refine jK h (fun (p : (List TWindow)) => (⟨[(5, (V.own 0 p.length))], [(0, (Ob.arr 35 6 (p.map encTWindow)))], 1⟩ : St)) (fun k9 (p : (List TWindow)) => k9 p = some r) (fun k9 h => ?_) ?_
  · refine rn 1 rfl ?_
    refine lC (fun (p : (List TWindow) × (List TWindow) × (List TWindow)) => (⟨[(3, (V.lst 6 ((p.1).map encTWindow))), (4, (V.lst 6 ((p.2.1).map encTWindow))), (5, (V.own 0 (p.2.2).length))], [(0, (Ob.arr 35 6 ((p.2.2).map encTWindow)))], 1⟩ : St)) (fun n (p : (List TWindow) × (List TWindow) × (List TWindow)) => M135_L1 F k9 n p.1 p.2.1 p.2.2 = some r) (fun p h => by simp [M135_L1] at h) F (y4, y7, ([] : List TWindow)) h (Ghost.trans (ghost_nilE 5 35 6 rfl) (ghost_ren 1 (fun i => ([0] : List Nat).getD i 0) _ _ (by decide) (EnvSub.get (.cons (Sub.imm (Imm.lst _ _)) (.cons (Sub.imm (Imm.lst _ _)) (.cons (Sub.ownE rfl rfl (by simp)) .nil)))) (HpSub.get (.cons rfl (ObSub.rows (rows_imm imms_encTWindow)) .nil)) rfl)) (fun n p h => ?_)
    obtain ⟨l14, l15, l16⟩ := p
    unfold M135_L1 at h
    refine rn 4 rfl ?_
    refine ln rfl rfl ?_
    refine rn 2 rfl ?_
    refine spO 25 h rfl (fun hb17 h => ?_) (fun hb17 h => ?_)
    · refine rn 9 rfl ?_
      refine bs h (fun hb18 h => ?_) (fun hb18 h => ?_)
      · refine dr mixed (vs 1 rfl (nD rfl rfl rfl (vs 1 rfl (vb hb18 rfl (vs 13 rfl .nil))))) (by kernel_rfl) ?_
        obtain ⟨x19, hx20, h⟩ := bind_some h
        refine rn 1 rfl ?_
        refine ck h (fun hc21 h => ?_)
        refine ck h (fun hc22 h => ?_)
        refine awp_ghost ghost_res ?_
        refine fa ?_
        refine dr mixed (vs 2 rfl (iD hx20 rfl rfl rfl (vs 1 rfl (xD (OD.mk [(50, (V.agg (encTWindow x19)))] [] [(51, (V.lst 6 (([x19] : List TWindow).map encTWindow)))] []) ⟨⟨rfl, trivial⟩, trivial⟩ (by exact fun S hn h hh => aops_buildSlice_imm [(0, (V.agg (encTWindow x19)))] [(encTWindow x19)] tEl59 tZ35 wants_none rfl rfl rfl rfl (evp_cons h.1 evp_nil) rfl rfl (by simp) (imms_rows (.cons (imms_encTWindow _) .nil)) rfl (aops_nil ⟨rfl, rfl⟩)) rfl (xD (OD.mk [(47, (V.own 0 l16.length)), (51, (V.lst 6 (([x19] : List TWindow).map encTWindow)))] [(0, (Ob.arr 35 6 (l16.map encTWindow))), (1, Ob.res)] [(52, (V.own 1 (l16 ++ ([x19] : List TWindow)).length))] [(1, (Ob.arr 35 6 ((l16 ++ ([x19] : List TWindow)).map encTWindow))), (0, Ob.dead)]) ⟨⟨rfl, rfl, trivial⟩, ⟨rfl, rfl, trivial⟩⟩ (by exact fun S hn h hh => aops_append_at 1 rfl hn hh.2.1 (([x19] : List TWindow).map encTWindow) ((l16 ++ ([x19] : List TWindow)).map encTWindow) tEl59 tIsSl59 rfl rfl wants_none h.1 hh.1 (by simp) h.2.1 (.lst (rows_one one_encTWindow)) (map_snoc encTWindow l16 ([x19] : List TWindow)) (List.length_map ..) hc21 rfl (aops_nil ⟨rfl, rfl⟩)) rfl (vs 1 rfl (xD (OD.mk [(53, (V.lst 6 (l14.map encTWindow)))] [] [(54, (V.lst 6 ((l14.drop 1).map encTWindow)))] []) ⟨⟨rfl, trivial⟩, trivial⟩ (by exact fun S hn h hh => aops_slice_lst (1) (l14.length) ((l14.drop 1).map encTWindow) tSl59 wants_none h.1 ⟨_, rfl⟩ (List.length_map ..).symm hc22 (Nat.le_of_eq (List.length_map ..).symm) slL_hi rfl (aops_nil ⟨rfl, rfl⟩)) rfl (vs 2 rfl .nil)))))))) (by kernel_rfl) ?_
        refine rn 1 rfl ?_
        exact jX ((l14.drop 1), l15, (l16 ++ ([x19] : List TWindow))) h (gr [1] rfl (hR rfl rfl .nil) rfl)
      obtain ⟨x23, hx24, h⟩ := bind_some h
      obtain ⟨x25, hx26, h⟩ := bind_some h
      obtain ⟨y27, hx28, h⟩ := bind_some h
      refine dr mixed (vs 1 rfl (nD rfl rfl rfl (vs 1 rfl (vb hb18 rfl (vs 1 rfl (nD rfl rfl rfl (vs 1 rfl (vb hb17 rfl (vs 1 rfl (iD hx24 rfl rfl rfl (vs 2 rfl (iD hx26 rfl rfl rfl (vs 1 rfl (cD rfl rfl rfl rfl (W150 _ _ _ _ hx28) rfl (vs 2 rfl .nil))))))))))))))) (by kernel_rfl) ?_
      refine jK h (fun (p : (List TWindow) × (List TWindow) × (List TWindow)) => (⟨[(3, (V.lst 6 ((p.1).map encTWindow))), (4, (V.lst 6 ((p.2.1).map encTWindow))), (5, (V.own 0 (p.2.2).length)), (26, (V.con undef)), (27, (V.con undef)), (28, (V.con undef)), (34, (V.lst 6 (l14.map encTWindow))), (35, (iV ((l14.length : Nat) : Int))), (36, (bV (decide (((l14.length : Nat) : Int) > 0)))), (37, (bV true)), (38, (V.lst 6 (l14.map encTWindow))), (39, (V.iptr (encTWindow x23) 0)), (40, (V.agg (encTWindow x23))), (41, (V.lst 6 (l15.map encTWindow))), (42, (V.iptr (encTWindow x25) 0)), (43, (V.agg (encTWindow x25))), (44, (bV y27)), (45, (bV y27))], [(0, (Ob.arr 35 6 ((p.2.2).map encTWindow)))], 1⟩ : St)) (fun k29 (p : (List TWindow) × (List TWindow) × (List TWindow)) => k29 p.1 p.2.1 p.2.2 = some r) (fun k29 h => ?_) ?_
      · refine spC h rfl (fun hb33 h => ?_) (fun hb33 h => ?_)
        · obtain ⟨x34, hx35, h⟩ := bind_some h
          refine ck h (fun hc36 h => ?_)
          refine ck h (fun hc37 h => ?_)
          refine awp_ghost ghost_res ?_
          refine fa ?_
          refine dr mixed (vs 2 rfl (iD hx35 rfl rfl rfl (vs 1 rfl (xD (OD.mk [(50, (V.agg (encTWindow x34)))] [] [(51, (V.lst 6 (([x34] : List TWindow).map encTWindow)))] []) ⟨⟨rfl, trivial⟩, trivial⟩ (by exact fun S hn h hh => aops_buildSlice_imm [(0, (V.agg (encTWindow x34)))] [(encTWindow x34)] tEl59 tZ35 wants_none rfl rfl rfl rfl (evp_cons h.1 evp_nil) rfl rfl (by simp) (imms_rows (.cons (imms_encTWindow _) .nil)) rfl (aops_nil ⟨rfl, rfl⟩)) rfl (xD (OD.mk [(47, (V.own 0 l16.length)), (51, (V.lst 6 (([x34] : List TWindow).map encTWindow)))] [(0, (Ob.arr 35 6 (l16.map encTWindow))), (1, Ob.res)] [(52, (V.own 1 (l16 ++ ([x34] : List TWindow)).length))] [(1, (Ob.arr 35 6 ((l16 ++ ([x34] : List TWindow)).map encTWindow))), (0, Ob.dead)]) ⟨⟨rfl, rfl, trivial⟩, ⟨rfl, rfl, trivial⟩⟩ (by exact fun S hn h hh => aops_append_at 1 rfl hn hh.2.1 (([x34] : List TWindow).map encTWindow) ((l16 ++ ([x34] : List TWindow)).map encTWindow) tEl59 tIsSl59 rfl rfl wants_none h.1 hh.1 (by simp) h.2.1 (.lst (rows_one one_encTWindow)) (map_snoc encTWindow l16 ([x34] : List TWindow)) (List.length_map ..) hc36 rfl (aops_nil ⟨rfl, rfl⟩)) rfl (vs 1 rfl (xD (OD.mk [(53, (V.lst 6 (l14.map encTWindow)))] [] [(54, (V.lst 6 ((l14.drop 1).map encTWindow)))] []) ⟨⟨rfl, trivial⟩, trivial⟩ (by exact fun S hn h hh => aops_slice_lst (1) (l14.length) ((l14.drop 1).map encTWindow) tSl59 wants_none h.1 ⟨_, rfl⟩ (List.length_map ..).symm hc37 (Nat.le_of_eq (List.length_map ..).symm) slL_hi rfl (aops_nil ⟨rfl, rfl⟩)) rfl (vs 2 rfl .nil)))))))) (by kernel_rfl) ?_
          exact jX ((l14.drop 1), l15, (l16 ++ ([x34] : List TWindow))) h (gr [1] rfl (hR rfl rfl .nil) rfl)
        obtain ⟨x38, hx39, h⟩ := bind_some h
        refine ck h (fun hc40 h => ?_)
        refine ck h (fun hc41 h => ?_)
        refine awp_ghost ghost_res ?_
        refine fa ?_
        refine dr mixed (vs 2 rfl (iD hx39 rfl rfl rfl (vs 1 rfl (xD (OD.mk [(58, (V.agg (encTWindow x38)))] [] [(59, (V.lst 6 (([x38] : List TWindow).map encTWindow)))] []) ⟨⟨rfl, trivial⟩, trivial⟩ (by exact fun S hn h hh => aops_buildSlice_imm [(0, (V.agg (encTWindow x38)))] [(encTWindow x38)] tEl59 tZ35 wants_none rfl rfl rfl rfl (evp_cons h.1 evp_nil) rfl rfl (by simp) (imms_rows (.cons (imms_encTWindow _) .nil)) rfl (aops_nil ⟨rfl, rfl⟩)) rfl (xD (OD.mk [(55, (V.own 0 l16.length)), (59, (V.lst 6 (([x38] : List TWindow).map encTWindow)))] [(0, (Ob.arr 35 6 (l16.map encTWindow))), (1, Ob.res)] [(60, (V.own 1 (l16 ++ ([x38] : List TWindow)).length))] [(1, (Ob.arr 35 6 ((l16 ++ ([x38] : List TWindow)).map encTWindow))), (0, Ob.dead)]) ⟨⟨rfl, rfl, trivial⟩, ⟨rfl, rfl, trivial⟩⟩ (by exact fun S hn h hh => aops_append_at 1 rfl hn hh.2.1 (([x38] : List TWindow).map encTWindow) ((l16 ++ ([x38] : List TWindow)).map encTWindow) tEl59 tIsSl59 rfl rfl wants_none h.1 hh.1 (by simp) h.2.1 (.lst (rows_one one_encTWindow)) (map_snoc encTWindow l16 ([x38] : List TWindow)) (List.length_map ..) hc40 rfl (aops_nil ⟨rfl, rfl⟩)) rfl (vs 1 rfl (xD (OD.mk [(61, (V.lst 6 (l15.map encTWindow)))] [] [(62, (V.lst 6 ((l15.drop 1).map encTWindow)))] []) ⟨⟨rfl, trivial⟩, trivial⟩ (by exact fun S hn h hh => aops_slice_lst (1) (l15.length) ((l15.drop 1).map encTWindow) tSl59 wants_none h.1 ⟨_, rfl⟩ (List.length_map ..).symm hc41 (Nat.le_of_eq (List.length_map ..).symm) slL_hi rfl (aops_nil ⟨rfl, rfl⟩)) rfl (vs 2 rfl .nil)))))))) (by kernel_rfl) ?_
        exact jX (l14, (l15.drop 1), (l16 ++ ([x38] : List TWindow))) h (gr [1] rfl (hR rfl rfl .nil) rfl)
      rintro ⟨l30, l31, l32⟩ h
      refine rn 1 rfl ?_
      exact jX (l30, l31, l32) h (gr [0] rfl (hR rfl rfl .nil) rfl)
    refine rn 1 rfl ?_
    refine ln rfl rfl ?_
    refine rn 3 rfl ?_
    refine spC h rfl (fun hb42 h => ?_) (fun hb42 h => ?_)
    · refine rn 3 rfl ?_
      refine bs h (fun hb43 h => ?_) (fun hb43 h => ?_)
      · refine dr mixed (vs 1 rfl (nD rfl rfl rfl (vs 1 rfl (vb hb43 rfl (vs 13 rfl .nil))))) (by kernel_rfl) ?_
        obtain ⟨x44, hx45, h⟩ := bind_some h
        refine rn 1 rfl ?_
        refine ck h (fun hc46 h => ?_)
        refine ck h (fun hc47 h => ?_)
        refine awp_ghost ghost_res ?_
        refine fa ?_
        refine dr mixed (vs 2 rfl (iD hx45 rfl rfl rfl (vs 1 rfl (xD (OD.mk [(50, (V.agg (encTWindow x44)))] [] [(51, (V.lst 6 (([x44] : List TWindow).map encTWindow)))] []) ⟨⟨rfl, trivial⟩, trivial⟩ (by exact fun S hn h hh => aops_buildSlice_imm [(0, (V.agg (encTWindow x44)))] [(encTWindow x44)] tEl59 tZ35 wants_none rfl rfl rfl rfl (evp_cons h.1 evp_nil) rfl rfl (by simp) (imms_rows (.cons (imms_encTWindow _) .nil)) rfl (aops_nil ⟨rfl, rfl⟩)) rfl (xD (OD.mk [(47, (V.own 0 l16.length)), (51, (V.lst 6 (([x44] : List TWindow).map encTWindow)))] [(0, (Ob.arr 35 6 (l16.map encTWindow))), (1, Ob.res)] [(52, (V.own 1 (l16 ++ ([x44] : List TWindow)).length))] [(1, (Ob.arr 35 6 ((l16 ++ ([x44] : List TWindow)).map encTWindow))), (0, Ob.dead)]) ⟨⟨rfl, rfl, trivial⟩, ⟨rfl, rfl, trivial⟩⟩ (by exact fun S hn h hh => aops_append_at 1 rfl hn hh.2.1 (([x44] : List TWindow).map encTWindow) ((l16 ++ ([x44] : List TWindow)).map encTWindow) tEl59 tIsSl59 rfl rfl wants_none h.1 hh.1 (by simp) h.2.1 (.lst (rows_one one_encTWindow)) (map_snoc encTWindow l16 ([x44] : List TWindow)) (List.length_map ..) hc46 rfl (aops_nil ⟨rfl, rfl⟩)) rfl (vs 1 rfl (xD (OD.mk [(53, (V.lst 6 (l14.map encTWindow)))] [] [(54, (V.lst 6 ((l14.drop 1).map encTWindow)))] []) ⟨⟨rfl, trivial⟩, trivial⟩ (by exact fun S hn h hh => aops_slice_lst (1) (l14.length) ((l14.drop 1).map encTWindow) tSl59 wants_none h.1 ⟨_, rfl⟩ (List.length_map ..).symm hc47 (Nat.le_of_eq (List.length_map ..).symm) slL_hi rfl (aops_nil ⟨rfl, rfl⟩)) rfl (vs 2 rfl .nil)))))))) (by kernel_rfl) ?_
        refine rn 1 rfl ?_
        exact jX ((l14.drop 1), l15, (l16 ++ ([x44] : List TWindow))) h (gr [1] rfl (hR rfl rfl .nil) rfl)
      refine dr mixed (vs 1 rfl (nD rfl rfl rfl (vs 1 rfl (vb hb43 rfl (vs 1 rfl (nD rfl rfl rfl (vs 1 rfl (vb hb17 rfl (vs 9 rfl .nil))))))))) (by kernel_rfl) ?_
      obtain ⟨x48, hx49, h⟩ := bind_some h
      refine rn 1 rfl ?_
      refine ck h (fun hc50 h => ?_)
      refine ck h (fun hc51 h => ?_)
      refine awp_ghost ghost_res ?_
      refine fa ?_
      refine dr mixed (vs 2 rfl (iD hx49 rfl rfl rfl (vs 1 rfl (xD (OD.mk [(58, (V.agg (encTWindow x48)))] [] [(59, (V.lst 6 (([x48] : List TWindow).map encTWindow)))] []) ⟨⟨rfl, trivial⟩, trivial⟩ (by exact fun S hn h hh => aops_buildSlice_imm [(0, (V.agg (encTWindow x48)))] [(encTWindow x48)] tEl59 tZ35 wants_none rfl rfl rfl rfl (evp_cons h.1 evp_nil) rfl rfl (by simp) (imms_rows (.cons (imms_encTWindow _) .nil)) rfl (aops_nil ⟨rfl, rfl⟩)) rfl (xD (OD.mk [(55, (V.own 0 l16.length)), (59, (V.lst 6 (([x48] : List TWindow).map encTWindow)))] [(0, (Ob.arr 35 6 (l16.map encTWindow))), (1, Ob.res)] [(60, (V.own 1 (l16 ++ ([x48] : List TWindow)).length))] [(1, (Ob.arr 35 6 ((l16 ++ ([x48] : List TWindow)).map encTWindow))), (0, Ob.dead)]) ⟨⟨rfl, rfl, trivial⟩, ⟨rfl, rfl, trivial⟩⟩ (by exact fun S hn h hh => aops_append_at 1 rfl hn hh.2.1 (([x48] : List TWindow).map encTWindow) ((l16 ++ ([x48] : List TWindow)).map encTWindow) tEl59 tIsSl59 rfl rfl wants_none h.1 hh.1 (by simp) h.2.1 (.lst (rows_one one_encTWindow)) (map_snoc encTWindow l16 ([x48] : List TWindow)) (List.length_map ..) hc50 rfl (aops_nil ⟨rfl, rfl⟩)) rfl (vs 1 rfl (xD (OD.mk [(61, (V.lst 6 (l15.map encTWindow)))] [] [(62, (V.lst 6 ((l15.drop 1).map encTWindow)))] []) ⟨⟨rfl, trivial⟩, trivial⟩ (by exact fun S hn h hh => aops_slice_lst (1) (l15.length) ((l15.drop 1).map encTWindow) tSl59 wants_none h.1 ⟨_, rfl⟩ (List.length_map ..).symm hc51 (Nat.le_of_eq (List.length_map ..).symm) slL_hi rfl (aops_nil ⟨rfl, rfl⟩)) rfl (vs 2 rfl .nil)))))))) (by kernel_rfl) ?_
      refine rn 1 rfl ?_
      exact jX (l14, (l15.drop 1), (l16 ++ ([x48] : List TWindow))) h (gr [1] rfl (hR rfl rfl .nil) rfl)
    refine rn 1 rfl ?_
    exact jX l16 h (gr [0] rfl (hR rfl rfl .nil) rfl)
  intro l10 h
  refine rn 5 rfl ?_
  refine awp_ghost (ghost_frzE 0 2 rfl (rows_imm imms_encTWindow) rfl (List.length_map ..).symm) ?_
  refine fa ?_
  exact rt h rfl
theorem W135 : ∀ (F : Nat) (a1 : (List TWindow)) (r : (List TWindow)) (h : M135 F a1 = some r), Pure Try.prog 135 [(V.lst 6 (a1.map encTWindow))] (V.lst 6 (r.map encTWindow)) := by
  intro F
  induction F with
  | zero => intros; simp [M135] at *
  | succ F ih => exact fun a1 r h => W135_B (M135 F) ih F a1 r h
theorem W99 (F : Nat) (a1 : TStory) (r : (List TWindow)) (h : M99 F a1 = some r) : Pure Try.prog 99 [(V.agg (encTStory a1))] (V.lst 6 (r.map encTWindow)) := by
  refine pin (fun r => (V.lst 6 (r.map encTWindow))) r rfl Try.func99 rfl rfl rfl rfl rfl (fun w0 m0 => ?_)
  unfold M99 at h
  refine rn 18 rfl ?_
  refine cl h rfl rfl rfl (W91 _ _) rfl (fun y2 hx3 h => ?_)
  refine cl h rfl rfl rfl (W118 _ _) rfl (fun y4 hx5 h => ?_)
  refine ln rfl rfl ?_
  refine rn 2 rfl ?_
  refine jK h (fun (p : (List TWindow)) => (⟨[(1, (V.ptr 0 4 0 0)), (3, (V.own 1 p.length))], [(0, (Ob.arr 52 4 [(encTStory a1)])), (1, (Ob.arr 35 6 (p.map encTWindow)))], 2⟩ : St)) (fun k6 (p : (List TWindow)) => k6 p = some r) (fun k6 h => ?_) ?_
  · refine rn 1 rfl ?_
    refine wl (A := y4) 13 rfl (fun hA30 => ?_)
    refine lC (fun (p : Int × (List TWindow) × (List (TExposure × Int))) => (⟨[(1, (V.ptr 0 4 0 0)), (3, (V.own 1 (p.2.1).length)), (4, (V.map 2)), (13, (V.lst 5 (y4.map encTprovenderref11_stretch))), (14, (iV ((y4.length : Nat) : Int))), (15, (iV (p.1)))], [(0, (Ob.arr 52 4 [(encTStory a1)])), (1, (Ob.arr 35 6 ((p.2.1).map encTWindow))), (2, (Ob.map ((p.2.2).map encM47_3)))], 3⟩ : St)) (fun n (p : Int × (List TWindow) × (List (TExposure × Int))) => RG y4 (fun tl nn => M99_L1 F k6 tl p.2.1 p.2.2 = some r) n p.1) (fun p h => RG.zero h) (y4.length + 1) (0, ([] : List TWindow), ([] : List (TExposure × Int))) (RG.start h) (Ghost.trans (ghost_nilE 3 35 6 rfl) (ghost_ren 3 (fun i => ([0, 2, 1] : List Nat).getD i 0) _ _ (by decide) (EnvSub.get (.cons (Sub.ptr rfl rfl) (.cons (Sub.ownE rfl rfl (by simp)) (.cons (Sub.map rfl rfl) (.cons (Sub.imm (Imm.lst _ _)) (.cons (Sub.imm (Imm.con _)) (.cons (Sub.imm (Imm.con _)) .nil))))))) (HpSub.get (.cons rfl (ObSub.box (.cons (Sub.imm (Imm.con _)) (.cons (Sub.imm (Imm.lst _ _)) (.cons (Sub.imm (Imm.lst _ _)) (.cons (Sub.imm (Imm.con _)) .nil))))) (.cons rfl (ObSub.rows (rows_imm imms_encTWindow)) (.cons rfl (ObSub.maps encM47_3_imm) .nil)))) rfl)) (fun n p h => ?_)
    obtain ⟨n11, l12, m13⟩ := p
    refine rn 5 rfl ?_
    refine spL rfl (fun hb14 => ?_) (fun hb14 => ?_)
    · obtain ⟨x18, tl, hx19, h, hk1⟩ := RG.t hA30 h hb14
      unfold M99_L1 at h
      refine rn 2 rfl ?_
      refine jK h (fun (p : (List TWindow) × (List (TExposure × Int))) => (⟨[(1, (V.ptr 0 4 0 0)), (3, (V.own 1 (p.1).length)), (4, (V.map 2)), (13, (V.lst 5 (y4.map encTprovenderref11_stretch))), (14, (iV ((y4.length : Nat) : Int))), (15, (iV n11))], [(0, (Ob.arr 52 4 [(encTStory a1)])), (1, (Ob.arr 35 6 ((p.1).map encTWindow))), (2, (Ob.map ((p.2).map encM47_3)))], 3⟩ : St)) (fun k15 (p : (List TWindow) × (List (TExposure × Int))) => k15 p.1 p.2 = some r) (fun k15 h => ?_) ?_
      · refine rn 3 rfl ?_
        refine ixh hx19 rfl rfl ?_
        refine rn 21 rfl ?_
        refine aops_lookup _ (iV 0) (iV ((mget m13 (TExposure.mk x18.x.Advisory x18.x.Component 0)).getD 0)) tMap175 tKey47 tZo3 (irel_con _) wants_none rfl (.own rfl) (.agg (cv47 (TExposure.mk x18.x.Advisory x18.x.Component 0)) rfl) ⟨_, rfl⟩ encM47_3_good (encM47_3_look m13 (TExposure.mk x18.x.Advisory x18.x.Component 0)) (getD_map (encM47_3_val) (mget m13 (TExposure.mk x18.x.Advisory x18.x.Component 0)) 0) rfl ?_
        refine fo (rn 3 rfl ?_)
        refine bs h (fun hb20 h => ?_) (fun hb20 h => ?_)
        · obtain ⟨x21, hx22, h⟩ := bind_some h
          refine dr mixed (vs 2 rfl (vb hb20 rfl (vs 3 rfl (oD (a := l12) hx22 rfl rfl rfl rfl (vs 1 rfl (lD hx22 rfl rfl rfl rfl rfl (vs 4 rfl .nil))))))) (by kernel_rfl) ?_
          refine spC h rfl (fun hb23 h => ?_) (fun hb23 h => ?_)
          · obtain ⟨x24, hx25, h⟩ := bind_some h
            obtain ⟨x26, hx27, h⟩ := bind_some h
            refine rn 1 rfl ?_
            refine dr mixed (vs 11 rfl (oD (a := l12) hx25 rfl rfl rfl rfl (vs 1 rfl (xD (OD.mk [(50, (V.ptr 1 6 (w64 (((mget m13 (TExposure.mk x18.x.Advisory x18.x.Component 0)).getD 0) - 1)).toNat 4)), (45, (iV x18.to))] [(1, (Ob.arr 35 6 (l12.map encTWindow)))] [] [(1, (Ob.arr 35 6 ((l12.set (w64 (((mget m13 (TExposure.mk x18.x.Advisory x18.x.Component 0)).getD 0) - 1)).toNat (TWindow.mk x24.Advisory x24.Component x24.Severity x24.From x18.to x24.Open)).map encTWindow)))]) ⟨⟨rfl, rfl, trivial⟩, ⟨rfl, trivial⟩⟩ (by exact fun S hn h hh => aops_store [(iV x18.to)] ((l12.set (w64 (((mget m13 (TExposure.mk x18.x.Advisory x18.x.Component 0)).getD 0) - 1)).toNat (TWindow.mk x24.Advisory x24.Component x24.Severity x24.From x18.to x24.Open)).map encTWindow) tS3 wants_none h.1 h.2.1 rfl rfl hh.1 (idx_map encTWindow hx25) rfl (map_set encTWindow l12 _ (TWindow.mk x24.Advisory x24.Component x24.Severity x24.From x18.to x24.Open)) (aops_nil ⟨rfl, rfl⟩)) rfl (xD (OD.mk [(41, (V.own 1 l12.length)), (43, (iV (w64 (((mget m13 (TExposure.mk x18.x.Advisory x18.x.Component 0)).getD 0) - 1))))] [] [(51, (V.ptr 1 6 (w64 (((mget m13 (TExposure.mk x18.x.Advisory x18.x.Component 0)).getD 0) - 1)).toNat 0))] []) ⟨⟨rfl, rfl, trivial⟩, trivial⟩ (by exact fun S hn h hh => aops_index_own tSl59 wants_none h.1 h.2.1 (idx_some hx27).1 (by simpa using idx_lt hx27) rfl (aops_nil ⟨rfl, rfl⟩)) rfl (vs 1 rfl (xD (OD.mk [(52, (V.ptr 1 6 (w64 (((mget m13 (TExposure.mk x18.x.Advisory x18.x.Component 0)).getD 0) - 1)).toNat 2)), (48, (iV x18.x.Severity))] [(1, (Ob.arr 35 6 ((l12.set (w64 (((mget m13 (TExposure.mk x18.x.Advisory x18.x.Component 0)).getD 0) - 1)).toNat (TWindow.mk x24.Advisory x24.Component x24.Severity x24.From x18.to x24.Open)).map encTWindow)))] [] [(1, (Ob.arr 35 6 (((l12.set (w64 (((mget m13 (TExposure.mk x18.x.Advisory x18.x.Component 0)).getD 0) - 1)).toNat (TWindow.mk x24.Advisory x24.Component x24.Severity x24.From x18.to x24.Open)).set (w64 (((mget m13 (TExposure.mk x18.x.Advisory x18.x.Component 0)).getD 0) - 1)).toNat (TWindow.mk x26.Advisory x26.Component x18.x.Severity x26.From x26.To x26.Open)).map encTWindow)))]) ⟨⟨rfl, rfl, trivial⟩, ⟨rfl, trivial⟩⟩ (by exact fun S hn h hh => aops_store [(iV x18.x.Severity)] (((l12.set (w64 (((mget m13 (TExposure.mk x18.x.Advisory x18.x.Component 0)).getD 0) - 1)).toNat (TWindow.mk x24.Advisory x24.Component x24.Severity x24.From x18.to x24.Open)).set (w64 (((mget m13 (TExposure.mk x18.x.Advisory x18.x.Component 0)).getD 0) - 1)).toNat (TWindow.mk x26.Advisory x26.Component x18.x.Severity x26.From x26.To x26.Open)).map encTWindow) tS3 wants_none h.1 h.2.1 rfl rfl hh.1 (idx_map encTWindow hx27) rfl (map_set encTWindow (l12.set (w64 (((mget m13 (TExposure.mk x18.x.Advisory x18.x.Component 0)).getD 0) - 1)).toNat (TWindow.mk x24.Advisory x24.Component x24.Severity x24.From x18.to x24.Open)) _ (TWindow.mk x26.Advisory x26.Component x18.x.Severity x26.From x26.To x26.Open)) (aops_nil ⟨rfl, rfl⟩)) rfl .nil))))))) (by kernel_rfl) ?_
            refine rn 1 rfl ?_
            exact jX (((l12.set (w64 (((mget m13 (TExposure.mk x18.x.Advisory x18.x.Component 0)).getD 0) - 1)).toNat (TWindow.mk x24.Advisory x24.Component x24.Severity x24.From x18.to x24.Open)).set (w64 (((mget m13 (TExposure.mk x18.x.Advisory x18.x.Component 0)).getD 0) - 1)).toNat (TWindow.mk x26.Advisory x26.Component x18.x.Severity x26.From x26.To x26.Open)), m13) h (ghost_ren 3 (fun i => ([0, 1, 2] : List Nat).getD i 0) _ _ (by decide) (EnvSub.get (.cons (Sub.ptr rfl rfl) (.cons (Sub.ownE rfl rfl (by simp)) (.cons (Sub.map rfl rfl) (.cons (Sub.imm (Imm.lst _ _)) (.cons (Sub.imm (Imm.con _)) (.cons (Sub.imm (Imm.con _)) .nil))))))) (HpSub.get (.cons rfl (ObSub.box (.cons (Sub.imm (Imm.con _)) (.cons (Sub.imm (Imm.lst _ _)) (.cons (Sub.imm (Imm.lst _ _)) (.cons (Sub.imm (Imm.con _)) .nil))))) (.cons rfl (ObSub.rows (rows_imm imms_encTWindow)) (.cons rfl (ObSub.maps encM47_3_imm) .nil)))) rfl)
          refine rn 16 rfl ?_
          refine aops_buildSlice [(0, (V.agg [(sV x18.x.Advisory), (sV x18.x.Component), (iV x18.x.Severity), (iV x18.from_), (iV x18.to), (bV false)]))] [[(sV x18.x.Advisory), (sV x18.x.Component), (iV x18.x.Severity), (iV x18.from_), (iV x18.to), (bV false)]] tEl59 tZ35 rfl rfl rfl rfl wants_none (evp_cons rfl evp_nil) rfl rfl (by simp) rfl ?_
          refine fo ?_
          refine apO encTWindow h rfl rfl rfl rfl rfl rfl rfl rfl (fun h => ?_)
          refine rn 7 rfl ?_
          refine aops_mapUpdate ((mput m13 (TExposure.mk x18.x.Advisory x18.x.Component 0) (((l12 ++ ([(TWindow.mk x18.x.Advisory x18.x.Component x18.x.Severity x18.from_ x18.to false)] : List TWindow)).length : Nat) : Int)).map encM47_3) tMap175 tKey47 wants_none rfl rfl (.agg (cv47 (TExposure.mk x18.x.Advisory x18.x.Component 0)) rfl) ⟨_, rfl⟩ encM47_3_good rfl (encM47_3_puts m13 (TExposure.mk x18.x.Advisory x18.x.Component 0) (((l12 ++ ([(TWindow.mk x18.x.Advisory x18.x.Component x18.x.Severity x18.from_ x18.to false)] : List TWindow)).length : Nat) : Int)) ?_
          refine fo (rn 2 rfl ?_)
          exact jX ((l12 ++ ([(TWindow.mk x18.x.Advisory x18.x.Component x18.x.Severity x18.from_ x18.to false)] : List TWindow)), (mput m13 (TExposure.mk x18.x.Advisory x18.x.Component 0) (((l12 ++ ([(TWindow.mk x18.x.Advisory x18.x.Component x18.x.Severity x18.from_ x18.to false)] : List TWindow)).length : Nat) : Int))) h (gr [0, 6, 2] rfl (hB rfl rfl rfl (hR rfl rfl (hM rfl rfl .nil))) rfl)
        refine dr mixed (vs 2 rfl (vb hb20 rfl (vs 10 rfl .nil))) (by kernel_rfl) ?_
        refine rn 17 rfl ?_
        refine aops_buildSlice [(0, (V.agg [(sV x18.x.Advisory), (sV x18.x.Component), (iV x18.x.Severity), (iV x18.from_), (iV x18.to), (bV false)]))] [[(sV x18.x.Advisory), (sV x18.x.Component), (iV x18.x.Severity), (iV x18.from_), (iV x18.to), (bV false)]] tEl59 tZ35 rfl rfl rfl rfl wants_none (evp_cons rfl evp_nil) rfl rfl (by simp) rfl ?_
        refine fo ?_
        refine apO encTWindow h rfl rfl rfl rfl rfl rfl rfl rfl (fun h => ?_)
        refine rn 7 rfl ?_
        refine aops_mapUpdate ((mput m13 (TExposure.mk x18.x.Advisory x18.x.Component 0) (((l12 ++ ([(TWindow.mk x18.x.Advisory x18.x.Component x18.x.Severity x18.from_ x18.to false)] : List TWindow)).length : Nat) : Int)).map encM47_3) tMap175 tKey47 wants_none rfl rfl (.agg (cv47 (TExposure.mk x18.x.Advisory x18.x.Component 0)) rfl) ⟨_, rfl⟩ encM47_3_good rfl (encM47_3_puts m13 (TExposure.mk x18.x.Advisory x18.x.Component 0) (((l12 ++ ([(TWindow.mk x18.x.Advisory x18.x.Component x18.x.Severity x18.from_ x18.to false)] : List TWindow)).length : Nat) : Int)) ?_
        refine fo (rn 2 rfl ?_)
        exact jX ((l12 ++ ([(TWindow.mk x18.x.Advisory x18.x.Component x18.x.Severity x18.from_ x18.to false)] : List TWindow)), (mput m13 (TExposure.mk x18.x.Advisory x18.x.Component 0) (((l12 ++ ([(TWindow.mk x18.x.Advisory x18.x.Component x18.x.Severity x18.from_ x18.to false)] : List TWindow)).length : Nat) : Int))) h (gr [0, 6, 2] rfl (hB rfl rfl rfl (hR rfl rfl (hM rfl rfl .nil))) rfl)
      rintro ⟨l16, m17⟩ h
      refine rn 4 rfl ?_
      exact jX ((w64 (n11 + 1)), l16, m17) (hk1 _ h) (gr [0, 1, 2] rfl (hB rfl rfl rfl (hR rfl rfl (hM rfl rfl .nil))) rfl)
    replace h := RG.f h hb14
    unfold M99_L1 at h
    refine rn 1 rfl ?_
    exact jX l12 h (gr [0, 1] rfl (hB rfl rfl rfl (hR rfl rfl .nil)) rfl)
  intro l7 h
  refine rn 7 rfl ?_
  refine jK h (fun (p : (List TWindow)) => (⟨[(3, (V.own 0 p.length))], [(0, (Ob.arr 35 6 (p.map encTWindow)))], 1⟩ : St)) (fun k31 (p : (List TWindow)) => k31 p = some r) (fun k31 h => ?_) ?_
  · refine rn 1 rfl ?_
    refine wlO (A := l7) 1 rfl (fun hA42 => ?_)
    refine lC (fun (p : Int × (List TWindow)) => (⟨[(1, (V.ptr 0 4 0 0)), (3, (V.own 1 (p.2).length)), (74, (iV ((l7.length : Nat) : Int))), (75, (iV (p.1)))], [(0, (Ob.arr 52 4 [(encTStory a1)])), (1, (Ob.arr 35 6 ((p.2).map encTWindow)))], 2⟩ : St)) (fun n (p : Int × (List TWindow)) => RC ((l7.length : Nat) : Int) (fun tl nn => M99_L2 F a1 k31 tl nn p.2 = some r) n p.1) (fun p h => RC.zero h) (Int.toNat ((l7.length : Nat) : Int) + 1) (0, l7) (RC.start h) (gr [0, 1] rfl (hB rfl rfl rfl (hR rfl rfl .nil)) rfl) (fun n p h => ?_)
    obtain ⟨n35, l36⟩ := p
    refine rn 5 rfl ?_
    refine spL rfl (fun hb37 => ?_) (fun hb37 => ?_)
    · obtain ⟨tl, h, hk2⟩ := RC.t (by unfold maxLen at hA42; omega) h hb37
      unfold M99_L2 at h
      obtain ⟨x38, hx39, h⟩ := bind_some h
      obtain ⟨x40, hx41, h⟩ := bind_some h
      refine rn 8 rfl ?_
      refine dr mixed (vs 4 rfl (oD (a := l36) hx39 rfl rfl rfl rfl (vs 1 rfl (lD hx39 rfl rfl rfl rfl rfl (vs 3 rfl (oD (a := l36) hx41 rfl rfl rfl rfl (vs 1 rfl (xD (OD.mk [(89, (V.ptr 1 6 n35.toNat 5)), (87, (bV (x38.To == a1.Until)))] [(1, (Ob.arr 35 6 (l36.map encTWindow)))] [] [(1, (Ob.arr 35 6 ((l36.set n35.toNat (TWindow.mk x40.Advisory x40.Component x40.Severity x40.From x40.To (x38.To == a1.Until))).map encTWindow)))]) ⟨⟨rfl, rfl, trivial⟩, ⟨rfl, trivial⟩⟩ (by exact fun S hn h hh => aops_store [(bV (x38.To == a1.Until))] ((l36.set n35.toNat (TWindow.mk x40.Advisory x40.Component x40.Severity x40.From x40.To (x38.To == a1.Until))).map encTWindow) tS4 wants_none h.1 h.2.1 rfl rfl hh.1 (idx_map encTWindow hx41) rfl (map_set encTWindow l36 _ (TWindow.mk x40.Advisory x40.Component x40.Severity x40.From x40.To (x38.To == a1.Until))) (aops_nil ⟨rfl, rfl⟩)) rfl .nil)))))))) (by kernel_rfl) ?_
      refine rn 5 rfl ?_
      exact jX ((w64 (n35 + 1)), (l36.set n35.toNat (TWindow.mk x40.Advisory x40.Component x40.Severity x40.From x40.To (x38.To == a1.Until)))) (hk2 _ h) (ghost_ren 2 (fun i => ([0, 1] : List Nat).getD i 0) _ _ (by decide) (EnvSub.get (.cons (Sub.ptr rfl rfl) (.cons (Sub.ownE rfl rfl (by simp)) (.cons (Sub.imm (Imm.con _)) (.cons (Sub.imm (Imm.con _)) .nil))))) (HpSub.get (.cons rfl (ObSub.box (.cons (Sub.imm (Imm.con _)) (.cons (Sub.imm (Imm.lst _ _)) (.cons (Sub.imm (Imm.lst _ _)) (.cons (Sub.imm (Imm.con _)) .nil))))) (.cons rfl (ObSub.rows (rows_imm imms_encTWindow)) .nil))) rfl)
    replace h := RC.f h hb37
    unfold M99_L2 at h
    refine rn 1 rfl ?_
    exact jX l36 h (gr [1] rfl (hR rfl rfl .nil) rfl)
  intro l32 h
  obtain ⟨y43, hx44, h⟩ := bind_some h
  refine rn 3 rfl ?_
  refine aops_ghost (ghost_frzE 0 91 rfl (rows_imm imms_encTWindow) rfl (List.length_map ..).symm) ?_
  refine aops_call (V.lst 6 (y43.map encTWindow)) [(V.lst 6 (l32.map encTWindow))] fOk135 wants_none (evm_cons rfl evm_nil) (.cons (Imm.lst _ _) .nil) (W135 F l32 y43 hx44) rfl ?_
  refine fo (rn 2 rfl ?_)
  exact rt h rfl
end Go.Proofs.Ytkciogeafbbggaa
