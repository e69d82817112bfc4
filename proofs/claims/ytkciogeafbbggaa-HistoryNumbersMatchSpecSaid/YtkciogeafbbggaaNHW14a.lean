/- Part of the proof: HW14a. -/
import Derived.Test.YtkciogeafbbggaaNHM
import Derived.Test.YtkciogeafbbggaaNHSh
import Derived.Test.YtkciogeafbbggaaNHW7a
import Derived.Test.YtkciogeafbbggaaNHW8a
import Derived.Test.YtkciogeafbbggaaNHW3a
import Derived.KernelRfl
namespace Go.Proofs.Ytkciogeafbbggaa
open Go Go.Pv
set_option linter.unusedVariables false
set_option maxRecDepth 100000
theorem W113 (F : Nat) (a1 : TStory) (a2 : Int) (a3 : Int) (a4 : Int) (r : Int) (h : M113 F a1 a2 a3 a4 = some r) : Pure Try.prog 113 [(V.agg (encTStory a1)), (iV a2), (iV a3), (iV a4)] (iV r) := by
  refine pin (fun r => (iV r)) r rfl Try.func113 rfl rfl rfl rfl rfl (fun w0 m0 => ?_)
  unfold M113 at h
  refine rn 9 rfl ?_
  refine cl h rfl rfl rfl (W35 _ _) rfl (fun y5 hx6 h => ?_)
  refine rn 7 rfl ?_
  refine spC h rfl (fun hb7 h => ?_) (fun hb7 h => ?_)
  · refine rn 5 rfl ?_
    exact rt h rfl
  refine rn 7 rfl ?_
  refine spO 17 h rfl (fun hb8 h => ?_) (fun hb8 h => ?_)
  · refine rn 22 rfl ?_
    exact rt h rfl
  refine rn 5 rfl ?_
  refine spO 22 h rfl (fun hb9 h => ?_) (fun hb9 h => ?_)
  · refine rn 17 rfl ?_
    exact rt h rfl
  refine rn 4 rfl ?_
  refine spO 26 h rfl (fun hb10 h => ?_) (fun hb10 h => ?_)
  · refine rn 13 rfl ?_
    exact rt h rfl
  refine rn 4 rfl ?_
  refine spO 30 h rfl (fun hb11 h => ?_) (fun hb11 h => ?_)
  · refine rn 9 rfl ?_
    exact rt h rfl
  refine rn 4 rfl ?_
  refine spC h rfl (fun hb12 h => ?_) (fun hb12 h => ?_)
  · refine rn 4 rfl ?_
    exact rt h rfl
  refine rn 5 rfl ?_
  exact rt h rfl
theorem W142 (F : Nat) (a1 : (List Thistory_piece)) (r : (List Thistory_piece)) (h : M142 F a1 = some r) : Mut Try.prog 142 [(V.lst 5 (a1.map encThistory_piece))] 0 [] (resV [(V.own 0 r.length)]) 1 [(0, (Ob.arr 128 5 (r.map encThistory_piece)))] := by
  refine mut_enter Try.func142 rfl rfl (l := [.tmp 2]) rfl rfl [(0, (V.lst 5 (a1.map encThistory_piece)))] rfl (fun w0 m0 β0 => en ?_)
  unfold M142 at h
  refine rn 8 rfl ?_
  refine aops_isNil (n := a1.length) false tIsSl125 wants_none rfl rfl (congrArg some (List.length_map ..)) rfl (fun b7 hn8 => ?_)
  replace h := nilq_elim h hn8
  refine fo (rn 1 rfl ?_)
  refine spC h rfl (fun hb9 h => ?_) (fun hb9 h => ?_)
  · refine rn 4 rfl ?_
    replace h := Option.some.inj h
    subst h
    exact wR ⟨.inl rfl, [(2, (V.own 0 ([] : List Thistory_piece).length))], (Ghost.trans (ghost_nilE 2 128 5 rfl) (ghost_ren 1 (fun i => ([0] : List Nat).getD i 0) _ _ (by decide) (EnvSub.get (.cons (Sub.ownE rfl rfl (by simp)) .nil)) (HpSub.get (.cons rfl (ObSub.rows (rows_imm imms_encThistory_piece)) .nil)) rfl)), (.cons (.tmp rfl) .nil)⟩
  refine rn 3 rfl ?_
  refine aops_emptySlice tEl125 wants_none rfl ?_
  refine fo (rn 1 rfl ?_)
  refine apL encThistory_piece h rfl rfl rfl (by simp) rfl (fun h => ?_)
  refine rn 2 rfl ?_
  replace h := Option.some.inj h
  subst h
  exact wR ⟨.inl rfl, [(2, (V.own 0 (([] : List Thistory_piece) ++ a1).length))], (gr [1] rfl (hR rfl rfl .nil) rfl), (.cons (.tmp rfl) .nil)⟩
theorem W115 (F : Nat) (a1 : Thistory_piece) (a2 : Thistory_piece) (r : Int) (h : M115 F a1 a2 = some r) : Pure Try.prog 115 [(V.agg (encThistory_piece a1)), (V.agg (encThistory_piece a2))] (iV r) := by
  refine pin (fun r => (iV r)) r rfl Try.func115 rfl rfl rfl rfl rfl (fun w0 m0 => ?_)
  unfold M115 at h
  refine rn 12 rfl ?_
  refine cl h rfl rfl rfl (W116 _ _ _) rfl (fun y3 hx4 h => ?_)
  refine rn 2 rfl ?_
  exact rt h rfl
theorem W159 (F : Nat) (a1 : Int) (a2 : Int) (a3 : List Thistory_piece) (r : (List Thistory_piece)) (h : M159 F a1 a2 a3 = some r) : Mut Try.prog 159 [(V.own 0 a3.length), (iV a1), (iV a2), (V.fn (.func 115) [] [])] 1 [(0, (Ob.arr 128 5 (a3.map encThistory_piece)))] (resV []) 1 [(0, (Ob.arr 128 5 (r.map encThistory_piece)))] := by
  refine mut_enter Try.func159 rfl rfl (l := []) rfl rfl [(0, (V.own 0 a3.length)), (1, (iV a1)), (2, (iV a2)), (3, (V.fn (.func 115) [] []))] rfl (fun w0 m0 β0 => en ?_)
  unfold M159 at h
  refine rn 7 rfl ?_
  refine lC (fun (p : Int × (List Thistory_piece)) => (⟨[(0, (V.own 0 (p.2).length)), (1, (iV a1)), (2, (iV a2)), (3, (V.fn (.func 115) [] [])), (8, (iV (p.1)))], [(0, (Ob.arr 128 5 ((p.2).map encThistory_piece)))], 1⟩ : St)) (fun n (p : Int × (List Thistory_piece)) => M159_L1 F a1 a2 n p.1 p.2 = some r) (fun p h => by simp [M159_L1] at h) F ((w64 (a1 + 1)), a3) h (gr [0] rfl (hR rfl rfl .nil) rfl) (fun n p h => ?_)
  obtain ⟨n36, l37⟩ := p
  unfold M159_L1 at h
  refine rn 7 rfl ?_
  refine spC h rfl (fun hb38 h => ?_) (fun hb38 h => ?_)
  · refine rn 2 rfl ?_
    refine jK h (fun (p : (List Thistory_piece)) => (⟨[(0, (V.own 0 p.length)), (1, (iV a1)), (2, (iV a2)), (3, (V.fn (.func 115) [] [])), (8, (iV n36))], [(0, (Ob.arr 128 5 (p.map encThistory_piece)))], 1⟩ : St)) (fun k39 (p : (List Thistory_piece)) => k39 p = some r) (fun k39 h => ?_) ?_
    · refine rn 6 rfl ?_
      refine jK h (fun (p : (List Thistory_piece)) => (⟨[(0, (V.own 0 p.length)), (1, (iV a1)), (2, (iV a2)), (3, (V.fn (.func 115) [] [])), (8, (iV n36))], [(0, (Ob.arr 128 5 (p.map encThistory_piece)))], 1⟩ : St)) (fun k41 (p : (List Thistory_piece)) => k41 p = some r) (fun k41 h => ?_) ?_
      · refine rn 1 rfl ?_
        refine lC (fun (p : Int × (List Thistory_piece)) => (⟨[(0, (V.own 0 (p.2).length)), (1, (iV a1)), (2, (iV a2)), (3, (V.fn (.func 115) [] [])), (8, (iV n36)), (9, (iV (p.1)))], [(0, (Ob.arr 128 5 ((p.2).map encThistory_piece)))], 1⟩ : St)) (fun n (p : Int × (List Thistory_piece)) => M159_L2 F a1 k41 n p.1 p.2 = some r) (fun p h => by simp [M159_L2] at h) F (n36, l37) h (gr [0] rfl (hR rfl rfl .nil) rfl) (fun n p h => ?_)
        obtain ⟨n45, l46⟩ := p
        unfold M159_L2 at h
        refine rn 2 rfl ?_
        refine bs h (fun hb47 h => ?_) (fun hb47 h => ?_)
        · obtain ⟨x48, hx49, h⟩ := bind_some h
          obtain ⟨x50, hx51, h⟩ := bind_some h
          obtain ⟨y52, hx53, h⟩ := bind_some h
          refine dr mixed (vs 3 rfl (vb hb47 rfl (vs 3 rfl (oD (a := l46) hx49 rfl rfl rfl rfl (lD hx49 rfl rfl rfl rfl rfl (vs 3 rfl (oD (a := l46) hx51 rfl rfl rfl rfl (lD hx51 rfl rfl rfl rfl rfl (cD rfl rfl rfl rfl (W115 _ _ _ _ hx53) rfl (vs 2 rfl .nil)))))))))) (by kernel_rfl) ?_
          refine spC h rfl (fun hb54 h => ?_) (fun hb54 h => ?_)
          · obtain ⟨x55, hx56, h⟩ := bind_some h
            obtain ⟨x57, hx58, h⟩ := bind_some h
            obtain ⟨x59, hx60, h⟩ := bind_some h
            obtain ⟨x61, hx62, h⟩ := bind_some h
            refine rn 3 rfl ?_
            refine dr mixed (vs 8 rfl (oD (a := l46) hx56 rfl rfl rfl rfl (lD hx56 rfl rfl rfl rfl rfl (vs 2 rfl (oD (a := l46) hx58 rfl rfl rfl rfl (lD hx58 rfl rfl rfl rfl rfl (oD (a := l46) hx60 rfl rfl rfl rfl (xD (OD.mk [(51, (V.ptr 0 5 n45.toNat 0)), (46, (V.agg (encThistory_piece x55)))] [(0, (Ob.arr 128 5 (l46.map encThistory_piece)))] [] [(0, (Ob.arr 128 5 ((l46.set n45.toNat x55).map encThistory_piece)))]) ⟨⟨rfl, rfl, trivial⟩, ⟨rfl, trivial⟩⟩ (by exact fun S hn h hh => aops_store (encThistory_piece x55) ((l46.set n45.toNat x55).map encThistory_piece) tS128 wants_none h.1 h.2.1 rfl rfl hh.1 (idx_map encThistory_piece hx60) rfl (map_set encThistory_piece l46 _ x55) (aops_nil ⟨rfl, rfl⟩)) rfl (xD (OD.mk [(39, (V.own 0 l46.length)), (41, (iV (w64 (n45 - 1))))] [] [(52, (V.ptr 0 5 (w64 (n45 - 1)).toNat 0))] []) ⟨⟨rfl, rfl, trivial⟩, trivial⟩ (by exact fun S hn h hh => aops_index_own tSl125 wants_none h.1 h.2.1 (idx_some hx62).1 (by simpa using idx_lt hx62) rfl (aops_nil ⟨rfl, rfl⟩)) rfl (xD (OD.mk [(52, (V.ptr 0 5 (w64 (n45 - 1)).toNat 0)), (50, (V.agg (encThistory_piece x57)))] [(0, (Ob.arr 128 5 ((l46.set n45.toNat x55).map encThistory_piece)))] [] [(0, (Ob.arr 128 5 (((l46.set n45.toNat x55).set (w64 (n45 - 1)).toNat x57).map encThistory_piece)))]) ⟨⟨rfl, rfl, trivial⟩, ⟨rfl, trivial⟩⟩ (by exact fun S hn h hh => aops_store (encThistory_piece x57) (((l46.set n45.toNat x55).set (w64 (n45 - 1)).toNat x57).map encThistory_piece) tS128 wants_none h.1 h.2.1 rfl rfl hh.1 (idx_map encThistory_piece hx62) rfl (map_set encThistory_piece (l46.set n45.toNat x55) _ x57) (aops_nil ⟨rfl, rfl⟩)) rfl .nil)))))))))) (by kernel_rfl) ?_
            refine rn 6 rfl ?_
            exact jX ((w64 (n45 - 1)), ((l46.set n45.toNat x55).set (w64 (n45 - 1)).toNat x57)) h (ghost_ren 1 (fun i => ([0] : List Nat).getD i 0) _ _ (by decide) (EnvSub.get (.cons (Sub.ownE rfl rfl (by simp)) (.cons (Sub.imm (Imm.con _)) (.cons (Sub.imm (Imm.con _)) (.cons (Sub.imm (Imm.fn .nil .nil)) (.cons (Sub.imm (Imm.con _)) (.cons (Sub.imm (Imm.con _)) .nil))))))) (HpSub.get (.cons rfl (ObSub.rows (rows_imm imms_encThistory_piece)) .nil)) rfl)
          refine rn 1 rfl ?_
          exact jX l46 h (gr [0] rfl (hR rfl rfl .nil) rfl)
        refine dr mixed (vs 3 rfl (vb hb47 rfl (vs 13 rfl .nil))) (by kernel_rfl) ?_
        refine rn 2 rfl ?_
        exact jX l46 h (gr [0] rfl (hR rfl rfl .nil) rfl)
      intro l42 h
      refine rn 1 rfl ?_
      exact jX l42 h (gr [0] rfl (hR rfl rfl .nil) rfl)
    intro l40 h
    refine rn 5 rfl ?_
    exact jX ((w64 (n36 + 1)), l40) h (gr [0] rfl (hR rfl rfl .nil) rfl)
  refine rn 1 rfl ?_
  replace h := Option.some.inj h
  subst h
  exact wE ⟨.inr rfl, [], (gr [0] rfl (hR rfl rfl .nil) rfl), .nil⟩
theorem W183 (F : Nat) (a1 : Int) (a2 : Int) (a3 : Int) (a4 : List Thistory_piece) (r : (List Thistory_piece)) (h : M183 F a1 a2 a3 a4 = some r) : Mut Try.prog 183 [(V.own 0 a4.length), (iV a1), (iV a2), (iV a3), (V.fn (.func 115) [] [])] 1 [(0, (Ob.arr 128 5 (a4.map encThistory_piece)))] (resV []) 1 [(0, (Ob.arr 128 5 (r.map encThistory_piece)))] := by
  refine mut_enter Try.func183 rfl rfl (l := []) rfl rfl [(0, (V.own 0 a4.length)), (1, (iV a1)), (2, (iV a2)), (3, (iV a3)), (4, (V.fn (.func 115) [] []))] rfl (fun w0 m0 β0 => en ?_)
  unfold M183 at h
  refine rn 5 rfl ?_
  refine ck h (fun hA33 h => ?_)
  refine lC (fun (p : Int × (List Thistory_piece)) => (⟨[(0, (V.own 0 (p.2).length)), (1, (iV a1)), (2, (iV a2)), (3, (iV a3)), (10, (iV (p.1)))], [(0, (Ob.arr 128 5 ((p.2).map encThistory_piece)))], 1⟩ : St)) (fun n (p : Int × (List Thistory_piece)) => RC a3 (fun tl nn => M183_L1 F a1 a2 tl nn p.2 = some r) n p.1) (fun p h => RC.zero h) (Int.toNat a3 + 1) (0, a4) (RC.start h) (gr [0] rfl (hR rfl rfl .nil) rfl) (fun n p h => ?_)
  obtain ⟨n22, l23⟩ := p
  refine rn 7 rfl ?_
  refine spL rfl (fun hb24 => ?_) (fun hb24 => ?_)
  · obtain ⟨tl, h, hk1⟩ := RC.t hA33 h hb24
    unfold M183_L1 at h
    obtain ⟨x25, hx26, h⟩ := bind_some h
    obtain ⟨x27, hx28, h⟩ := bind_some h
    obtain ⟨x29, hx30, h⟩ := bind_some h
    obtain ⟨x31, hx32, h⟩ := bind_some h
    refine rn 3 rfl ?_
    refine dr mixed (vs 12 rfl (oD (a := l23) hx26 rfl rfl rfl rfl (lD hx26 rfl rfl rfl rfl rfl (vs 4 rfl (oD (a := l23) hx28 rfl rfl rfl rfl (lD hx28 rfl rfl rfl rfl rfl (oD (a := l23) hx30 rfl rfl rfl rfl (xD (OD.mk [(36, (V.ptr 0 5 (w64 (a1 + n22)).toNat 0)), (29, (V.agg (encThistory_piece x25)))] [(0, (Ob.arr 128 5 (l23.map encThistory_piece)))] [] [(0, (Ob.arr 128 5 ((l23.set (w64 (a1 + n22)).toNat x25).map encThistory_piece)))]) ⟨⟨rfl, rfl, trivial⟩, ⟨rfl, trivial⟩⟩ (by exact fun S hn h hh => aops_store (encThistory_piece x25) ((l23.set (w64 (a1 + n22)).toNat x25).map encThistory_piece) tS128 wants_none h.1 h.2.1 rfl rfl hh.1 (idx_map encThistory_piece hx30) rfl (map_set encThistory_piece l23 _ x25) (aops_nil ⟨rfl, rfl⟩)) rfl (xD (OD.mk [(20, (V.own 0 l23.length)), (23, (iV (w64 (a2 + n22))))] [] [(37, (V.ptr 0 5 (w64 (a2 + n22)).toNat 0))] []) ⟨⟨rfl, rfl, trivial⟩, trivial⟩ (by exact fun S hn h hh => aops_index_own tSl125 wants_none h.1 h.2.1 (idx_some hx32).1 (by simpa using idx_lt hx32) rfl (aops_nil ⟨rfl, rfl⟩)) rfl (xD (OD.mk [(37, (V.ptr 0 5 (w64 (a2 + n22)).toNat 0)), (35, (V.agg (encThistory_piece x27)))] [(0, (Ob.arr 128 5 ((l23.set (w64 (a1 + n22)).toNat x25).map encThistory_piece)))] [] [(0, (Ob.arr 128 5 (((l23.set (w64 (a1 + n22)).toNat x25).set (w64 (a2 + n22)).toNat x27).map encThistory_piece)))]) ⟨⟨rfl, rfl, trivial⟩, ⟨rfl, trivial⟩⟩ (by exact fun S hn h hh => aops_store (encThistory_piece x27) (((l23.set (w64 (a1 + n22)).toNat x25).set (w64 (a2 + n22)).toNat x27).map encThistory_piece) tS128 wants_none h.1 h.2.1 rfl rfl hh.1 (idx_map encThistory_piece hx32) rfl (map_set encThistory_piece (l23.set (w64 (a1 + n22)).toNat x25) _ x27) (aops_nil ⟨rfl, rfl⟩)) rfl .nil)))))))))) (by kernel_rfl) ?_
    refine rn 6 rfl ?_
    exact jX ((w64 (n22 + 1)), ((l23.set (w64 (a1 + n22)).toNat x25).set (w64 (a2 + n22)).toNat x27)) (hk1 _ h) (ghost_ren 1 (fun i => ([0] : List Nat).getD i 0) _ _ (by decide) (EnvSub.get (.cons (Sub.ownE rfl rfl (by simp)) (.cons (Sub.imm (Imm.con _)) (.cons (Sub.imm (Imm.con _)) (.cons (Sub.imm (Imm.con _)) (.cons (Sub.imm (Imm.con _)) .nil)))))) (HpSub.get (.cons rfl (ObSub.rows (rows_imm imms_encThistory_piece)) .nil)) rfl)
  replace h := RC.f h hb24
  unfold M183_L1 at h
  refine rn 1 rfl ?_
  replace h := Option.some.inj h
  subst h
  exact wE ⟨.inr rfl, [], (gr [0] rfl (hR rfl rfl .nil) rfl), .nil⟩
theorem W175 (F : Nat) (a1 : Int) (a2 : Int) (a3 : Int) (a4 : List Thistory_piece) (r : (List Thistory_piece)) (h : M175 F a1 a2 a3 a4 = some r) : Mut Try.prog 175 [(V.own 0 a4.length), (iV a1), (iV a2), (iV a3), (V.fn (.func 115) [] [])] 1 [(0, (Ob.arr 128 5 (a4.map encThistory_piece)))] (resV []) 1 [(0, (Ob.arr 128 5 (r.map encThistory_piece)))] := by
  refine mut_enter Try.func175 rfl rfl (l := []) rfl rfl [(0, (V.own 0 a4.length)), (1, (iV a1)), (2, (iV a2)), (3, (iV a3)), (4, (V.fn (.func 115) [] []))] rfl (fun w0 m0 β0 => en ?_)
  unfold M175 at h
  refine rn 15 rfl ?_
  refine jK h (fun (p : Int × (List Thistory_piece)) => (⟨[(0, (V.own 0 (p.2).length)), (2, (iV a2)), (4, (V.fn (.func 115) [] [])), (10, (iV (p.1)))], [(0, (Ob.arr 128 5 ((p.2).map encThistory_piece)))], 1⟩ : St)) (fun k30 (p : Int × (List Thistory_piece)) => k30 p.1 p.2 = some r) (fun k30 h => ?_) ?_
  · refine rn 1 rfl ?_
    refine lC (fun (p : Int × Int × (List Thistory_piece)) => (⟨[(0, (V.own 0 (p.2.2).length)), (2, (iV a2)), (4, (V.fn (.func 115) [] [])), (10, (iV (p.1))), (11, (iV (p.2.1)))], [(0, (Ob.arr 128 5 ((p.2.2).map encThistory_piece)))], 1⟩ : St)) (fun n (p : Int × Int × (List Thistory_piece)) => M175_L1 F a2 k30 n p.1 p.2.1 p.2.2 = some r) (fun p h => by simp [M175_L1] at h) F ((w64 (a2 - a1)), (w64 (a3 - a2)), a4) h (gr [0] rfl (hR rfl rfl .nil) rfl) (fun n p h => ?_)
    obtain ⟨n36, n37, l38⟩ := p
    unfold M175_L1 at h
    refine rn 7 rfl ?_
    refine spC h rfl (fun hb39 h => ?_) (fun hb39 h => ?_)
    · refine rn 8 rfl ?_
      refine jK h (fun (p : Int × Int × (List Thistory_piece)) => (⟨[(0, (V.own 0 (p.2.2).length)), (2, (iV a2)), (4, (V.fn (.func 115) [] [])), (10, (iV (p.1))), (11, (iV (p.2.1)))], [(0, (Ob.arr 128 5 ((p.2.2).map encThistory_piece)))], 1⟩ : St)) (fun k40 (p : Int × Int × (List Thistory_piece)) => k40 p.1 p.2.1 p.2.2 = some r) (fun k40 h => ?_) ?_
      · refine spC h rfl (fun hb44 h => ?_) (fun hb44 h => ?_)
        · obtain ⟨y45, hx46, h⟩ := bind_some h
          refine rn 9 rfl ?_
          refine ck h (fun hc47 h => ?_)
          refine aops_mcall (V.tup []) [(V.own 0 l38.length), (iV (w64 (a2 - n36))), (iV a2), (iV n37), (V.fn (.func 115) [] [])] (fun i => ([0] : List Nat).getD i 0) (fun i => ([0] : List Nat).getD i 0) 1 1 [(0, (Ob.arr 128 5 (y45.map encThistory_piece)))] fOk183 wants_none rfl (evm_cons rfl (evm_cons rfl (evm_cons rfl (evm_cons rfl (evm_cons rfl evm_nil))))) (.cons (Sub.own rfl rfl) (.cons (Sub.imm (Imm.con _)) (.cons (Sub.imm (Imm.con _)) (.cons (Sub.imm (Imm.con _)) (.cons (Sub.imm (Imm.fn .nil .nil)) .nil))))) (.cons rfl (ObSub.rows (rows_imm imms_encThistory_piece)) .nil) (W183 F (w64 (a2 - n36)) a2 n37 l38 y45 hx46) rfl rfl rfl rfl rfl (Sub.immT (Imm.tup .nil)) (.cons rfl (ObSub.rowsT (rows_imm imms_encThistory_piece)) .nil) ?_
          refine aops_ghost (ghost_tell 0 (V.own 0 y45.length) rfl (Sub.ownI hc47)) ?_
          refine aops_ghost (ghost_tell 24 (V.own 0 y45.length) rfl (Sub.ownI hc47)) ?_
          refine fo (rn 7 rfl ?_)
          exact jX ((w64 (n36 - n37)), n37, y45) h (gr [0] rfl (hR rfl rfl .nil) rfl)
        obtain ⟨y48, hx49, h⟩ := bind_some h
        refine rn 13 rfl ?_
        refine ck h (fun hc50 h => ?_)
        refine aops_mcall (V.tup []) [(V.own 0 l38.length), (iV (w64 (a2 - n36))), (iV (w64 ((w64 (a2 + n37)) - n36))), (iV n36), (V.fn (.func 115) [] [])] (fun i => ([0] : List Nat).getD i 0) (fun i => ([0] : List Nat).getD i 0) 1 1 [(0, (Ob.arr 128 5 (y48.map encThistory_piece)))] fOk183 wants_none rfl (evm_cons rfl (evm_cons rfl (evm_cons rfl (evm_cons rfl (evm_cons rfl evm_nil))))) (.cons (Sub.own rfl rfl) (.cons (Sub.imm (Imm.con _)) (.cons (Sub.imm (Imm.con _)) (.cons (Sub.imm (Imm.con _)) (.cons (Sub.imm (Imm.fn .nil .nil)) .nil))))) (.cons rfl (ObSub.rows (rows_imm imms_encThistory_piece)) .nil) (W183 F (w64 (a2 - n36)) (w64 ((w64 (a2 + n37)) - n36)) n36 l38 y48 hx49) rfl rfl rfl rfl rfl (Sub.immT (Imm.tup .nil)) (.cons rfl (ObSub.rowsT (rows_imm imms_encThistory_piece)) .nil) ?_
        refine aops_ghost (ghost_tell 0 (V.own 0 y48.length) rfl (Sub.ownI hc50)) ?_
        refine aops_ghost (ghost_tell 35 (V.own 0 y48.length) rfl (Sub.ownI hc50)) ?_
        refine fo (rn 7 rfl ?_)
        exact jX (n36, (w64 (n37 - n36)), y48) h (gr [0] rfl (hR rfl rfl .nil) rfl)
      rintro ⟨n41, n42, l43⟩ h
      refine rn 1 rfl ?_
      exact jX (n41, n42, l43) h (gr [0] rfl (hR rfl rfl .nil) rfl)
    refine rn 1 rfl ?_
    exact jX (n36, l38) h (gr [0] rfl (hR rfl rfl .nil) rfl)
  rintro ⟨n31, l32⟩ h
  obtain ⟨y51, hx52, h⟩ := bind_some h
  refine rn 8 rfl ?_
  refine ck h (fun hc53 h => ?_)
  refine aops_mcall (V.tup []) [(V.own 0 l32.length), (iV (w64 (a2 - n31))), (iV a2), (iV n31), (V.fn (.func 115) [] [])] (fun i => ([0] : List Nat).getD i 0) (fun i => ([0] : List Nat).getD i 0) 1 1 [(0, (Ob.arr 128 5 (y51.map encThistory_piece)))] fOk183 wants_none rfl (evm_cons rfl (evm_cons rfl (evm_cons rfl (evm_cons rfl (evm_cons rfl evm_nil))))) (.cons (Sub.own rfl rfl) (.cons (Sub.imm (Imm.con _)) (.cons (Sub.imm (Imm.con _)) (.cons (Sub.imm (Imm.con _)) (.cons (Sub.imm (Imm.fn .nil .nil)) .nil))))) (.cons rfl (ObSub.rows (rows_imm imms_encThistory_piece)) .nil) (W183 F (w64 (a2 - n31)) a2 n31 l32 y51 hx52) rfl rfl rfl rfl rfl (Sub.immT (Imm.tup .nil)) (.cons rfl (ObSub.rowsT (rows_imm imms_encThistory_piece)) .nil) ?_
  refine aops_ghost (ghost_tell 0 (V.own 0 y51.length) rfl (Sub.ownI hc53)) ?_
  refine aops_ghost (ghost_tell 50 (V.own 0 y51.length) rfl (Sub.ownI hc53)) ?_
  refine fo (rn 1 rfl ?_)
  replace h := Option.some.inj h
  subst h
  exact wE ⟨.inr rfl, [], (gr [0] rfl (hR rfl rfl .nil) rfl), .nil⟩
theorem W160_B (R160 : Int → Int → Int → (List Thistory_piece) → Option (List Thistory_piece)) (hR160 : ∀ (a1 : Int) (a2 : Int) (a3 : Int) (a4 : List Thistory_piece) (r : (List Thistory_piece)), R160 a1 a2 a3 a4 = some r → Mut Try.prog 160 [(V.own 0 a4.length), (iV a1), (iV a2), (iV a3), (V.fn (.func 115) [] [])] 1 [(0, (Ob.arr 128 5 (a4.map encThistory_piece)))] (resV []) 1 [(0, (Ob.arr 128 5 (r.map encThistory_piece)))]) (F : Nat) (a1 : Int) (a2 : Int) (a3 : Int) (a4 : List Thistory_piece) (r : (List Thistory_piece)) (h : M160_B R160 F a1 a2 a3 a4 = some r) : Mut Try.prog 160 [(V.own 0 a4.length), (iV a1), (iV a2), (iV a3), (V.fn (.func 115) [] [])] 1 [(0, (Ob.arr 128 5 (a4.map encThistory_piece)))] (resV []) 1 [(0, (Ob.arr 128 5 (r.map encThistory_piece)))] := by
  refine mut_enter Try.func160 rfl rfl (l := []) rfl rfl [(0, (V.own 0 a4.length)), (1, (iV a1)), (2, (iV a2)), (3, (iV a3)), (4, (V.fn (.func 115) [] []))] rfl (fun w0 m0 β0 => en ?_)
  unfold M160_B at h
  refine rn 8 rfl ?_
  refine spC h rfl (fun hb112 h => ?_) (fun hb112 h => ?_)
  · refine rn 11 rfl ?_
    refine jK h (fun (p : Int) => (⟨[(0, (V.own 0 a4.length)), (1, (iV a1)), (10, (iV p))], [(0, (Ob.arr 128 5 (a4.map encThistory_piece)))], 1⟩ : St)) (fun k113 (p : Int) => k113 p = some r) (fun k113 h => ?_) ?_
    · refine rn 1 rfl ?_
      refine lC (fun (p : Int × Int) => (⟨[(0, (V.own 0 a4.length)), (1, (iV a1)), (4, (V.fn (.func 115) [] [])), (10, (iV (p.1))), (11, (iV (p.2)))], [(0, (Ob.arr 128 5 (a4.map encThistory_piece)))], 1⟩ : St)) (fun n (p : Int × Int) => M160_L1 F a1 a4 k113 n p.1 p.2 = some r) (fun p h => by simp [M160_L1] at h) F (a2, a3) h (gr [0] rfl (hR rfl rfl .nil) rfl) (fun n p h => ?_)
      obtain ⟨n117, n118⟩ := p
      unfold M160_L1 at h
      refine rn 7 rfl ?_
      refine spC h rfl (fun hb119 h => ?_) (fun hb119 h => ?_)
      · obtain ⟨x120, hx121, h⟩ := bind_some h
        obtain ⟨x122, hx123, h⟩ := bind_some h
        obtain ⟨y124, hx125, h⟩ := bind_some h
        refine rn 13 rfl ?_
        refine dr mixed (vs 3 rfl (oD (a := a4) hx121 rfl rfl rfl rfl (lD hx121 rfl rfl rfl rfl rfl (vs 2 rfl (oD (a := a4) hx123 rfl rfl rfl rfl (lD hx123 rfl rfl rfl rfl rfl (cD rfl rfl rfl rfl (W115 _ _ _ _ hx125) rfl (vs 1 rfl .nil)))))))) (by kernel_rfl) ?_
        refine jK h (fun (p : Int × Int) => (⟨[(0, (V.own 0 a4.length)), (1, (iV a1)), (4, (V.fn (.func 115) [] [])), (10, (iV (p.1))), (11, (iV (p.2)))], [(0, (Ob.arr 128 5 (a4.map encThistory_piece)))], 1⟩ : St)) (fun k126 (p : Int × Int) => k126 p.1 p.2 = some r) (fun k126 h => ?_) ?_
        · refine spC h rfl (fun hb129 h => ?_) (fun hb129 h => ?_)
          · refine rn 5 rfl ?_
            exact jX ((w64 ((w64 (Int.fdiv (IntKind.wrap .u64 (w64 (n117 + n118))) (2 ^ (min (Int.toNat 1) (IntKind.bits .u64))))) + 1)), n118) h (gr [0] rfl (hR rfl rfl .nil) rfl)
          refine rn 4 rfl ?_
          exact jX (n117, (w64 (Int.fdiv (IntKind.wrap .u64 (w64 (n117 + n118))) (2 ^ (min (Int.toNat 1) (IntKind.bits .u64)))))) h (gr [0] rfl (hR rfl rfl .nil) rfl)
        rintro ⟨n127, n128⟩ h
        refine rn 1 rfl ?_
        exact jX (n127, n128) h (gr [0] rfl (hR rfl rfl .nil) rfl)
      refine rn 1 rfl ?_
      exact jX n117 h (gr [0] rfl (hR rfl rfl .nil) rfl)
    intro n114 h
    refine rn 6 rfl ?_
    refine jK h (fun (p : (List Thistory_piece)) => (⟨[], [(0, (Ob.arr 128 5 (p.map encThistory_piece)))], 1⟩ : St)) (fun k130 (p : (List Thistory_piece)) => k130 p = some r) (fun k130 h => ?_) ?_
    · refine rn 1 rfl ?_
      refine lC (fun (p : Int × (List Thistory_piece)) => (⟨[(0, (V.own 0 (p.2).length)), (10, (iV n114)), (13, (iV (p.1)))], [(0, (Ob.arr 128 5 ((p.2).map encThistory_piece)))], 1⟩ : St)) (fun n (p : Int × (List Thistory_piece)) => M160_L2 F n114 k130 n p.1 p.2 = some r) (fun p h => by simp [M160_L2] at h) F (a1, a4) h (gr [0] rfl (hR rfl rfl .nil) rfl) (fun n p h => ?_)
      obtain ⟨n134, l135⟩ := p
      unfold M160_L2 at h
      refine rn 8 rfl ?_
      refine spC h rfl (fun hb136 h => ?_) (fun hb136 h => ?_)
      · obtain ⟨x137, hx138, h⟩ := bind_some h
        obtain ⟨x139, hx140, h⟩ := bind_some h
        obtain ⟨x141, hx142, h⟩ := bind_some h
        obtain ⟨x143, hx144, h⟩ := bind_some h
        refine rn 3 rfl ?_
        refine dr mixed (vs 8 rfl (oD (a := l135) hx138 rfl rfl rfl rfl (lD hx138 rfl rfl rfl rfl rfl (vs 2 rfl (oD (a := l135) hx140 rfl rfl rfl rfl (lD hx140 rfl rfl rfl rfl rfl (oD (a := l135) hx142 rfl rfl rfl rfl (xD (OD.mk [(75, (V.ptr 0 5 n134.toNat 0)), (70, (V.agg (encThistory_piece x137)))] [(0, (Ob.arr 128 5 (l135.map encThistory_piece)))] [] [(0, (Ob.arr 128 5 ((l135.set n134.toNat x137).map encThistory_piece)))]) ⟨⟨rfl, rfl, trivial⟩, ⟨rfl, trivial⟩⟩ (by exact fun S hn h hh => aops_store (encThistory_piece x137) ((l135.set n134.toNat x137).map encThistory_piece) tS128 wants_none h.1 h.2.1 rfl rfl hh.1 (idx_map encThistory_piece hx142) rfl (map_set encThistory_piece l135 _ x137) (aops_nil ⟨rfl, rfl⟩)) rfl (xD (OD.mk [(63, (V.own 0 l135.length)), (65, (iV (w64 (n134 + 1))))] [] [(76, (V.ptr 0 5 (w64 (n134 + 1)).toNat 0))] []) ⟨⟨rfl, rfl, trivial⟩, trivial⟩ (by exact fun S hn h hh => aops_index_own tSl125 wants_none h.1 h.2.1 (idx_some hx144).1 (by simpa using idx_lt hx144) rfl (aops_nil ⟨rfl, rfl⟩)) rfl (xD (OD.mk [(76, (V.ptr 0 5 (w64 (n134 + 1)).toNat 0)), (74, (V.agg (encThistory_piece x139)))] [(0, (Ob.arr 128 5 ((l135.set n134.toNat x137).map encThistory_piece)))] [] [(0, (Ob.arr 128 5 (((l135.set n134.toNat x137).set (w64 (n134 + 1)).toNat x139).map encThistory_piece)))]) ⟨⟨rfl, rfl, trivial⟩, ⟨rfl, trivial⟩⟩ (by exact fun S hn h hh => aops_store (encThistory_piece x139) (((l135.set n134.toNat x137).set (w64 (n134 + 1)).toNat x139).map encThistory_piece) tS128 wants_none h.1 h.2.1 rfl rfl hh.1 (idx_map encThistory_piece hx144) rfl (map_set encThistory_piece (l135.set n134.toNat x137) _ x139) (aops_nil ⟨rfl, rfl⟩)) rfl .nil)))))))))) (by kernel_rfl) ?_
        refine rn 6 rfl ?_
        exact jX ((w64 (n134 + 1)), ((l135.set n134.toNat x137).set (w64 (n134 + 1)).toNat x139)) h (ghost_ren 1 (fun i => ([0] : List Nat).getD i 0) _ _ (by decide) (EnvSub.get (.cons (Sub.ownE rfl rfl (by simp)) (.cons (Sub.imm (Imm.con _)) (.cons (Sub.imm (Imm.con _)) .nil)))) (HpSub.get (.cons rfl (ObSub.rows (rows_imm imms_encThistory_piece)) .nil)) rfl)
      refine rn 1 rfl ?_
      exact jX l135 h (gr [0] rfl (hR rfl rfl .nil) rfl)
    intro l131 h
    replace h := Option.some.inj h
    subst h
    exact wR ⟨.inl rfl, [], (gr [0] rfl (hR rfl rfl .nil) rfl), .nil⟩
  refine rn 9 rfl ?_
  refine spC h rfl (fun hb145 h => ?_) (fun hb145 h => ?_)
  · refine rn 11 rfl ?_
    refine jK h (fun (p : Int) => (⟨[(0, (V.own 0 a4.length)), (2, (iV a2)), (14, (iV p))], [(0, (Ob.arr 128 5 (a4.map encThistory_piece)))], 1⟩ : St)) (fun k146 (p : Int) => k146 p = some r) (fun k146 h => ?_) ?_
    · refine rn 1 rfl ?_
      refine lC (fun (p : Int × Int) => (⟨[(0, (V.own 0 a4.length)), (2, (iV a2)), (4, (V.fn (.func 115) [] [])), (14, (iV (p.1))), (15, (iV (p.2)))], [(0, (Ob.arr 128 5 (a4.map encThistory_piece)))], 1⟩ : St)) (fun n (p : Int × Int) => M160_L3 F a2 a4 k146 n p.1 p.2 = some r) (fun p h => by simp [M160_L3] at h) F (a1, a2) h (gr [0] rfl (hR rfl rfl .nil) rfl) (fun n p h => ?_)
      obtain ⟨n150, n151⟩ := p
      unfold M160_L3 at h
      refine rn 7 rfl ?_
      refine spC h rfl (fun hb152 h => ?_) (fun hb152 h => ?_)
      · obtain ⟨x153, hx154, h⟩ := bind_some h
        obtain ⟨x155, hx156, h⟩ := bind_some h
        obtain ⟨y157, hx158, h⟩ := bind_some h
        refine rn 13 rfl ?_
        refine dr mixed (vs 3 rfl (oD (a := a4) hx154 rfl rfl rfl rfl (lD hx154 rfl rfl rfl rfl rfl (vs 2 rfl (oD (a := a4) hx156 rfl rfl rfl rfl (lD hx156 rfl rfl rfl rfl rfl (cD rfl rfl rfl rfl (W115 _ _ _ _ hx158) rfl (vs 2 rfl .nil)))))))) (by kernel_rfl) ?_
        refine jK h (fun (p : Int × Int) => (⟨[(0, (V.own 0 a4.length)), (2, (iV a2)), (4, (V.fn (.func 115) [] [])), (14, (iV (p.1))), (15, (iV (p.2)))], [(0, (Ob.arr 128 5 (a4.map encThistory_piece)))], 1⟩ : St)) (fun k159 (p : Int × Int) => k159 p.1 p.2 = some r) (fun k159 h => ?_) ?_
        · refine spC h rfl (fun hb162 h => ?_) (fun hb162 h => ?_)
          · refine rn 5 rfl ?_
            exact jX ((w64 ((w64 (Int.fdiv (IntKind.wrap .u64 (w64 (n150 + n151))) (2 ^ (min (Int.toNat 1) (IntKind.bits .u64))))) + 1)), n151) h (gr [0] rfl (hR rfl rfl .nil) rfl)
          refine rn 4 rfl ?_
          exact jX (n150, (w64 (Int.fdiv (IntKind.wrap .u64 (w64 (n150 + n151))) (2 ^ (min (Int.toNat 1) (IntKind.bits .u64)))))) h (gr [0] rfl (hR rfl rfl .nil) rfl)
        rintro ⟨n160, n161⟩ h
        refine rn 1 rfl ?_
        exact jX (n160, n161) h (gr [0] rfl (hR rfl rfl .nil) rfl)
      refine rn 1 rfl ?_
      exact jX n150 h (gr [0] rfl (hR rfl rfl .nil) rfl)
    intro n147 h
    refine rn 6 rfl ?_
    refine jK h (fun (p : (List Thistory_piece)) => (⟨[], [(0, (Ob.arr 128 5 (p.map encThistory_piece)))], 1⟩ : St)) (fun k163 (p : (List Thistory_piece)) => k163 p = some r) (fun k163 h => ?_) ?_
    · refine rn 1 rfl ?_
      refine lC (fun (p : Int × (List Thistory_piece)) => (⟨[(0, (V.own 0 (p.2).length)), (14, (iV n147)), (17, (iV (p.1)))], [(0, (Ob.arr 128 5 ((p.2).map encThistory_piece)))], 1⟩ : St)) (fun n (p : Int × (List Thistory_piece)) => M160_L4 F n147 k163 n p.1 p.2 = some r) (fun p h => by simp [M160_L4] at h) F (a2, a4) h (gr [0] rfl (hR rfl rfl .nil) rfl) (fun n p h => ?_)
      obtain ⟨n167, l168⟩ := p
      unfold M160_L4 at h
      refine rn 7 rfl ?_
      refine spC h rfl (fun hb169 h => ?_) (fun hb169 h => ?_)
      · obtain ⟨x170, hx171, h⟩ := bind_some h
        obtain ⟨x172, hx173, h⟩ := bind_some h
        obtain ⟨x174, hx175, h⟩ := bind_some h
        obtain ⟨x176, hx177, h⟩ := bind_some h
        refine rn 3 rfl ?_
        refine dr mixed (vs 8 rfl (oD (a := l168) hx171 rfl rfl rfl rfl (lD hx171 rfl rfl rfl rfl rfl (vs 2 rfl (oD (a := l168) hx173 rfl rfl rfl rfl (lD hx173 rfl rfl rfl rfl rfl (oD (a := l168) hx175 rfl rfl rfl rfl (xD (OD.mk [(127, (V.ptr 0 5 n167.toNat 0)), (122, (V.agg (encThistory_piece x170)))] [(0, (Ob.arr 128 5 (l168.map encThistory_piece)))] [] [(0, (Ob.arr 128 5 ((l168.set n167.toNat x170).map encThistory_piece)))]) ⟨⟨rfl, rfl, trivial⟩, ⟨rfl, trivial⟩⟩ (by exact fun S hn h hh => aops_store (encThistory_piece x170) ((l168.set n167.toNat x170).map encThistory_piece) tS128 wants_none h.1 h.2.1 rfl rfl hh.1 (idx_map encThistory_piece hx175) rfl (map_set encThistory_piece l168 _ x170) (aops_nil ⟨rfl, rfl⟩)) rfl (xD (OD.mk [(115, (V.own 0 l168.length)), (117, (iV (w64 (n167 - 1))))] [] [(128, (V.ptr 0 5 (w64 (n167 - 1)).toNat 0))] []) ⟨⟨rfl, rfl, trivial⟩, trivial⟩ (by exact fun S hn h hh => aops_index_own tSl125 wants_none h.1 h.2.1 (idx_some hx177).1 (by simpa using idx_lt hx177) rfl (aops_nil ⟨rfl, rfl⟩)) rfl (xD (OD.mk [(128, (V.ptr 0 5 (w64 (n167 - 1)).toNat 0)), (126, (V.agg (encThistory_piece x172)))] [(0, (Ob.arr 128 5 ((l168.set n167.toNat x170).map encThistory_piece)))] [] [(0, (Ob.arr 128 5 (((l168.set n167.toNat x170).set (w64 (n167 - 1)).toNat x172).map encThistory_piece)))]) ⟨⟨rfl, rfl, trivial⟩, ⟨rfl, trivial⟩⟩ (by exact fun S hn h hh => aops_store (encThistory_piece x172) (((l168.set n167.toNat x170).set (w64 (n167 - 1)).toNat x172).map encThistory_piece) tS128 wants_none h.1 h.2.1 rfl rfl hh.1 (idx_map encThistory_piece hx177) rfl (map_set encThistory_piece (l168.set n167.toNat x170) _ x172) (aops_nil ⟨rfl, rfl⟩)) rfl .nil)))))))))) (by kernel_rfl) ?_
        refine rn 6 rfl ?_
        exact jX ((w64 (n167 - 1)), ((l168.set n167.toNat x170).set (w64 (n167 - 1)).toNat x172)) h (ghost_ren 1 (fun i => ([0] : List Nat).getD i 0) _ _ (by decide) (EnvSub.get (.cons (Sub.ownE rfl rfl (by simp)) (.cons (Sub.imm (Imm.con _)) (.cons (Sub.imm (Imm.con _)) .nil)))) (HpSub.get (.cons rfl (ObSub.rows (rows_imm imms_encThistory_piece)) .nil)) rfl)
      refine rn 1 rfl ?_
      exact jX l168 h (gr [0] rfl (hR rfl rfl .nil) rfl)
    intro l164 h
    replace h := Option.some.inj h
    subst h
    exact wR ⟨.inl rfl, [], (gr [0] rfl (hR rfl rfl .nil) rfl), .nil⟩
  refine rn 30 rfl ?_
  refine jK h (fun (p : Int × Int) => (⟨[(0, (V.own 0 a4.length)), (1, (iV a1)), (2, (iV a2)), (3, (iV a3)), (4, (V.fn (.func 115) [] [])), (18, (iV (w64 (Int.fdiv (IntKind.wrap .u64 (w64 (a1 + a3))) (2 ^ (min (Int.toNat 1) (IntKind.bits .u64))))))), (19, (iV (w64 ((w64 (Int.fdiv (IntKind.wrap .u64 (w64 (a1 + a3))) (2 ^ (min (Int.toNat 1) (IntKind.bits .u64))))) + a2)))), (20, (iV (p.1))), (21, (iV (p.2)))], [(0, (Ob.arr 128 5 (a4.map encThistory_piece)))], 1⟩ : St)) (fun k178 (p : Int × Int) => k178 p.1 p.2 = some r) (fun k178 h => ?_) ?_
  · refine spC h rfl (fun hb181 h => ?_) (fun hb181 h => ?_)
    · refine rn 11 rfl ?_
      exact jX ((w64 ((w64 ((w64 (Int.fdiv (IntKind.wrap .u64 (w64 (a1 + a3))) (2 ^ (min (Int.toNat 1) (IntKind.bits .u64))))) + a2)) - a3)), (w64 (Int.fdiv (IntKind.wrap .u64 (w64 (a1 + a3))) (2 ^ (min (Int.toNat 1) (IntKind.bits .u64)))))) h (gr [0] rfl (hR rfl rfl .nil) rfl)
    refine rn 9 rfl ?_
    exact jX (a1, a2) h (gr [0] rfl (hR rfl rfl .nil) rfl)
  rintro ⟨n179, n180⟩ h
  refine rn 7 rfl ?_
  refine jK h (fun (p : Int) => (⟨[(0, (V.own 0 a4.length)), (1, (iV a1)), (2, (iV a2)), (3, (iV a3)), (4, (V.fn (.func 115) [] [])), (18, (iV (w64 (Int.fdiv (IntKind.wrap .u64 (w64 (a1 + a3))) (2 ^ (min (Int.toNat 1) (IntKind.bits .u64))))))), (19, (iV (w64 ((w64 (Int.fdiv (IntKind.wrap .u64 (w64 (a1 + a3))) (2 ^ (min (Int.toNat 1) (IntKind.bits .u64))))) + a2)))), (20, (iV p))], [(0, (Ob.arr 128 5 (a4.map encThistory_piece)))], 1⟩ : St)) (fun k182 (p : Int) => k182 p = some r) (fun k182 h => ?_) ?_
  · refine rn 1 rfl ?_
    refine lC (fun (p : Int × Int) => (⟨[(0, (V.own 0 a4.length)), (1, (iV a1)), (2, (iV a2)), (3, (iV a3)), (4, (V.fn (.func 115) [] [])), (18, (iV (w64 (Int.fdiv (IntKind.wrap .u64 (w64 (a1 + a3))) (2 ^ (min (Int.toNat 1) (IntKind.bits .u64))))))), (19, (iV (w64 ((w64 (Int.fdiv (IntKind.wrap .u64 (w64 (a1 + a3))) (2 ^ (min (Int.toNat 1) (IntKind.bits .u64))))) + a2)))), (20, (iV (p.1))), (21, (iV (p.2))), (22, (iV (w64 ((w64 ((w64 (Int.fdiv (IntKind.wrap .u64 (w64 (a1 + a3))) (2 ^ (min (Int.toNat 1) (IntKind.bits .u64))))) + a2)) - 1))))], [(0, (Ob.arr 128 5 (a4.map encThistory_piece)))], 1⟩ : St)) (fun n (p : Int × Int) => M160_L5 F a1 a2 a3 a4 k182 n p.1 p.2 = some r) (fun p h => by simp [M160_L5] at h) F (n179, n180) h (gr [0] rfl (hR rfl rfl .nil) rfl) (fun n p h => ?_)
    obtain ⟨n186, n187⟩ := p
    unfold M160_L5 at h
    refine rn 7 rfl ?_
    refine spC h rfl (fun hb188 h => ?_) (fun hb188 h => ?_)
    · obtain ⟨x189, hx190, h⟩ := bind_some h
      obtain ⟨x191, hx192, h⟩ := bind_some h
      obtain ⟨y193, hx194, h⟩ := bind_some h
      refine rn 13 rfl ?_
      refine dr mixed (vs 5 rfl (oD (a := a4) hx190 rfl rfl rfl rfl (lD hx190 rfl rfl rfl rfl rfl (vs 2 rfl (oD (a := a4) hx192 rfl rfl rfl rfl (lD hx192 rfl rfl rfl rfl rfl (cD rfl rfl rfl rfl (W115 _ _ _ _ hx194) rfl (vs 2 rfl .nil)))))))) (by kernel_rfl) ?_
      refine jK h (fun (p : Int × Int) => (⟨[(0, (V.own 0 a4.length)), (1, (iV a1)), (2, (iV a2)), (3, (iV a3)), (4, (V.fn (.func 115) [] [])), (18, (iV (w64 (Int.fdiv (IntKind.wrap .u64 (w64 (a1 + a3))) (2 ^ (min (Int.toNat 1) (IntKind.bits .u64))))))), (19, (iV (w64 ((w64 (Int.fdiv (IntKind.wrap .u64 (w64 (a1 + a3))) (2 ^ (min (Int.toNat 1) (IntKind.bits .u64))))) + a2)))), (20, (iV (p.1))), (21, (iV (p.2))), (22, (iV (w64 ((w64 ((w64 (Int.fdiv (IntKind.wrap .u64 (w64 (a1 + a3))) (2 ^ (min (Int.toNat 1) (IntKind.bits .u64))))) + a2)) - 1))))], [(0, (Ob.arr 128 5 (a4.map encThistory_piece)))], 1⟩ : St)) (fun k195 (p : Int × Int) => k195 p.1 p.2 = some r) (fun k195 h => ?_) ?_
      · refine spC h rfl (fun hb198 h => ?_) (fun hb198 h => ?_)
        · refine rn 5 rfl ?_
          exact jX ((w64 ((w64 (Int.fdiv (IntKind.wrap .u64 (w64 (n186 + n187))) (2 ^ (min (Int.toNat 1) (IntKind.bits .u64))))) + 1)), n187) h (gr [0] rfl (hR rfl rfl .nil) rfl)
        refine rn 4 rfl ?_
        exact jX (n186, (w64 (Int.fdiv (IntKind.wrap .u64 (w64 (n186 + n187))) (2 ^ (min (Int.toNat 1) (IntKind.bits .u64)))))) h (gr [0] rfl (hR rfl rfl .nil) rfl)
      rintro ⟨n196, n197⟩ h
      refine rn 1 rfl ?_
      exact jX (n196, n197) h (gr [0] rfl (hR rfl rfl .nil) rfl)
    refine rn 1 rfl ?_
    exact jX n186 h (gr [0] rfl (hR rfl rfl .nil) rfl)
  intro n183 h
  refine rn 14 rfl ?_
  refine spO 181 h rfl (fun hb199 h => ?_) (fun hb199 h => ?_)
  · refine rn 5 rfl ?_
    refine jK h (fun (p : (List Thistory_piece)) => (⟨[(0, (V.own 0 p.length)), (1, (iV a1)), (3, (iV a3)), (4, (V.fn (.func 115) [] [])), (18, (iV (w64 (Int.fdiv (IntKind.wrap .u64 (w64 (a1 + a3))) (2 ^ (min (Int.toNat 1) (IntKind.bits .u64))))))), (20, (iV n183)), (24, (iV (w64 ((w64 ((w64 (Int.fdiv (IntKind.wrap .u64 (w64 (a1 + a3))) (2 ^ (min (Int.toNat 1) (IntKind.bits .u64))))) + a2)) - n183))))], [(0, (Ob.arr 128 5 (p.map encThistory_piece)))], 1⟩ : St)) (fun k200 (p : (List Thistory_piece)) => k200 p = some r) (fun k200 h => ?_) ?_
    · refine spC h rfl (fun hb202 h => ?_) (fun hb202 h => ?_)
      · obtain ⟨y203, hx204, h⟩ := bind_some h
        refine rn 6 rfl ?_
        refine ck h (fun hc205 h => ?_)
        refine aops_mcall (V.tup []) [(V.own 0 a4.length), (iV n183), (iV a2), (iV (w64 ((w64 ((w64 (Int.fdiv (IntKind.wrap .u64 (w64 (a1 + a3))) (2 ^ (min (Int.toNat 1) (IntKind.bits .u64))))) + a2)) - n183))), (V.fn (.func 115) [] [])] (fun i => ([0] : List Nat).getD i 0) (fun i => ([0] : List Nat).getD i 0) 1 1 [(0, (Ob.arr 128 5 (y203.map encThistory_piece)))] fOk175 wants_none rfl (evm_cons rfl (evm_cons rfl (evm_cons rfl (evm_cons rfl (evm_cons rfl evm_nil))))) (.cons (Sub.own rfl rfl) (.cons (Sub.imm (Imm.con _)) (.cons (Sub.imm (Imm.con _)) (.cons (Sub.imm (Imm.con _)) (.cons (Sub.imm (Imm.fn .nil .nil)) .nil))))) (.cons rfl (ObSub.rows (rows_imm imms_encThistory_piece)) .nil) (W175 F n183 a2 (w64 ((w64 ((w64 (Int.fdiv (IntKind.wrap .u64 (w64 (a1 + a3))) (2 ^ (min (Int.toNat 1) (IntKind.bits .u64))))) + a2)) - n183)) a4 y203 hx204) rfl rfl rfl rfl rfl (Sub.immT (Imm.tup .nil)) (.cons rfl (ObSub.rowsT (rows_imm imms_encThistory_piece)) .nil) ?_
        refine aops_ghost (ghost_tell 0 (V.own 0 y203.length) rfl (Sub.ownI hc205)) ?_
        refine aops_ghost (ghost_tell 186 (V.own 0 y203.length) rfl (Sub.ownI hc205)) ?_
        refine fo (rn 1 rfl ?_)
        exact jX y203 h (gr [0] rfl (hR rfl rfl .nil) rfl)
      refine rn 1 rfl ?_
      exact jX a4 h (gr [0] rfl (hR rfl rfl .nil) rfl)
    intro l201 h
    refine rn 7 rfl ?_
    refine spO 195 h rfl (fun hb206 h => ?_) (fun hb206 h => ?_)
    · refine rn 5 rfl ?_
      refine jK h (fun (p : (List Thistory_piece)) => (⟨[(0, (V.own 0 p.length)), (3, (iV a3)), (4, (V.fn (.func 115) [] [])), (18, (iV (w64 (Int.fdiv (IntKind.wrap .u64 (w64 (a1 + a3))) (2 ^ (min (Int.toNat 1) (IntKind.bits .u64))))))), (24, (iV (w64 ((w64 ((w64 (Int.fdiv (IntKind.wrap .u64 (w64 (a1 + a3))) (2 ^ (min (Int.toNat 1) (IntKind.bits .u64))))) + a2)) - n183))))], [(0, (Ob.arr 128 5 (p.map encThistory_piece)))], 1⟩ : St)) (fun k207 (p : (List Thistory_piece)) => k207 p = some r) (fun k207 h => ?_) ?_
      · refine spC h rfl (fun hb209 h => ?_) (fun hb209 h => ?_)
        · obtain ⟨y210, hx211, h⟩ := bind_some h
          refine rn 6 rfl ?_
          refine ck h (fun hc212 h => ?_)
          refine aops_mcall (V.tup []) [(V.own 0 l201.length), (iV a1), (iV n183), (iV (w64 (Int.fdiv (IntKind.wrap .u64 (w64 (a1 + a3))) (2 ^ (min (Int.toNat 1) (IntKind.bits .u64)))))), (V.fn (.func 115) [] [])] (fun i => ([0] : List Nat).getD i 0) (fun i => ([0] : List Nat).getD i 0) 1 1 [(0, (Ob.arr 128 5 (y210.map encThistory_piece)))] fOk160 wants_none rfl (evm_cons rfl (evm_cons rfl (evm_cons rfl (evm_cons rfl (evm_cons rfl evm_nil))))) (.cons (Sub.own rfl rfl) (.cons (Sub.imm (Imm.con _)) (.cons (Sub.imm (Imm.con _)) (.cons (Sub.imm (Imm.con _)) (.cons (Sub.imm (Imm.fn .nil .nil)) .nil))))) (.cons rfl (ObSub.rows (rows_imm imms_encThistory_piece)) .nil) (hR160 a1 n183 (w64 (Int.fdiv (IntKind.wrap .u64 (w64 (a1 + a3))) (2 ^ (min (Int.toNat 1) (IntKind.bits .u64))))) l201 _ hx211) rfl rfl rfl rfl rfl (Sub.immT (Imm.tup .nil)) (.cons rfl (ObSub.rowsT (rows_imm imms_encThistory_piece)) .nil) ?_
          refine aops_ghost (ghost_tell 0 (V.own 0 y210.length) rfl (Sub.ownI hc212)) ?_
          refine aops_ghost (ghost_tell 200 (V.own 0 y210.length) rfl (Sub.ownI hc212)) ?_
          refine fo (rn 1 rfl ?_)
          exact jX y210 h (gr [0] rfl (hR rfl rfl .nil) rfl)
        refine rn 1 rfl ?_
        exact jX l201 h (gr [0] rfl (hR rfl rfl .nil) rfl)
      intro l208 h
      refine rn 6 rfl ?_
      refine spO 209 h rfl (fun hb213 h => ?_) (fun hb213 h => ?_)
      · refine rn 5 rfl ?_
        refine spC h rfl (fun hb214 h => ?_) (fun hb214 h => ?_)
        · obtain ⟨y215, hx216, h⟩ := bind_some h
          refine rn 6 rfl ?_
          refine ck h (fun hc217 h => ?_)
          refine aops_mcall (V.tup []) [(V.own 0 l208.length), (iV (w64 (Int.fdiv (IntKind.wrap .u64 (w64 (a1 + a3))) (2 ^ (min (Int.toNat 1) (IntKind.bits .u64)))))), (iV (w64 ((w64 ((w64 (Int.fdiv (IntKind.wrap .u64 (w64 (a1 + a3))) (2 ^ (min (Int.toNat 1) (IntKind.bits .u64))))) + a2)) - n183))), (iV a3), (V.fn (.func 115) [] [])] (fun i => ([0] : List Nat).getD i 0) (fun i => ([0] : List Nat).getD i 0) 1 1 [(0, (Ob.arr 128 5 (y215.map encThistory_piece)))] fOk160 wants_none rfl (evm_cons rfl (evm_cons rfl (evm_cons rfl (evm_cons rfl (evm_cons rfl evm_nil))))) (.cons (Sub.own rfl rfl) (.cons (Sub.imm (Imm.con _)) (.cons (Sub.imm (Imm.con _)) (.cons (Sub.imm (Imm.con _)) (.cons (Sub.imm (Imm.fn .nil .nil)) .nil))))) (.cons rfl (ObSub.rows (rows_imm imms_encThistory_piece)) .nil) (hR160 (w64 (Int.fdiv (IntKind.wrap .u64 (w64 (a1 + a3))) (2 ^ (min (Int.toNat 1) (IntKind.bits .u64))))) (w64 ((w64 ((w64 (Int.fdiv (IntKind.wrap .u64 (w64 (a1 + a3))) (2 ^ (min (Int.toNat 1) (IntKind.bits .u64))))) + a2)) - n183)) a3 l208 _ hx216) rfl rfl rfl rfl rfl (Sub.immT (Imm.tup .nil)) (.cons rfl (ObSub.rowsT (rows_imm imms_encThistory_piece)) .nil) ?_
          refine aops_ghost (ghost_tell 0 (V.own 0 y215.length) rfl (Sub.ownI hc217)) ?_
          refine aops_ghost (ghost_tell 214 (V.own 0 y215.length) rfl (Sub.ownI hc217)) ?_
          refine fo (rn 1 rfl ?_)
          replace h := Option.some.inj h
          subst h
          exact wE ⟨.inr rfl, [], (gr [0] rfl (hR rfl rfl .nil) rfl), .nil⟩
        refine rn 1 rfl ?_
        replace h := Option.some.inj h
        subst h
        exact wE ⟨.inr rfl, [], (gr [0] rfl (hR rfl rfl .nil) rfl), .nil⟩
      refine rn 7 rfl ?_
      replace h := Option.some.inj h
      subst h
      exact wE ⟨.inr rfl, [], (gr [0] rfl (hR rfl rfl .nil) rfl), .nil⟩
    refine rn 13 rfl ?_
    refine spO 209 h rfl (fun hb218 h => ?_) (fun hb218 h => ?_)
    · refine rn 5 rfl ?_
      refine spC h rfl (fun hb219 h => ?_) (fun hb219 h => ?_)
      · obtain ⟨y220, hx221, h⟩ := bind_some h
        refine rn 6 rfl ?_
        refine ck h (fun hc222 h => ?_)
        refine aops_mcall (V.tup []) [(V.own 0 l201.length), (iV (w64 (Int.fdiv (IntKind.wrap .u64 (w64 (a1 + a3))) (2 ^ (min (Int.toNat 1) (IntKind.bits .u64)))))), (iV (w64 ((w64 ((w64 (Int.fdiv (IntKind.wrap .u64 (w64 (a1 + a3))) (2 ^ (min (Int.toNat 1) (IntKind.bits .u64))))) + a2)) - n183))), (iV a3), (V.fn (.func 115) [] [])] (fun i => ([0] : List Nat).getD i 0) (fun i => ([0] : List Nat).getD i 0) 1 1 [(0, (Ob.arr 128 5 (y220.map encThistory_piece)))] fOk160 wants_none rfl (evm_cons rfl (evm_cons rfl (evm_cons rfl (evm_cons rfl (evm_cons rfl evm_nil))))) (.cons (Sub.own rfl rfl) (.cons (Sub.imm (Imm.con _)) (.cons (Sub.imm (Imm.con _)) (.cons (Sub.imm (Imm.con _)) (.cons (Sub.imm (Imm.fn .nil .nil)) .nil))))) (.cons rfl (ObSub.rows (rows_imm imms_encThistory_piece)) .nil) (hR160 (w64 (Int.fdiv (IntKind.wrap .u64 (w64 (a1 + a3))) (2 ^ (min (Int.toNat 1) (IntKind.bits .u64))))) (w64 ((w64 ((w64 (Int.fdiv (IntKind.wrap .u64 (w64 (a1 + a3))) (2 ^ (min (Int.toNat 1) (IntKind.bits .u64))))) + a2)) - n183)) a3 l201 _ hx221) rfl rfl rfl rfl rfl (Sub.immT (Imm.tup .nil)) (.cons rfl (ObSub.rowsT (rows_imm imms_encThistory_piece)) .nil) ?_
        refine aops_ghost (ghost_tell 0 (V.own 0 y220.length) rfl (Sub.ownI hc222)) ?_
        refine aops_ghost (ghost_tell 214 (V.own 0 y220.length) rfl (Sub.ownI hc222)) ?_
        refine fo (rn 1 rfl ?_)
        replace h := Option.some.inj h
        subst h
        exact wE ⟨.inr rfl, [], (gr [0] rfl (hR rfl rfl .nil) rfl), .nil⟩
      refine rn 1 rfl ?_
      replace h := Option.some.inj h
      subst h
      exact wE ⟨.inr rfl, [], (gr [0] rfl (hR rfl rfl .nil) rfl), .nil⟩
    refine rn 7 rfl ?_
    replace h := Option.some.inj h
    subst h
    exact wE ⟨.inr rfl, [], (gr [0] rfl (hR rfl rfl .nil) rfl), .nil⟩
  refine rn 14 rfl ?_
  refine spO 195 h rfl (fun hb223 h => ?_) (fun hb223 h => ?_)
  · refine rn 5 rfl ?_
    refine jK h (fun (p : (List Thistory_piece)) => (⟨[(0, (V.own 0 p.length)), (3, (iV a3)), (4, (V.fn (.func 115) [] [])), (18, (iV (w64 (Int.fdiv (IntKind.wrap .u64 (w64 (a1 + a3))) (2 ^ (min (Int.toNat 1) (IntKind.bits .u64))))))), (24, (iV (w64 ((w64 ((w64 (Int.fdiv (IntKind.wrap .u64 (w64 (a1 + a3))) (2 ^ (min (Int.toNat 1) (IntKind.bits .u64))))) + a2)) - n183))))], [(0, (Ob.arr 128 5 (p.map encThistory_piece)))], 1⟩ : St)) (fun k224 (p : (List Thistory_piece)) => k224 p = some r) (fun k224 h => ?_) ?_
    · refine spC h rfl (fun hb226 h => ?_) (fun hb226 h => ?_)
      · obtain ⟨y227, hx228, h⟩ := bind_some h
        refine rn 6 rfl ?_
        refine ck h (fun hc229 h => ?_)
        refine aops_mcall (V.tup []) [(V.own 0 a4.length), (iV a1), (iV n183), (iV (w64 (Int.fdiv (IntKind.wrap .u64 (w64 (a1 + a3))) (2 ^ (min (Int.toNat 1) (IntKind.bits .u64)))))), (V.fn (.func 115) [] [])] (fun i => ([0] : List Nat).getD i 0) (fun i => ([0] : List Nat).getD i 0) 1 1 [(0, (Ob.arr 128 5 (y227.map encThistory_piece)))] fOk160 wants_none rfl (evm_cons rfl (evm_cons rfl (evm_cons rfl (evm_cons rfl (evm_cons rfl evm_nil))))) (.cons (Sub.own rfl rfl) (.cons (Sub.imm (Imm.con _)) (.cons (Sub.imm (Imm.con _)) (.cons (Sub.imm (Imm.con _)) (.cons (Sub.imm (Imm.fn .nil .nil)) .nil))))) (.cons rfl (ObSub.rows (rows_imm imms_encThistory_piece)) .nil) (hR160 a1 n183 (w64 (Int.fdiv (IntKind.wrap .u64 (w64 (a1 + a3))) (2 ^ (min (Int.toNat 1) (IntKind.bits .u64))))) a4 _ hx228) rfl rfl rfl rfl rfl (Sub.immT (Imm.tup .nil)) (.cons rfl (ObSub.rowsT (rows_imm imms_encThistory_piece)) .nil) ?_
        refine aops_ghost (ghost_tell 0 (V.own 0 y227.length) rfl (Sub.ownI hc229)) ?_
        refine aops_ghost (ghost_tell 200 (V.own 0 y227.length) rfl (Sub.ownI hc229)) ?_
        refine fo (rn 1 rfl ?_)
        exact jX y227 h (gr [0] rfl (hR rfl rfl .nil) rfl)
      refine rn 1 rfl ?_
      exact jX a4 h (gr [0] rfl (hR rfl rfl .nil) rfl)
    intro l225 h
    refine rn 6 rfl ?_
    refine spO 209 h rfl (fun hb230 h => ?_) (fun hb230 h => ?_)
    · refine rn 5 rfl ?_
      refine spC h rfl (fun hb231 h => ?_) (fun hb231 h => ?_)
      · obtain ⟨y232, hx233, h⟩ := bind_some h
        refine rn 6 rfl ?_
        refine ck h (fun hc234 h => ?_)
        refine aops_mcall (V.tup []) [(V.own 0 l225.length), (iV (w64 (Int.fdiv (IntKind.wrap .u64 (w64 (a1 + a3))) (2 ^ (min (Int.toNat 1) (IntKind.bits .u64)))))), (iV (w64 ((w64 ((w64 (Int.fdiv (IntKind.wrap .u64 (w64 (a1 + a3))) (2 ^ (min (Int.toNat 1) (IntKind.bits .u64))))) + a2)) - n183))), (iV a3), (V.fn (.func 115) [] [])] (fun i => ([0] : List Nat).getD i 0) (fun i => ([0] : List Nat).getD i 0) 1 1 [(0, (Ob.arr 128 5 (y232.map encThistory_piece)))] fOk160 wants_none rfl (evm_cons rfl (evm_cons rfl (evm_cons rfl (evm_cons rfl (evm_cons rfl evm_nil))))) (.cons (Sub.own rfl rfl) (.cons (Sub.imm (Imm.con _)) (.cons (Sub.imm (Imm.con _)) (.cons (Sub.imm (Imm.con _)) (.cons (Sub.imm (Imm.fn .nil .nil)) .nil))))) (.cons rfl (ObSub.rows (rows_imm imms_encThistory_piece)) .nil) (hR160 (w64 (Int.fdiv (IntKind.wrap .u64 (w64 (a1 + a3))) (2 ^ (min (Int.toNat 1) (IntKind.bits .u64))))) (w64 ((w64 ((w64 (Int.fdiv (IntKind.wrap .u64 (w64 (a1 + a3))) (2 ^ (min (Int.toNat 1) (IntKind.bits .u64))))) + a2)) - n183)) a3 l225 _ hx233) rfl rfl rfl rfl rfl (Sub.immT (Imm.tup .nil)) (.cons rfl (ObSub.rowsT (rows_imm imms_encThistory_piece)) .nil) ?_
        refine aops_ghost (ghost_tell 0 (V.own 0 y232.length) rfl (Sub.ownI hc234)) ?_
        refine aops_ghost (ghost_tell 214 (V.own 0 y232.length) rfl (Sub.ownI hc234)) ?_
        refine fo (rn 1 rfl ?_)
        replace h := Option.some.inj h
        subst h
        exact wE ⟨.inr rfl, [], (gr [0] rfl (hR rfl rfl .nil) rfl), .nil⟩
      refine rn 1 rfl ?_
      replace h := Option.some.inj h
      subst h
      exact wE ⟨.inr rfl, [], (gr [0] rfl (hR rfl rfl .nil) rfl), .nil⟩
    refine rn 7 rfl ?_
    replace h := Option.some.inj h
    subst h
    exact wE ⟨.inr rfl, [], (gr [0] rfl (hR rfl rfl .nil) rfl), .nil⟩
  refine rn 13 rfl ?_
  refine spO 209 h rfl (fun hb235 h => ?_) (fun hb235 h => ?_)
  · refine rn 5 rfl ?_
    refine spC h rfl (fun hb236 h => ?_) (fun hb236 h => ?_)
    · obtain ⟨y237, hx238, h⟩ := bind_some h
      refine rn 6 rfl ?_
      refine ck h (fun hc239 h => ?_)
      refine aops_mcall (V.tup []) [(V.own 0 a4.length), (iV (w64 (Int.fdiv (IntKind.wrap .u64 (w64 (a1 + a3))) (2 ^ (min (Int.toNat 1) (IntKind.bits .u64)))))), (iV (w64 ((w64 ((w64 (Int.fdiv (IntKind.wrap .u64 (w64 (a1 + a3))) (2 ^ (min (Int.toNat 1) (IntKind.bits .u64))))) + a2)) - n183))), (iV a3), (V.fn (.func 115) [] [])] (fun i => ([0] : List Nat).getD i 0) (fun i => ([0] : List Nat).getD i 0) 1 1 [(0, (Ob.arr 128 5 (y237.map encThistory_piece)))] fOk160 wants_none rfl (evm_cons rfl (evm_cons rfl (evm_cons rfl (evm_cons rfl (evm_cons rfl evm_nil))))) (.cons (Sub.own rfl rfl) (.cons (Sub.imm (Imm.con _)) (.cons (Sub.imm (Imm.con _)) (.cons (Sub.imm (Imm.con _)) (.cons (Sub.imm (Imm.fn .nil .nil)) .nil))))) (.cons rfl (ObSub.rows (rows_imm imms_encThistory_piece)) .nil) (hR160 (w64 (Int.fdiv (IntKind.wrap .u64 (w64 (a1 + a3))) (2 ^ (min (Int.toNat 1) (IntKind.bits .u64))))) (w64 ((w64 ((w64 (Int.fdiv (IntKind.wrap .u64 (w64 (a1 + a3))) (2 ^ (min (Int.toNat 1) (IntKind.bits .u64))))) + a2)) - n183)) a3 a4 _ hx238) rfl rfl rfl rfl rfl (Sub.immT (Imm.tup .nil)) (.cons rfl (ObSub.rowsT (rows_imm imms_encThistory_piece)) .nil) ?_
      refine aops_ghost (ghost_tell 0 (V.own 0 y237.length) rfl (Sub.ownI hc239)) ?_
      refine aops_ghost (ghost_tell 214 (V.own 0 y237.length) rfl (Sub.ownI hc239)) ?_
      refine fo (rn 1 rfl ?_)
      replace h := Option.some.inj h
      subst h
      exact wE ⟨.inr rfl, [], (gr [0] rfl (hR rfl rfl .nil) rfl), .nil⟩
    refine rn 1 rfl ?_
    replace h := Option.some.inj h
    subst h
    exact wE ⟨.inr rfl, [], (gr [0] rfl (hR rfl rfl .nil) rfl), .nil⟩
  refine rn 7 rfl ?_
  replace h := Option.some.inj h
  subst h
  exact wE ⟨.inr rfl, [], (gr [0] rfl (hR rfl rfl .nil) rfl), .nil⟩
theorem W160 : ∀ (F : Nat) (a1 : Int) (a2 : Int) (a3 : Int) (a4 : List Thistory_piece) (r : (List Thistory_piece)) (h : M160 F a1 a2 a3 a4 = some r), Mut Try.prog 160 [(V.own 0 a4.length), (iV a1), (iV a2), (iV a3), (V.fn (.func 115) [] [])] 1 [(0, (Ob.arr 128 5 (a4.map encThistory_piece)))] (resV []) 1 [(0, (Ob.arr 128 5 (r.map encThistory_piece)))] := by
  intro F
  induction F with
  | zero => intros; simp [M160] at *
  | succ F ih => exact fun a1 a2 a3 a4 r h => W160_B (M160 F) ih F a1 a2 a3 a4 r h
theorem W154 (F : Nat) (a1 : Int) (a2 : List Thistory_piece) (r : (List Thistory_piece)) (h : M154 F a1 a2 = some r) : Mut Try.prog 154 [(V.own 0 a2.length), (iV a1), (V.fn (.func 115) [] [])] 1 [(0, (Ob.arr 128 5 (a2.map encThistory_piece)))] (resV []) 1 [(0, (Ob.arr 128 5 (r.map encThistory_piece)))] := by
  refine mut_enter Try.func154 rfl rfl (l := []) rfl rfl [(0, (V.own 0 a2.length)), (1, (iV a1)), (2, (V.fn (.func 115) [] []))] rfl (fun w0 m0 β0 => en ?_)
  unfold M154 at h
  refine rn 11 rfl ?_
  refine jK h (fun (p : Int × (List Thistory_piece)) => (⟨[(0, (V.own 0 (p.2).length)), (1, (iV a1)), (2, (V.fn (.func 115) [] [])), (6, (iV 20)), (7, (iV (p.1)))], [(0, (Ob.arr 128 5 ((p.2).map encThistory_piece)))], 1⟩ : St)) (fun k46 (p : Int × (List Thistory_piece)) => k46 p.1 p.2 = some r) (fun k46 h => ?_) ?_
  · refine rn 1 rfl ?_
    refine lC (fun (p : Int × Int × (List Thistory_piece)) => (⟨[(0, (V.own 0 (p.2.2).length)), (1, (iV a1)), (2, (V.fn (.func 115) [] [])), (6, (iV 20)), (7, (iV (p.1))), (8, (iV (p.2.1)))], [(0, (Ob.arr 128 5 ((p.2.2).map encThistory_piece)))], 1⟩ : St)) (fun n (p : Int × Int × (List Thistory_piece)) => M154_L1 F a1 k46 n p.1 p.2.1 p.2.2 = some r) (fun p h => by simp [M154_L1] at h) F (0, 20, a2) h (gr [0] rfl (hR rfl rfl .nil) rfl) (fun n p h => ?_)
    obtain ⟨n52, n53, l54⟩ := p
    unfold M154_L1 at h
    refine rn 7 rfl ?_
    refine spC h rfl (fun hb55 h => ?_) (fun hb55 h => ?_)
    · obtain ⟨y56, hx57, h⟩ := bind_some h
      refine rn 8 rfl ?_
      refine ck h (fun hc58 h => ?_)
      refine aops_mcall (V.tup []) [(V.own 0 l54.length), (iV n52), (iV n53), (V.fn (.func 115) [] [])] (fun i => ([0] : List Nat).getD i 0) (fun i => ([0] : List Nat).getD i 0) 1 1 [(0, (Ob.arr 128 5 (y56.map encThistory_piece)))] fOk159 wants_none rfl (evm_cons rfl (evm_cons rfl (evm_cons rfl (evm_cons rfl evm_nil)))) (.cons (Sub.own rfl rfl) (.cons (Sub.imm (Imm.con _)) (.cons (Sub.imm (Imm.con _)) (.cons (Sub.imm (Imm.fn .nil .nil)) .nil)))) (.cons rfl (ObSub.rows (rows_imm imms_encThistory_piece)) .nil) (W159 F n52 n53 l54 y56 hx57) rfl rfl rfl rfl rfl (Sub.immT (Imm.tup .nil)) (.cons rfl (ObSub.rowsT (rows_imm imms_encThistory_piece)) .nil) ?_
      refine aops_ghost (ghost_tell 0 (V.own 0 y56.length) rfl (Sub.ownI hc58)) ?_
      refine aops_ghost (ghost_tell 14 (V.own 0 y56.length) rfl (Sub.ownI hc58)) ?_
      refine fo (rn 13 rfl ?_)
      exact jX (n53, (w64 (n53 + 20)), y56) h (gr [0] rfl (hR rfl rfl .nil) rfl)
    refine rn 1 rfl ?_
    exact jX (n52, l54) h (gr [0] rfl (hR rfl rfl .nil) rfl)
  rintro ⟨n47, l48⟩ h
  obtain ⟨y59, hx60, h⟩ := bind_some h
  refine rn 6 rfl ?_
  refine ck h (fun hc61 h => ?_)
  refine aops_mcall (V.tup []) [(V.own 0 l48.length), (iV n47), (iV a1), (V.fn (.func 115) [] [])] (fun i => ([0] : List Nat).getD i 0) (fun i => ([0] : List Nat).getD i 0) 1 1 [(0, (Ob.arr 128 5 (y59.map encThistory_piece)))] fOk159 wants_none rfl (evm_cons rfl (evm_cons rfl (evm_cons rfl (evm_cons rfl evm_nil)))) (.cons (Sub.own rfl rfl) (.cons (Sub.imm (Imm.con _)) (.cons (Sub.imm (Imm.con _)) (.cons (Sub.imm (Imm.fn .nil .nil)) .nil)))) (.cons rfl (ObSub.rows (rows_imm imms_encThistory_piece)) .nil) (W159 F n47 a1 l48 y59 hx60) rfl rfl rfl rfl rfl (Sub.immT (Imm.tup .nil)) (.cons rfl (ObSub.rowsT (rows_imm imms_encThistory_piece)) .nil) ?_
  refine aops_ghost (ghost_tell 0 (V.own 0 y59.length) rfl (Sub.ownI hc61)) ?_
  refine aops_ghost (ghost_tell 23 (V.own 0 y59.length) rfl (Sub.ownI hc61)) ?_
  refine fo (rn 2 rfl ?_)
  refine lC (fun (p : Int × (List Thistory_piece)) => (⟨[(0, (V.own 0 (p.2).length)), (1, (iV a1)), (2, (V.fn (.func 115) [] [])), (6, (iV (p.1)))], [(0, (Ob.arr 128 5 ((p.2).map encThistory_piece)))], 1⟩ : St)) (fun n (p : Int × (List Thistory_piece)) => M154_L2 F a1 n p.1 p.2 = some r) (fun p h => by simp [M154_L2] at h) F (20, y59) h (gr [0] rfl (hR rfl rfl .nil) rfl) (fun n p h => ?_)
  obtain ⟨n64, l65⟩ := p
  unfold M154_L2 at h
  refine rn 7 rfl ?_
  refine spC h rfl (fun hb66 h => ?_) (fun hb66 h => ?_)
  · refine rn 1 rfl ?_
    refine jK h (fun (p : (List Thistory_piece)) => (⟨[(0, (V.own 0 p.length)), (1, (iV a1)), (2, (V.fn (.func 115) [] [])), (6, (iV (w64 (n64 * 2))))], [(0, (Ob.arr 128 5 (p.map encThistory_piece)))], 1⟩ : St)) (fun k67 (p : (List Thistory_piece)) => k67 p = some r) (fun k67 h => ?_) ?_
    · refine rn 9 rfl ?_
      refine jK h (fun (p : Int × (List Thistory_piece)) => (⟨[(0, (V.own 0 (p.2).length)), (1, (iV a1)), (2, (V.fn (.func 115) [] [])), (6, (iV n64)), (7, (iV (p.1)))], [(0, (Ob.arr 128 5 ((p.2).map encThistory_piece)))], 1⟩ : St)) (fun k69 (p : Int × (List Thistory_piece)) => k69 p.1 p.2 = some r) (fun k69 h => ?_) ?_
      · refine rn 1 rfl ?_
        refine lC (fun (p : Int × Int × (List Thistory_piece)) => (⟨[(0, (V.own 0 (p.2.2).length)), (1, (iV a1)), (2, (V.fn (.func 115) [] [])), (6, (iV n64)), (7, (iV (p.1))), (8, (iV (p.2.1)))], [(0, (Ob.arr 128 5 ((p.2.2).map encThistory_piece)))], 1⟩ : St)) (fun n (p : Int × Int × (List Thistory_piece)) => M154_L3 F a1 n64 k69 n p.1 p.2.1 p.2.2 = some r) (fun p h => by simp [M154_L3] at h) F (0, (w64 (2 * n64)), l65) h (gr [0] rfl (hR rfl rfl .nil) rfl) (fun n p h => ?_)
        obtain ⟨n75, n76, l77⟩ := p
        unfold M154_L3 at h
        refine rn 7 rfl ?_
        refine spC h rfl (fun hb78 h => ?_) (fun hb78 h => ?_)
        · obtain ⟨y79, hx80, h⟩ := bind_some h
          refine rn 11 rfl ?_
          refine ck h (fun hc81 h => ?_)
          refine aops_mcall (V.tup []) [(V.own 0 l77.length), (iV n75), (iV (w64 (n75 + n64))), (iV n76), (V.fn (.func 115) [] [])] (fun i => ([0] : List Nat).getD i 0) (fun i => ([0] : List Nat).getD i 0) 1 1 [(0, (Ob.arr 128 5 (y79.map encThistory_piece)))] fOk160 wants_none rfl (evm_cons rfl (evm_cons rfl (evm_cons rfl (evm_cons rfl (evm_cons rfl evm_nil))))) (.cons (Sub.own rfl rfl) (.cons (Sub.imm (Imm.con _)) (.cons (Sub.imm (Imm.con _)) (.cons (Sub.imm (Imm.con _)) (.cons (Sub.imm (Imm.fn .nil .nil)) .nil))))) (.cons rfl (ObSub.rows (rows_imm imms_encThistory_piece)) .nil) (W160 F n75 (w64 (n75 + n64)) n76 l77 y79 hx80) rfl rfl rfl rfl rfl (Sub.immT (Imm.tup .nil)) (.cons rfl (ObSub.rowsT (rows_imm imms_encThistory_piece)) .nil) ?_
          refine aops_ghost (ghost_tell 0 (V.own 0 y79.length) rfl (Sub.ownI hc81)) ?_
          refine aops_ghost (ghost_tell 36 (V.own 0 y79.length) rfl (Sub.ownI hc81)) ?_
          refine fo (rn 14 rfl ?_)
          exact jX (n76, (w64 (n76 + (w64 (2 * n64)))), y79) h (gr [0] rfl (hR rfl rfl .nil) rfl)
        refine rn 1 rfl ?_
        exact jX (n75, l77) h (gr [0] rfl (hR rfl rfl .nil) rfl)
      rintro ⟨n70, l71⟩ h
      refine rn 14 rfl ?_
      refine jK h (fun (p : (List Thistory_piece)) => (⟨[(0, (V.own 0 p.length)), (1, (iV a1)), (2, (V.fn (.func 115) [] [])), (6, (iV n64))], [(0, (Ob.arr 128 5 (p.map encThistory_piece)))], 1⟩ : St)) (fun k82 (p : (List Thistory_piece)) => k82 p = some r) (fun k82 h => ?_) ?_
      · refine spC h rfl (fun hb84 h => ?_) (fun hb84 h => ?_)
        · obtain ⟨y85, hx86, h⟩ := bind_some h
          refine rn 6 rfl ?_
          refine ck h (fun hc87 h => ?_)
          refine aops_mcall (V.tup []) [(V.own 0 l71.length), (iV n70), (iV (w64 (n70 + n64))), (iV a1), (V.fn (.func 115) [] [])] (fun i => ([0] : List Nat).getD i 0) (fun i => ([0] : List Nat).getD i 0) 1 1 [(0, (Ob.arr 128 5 (y85.map encThistory_piece)))] fOk160 wants_none rfl (evm_cons rfl (evm_cons rfl (evm_cons rfl (evm_cons rfl (evm_cons rfl evm_nil))))) (.cons (Sub.own rfl rfl) (.cons (Sub.imm (Imm.con _)) (.cons (Sub.imm (Imm.con _)) (.cons (Sub.imm (Imm.con _)) (.cons (Sub.imm (Imm.fn .nil .nil)) .nil))))) (.cons rfl (ObSub.rows (rows_imm imms_encThistory_piece)) .nil) (W160 F n70 (w64 (n70 + n64)) a1 l71 y85 hx86) rfl rfl rfl rfl rfl (Sub.immT (Imm.tup .nil)) (.cons rfl (ObSub.rowsT (rows_imm imms_encThistory_piece)) .nil) ?_
          refine aops_ghost (ghost_tell 0 (V.own 0 y85.length) rfl (Sub.ownI hc87)) ?_
          refine aops_ghost (ghost_tell 55 (V.own 0 y85.length) rfl (Sub.ownI hc87)) ?_
          refine fo (rn 1 rfl ?_)
          exact jX y85 h (gr [0] rfl (hR rfl rfl .nil) rfl)
        refine rn 1 rfl ?_
        exact jX l71 h (gr [0] rfl (hR rfl rfl .nil) rfl)
      intro l83 h
      refine rn 6 rfl ?_
      exact jX l83 h (gr [0] rfl (hR rfl rfl .nil) rfl)
    intro l68 h
    exact jX ((w64 (n64 * 2)), l68) h (gr [0] rfl (hR rfl rfl .nil) rfl)
  refine rn 1 rfl ?_
  replace h := Option.some.inj h
  subst h
  exact wE ⟨.inr rfl, [], (gr [0] rfl (hR rfl rfl .nil) rfl), .nil⟩
theorem W143 (F : Nat) (a1 : List Thistory_piece) (r : (List Thistory_piece)) (h : M143 F a1 = some r) : Mut Try.prog 143 [(V.own 0 a1.length), (V.fn (.func 115) [] [])] 1 [(0, (Ob.arr 128 5 (a1.map encThistory_piece)))] (resV []) 1 [(0, (Ob.arr 128 5 (r.map encThistory_piece)))] := by
  refine mut_enter Try.func143 rfl rfl (l := []) rfl rfl [(0, (V.own 0 a1.length)), (1, (V.fn (.func 115) [] []))] rfl (fun w0 m0 β0 => en ?_)
  unfold M143 at h
  obtain ⟨y6, hx7, h⟩ := bind_some h
  refine rn 5 rfl ?_
  refine ck h (fun hc8 h => ?_)
  refine aops_mcall (V.tup []) [(V.own 0 a1.length), (iV ((a1.length : Nat) : Int)), (V.fn (.func 115) [] [])] (fun i => ([0] : List Nat).getD i 0) (fun i => ([0] : List Nat).getD i 0) 1 1 [(0, (Ob.arr 128 5 (y6.map encThistory_piece)))] fOk154 wants_none rfl (evm_cons rfl (evm_cons rfl (evm_cons rfl evm_nil))) (.cons (Sub.own rfl rfl) (.cons (Sub.imm (Imm.con _)) (.cons (Sub.imm (Imm.fn .nil .nil)) .nil))) (.cons rfl (ObSub.rows (rows_imm imms_encThistory_piece)) .nil) (W154 F ((a1.length : Nat) : Int) a1 y6 hx7) rfl rfl rfl rfl rfl (Sub.immT (Imm.tup .nil)) (.cons rfl (ObSub.rowsT (rows_imm imms_encThistory_piece)) .nil) ?_
  refine aops_ghost (ghost_tell 0 (V.own 0 y6.length) rfl (Sub.ownI hc8)) ?_
  refine aops_ghost (ghost_tell 4 (V.own 0 y6.length) rfl (Sub.ownI hc8)) ?_
  refine aops_ghost (ghost_tell 5 (V.own 0 y6.length) rfl (Sub.ownI hc8)) ?_
  refine fo (rn 1 rfl ?_)
  replace h := Option.some.inj h
  subst h
  exact wE ⟨.inr rfl, [], (gr [0] rfl (hR rfl rfl .nil) rfl), .nil⟩
theorem W114 (F : Nat) (a1 : (List Thistory_piece)) (r : (List Thistory_piece)) (h : M114 F a1 = some r) : Pure Try.prog 114 [(V.lst 5 (a1.map encThistory_piece)), (V.fn (.func 115) [] [])] (V.lst 5 (r.map encThistory_piece)) := by
  refine pin (fun r => (V.lst 5 (r.map encThistory_piece))) r rfl Try.func114 rfl rfl rfl rfl rfl (fun w0 m0 => ?_)
  unfold M114 at h
  obtain ⟨y2, hx3, h⟩ := bind_some h
  refine rn 7 rfl ?_
  refine aops_mcall (V.own 0 y2.length) [(V.lst 5 (a1.map encThistory_piece))] (fun i => ([] : List Nat).getD i 0) (fun i => ([0] : List Nat).getD i 0) 0 1 [(0, (Ob.arr 128 5 (y2.map encThistory_piece)))] fOk142 wants_none rfl (evm_cons rfl evm_nil) (.cons (Sub.imm (Imm.lst _ _)) .nil) .nil (W142 F a1 y2 hx3) rfl rfl rfl rfl rfl (Sub.ownT rfl rfl) (.cons rfl (ObSub.rowsT (rows_imm imms_encThistory_piece)) .nil) ?_
  obtain ⟨y4, hx5, h⟩ := bind_some h
  refine fo (rn 6 rfl ?_)
  refine ck h (fun hc6 h => ?_)
  refine aops_mcall (V.tup []) [(V.own 0 y2.length), (V.fn (.func 115) [] [])] (fun i => ([0] : List Nat).getD i 0) (fun i => ([0] : List Nat).getD i 0) 1 1 [(0, (Ob.arr 128 5 (y4.map encThistory_piece)))] fOk143 wants_none rfl (evm_cons rfl (evm_cons rfl evm_nil)) (.cons (Sub.own rfl rfl) (.cons (Sub.imm (Imm.fn .nil .nil)) .nil)) (.cons rfl (ObSub.rows (rows_imm imms_encThistory_piece)) .nil) (W143 F y2 y4 hx5) rfl rfl rfl rfl rfl (Sub.immT (Imm.tup .nil)) (.cons rfl (ObSub.rowsT (rows_imm imms_encThistory_piece)) .nil) ?_
  refine aops_ghost (ghost_tell 7 (V.own 0 y4.length) rfl (Sub.ownI hc6)) ?_
  refine aops_ghost (ghost_tell 5 (V.own 0 y4.length) rfl (Sub.ownI hc6)) ?_
  refine aops_ghost (ghost_tell 8 (V.own 0 y4.length) rfl (Sub.ownI hc6)) ?_
  refine fo (rn 6 rfl ?_)
  refine awp_ghost (ghost_frzE 0 4 rfl (rows_imm imms_encThistory_piece) rfl (List.length_map ..).symm) ?_
  refine fa ?_
  exact rt h rfl
theorem W58 (F : Nat) (a1 : TStory) (a2 : Int) (a3 : Int) (a4 : Int) (r : (Int × Int)) (h : M58 F a1 a2 a3 a4 = some r) : Pure Try.prog 58 [(V.agg (encTStory a1)), (iV a2), (iV a3), (iV a4)] (V.tup [(iV (r.1)), (iV (r.2))]) := by
  refine pin (fun r => (V.tup [(iV (r.1)), (iV (r.2))])) r rfl Try.func58 rfl rfl rfl rfl rfl (fun w0 m0 => ?_)
  unfold M58 at h
  refine rn 13 rfl ?_
  refine cl h rfl rfl rfl (W113 _ _ _ _ _) rfl (fun y5 hx6 h => ?_)
  refine rn 7 rfl ?_
  refine spC h rfl (fun hb7 h => ?_) (fun hb7 h => ?_)
  · refine rn 6 rfl ?_
    exact rt h rfl
  refine rn 4 rfl ?_
  refine cl h rfl rfl rfl (W90 _ _) rfl (fun y8 hx9 h => ?_)
  refine cl h rfl rfl rfl (W114 _ _) rfl (fun y10 hx11 h => ?_)
  refine rn 12 rfl ?_
  refine ln rfl rfl ?_
  refine rn 2 rfl ?_
  refine jK h (fun (p : Int) => (⟨[(12, (iV p))], [], 0⟩ : St)) (fun k12 (p : Int) => k12 p = some r) (fun k12 h => ?_) ?_
  · refine rn 1 rfl ?_
    refine wl (A := y10) 28 rfl (fun hA31 => ?_)
    refine lC (fun (p : Int × Int × Int) => (⟨[(2, (iV a3)), (3, (iV a4)), (12, (iV (p.1))), (13, (iV (p.2.1))), (30, (V.lst 5 (y10.map encThistory_piece))), (31, (iV ((y10.length : Nat) : Int))), (32, (iV (p.2.2)))], [], 0⟩ : St)) (fun n (p : Int × Int × Int) => RG y10 (fun tl nn => M58_L1 F a3 a4 k12 tl p.1 p.2.1 = some r) n p.2.2) (fun p h => RG.zero h) (y10.length + 1) (0, a2, 0) (RG.start h) (g0 rfl rfl) (fun n p h => ?_)
    obtain ⟨n17, n18, n19⟩ := p
    refine rn 5 rfl ?_
    refine spL rfl (fun hb20 => ?_) (fun hb20 => ?_)
    · obtain ⟨x24, tl, hx25, h, hk1⟩ := RG.t hA31 h hb20
      unfold M58_L1 at h
      refine rn 2 rfl ?_
      refine jK h (fun (p : Int × Int) => (⟨[(2, (iV a3)), (3, (iV a4)), (12, (iV (p.1))), (13, (iV (p.2))), (30, (V.lst 5 (y10.map encThistory_piece))), (31, (iV ((y10.length : Nat) : Int))), (32, (iV n19))], [], 0⟩ : St)) (fun k21 (p : Int × Int) => k21 p.1 p.2 = some r) (fun k21 h => ?_) ?_
      · refine rn 3 rfl ?_
        refine ixh hx25 rfl rfl ?_
        refine rn 13 rfl ?_
        refine spC h rfl (fun hb26 h => ?_) (fun hb26 h => ?_)
        · refine rn 1 rfl ?_
          exact jX (n17, n18) h (g0 rfl rfl)
        refine rn 2 rfl ?_
        refine dr mixed (vs 10 rfl .nil) (by kernel_rfl) ?_
        refine rn 6 rfl ?_
        refine jK h (fun (p : Int × Int) => (⟨[(2, (iV a3)), (3, (iV a4)), (12, (iV (p.1))), (13, (iV (p.2))), (30, (V.lst 5 (y10.map encThistory_piece))), (31, (iV ((y10.length : Nat) : Int))), (32, (iV n19))], [], 0⟩ : St)) (fun k27 (p : Int × Int) => k27 p.1 p.2 = some r) (fun k27 h => ?_) ?_
        · refine spC h rfl (fun hb30 h => ?_) (fun hb30 h => ?_)
          · refine rn 13 rfl ?_
            exact jX ((w64 (n17 + (w64 ((if x24.to < a3 then x24.to else a3) - (if x24.from_ > n18 then x24.from_ else n18))))), (if x24.to < a3 then x24.to else a3)) h (g0 rfl rfl)
          refine rn 1 rfl ?_
          exact jX (n17, n18) h (g0 rfl rfl)
        rintro ⟨n28, n29⟩ h
        refine rn 1 rfl ?_
        exact jX (n28, n29) h (g0 rfl rfl)
      rintro ⟨n22, n23⟩ h
      refine rn 4 rfl ?_
      exact jX (n22, n23, (w64 (n19 + 1))) (hk1 _ h) (g0 rfl rfl)
    replace h := RG.f h hb20
    unfold M58_L1 at h
    refine rn 1 rfl ?_
    exact jX n17 h (g0 rfl rfl)
  intro n13 h
  refine rn 6 rfl ?_
  exact rt h rfl
theorem W117 (F : Nat) (a1 : Int) (r : Bool) (h : M117 F a1 = some r) : Pure Try.prog 117 [(iV a1)] (bV r) := by
  refine pin (fun r => (bV r)) r rfl Try.func117 rfl rfl rfl rfl rfl (fun w0 m0 => ?_)
  unfold M117 at h
  refine rn 9 rfl ?_
  refine spO 5 h rfl (fun hb2 h => ?_) (fun hb2 h => ?_)
  · refine rn 5 rfl ?_
    exact rt h rfl
  refine rn 5 rfl ?_
  exact rt h rfl
theorem W59 (F : Nat) (a1 : TStory) (a2 : Int) (a3 : Int) (a4 : Int) (r : (Int × Int)) (h : M59 F a1 a2 a3 a4 = some r) : Pure Try.prog 59 [(V.agg (encTStory a1)), (iV a2), (iV a3), (iV a4)] (V.tup [(iV (r.1)), (iV (r.2))]) := by
  refine pin (fun r => (V.tup [(iV (r.1)), (iV (r.2))])) r rfl Try.func59 rfl rfl rfl rfl rfl (fun w0 m0 => ?_)
  unfold M59 at h
  refine rn 10 rfl ?_
  refine cl h rfl rfl rfl (W36 _ _) rfl (fun y5 hx6 h => ?_)
  refine rn 7 rfl ?_
  refine spC h rfl (fun hb7 h => ?_) (fun hb7 h => ?_)
  · refine rn 6 rfl ?_
    exact rt h rfl
  refine rn 7 rfl ?_
  refine spO 25 h rfl (fun hb8 h => ?_) (fun hb8 h => ?_)
  · refine rn 19 rfl ?_
    exact rt h rfl
  refine rn 5 rfl ?_
  refine spO 30 h rfl (fun hb9 h => ?_) (fun hb9 h => ?_)
  · refine rn 14 rfl ?_
    exact rt h rfl
  refine rn 4 rfl ?_
  refine spO 34 h rfl (fun hb10 h => ?_) (fun hb10 h => ?_)
  · refine rn 10 rfl ?_
    exact rt h rfl
  refine rn 1 rfl ?_
  refine cl h rfl rfl rfl (W117 _ _) rfl (fun y11 hx12 h => ?_)
  refine rn 2 rfl ?_
  refine spC h rfl (fun hb13 h => ?_) (fun hb13 h => ?_)
  · refine rn 5 rfl ?_
    exact rt h rfl
  refine rn 4 rfl ?_
  refine ck h (fun hc14 h => ?_)
  refine aops_makeSlice (ln := (List.replicate (a3).toNat (false : Bool)).length) ((List.replicate (a3).toNat (false : Bool)).map encB) tEl158 tZ4 rfl rfl hc14 List.map_replicate List.length_replicate wants_none rfl rfl ?_
  refine fo (rn 6 rfl ?_)
  refine cl h rfl rfl rfl (W91 _ _) rfl (fun y15 hx16 h => ?_)
  refine cl h rfl rfl rfl (W118 _ _) rfl (fun y17 hx18 h => ?_)
  refine ln rfl rfl ?_
  refine rn 2 rfl ?_
  refine jK h (fun (p : (List Bool)) => (⟨[(11, (V.own 0 p.length))], [(0, (Ob.arr 4 1 (p.map encB)))], 1⟩ : St)) (fun k19 (p : (List Bool)) => k19 p = some r) (fun k19 h => ?_) ?_
  · refine rn 1 rfl ?_
    refine wl (A := y17) 42 rfl (fun hA40 => ?_)
    refine lC (fun (p : Int × (List Bool)) => (⟨[(1, (iV a2)), (2, (iV a3)), (3, (iV a4)), (11, (V.own 0 (p.2).length)), (42, (V.lst 5 (y17.map encTprovenderref11_stretch))), (43, (iV ((y17.length : Nat) : Int))), (44, (iV (p.1)))], [(0, (Ob.arr 4 1 ((p.2).map encB)))], 1⟩ : St)) (fun n (p : Int × (List Bool)) => RG y17 (fun tl nn => M59_L1 F a2 a3 a4 k19 tl p.2 = some r) n p.1) (fun p h => RG.zero h) (y17.length + 1) (0, (List.replicate (a3).toNat (false : Bool))) (RG.start h) (gr [1] rfl (hR rfl rfl .nil) rfl) (fun n p h => ?_)
    obtain ⟨n23, l24⟩ := p
    refine rn 5 rfl ?_
    refine spL rfl (fun hb25 => ?_) (fun hb25 => ?_)
    · obtain ⟨x28, tl, hx29, h, hk1⟩ := RG.t hA40 h hb25
      unfold M59_L1 at h
      refine rn 2 rfl ?_
      refine jK h (fun (p : (List Bool)) => (⟨[(1, (iV a2)), (2, (iV a3)), (3, (iV a4)), (11, (V.own 0 p.length)), (42, (V.lst 5 (y17.map encTprovenderref11_stretch))), (43, (iV ((y17.length : Nat) : Int))), (44, (iV n23))], [(0, (Ob.arr 4 1 (p.map encB)))], 1⟩ : St)) (fun k26 (p : (List Bool)) => k26 p = some r) (fun k26 h => ?_) ?_
      · refine rn 3 rfl ?_
        refine ixh hx29 rfl rfl ?_
        refine rn 13 rfl ?_
        refine spC h rfl (fun hb30 h => ?_) (fun hb30 h => ?_)
        · refine rn 1 rfl ?_
          exact jX l24 h (gr [0] rfl (hR rfl rfl .nil) rfl)
        refine rn 9 rfl ?_
        refine jK h (fun (p : (List Bool)) => (⟨[(1, (iV a2)), (2, (iV a3)), (3, (iV a4)), (11, (V.own 0 p.length)), (42, (V.lst 5 (y17.map encTprovenderref11_stretch))), (43, (iV ((y17.length : Nat) : Int))), (44, (iV n23))], [(0, (Ob.arr 4 1 (p.map encB)))], 1⟩ : St)) (fun k31 (p : (List Bool)) => k31 p = some r) (fun k31 h => ?_) ?_
        · refine rn 1 rfl ?_
          refine lC (fun (p : Int × (List Bool)) => (⟨[(1, (iV a2)), (2, (iV a3)), (3, (iV a4)), (11, (V.own 0 (p.2).length)), (13, (V.ptr 1 5 0 0)), (14, (iV (p.1))), (42, (V.lst 5 (y17.map encTprovenderref11_stretch))), (43, (iV ((y17.length : Nat) : Int))), (44, (iV n23))], [(0, (Ob.arr 4 1 ((p.2).map encB))), (1, (Ob.arr 162 5 [(encTprovenderref11_stretch x28)]))], 2⟩ : St)) (fun n (p : Int × (List Bool)) => M59_L2 F a3 x28 k31 n p.1 p.2 = some r) (fun p h => by simp [M59_L2] at h) F ((if x28.from_ > a2 then x28.from_ else a2), l24) h (gr [0, 1] rfl (hR rfl rfl (hB rfl rfl rfl .nil)) rfl) (fun n p h => ?_)
          obtain ⟨n35, l36⟩ := p
          unfold M59_L2 at h
          refine rn 10 rfl ?_
          refine spC h rfl (fun hb37 h => ?_) (fun hb37 h => ?_)
          · refine rn 6 rfl ?_
            refine ixo (a := l36) h rfl rfl rfl (fun x38 hx39 h => ?_)
            refine stS true hx39 rfl rfl rfl rfl rfl rfl ?_
            refine rn 7 rfl ?_
            exact jX ((w64 (n35 + 1)), (l36.set n35.toNat true)) h (ghost_ren 2 (fun i => ([0, 1] : List Nat).getD i 0) _ _ (by decide) (EnvSub.get (.cons (Sub.imm (Imm.con _)) (.cons (Sub.imm (Imm.con _)) (.cons (Sub.imm (Imm.con _)) (.cons (Sub.ownE rfl rfl (by simp)) (.cons (Sub.ptr rfl rfl) (.cons (Sub.imm (Imm.con _)) (.cons (Sub.imm (Imm.lst _ _)) (.cons (Sub.imm (Imm.con _)) (.cons (Sub.imm (Imm.con _)) .nil)))))))))) (HpSub.get (.cons rfl (ObSub.rows (rows_imm imms_encB)) (.cons rfl (ObSub.box (.cons (Sub.imm (Imm.con _)) (.cons (Sub.imm (Imm.con _)) (.cons (Sub.imm (Imm.con _)) (.cons (Sub.imm (Imm.con _)) (.cons (Sub.imm (Imm.con _)) .nil)))))) .nil))) rfl)
          refine rn 1 rfl ?_
          exact jX l36 h (gr [0] rfl (hR rfl rfl .nil) rfl)
        intro l32 h
        refine rn 1 rfl ?_
        exact jX l32 h (gr [0] rfl (hR rfl rfl .nil) rfl)
      intro l27 h
      refine rn 4 rfl ?_
      exact jX ((w64 (n23 + 1)), l27) (hk1 _ h) (gr [0] rfl (hR rfl rfl .nil) rfl)
    replace h := RG.f h hb25
    unfold M59_L1 at h
    refine rn 1 rfl ?_
    exact jX l24 h (gr [0] rfl (hR rfl rfl .nil) rfl)
  intro l20 h
  refine rn 11 rfl ?_
  refine jK h (fun (p : Int) => (⟨[(15, (iV p))], [], 0⟩ : St)) (fun k41 (p : Int) => k41 p = some r) (fun k41 h => ?_) ?_
  · refine rn 1 rfl ?_
    refine wlO (A := l20) 0 rfl (fun hA53 => ?_)
    refine lC (fun (p : Int × Int) => (⟨[(15, (iV (p.1))), (69, (V.own 0 l20.length)), (70, (iV ((l20.length : Nat) : Int))), (71, (iV (p.2)))], [(0, (Ob.arr 4 1 (l20.map encB)))], 1⟩ : St)) (fun n (p : Int × Int) => RG l20 (fun tl nn => M59_L3 F k41 tl p.1 = some r) n p.2) (fun p h => RG.zero h) (l20.length + 1) (0, 0) (RG.start h) (gr [0] rfl (hR rfl rfl .nil) rfl) (fun n p h => ?_)
    obtain ⟨n45, n46⟩ := p
    refine rn 5 rfl ?_
    refine spL rfl (fun hb47 => ?_) (fun hb47 => ?_)
    · obtain ⟨x48, tl, hx49, h, hk3⟩ := RG.t hA53 h hb47
      unfold M59_L3 at h
      refine rn 5 rfl ?_
      refine ixoh (a := l20) hx49 rfl rfl rfl ?_
      refine ldp hx49 rfl rfl rfl rfl ?_
      refine rn 6 rfl ?_
      refine jK h (fun (p : Int) => (⟨[(15, (iV p)), (69, (V.own 0 l20.length)), (70, (iV ((l20.length : Nat) : Int))), (71, (iV n46))], [(0, (Ob.arr 4 1 (l20.map encB)))], 1⟩ : St)) (fun k50 (p : Int) => k50 p = some r) (fun k50 h => ?_) ?_
      · refine spC h rfl (fun hb52 h => ?_) (fun hb52 h => ?_)
        · refine rn 5 rfl ?_
          exact jX (w64 (n45 + 1)) h (gr [0] rfl (hR rfl rfl .nil) rfl)
        refine rn 1 rfl ?_
        exact jX n45 h (gr [0] rfl (hR rfl rfl .nil) rfl)
      intro n51 h
      refine rn 5 rfl ?_
      exact jX (n51, (w64 (n46 + 1))) (hk3 _ h) (gr [0] rfl (hR rfl rfl .nil) rfl)
    replace h := RG.f h hb47
    unfold M59_L3 at h
    refine rn 1 rfl ?_
    exact jX n45 h (g0 rfl rfl)
  intro n42 h
  refine rn 6 rfl ?_
  exact rt h rfl
theorem W119 (F : Nat) (a1 : (List Thistory_piece)) (a2 : Int) (r : Int) (h : M119 F a1 a2 = some r) : Pure Try.prog 119 [(V.lst 5 (a1.map encThistory_piece)), (iV a2)] (iV r) := by
  refine pin (fun r => (iV r)) r rfl Try.func119 rfl rfl rfl rfl rfl (fun w0 m0 => ?_)
  unfold M119 at h
  refine rn 12 rfl ?_
  refine ln rfl rfl ?_
  refine rn 2 rfl ?_
  refine jK h (fun (p : Int) => (⟨[(5, (iV p))], [], 0⟩ : St)) (fun k3 (p : Int) => k3 p = some r) (fun k3 h => ?_) ?_
  · refine rn 1 rfl ?_
    refine wl (A := a1) 0 rfl (fun hA18 => ?_)
    refine lC (fun (p : Int × Int) => (⟨[(1, (iV a2)), (5, (iV (p.1))), (8, (V.lst 5 (a1.map encThistory_piece))), (9, (iV ((a1.length : Nat) : Int))), (10, (iV (p.2)))], [], 0⟩ : St)) (fun n (p : Int × Int) => RG a1 (fun tl nn => M119_L1 F a2 k3 tl p.1 = some r) n p.2) (fun p h => RG.zero h) (a1.length + 1) (0, 0) (RG.start h) (g0 rfl rfl) (fun n p h => ?_)
    obtain ⟨n7, n8⟩ := p
    refine rn 5 rfl ?_
    refine spL rfl (fun hb9 => ?_) (fun hb9 => ?_)
    · obtain ⟨x12, tl, hx13, h, hk1⟩ := RG.t hA18 h hb9
      unfold M119_L1 at h
      refine rn 2 rfl ?_
      refine jK h (fun (p : Int) => (⟨[(1, (iV a2)), (5, (iV p)), (8, (V.lst 5 (a1.map encThistory_piece))), (9, (iV ((a1.length : Nat) : Int))), (10, (iV n8))], [], 0⟩ : St)) (fun k10 (p : Int) => k10 p = some r) (fun k10 h => ?_) ?_
      · refine rn 3 rfl ?_
        refine ixh hx13 rfl rfl ?_
        refine rn 11 rfl ?_
        refine spO 18 h rfl (fun hb14 h => ?_) (fun hb14 h => ?_)
        · refine rn 6 rfl ?_
          refine jK h (fun (p : Int) => (⟨[(1, (iV a2)), (5, (iV p)), (8, (V.lst 5 (a1.map encThistory_piece))), (9, (iV ((a1.length : Nat) : Int))), (10, (iV n8)), (19, (iV a2)), (20, (V.ptr 0 5 0 4)), (21, (iV x12.to)), (22, (bV (decide (a2 < x12.to))))], [(0, (Ob.arr 128 5 [(encThistory_piece x12)]))], 1⟩ : St)) (fun k15 (p : Int) => k15 p = some r) (fun k15 h => ?_) ?_
          · refine spC h rfl (fun hb17 h => ?_) (fun hb17 h => ?_)
            · refine rn 5 rfl ?_
              exact jX (w64 (n7 + 1)) h (gr [0] rfl (hB rfl rfl rfl .nil) rfl)
            refine rn 1 rfl ?_
            exact jX n7 h (gr [0] rfl (hB rfl rfl rfl .nil) rfl)
          intro n16 h
          refine rn 1 rfl ?_
          exact jX n16 h (g0 rfl rfl)
        refine rn 9 rfl ?_
        exact jX n7 h (g0 rfl rfl)
      intro n11 h
      refine rn 4 rfl ?_
      exact jX (n11, (w64 (n8 + 1))) (hk1 _ h) (g0 rfl rfl)
    replace h := RG.f h hb9
    unfold M119_L1 at h
    refine rn 1 rfl ?_
    exact jX n7 h (g0 rfl rfl)
  intro n4 h
  refine rn 5 rfl ?_
  exact rt h rfl
theorem W60 (F : Nat) (a1 : TStory) (a2 : Int) (a3 : Int) (a4 : Int) (r : ((List TTally) × Int)) (h : M60 F a1 a2 a3 a4 = some r) : Pure Try.prog 60 [(V.agg (encTStory a1)), (iV a2), (iV a3), (iV a4)] (V.tup [(V.lst 5 ((r.1).map encTTally)), (iV (r.2))]) := by
  refine pin (fun r => (V.tup [(V.lst 5 ((r.1).map encTTally)), (iV (r.2))])) r rfl Try.func60 rfl rfl rfl rfl rfl (fun w0 m0 => ?_)
  unfold M60 at h
  refine rn 10 rfl ?_
  refine cl h rfl rfl rfl (W35 _ _) rfl (fun y5 hx6 h => ?_)
  refine rn 7 rfl ?_
  refine spC h rfl (fun hb7 h => ?_) (fun hb7 h => ?_)
  · refine rn 6 rfl ?_
    exact rt h rfl
  refine rn 7 rfl ?_
  refine spO 25 h rfl (fun hb8 h => ?_) (fun hb8 h => ?_)
  · refine rn 34 rfl ?_
    exact rt h rfl
  refine rn 4 rfl ?_
  refine spO 29 h rfl (fun hb9 h => ?_) (fun hb9 h => ?_)
  · refine rn 30 rfl ?_
    exact rt h rfl
  refine rn 4 rfl ?_
  refine spO 33 h rfl (fun hb10 h => ?_) (fun hb10 h => ?_)
  · refine rn 26 rfl ?_
    exact rt h rfl
  refine rn 4 rfl ?_
  refine spO 37 h rfl (fun hb11 h => ?_) (fun hb11 h => ?_)
  · refine rn 22 rfl ?_
    exact rt h rfl
  refine rn 4 rfl ?_
  refine spO 41 h rfl (fun hb12 h => ?_) (fun hb12 h => ?_)
  · refine rn 18 rfl ?_
    exact rt h rfl
  refine rn 4 rfl ?_
  refine spO 45 h rfl (fun hb13 h => ?_) (fun hb13 h => ?_)
  · refine rn 14 rfl ?_
    exact rt h rfl
  refine rn 8 rfl ?_
  refine spC h rfl (fun hb14 h => ?_) (fun hb14 h => ?_)
  · refine rn 5 rfl ?_
    exact rt h rfl
  obtain ⟨y15, hx16, h⟩ := bind_some h
  obtain ⟨y17, hx18, h⟩ := bind_some h
  refine rn 2 rfl ?_
  refine dr mixed (vs 1 rfl (cD rfl rfl rfl rfl (W90 _ _ _ hx16) rfl (vs 1 rfl (cD rfl rfl rfl rfl (W98 _ _ _ hx18) rfl (vs 2 rfl .nil))))) (by kernel_rfl) ?_
  refine rn 10 rfl ?_
  refine jK h (fun (p : (List TTally)) => (⟨[(13, (V.own 0 p.length))], [(0, (Ob.arr 96 5 (p.map encTTally)))], 1⟩ : St)) (fun k19 (p : (List TTally)) => k19 p = some r) (fun k19 h => ?_) ?_
  · refine rn 1 rfl ?_
    refine ck h (fun hA61 h => ?_)
    refine lC (fun (p : Int × (List TTally)) => (⟨[(1, (iV a2)), (2, (iV a3)), (11, (V.lst 5 (y15.map encThistory_piece))), (12, (V.lst 6 (y17.map encTWindow))), (13, (V.own 0 (p.2).length)), (57, (iV a4)), (58, (iV (p.1)))], [(0, (Ob.arr 96 5 ((p.2).map encTTally)))], 1⟩ : St)) (fun n (p : Int × (List TTally)) => RC a4 (fun tl nn => M60_L1 F a2 a3 y15 y17 k19 tl nn p.2 = some r) n p.1) (fun p h => RC.zero h) (Int.toNat a4 + 1) (0, ([] : List TTally)) (RC.start h) (Ghost.trans (ghost_nilE 13 96 5 rfl) (ghost_ren 1 (fun i => ([1] : List Nat).getD i 0) _ _ (by decide) (EnvSub.get (.cons (Sub.imm (Imm.con _)) (.cons (Sub.imm (Imm.con _)) (.cons (Sub.imm (Imm.lst _ _)) (.cons (Sub.imm (Imm.lst _ _)) (.cons (Sub.ownE rfl rfl (by simp)) (.cons (Sub.imm (Imm.con _)) (.cons (Sub.imm (Imm.con _)) .nil)))))))) (HpSub.get (.cons rfl (ObSub.rows (rows_imm imms_encTTally)) .nil)) rfl)) (fun n p h => ?_)
    obtain ⟨n23, l24⟩ := p
    refine rn 5 rfl ?_
    refine spL rfl (fun hb25 => ?_) (fun hb25 => ?_)
    · obtain ⟨tl, h, hk1⟩ := RC.t hA61 h hb25
      unfold M60_L1 at h
      refine rn 2 rfl ?_
      refine jK h (fun (p : (List TTally)) => (⟨[(1, (iV a2)), (2, (iV a3)), (11, (V.lst 5 (y15.map encThistory_piece))), (12, (V.lst 6 (y17.map encTWindow))), (13, (V.own 0 p.length)), (57, (iV a4)), (58, (iV n23))], [(0, (Ob.arr 96 5 (p.map encTTally)))], 1⟩ : St)) (fun k26 (p : (List TTally)) => k26 p = some r) (fun k26 h => ?_) ?_
      · refine rn 29 rfl ?_
        refine cl h rfl rfl rfl (W119 _ _ _) rfl (fun y28 hx29 h => ?_)
        refine rn 7 rfl ?_
        refine ln rfl rfl ?_
        refine rn 2 rfl ?_
        refine jK h (fun (p : Int × Int) => (⟨[(1, (iV a2)), (2, (iV a3)), (11, (V.lst 5 (y15.map encThistory_piece))), (12, (V.lst 6 (y17.map encTWindow))), (13, (V.own 0 l24.length)), (15, (V.ptr 1 5 0 0)), (57, (iV a4)), (58, (iV n23))], [(0, (Ob.arr 96 5 (l24.map encTTally))), (1, (Ob.arr 96 5 [[(iV (w64 (a2 + (w64 (n23 * a3))))), (iV (w64 (a2 + (w64 ((w64 (n23 + 1)) * a3))))), (iV y28), (iV (p.1)), (iV (p.2))]]))], 2⟩ : St)) (fun k30 (p : Int × Int) => k30 p.1 p.2 = some r) (fun k30 h => ?_) ?_
        · refine rn 1 rfl ?_
          refine wl (A := y17) 12 rfl (fun hA59 => ?_)
          refine lC (fun (p : Int × Int × Int) => (⟨[(1, (iV a2)), (2, (iV a3)), (11, (V.lst 5 (y15.map encThistory_piece))), (12, (V.lst 6 (y17.map encTWindow))), (13, (V.own 0 l24.length)), (15, (V.ptr 1 5 0 0)), (57, (iV a4)), (58, (iV n23)), (79, (V.lst 6 (y17.map encTWindow))), (80, (iV ((y17.length : Nat) : Int))), (81, (iV (p.1)))], [(0, (Ob.arr 96 5 (l24.map encTTally))), (1, (Ob.arr 96 5 [[(iV (w64 (a2 + (w64 (n23 * a3))))), (iV (w64 (a2 + (w64 ((w64 (n23 + 1)) * a3))))), (iV y28), (iV (p.2.1)), (iV (p.2.2))]]))], 2⟩ : St)) (fun n (p : Int × Int × Int) => RG y17 (fun tl nn => M60_L2 F a2 a3 n23 k30 tl p.2.1 p.2.2 = some r) n p.1) (fun p h => RG.zero h) (y17.length + 1) (0, 0, 0) (RG.start h) (gr [0, 1] rfl (hR rfl rfl (hB rfl rfl rfl .nil)) rfl) (fun n p h => ?_)
          obtain ⟨n36, n37, n38⟩ := p
          refine rn 5 rfl ?_
          refine spL rfl (fun hb39 => ?_) (fun hb39 => ?_)
          · obtain ⟨x43, tl, hx44, h, hk2⟩ := RG.t hA59 h hb39
            unfold M60_L2 at h
            refine rn 2 rfl ?_
            refine jK h (fun (p : Int × Int) => (⟨[(1, (iV a2)), (2, (iV a3)), (11, (V.lst 5 (y15.map encThistory_piece))), (12, (V.lst 6 (y17.map encTWindow))), (13, (V.own 0 l24.length)), (15, (V.ptr 1 5 0 0)), (57, (iV a4)), (58, (iV n23)), (79, (V.lst 6 (y17.map encTWindow))), (80, (iV ((y17.length : Nat) : Int))), (81, (iV n36))], [(0, (Ob.arr 96 5 (l24.map encTTally))), (1, (Ob.arr 96 5 [[(iV (w64 (a2 + (w64 (n23 * a3))))), (iV (w64 (a2 + (w64 ((w64 (n23 + 1)) * a3))))), (iV y28), (iV (p.1)), (iV (p.2))]]))], 2⟩ : St)) (fun k40 (p : Int × Int) => k40 p.1 p.2 = some r) (fun k40 h => ?_) ?_
            · refine rn 3 rfl ?_
              refine ixh hx44 rfl rfl ?_
              refine rn 13 rfl ?_
              refine spO 90 h rfl (fun hb45 h => ?_) (fun hb45 h => ?_)
              · refine rn 7 rfl ?_
                refine jK h (fun (p : Int) => (⟨[(1, (iV a2)), (2, (iV a3)), (11, (V.lst 5 (y15.map encThistory_piece))), (12, (V.lst 6 (y17.map encTWindow))), (13, (V.own 0 l24.length)), (15, (V.ptr 1 5 0 0)), (17, (V.ptr 2 6 0 0)), (57, (iV a4)), (58, (iV n23)), (79, (V.lst 6 (y17.map encTWindow))), (80, (iV ((y17.length : Nat) : Int))), (81, (iV n36)), (91, (V.ptr 2 6 0 3)), (92, (iV x43.From)), (93, (V.ptr 1 5 0 1)), (94, (iV (w64 (a2 + (w64 ((w64 (n23 + 1)) * a3)))))), (95, (bV (decide (x43.From < (w64 (a2 + (w64 ((w64 (n23 + 1)) * a3))))))))], [(0, (Ob.arr 96 5 (l24.map encTTally))), (1, (Ob.arr 96 5 [[(iV (w64 (a2 + (w64 (n23 * a3))))), (iV (w64 (a2 + (w64 ((w64 (n23 + 1)) * a3))))), (iV y28), (iV p), (iV n38)]])), (2, (Ob.arr 35 6 [(encTWindow x43)]))], 3⟩ : St)) (fun k46 (p : Int) => k46 p = some r) (fun k46 h => ?_) ?_
                · refine spC h rfl (fun hb48 h => ?_) (fun hb48 h => ?_)
                  · refine rn 7 rfl ?_
                    exact jX (w64 (n37 + 1)) h (gr [0, 1, 2] rfl (hR rfl rfl (hB rfl rfl rfl (hB rfl rfl rfl .nil))) rfl)
                  refine rn 1 rfl ?_
                  exact jX n37 h (gr [0, 1, 2] rfl (hR rfl rfl (hB rfl rfl rfl (hB rfl rfl rfl .nil))) rfl)
                intro n47 h
                refine rn 6 rfl ?_
                refine spO 104 h rfl (fun hb49 h => ?_) (fun hb49 h => ?_)
                · refine rn 7 rfl ?_
                  refine spO 111 h rfl (fun hb50 h => ?_) (fun hb50 h => ?_)
                  · refine rn 7 rfl ?_
                    refine jK h (fun (p : Int) => (⟨[(1, (iV a2)), (2, (iV a3)), (11, (V.lst 5 (y15.map encThistory_piece))), (12, (V.lst 6 (y17.map encTWindow))), (13, (V.own 0 l24.length)), (15, (V.ptr 1 5 0 0)), (57, (iV a4)), (58, (iV n23)), (79, (V.lst 6 (y17.map encTWindow))), (80, (iV ((y17.length : Nat) : Int))), (81, (iV n36)), (91, (V.ptr 2 6 0 3)), (92, (iV x43.From)), (93, (V.ptr 1 5 0 1)), (94, (iV (w64 (a2 + (w64 ((w64 (n23 + 1)) * a3)))))), (95, (bV (decide (x43.From < (w64 (a2 + (w64 ((w64 (n23 + 1)) * a3)))))))), (105, (V.ptr 2 6 0 4)), (106, (iV x43.To)), (107, (V.ptr 1 5 0 0)), (108, (iV (w64 (a2 + (w64 (n23 * a3)))))), (109, (bV (decide (x43.To ≥ (w64 (a2 + (w64 (n23 * a3)))))))), (112, (V.ptr 2 6 0 4)), (113, (iV x43.To)), (114, (V.ptr 1 5 0 1)), (115, (iV (w64 (a2 + (w64 ((w64 (n23 + 1)) * a3)))))), (116, (bV (decide (x43.To < (w64 (a2 + (w64 ((w64 (n23 + 1)) * a3))))))))], [(0, (Ob.arr 96 5 (l24.map encTTally))), (1, (Ob.arr 96 5 [[(iV (w64 (a2 + (w64 (n23 * a3))))), (iV (w64 (a2 + (w64 ((w64 (n23 + 1)) * a3))))), (iV y28), (iV n47), (iV p)]])), (2, (Ob.arr 35 6 [(encTWindow x43)]))], 3⟩ : St)) (fun k51 (p : Int) => k51 p = some r) (fun k51 h => ?_) ?_
                    · refine spC h rfl (fun hb53 h => ?_) (fun hb53 h => ?_)
                      · refine rn 7 rfl ?_
                        exact jX (w64 (n38 + 1)) h (gr [0, 1, 2] rfl (hR rfl rfl (hB rfl rfl rfl (hB rfl rfl rfl .nil))) rfl)
                      refine rn 1 rfl ?_
                      exact jX n38 h (gr [0, 1, 2] rfl (hR rfl rfl (hB rfl rfl rfl (hB rfl rfl rfl .nil))) rfl)
                    intro n52 h
                    refine rn 1 rfl ?_
                    exact jX (n47, n52) h (gr [0, 1] rfl (hR rfl rfl (hB rfl rfl rfl .nil)) rfl)
                  refine rn 10 rfl ?_
                  exact jX (n47, n38) h (gr [0, 1] rfl (hR rfl rfl (hB rfl rfl rfl .nil)) rfl)
                refine rn 17 rfl ?_
                exact jX (n47, n38) h (gr [0, 1] rfl (hR rfl rfl (hB rfl rfl rfl .nil)) rfl)
              refine rn 15 rfl ?_
              refine spO 104 h rfl (fun hb54 h => ?_) (fun hb54 h => ?_)
              · refine rn 7 rfl ?_
                refine spO 111 h rfl (fun hb55 h => ?_) (fun hb55 h => ?_)
                · refine rn 7 rfl ?_
                  refine jK h (fun (p : Int) => (⟨[(1, (iV a2)), (2, (iV a3)), (11, (V.lst 5 (y15.map encThistory_piece))), (12, (V.lst 6 (y17.map encTWindow))), (13, (V.own 0 l24.length)), (15, (V.ptr 1 5 0 0)), (57, (iV a4)), (58, (iV n23)), (79, (V.lst 6 (y17.map encTWindow))), (80, (iV ((y17.length : Nat) : Int))), (81, (iV n36)), (91, (V.con undef)), (92, (V.con undef)), (93, (V.con undef)), (94, (V.con undef)), (95, (V.con undef)), (105, (V.ptr 2 6 0 4)), (106, (iV x43.To)), (107, (V.ptr 1 5 0 0)), (108, (iV (w64 (a2 + (w64 (n23 * a3)))))), (109, (bV (decide (x43.To ≥ (w64 (a2 + (w64 (n23 * a3)))))))), (112, (V.ptr 2 6 0 4)), (113, (iV x43.To)), (114, (V.ptr 1 5 0 1)), (115, (iV (w64 (a2 + (w64 ((w64 (n23 + 1)) * a3)))))), (116, (bV (decide (x43.To < (w64 (a2 + (w64 ((w64 (n23 + 1)) * a3))))))))], [(0, (Ob.arr 96 5 (l24.map encTTally))), (1, (Ob.arr 96 5 [[(iV (w64 (a2 + (w64 (n23 * a3))))), (iV (w64 (a2 + (w64 ((w64 (n23 + 1)) * a3))))), (iV y28), (iV n37), (iV p)]])), (2, (Ob.arr 35 6 [(encTWindow x43)]))], 3⟩ : St)) (fun k56 (p : Int) => k56 p = some r) (fun k56 h => ?_) ?_
                  · refine spC h rfl (fun hb58 h => ?_) (fun hb58 h => ?_)
                    · refine rn 7 rfl ?_
                      exact jX (w64 (n38 + 1)) h (gr [0, 1, 2] rfl (hR rfl rfl (hB rfl rfl rfl (hB rfl rfl rfl .nil))) rfl)
                    refine rn 1 rfl ?_
                    exact jX n38 h (gr [0, 1, 2] rfl (hR rfl rfl (hB rfl rfl rfl (hB rfl rfl rfl .nil))) rfl)
                  intro n57 h
                  refine rn 1 rfl ?_
                  exact jX (n37, n57) h (gr [0, 1] rfl (hR rfl rfl (hB rfl rfl rfl .nil)) rfl)
                refine rn 10 rfl ?_
                exact jX (n37, n38) h (gr [0, 1] rfl (hR rfl rfl (hB rfl rfl rfl .nil)) rfl)
              refine rn 17 rfl ?_
              exact jX (n37, n38) h (gr [0, 1] rfl (hR rfl rfl (hB rfl rfl rfl .nil)) rfl)
            rintro ⟨n41, n42⟩ h
            refine rn 4 rfl ?_
            exact jX ((w64 (n36 + 1)), n41, n42) (hk2 _ h) (gr [0, 1] rfl (hR rfl rfl (hB rfl rfl rfl .nil)) rfl)
          replace h := RG.f h hb39
          unfold M60_L2 at h
          refine rn 1 rfl ?_
          exact jX (n37, n38) h (gr [0, 1] rfl (hR rfl rfl (hB rfl rfl rfl .nil)) rfl)
        rintro ⟨n31, n32⟩ h
        refine rn 3 rfl ?_
        refine aops_buildSlice [(0, (V.agg [(iV (w64 (a2 + (w64 (n23 * a3))))), (iV (w64 (a2 + (w64 ((w64 (n23 + 1)) * a3))))), (iV y28), (iV n31), (iV n32)]))] [[(iV (w64 (a2 + (w64 (n23 * a3))))), (iV (w64 (a2 + (w64 ((w64 (n23 + 1)) * a3))))), (iV y28), (iV n31), (iV n32)]] tEl87 tZ96 rfl rfl rfl rfl wants_none (evp_cons rfl evp_nil) rfl rfl (by simp) rfl ?_
        refine fo ?_
        refine apO encTTally h rfl rfl rfl rfl rfl rfl rfl rfl (fun h => ?_)
        refine rn 3 rfl ?_
        exact jX (l24 ++ ([(TTally.mk (w64 (a2 + (w64 (n23 * a3)))) (w64 (a2 + (w64 ((w64 (n23 + 1)) * a3)))) y28 n31 n32)] : List TTally)) h (gr [3] rfl (hR rfl rfl .nil) rfl)
      intro l27 h
      refine rn 4 rfl ?_
      exact jX ((w64 (n23 + 1)), l27) (hk1 _ h) (gr [0] rfl (hR rfl rfl .nil) rfl)
    replace h := RC.f h hb25
    unfold M60_L1 at h
    refine rn 1 rfl ?_
    exact jX l24 h (gr [0] rfl (hR rfl rfl .nil) rfl)
  intro l20 h
  refine rn 6 rfl ?_
  refine awp_ghost (ghost_frzE 0 8 rfl (rows_imm imms_encTTally) rfl (List.length_map ..).symm) ?_
  refine fa ?_
  exact rt h rfl
theorem W61 (F : Nat) (a1 : TStory) (a2 : Int) (a3 : Int) (a4 : Int) (r : ((List TTally) × Int)) (h : M61 F a1 a2 a3 a4 = some r) : Pure Try.prog 61 [(V.agg (encTStory a1)), (iV a2), (iV a3), (iV a4)] (V.tup [(V.lst 5 ((r.1).map encTTally)), (iV (r.2))]) := by
  refine pin (fun r => (V.tup [(V.lst 5 ((r.1).map encTTally)), (iV (r.2))])) r rfl Try.func61 rfl rfl rfl rfl rfl (fun w0 m0 => ?_)
  unfold M61 at h
  refine rn 10 rfl ?_
  refine cl h rfl rfl rfl (W36 _ _) rfl (fun y5 hx6 h => ?_)
  refine rn 7 rfl ?_
  refine spC h rfl (fun hb7 h => ?_) (fun hb7 h => ?_)
  · refine rn 6 rfl ?_
    exact rt h rfl
  refine rn 7 rfl ?_
  refine spO 25 h rfl (fun hb8 h => ?_) (fun hb8 h => ?_)
  · refine rn 34 rfl ?_
    exact rt h rfl
  refine rn 4 rfl ?_
  refine spO 29 h rfl (fun hb9 h => ?_) (fun hb9 h => ?_)
  · refine rn 30 rfl ?_
    exact rt h rfl
  refine rn 4 rfl ?_
  refine spO 33 h rfl (fun hb10 h => ?_) (fun hb10 h => ?_)
  · refine rn 26 rfl ?_
    exact rt h rfl
  refine rn 4 rfl ?_
  refine spO 37 h rfl (fun hb11 h => ?_) (fun hb11 h => ?_)
  · refine rn 22 rfl ?_
    exact rt h rfl
  refine rn 4 rfl ?_
  refine spO 41 h rfl (fun hb12 h => ?_) (fun hb12 h => ?_)
  · refine rn 18 rfl ?_
    exact rt h rfl
  refine rn 4 rfl ?_
  refine spO 45 h rfl (fun hb13 h => ?_) (fun hb13 h => ?_)
  · refine rn 14 rfl ?_
    exact rt h rfl
  refine rn 8 rfl ?_
  refine spC h rfl (fun hb14 h => ?_) (fun hb14 h => ?_)
  · refine rn 5 rfl ?_
    exact rt h rfl
  refine rn 4 rfl ?_
  refine cl h rfl rfl rfl (W91 _ _) rfl (fun y15 hx16 h => ?_)
  refine rn 6 rfl ?_
  refine cl h rfl rfl rfl (W99 _ _) rfl (fun y17 hx18 h => ?_)
  refine rn 12 rfl ?_
  refine jK h (fun (p : (List TTally)) => (⟨[(13, (V.own 0 p.length))], [(0, (Ob.arr 96 5 (p.map encTTally)))], 1⟩ : St)) (fun k19 (p : (List TTally)) => k19 p = some r) (fun k19 h => ?_) ?_
  · refine rn 1 rfl ?_
    refine ck h (fun hA61 h => ?_)
    refine lC (fun (p : Int × (List TTally)) => (⟨[(1, (iV a2)), (2, (iV a3)), (11, (V.ptr 0 5 0 0)), (12, (V.lst 6 (y17.map encTWindow))), (13, (V.own 1 (p.2).length)), (57, (iV a4)), (58, (iV (p.1)))], [(0, (Ob.arr 131 5 [(encTprovenderref11_view y15)])), (1, (Ob.arr 96 5 ((p.2).map encTTally)))], 2⟩ : St)) (fun n (p : Int × (List TTally)) => RC a4 (fun tl nn => M61_L1 F a2 a3 y15 y17 k19 tl nn p.2 = some r) n p.1) (fun p h => RC.zero h) (Int.toNat a4 + 1) (0, ([] : List TTally)) (RC.start h) (Ghost.trans (ghost_nilE 13 96 5 rfl) (ghost_ren 2 (fun i => ([1, 2] : List Nat).getD i 0) _ _ (by decide) (EnvSub.get (.cons (Sub.imm (Imm.con _)) (.cons (Sub.imm (Imm.con _)) (.cons (Sub.ptr rfl rfl) (.cons (Sub.imm (Imm.lst _ _)) (.cons (Sub.ownE rfl rfl (by simp)) (.cons (Sub.imm (Imm.con _)) (.cons (Sub.imm (Imm.con _)) .nil)))))))) (HpSub.get (.cons rfl (ObSub.box (.cons (Sub.imm (Imm.con _)) (.cons (Sub.imm (Imm.lst _ _)) (.cons (Sub.imm (Imm.lst _ _)) (.cons (Sub.imm (Imm.con _)) (.cons (Sub.imm (Imm.imap _)) .nil)))))) (.cons rfl (ObSub.rows (rows_imm imms_encTTally)) .nil))) rfl)) (fun n p h => ?_)
    obtain ⟨n23, l24⟩ := p
    refine rn 5 rfl ?_
    refine spL rfl (fun hb25 => ?_) (fun hb25 => ?_)
    · obtain ⟨tl, h, hk1⟩ := RC.t hA61 h hb25
      unfold M61_L1 at h
      refine rn 2 rfl ?_
      refine jK h (fun (p : (List TTally)) => (⟨[(1, (iV a2)), (2, (iV a3)), (11, (V.ptr 0 5 0 0)), (12, (V.lst 6 (y17.map encTWindow))), (13, (V.own 1 p.length)), (57, (iV a4)), (58, (iV n23))], [(0, (Ob.arr 131 5 [(encTprovenderref11_view y15)])), (1, (Ob.arr 96 5 (p.map encTTally)))], 2⟩ : St)) (fun k26 (p : (List TTally)) => k26 p = some r) (fun k26 h => ?_) ?_
      · refine rn 29 rfl ?_
        refine cl h rfl rfl rfl (W92 _ _ _) rfl (fun y28 hx29 h => ?_)
        refine ln rfl rfl ?_
        refine rn 7 rfl ?_
        refine ln rfl rfl ?_
        refine rn 2 rfl ?_
        refine jK h (fun (p : Int × Int) => (⟨[(1, (iV a2)), (2, (iV a3)), (11, (V.ptr 0 5 0 0)), (12, (V.lst 6 (y17.map encTWindow))), (13, (V.own 1 l24.length)), (15, (V.ptr 2 5 0 0)), (57, (iV a4)), (58, (iV n23))], [(0, (Ob.arr 131 5 [(encTprovenderref11_view y15)])), (1, (Ob.arr 96 5 (l24.map encTTally))), (2, (Ob.arr 96 5 [[(iV (w64 (a2 + (w64 (n23 * a3))))), (iV (w64 (a2 + (w64 ((w64 (n23 + 1)) * a3))))), (iV ((y28.length : Nat) : Int)), (iV (p.1)), (iV (p.2))]]))], 3⟩ : St)) (fun k30 (p : Int × Int) => k30 p.1 p.2 = some r) (fun k30 h => ?_) ?_
        · refine rn 1 rfl ?_
          refine wl (A := y17) 12 rfl (fun hA59 => ?_)
          refine lC (fun (p : Int × Int × Int) => (⟨[(1, (iV a2)), (2, (iV a3)), (11, (V.ptr 0 5 0 0)), (12, (V.lst 6 (y17.map encTWindow))), (13, (V.own 1 l24.length)), (15, (V.ptr 2 5 0 0)), (57, (iV a4)), (58, (iV n23)), (80, (V.lst 6 (y17.map encTWindow))), (81, (iV ((y17.length : Nat) : Int))), (82, (iV (p.1)))], [(0, (Ob.arr 131 5 [(encTprovenderref11_view y15)])), (1, (Ob.arr 96 5 (l24.map encTTally))), (2, (Ob.arr 96 5 [[(iV (w64 (a2 + (w64 (n23 * a3))))), (iV (w64 (a2 + (w64 ((w64 (n23 + 1)) * a3))))), (iV ((y28.length : Nat) : Int)), (iV (p.2.1)), (iV (p.2.2))]]))], 3⟩ : St)) (fun n (p : Int × Int × Int) => RG y17 (fun tl nn => M61_L2 F a2 a3 n23 k30 tl p.2.1 p.2.2 = some r) n p.1) (fun p h => RG.zero h) (y17.length + 1) (0, 0, 0) (RG.start h) (gr [0, 1, 2] rfl (hB rfl rfl rfl (hR rfl rfl (hB rfl rfl rfl .nil))) rfl) (fun n p h => ?_)
          obtain ⟨n36, n37, n38⟩ := p
          refine rn 5 rfl ?_
          refine spL rfl (fun hb39 => ?_) (fun hb39 => ?_)
          · obtain ⟨x43, tl, hx44, h, hk2⟩ := RG.t hA59 h hb39
            unfold M61_L2 at h
            refine rn 2 rfl ?_
            refine jK h (fun (p : Int × Int) => (⟨[(1, (iV a2)), (2, (iV a3)), (11, (V.ptr 0 5 0 0)), (12, (V.lst 6 (y17.map encTWindow))), (13, (V.own 1 l24.length)), (15, (V.ptr 2 5 0 0)), (57, (iV a4)), (58, (iV n23)), (80, (V.lst 6 (y17.map encTWindow))), (81, (iV ((y17.length : Nat) : Int))), (82, (iV n36))], [(0, (Ob.arr 131 5 [(encTprovenderref11_view y15)])), (1, (Ob.arr 96 5 (l24.map encTTally))), (2, (Ob.arr 96 5 [[(iV (w64 (a2 + (w64 (n23 * a3))))), (iV (w64 (a2 + (w64 ((w64 (n23 + 1)) * a3))))), (iV ((y28.length : Nat) : Int)), (iV (p.1)), (iV (p.2))]]))], 3⟩ : St)) (fun k40 (p : Int × Int) => k40 p.1 p.2 = some r) (fun k40 h => ?_) ?_
            · refine rn 3 rfl ?_
              refine ixh hx44 rfl rfl ?_
              refine rn 13 rfl ?_
              refine spO 91 h rfl (fun hb45 h => ?_) (fun hb45 h => ?_)
              · refine rn 7 rfl ?_
                refine jK h (fun (p : Int) => (⟨[(1, (iV a2)), (2, (iV a3)), (11, (V.ptr 0 5 0 0)), (12, (V.lst 6 (y17.map encTWindow))), (13, (V.own 1 l24.length)), (15, (V.ptr 2 5 0 0)), (17, (V.ptr 3 6 0 0)), (57, (iV a4)), (58, (iV n23)), (80, (V.lst 6 (y17.map encTWindow))), (81, (iV ((y17.length : Nat) : Int))), (82, (iV n36)), (92, (V.ptr 3 6 0 3)), (93, (iV x43.From)), (94, (V.ptr 2 5 0 1)), (95, (iV (w64 (a2 + (w64 ((w64 (n23 + 1)) * a3)))))), (96, (bV (decide (x43.From < (w64 (a2 + (w64 ((w64 (n23 + 1)) * a3))))))))], [(0, (Ob.arr 131 5 [(encTprovenderref11_view y15)])), (1, (Ob.arr 96 5 (l24.map encTTally))), (2, (Ob.arr 96 5 [[(iV (w64 (a2 + (w64 (n23 * a3))))), (iV (w64 (a2 + (w64 ((w64 (n23 + 1)) * a3))))), (iV ((y28.length : Nat) : Int)), (iV p), (iV n38)]])), (3, (Ob.arr 35 6 [(encTWindow x43)]))], 4⟩ : St)) (fun k46 (p : Int) => k46 p = some r) (fun k46 h => ?_) ?_
                · refine spC h rfl (fun hb48 h => ?_) (fun hb48 h => ?_)
                  · refine rn 7 rfl ?_
                    exact jX (w64 (n37 + 1)) h (gr [0, 1, 2, 3] rfl (hB rfl rfl rfl (hR rfl rfl (hB rfl rfl rfl (hB rfl rfl rfl .nil)))) rfl)
                  refine rn 1 rfl ?_
                  exact jX n37 h (gr [0, 1, 2, 3] rfl (hB rfl rfl rfl (hR rfl rfl (hB rfl rfl rfl (hB rfl rfl rfl .nil)))) rfl)
                intro n47 h
                refine rn 6 rfl ?_
                refine spO 105 h rfl (fun hb49 h => ?_) (fun hb49 h => ?_)
                · refine rn 7 rfl ?_
                  refine spO 112 h rfl (fun hb50 h => ?_) (fun hb50 h => ?_)
                  · refine rn 7 rfl ?_
                    refine jK h (fun (p : Int) => (⟨[(1, (iV a2)), (2, (iV a3)), (11, (V.ptr 0 5 0 0)), (12, (V.lst 6 (y17.map encTWindow))), (13, (V.own 1 l24.length)), (15, (V.ptr 2 5 0 0)), (57, (iV a4)), (58, (iV n23)), (80, (V.lst 6 (y17.map encTWindow))), (81, (iV ((y17.length : Nat) : Int))), (82, (iV n36)), (92, (V.ptr 3 6 0 3)), (93, (iV x43.From)), (94, (V.ptr 2 5 0 1)), (95, (iV (w64 (a2 + (w64 ((w64 (n23 + 1)) * a3)))))), (96, (bV (decide (x43.From < (w64 (a2 + (w64 ((w64 (n23 + 1)) * a3)))))))), (106, (V.ptr 3 6 0 4)), (107, (iV x43.To)), (108, (V.ptr 2 5 0 0)), (109, (iV (w64 (a2 + (w64 (n23 * a3)))))), (110, (bV (decide (x43.To ≥ (w64 (a2 + (w64 (n23 * a3)))))))), (113, (V.ptr 3 6 0 4)), (114, (iV x43.To)), (115, (V.ptr 2 5 0 1)), (116, (iV (w64 (a2 + (w64 ((w64 (n23 + 1)) * a3)))))), (117, (bV (decide (x43.To < (w64 (a2 + (w64 ((w64 (n23 + 1)) * a3))))))))], [(0, (Ob.arr 131 5 [(encTprovenderref11_view y15)])), (1, (Ob.arr 96 5 (l24.map encTTally))), (2, (Ob.arr 96 5 [[(iV (w64 (a2 + (w64 (n23 * a3))))), (iV (w64 (a2 + (w64 ((w64 (n23 + 1)) * a3))))), (iV ((y28.length : Nat) : Int)), (iV n47), (iV p)]])), (3, (Ob.arr 35 6 [(encTWindow x43)]))], 4⟩ : St)) (fun k51 (p : Int) => k51 p = some r) (fun k51 h => ?_) ?_
                    · refine spC h rfl (fun hb53 h => ?_) (fun hb53 h => ?_)
                      · refine rn 7 rfl ?_
                        exact jX (w64 (n38 + 1)) h (gr [0, 1, 2, 3] rfl (hB rfl rfl rfl (hR rfl rfl (hB rfl rfl rfl (hB rfl rfl rfl .nil)))) rfl)
                      refine rn 1 rfl ?_
                      exact jX n38 h (gr [0, 1, 2, 3] rfl (hB rfl rfl rfl (hR rfl rfl (hB rfl rfl rfl (hB rfl rfl rfl .nil)))) rfl)
                    intro n52 h
                    refine rn 1 rfl ?_
                    exact jX (n47, n52) h (gr [0, 1, 2] rfl (hB rfl rfl rfl (hR rfl rfl (hB rfl rfl rfl .nil))) rfl)
                  refine rn 10 rfl ?_
                  exact jX (n47, n38) h (gr [0, 1, 2] rfl (hB rfl rfl rfl (hR rfl rfl (hB rfl rfl rfl .nil))) rfl)
                refine rn 17 rfl ?_
                exact jX (n47, n38) h (gr [0, 1, 2] rfl (hB rfl rfl rfl (hR rfl rfl (hB rfl rfl rfl .nil))) rfl)
              refine rn 15 rfl ?_
              refine spO 105 h rfl (fun hb54 h => ?_) (fun hb54 h => ?_)
              · refine rn 7 rfl ?_
                refine spO 112 h rfl (fun hb55 h => ?_) (fun hb55 h => ?_)
                · refine rn 7 rfl ?_
                  refine jK h (fun (p : Int) => (⟨[(1, (iV a2)), (2, (iV a3)), (11, (V.ptr 0 5 0 0)), (12, (V.lst 6 (y17.map encTWindow))), (13, (V.own 1 l24.length)), (15, (V.ptr 2 5 0 0)), (57, (iV a4)), (58, (iV n23)), (80, (V.lst 6 (y17.map encTWindow))), (81, (iV ((y17.length : Nat) : Int))), (82, (iV n36)), (92, (V.con undef)), (93, (V.con undef)), (94, (V.con undef)), (95, (V.con undef)), (96, (V.con undef)), (106, (V.ptr 3 6 0 4)), (107, (iV x43.To)), (108, (V.ptr 2 5 0 0)), (109, (iV (w64 (a2 + (w64 (n23 * a3)))))), (110, (bV (decide (x43.To ≥ (w64 (a2 + (w64 (n23 * a3)))))))), (113, (V.ptr 3 6 0 4)), (114, (iV x43.To)), (115, (V.ptr 2 5 0 1)), (116, (iV (w64 (a2 + (w64 ((w64 (n23 + 1)) * a3)))))), (117, (bV (decide (x43.To < (w64 (a2 + (w64 ((w64 (n23 + 1)) * a3))))))))], [(0, (Ob.arr 131 5 [(encTprovenderref11_view y15)])), (1, (Ob.arr 96 5 (l24.map encTTally))), (2, (Ob.arr 96 5 [[(iV (w64 (a2 + (w64 (n23 * a3))))), (iV (w64 (a2 + (w64 ((w64 (n23 + 1)) * a3))))), (iV ((y28.length : Nat) : Int)), (iV n37), (iV p)]])), (3, (Ob.arr 35 6 [(encTWindow x43)]))], 4⟩ : St)) (fun k56 (p : Int) => k56 p = some r) (fun k56 h => ?_) ?_
                  · refine spC h rfl (fun hb58 h => ?_) (fun hb58 h => ?_)
                    · refine rn 7 rfl ?_
                      exact jX (w64 (n38 + 1)) h (gr [0, 1, 2, 3] rfl (hB rfl rfl rfl (hR rfl rfl (hB rfl rfl rfl (hB rfl rfl rfl .nil)))) rfl)
                    refine rn 1 rfl ?_
                    exact jX n38 h (gr [0, 1, 2, 3] rfl (hB rfl rfl rfl (hR rfl rfl (hB rfl rfl rfl (hB rfl rfl rfl .nil)))) rfl)
                  intro n57 h
                  refine rn 1 rfl ?_
                  exact jX (n37, n57) h (gr [0, 1, 2] rfl (hB rfl rfl rfl (hR rfl rfl (hB rfl rfl rfl .nil))) rfl)
                refine rn 10 rfl ?_
                exact jX (n37, n38) h (gr [0, 1, 2] rfl (hB rfl rfl rfl (hR rfl rfl (hB rfl rfl rfl .nil))) rfl)
              refine rn 17 rfl ?_
              exact jX (n37, n38) h (gr [0, 1, 2] rfl (hB rfl rfl rfl (hR rfl rfl (hB rfl rfl rfl .nil))) rfl)
            rintro ⟨n41, n42⟩ h
            refine rn 4 rfl ?_
            exact jX ((w64 (n36 + 1)), n41, n42) (hk2 _ h) (gr [0, 1, 2] rfl (hB rfl rfl rfl (hR rfl rfl (hB rfl rfl rfl .nil))) rfl)
          replace h := RG.f h hb39
          unfold M61_L2 at h
          refine rn 1 rfl ?_
          exact jX (n37, n38) h (gr [0, 1, 2] rfl (hB rfl rfl rfl (hR rfl rfl (hB rfl rfl rfl .nil))) rfl)
        rintro ⟨n31, n32⟩ h
        refine rn 3 rfl ?_
        refine aops_buildSlice [(0, (V.agg [(iV (w64 (a2 + (w64 (n23 * a3))))), (iV (w64 (a2 + (w64 ((w64 (n23 + 1)) * a3))))), (iV ((y28.length : Nat) : Int)), (iV n31), (iV n32)]))] [[(iV (w64 (a2 + (w64 (n23 * a3))))), (iV (w64 (a2 + (w64 ((w64 (n23 + 1)) * a3))))), (iV ((y28.length : Nat) : Int)), (iV n31), (iV n32)]] tEl87 tZ96 rfl rfl rfl rfl wants_none (evp_cons rfl evp_nil) rfl rfl (by simp) rfl ?_
        refine fo ?_
        refine apO encTTally h rfl rfl rfl rfl rfl rfl rfl rfl (fun h => ?_)
        refine rn 3 rfl ?_
        exact jX (l24 ++ ([(TTally.mk (w64 (a2 + (w64 (n23 * a3)))) (w64 (a2 + (w64 ((w64 (n23 + 1)) * a3)))) ((y28.length : Nat) : Int) n31 n32)] : List TTally)) h (gr [0, 4] rfl (hB rfl rfl rfl (hR rfl rfl .nil)) rfl)
      intro l27 h
      refine rn 4 rfl ?_
      exact jX ((w64 (n23 + 1)), l27) (hk1 _ h) (gr [0, 1] rfl (hB rfl rfl rfl (hR rfl rfl .nil)) rfl)
    replace h := RC.f h hb25
    unfold M61_L1 at h
    refine rn 1 rfl ?_
    exact jX l24 h (gr [1] rfl (hR rfl rfl .nil) rfl)
  intro l20 h
  refine rn 6 rfl ?_
  refine awp_ghost (ghost_frzE 0 8 rfl (rows_imm imms_encTTally) rfl (List.length_map ..).symm) ?_
  refine fa ?_
  exact rt h rfl
theorem W144 (F : Nat) (a1 : List Int) (r : List Int) (h : M144 F a1 = some r) : Mut Try.prog 144 [(V.own 0 a1.length)] 1 [(0, (Ob.arr 3 1 (a1.map encI_i64)))] (resV []) 1 [(0, (Ob.arr 3 1 (r.map encI_i64)))] := by
  unfold M144 at h
  by_cases hc : a1.length < 4611686018427387904
  · rw [if_pos hc] at h
    replace h := Option.some.inj h
    subst h
    refine (mut_sort a1 (isort a1) rfl (List.length_mergeSort _) (fun w b cap hH hb => ?_) (fun w p h0 => ?_)).heap hget_one
    · exact Go.Proofs.Try.slices_Sort_int b 0 cap a1 w hH hb hc
    · refine (Go.Proofs.Try.slices_Sort_int_none p 0 w).mono ?_
      rintro e w' ⟨rfl, rfl⟩
      exact ⟨rfl, Go.RowKit.Below.refl _ _⟩
  · rw [if_neg hc] at h; simp at h
theorem W120 (F : Nat) (a1 : TStory) (a2 : Int) (r : (List Int)) (h : M120 F a1 a2 = some r) : Pure Try.prog 120 [(V.agg (encTStory a1)), (iV a2)] (V.lst 1 (r.map encI_i64)) := by
  refine pin (fun r => (V.lst 1 (r.map encI_i64))) r rfl Try.func120 rfl rfl rfl rfl rfl (fun w0 m0 => ?_)
  unfold M120 at h
  refine rn 13 rfl ?_
  refine cl h rfl rfl rfl (W98 _ _) rfl (fun y3 hx4 h => ?_)
  refine ln rfl rfl ?_
  refine rn 2 rfl ?_
  refine jK h (fun (p : (List Int)) => (⟨[(5, (V.own 0 p.length))], [(0, (Ob.arr 3 1 (p.map encI_i64)))], 1⟩ : St)) (fun k5 (p : (List Int)) => k5 p = some r) (fun k5 h => ?_) ?_
  · refine rn 1 rfl ?_
    refine wl (A := y3) 9 rfl (fun hA21 => ?_)
    refine lC (fun (p : Int × (List Int)) => (⟨[(1, (iV a2)), (5, (V.own 0 (p.2).length)), (9, (V.lst 6 (y3.map encTWindow))), (10, (iV ((y3.length : Nat) : Int))), (11, (iV (p.1)))], [(0, (Ob.arr 3 1 ((p.2).map encI_i64)))], 1⟩ : St)) (fun n (p : Int × (List Int)) => RG y3 (fun tl nn => M120_L1 F a2 k5 tl p.2 = some r) n p.1) (fun p h => RG.zero h) (y3.length + 1) (0, ([] : List Int)) (RG.start h) (Ghost.trans (ghost_nilE 5 3 1 rfl) (ghost_ren 1 (fun i => ([1] : List Nat).getD i 0) _ _ (by decide) (EnvSub.get (.cons (Sub.imm (Imm.con _)) (.cons (Sub.ownE rfl rfl (by simp)) (.cons (Sub.imm (Imm.lst _ _)) (.cons (Sub.imm (Imm.con _)) (.cons (Sub.imm (Imm.con _)) .nil)))))) (HpSub.get (.cons rfl (ObSub.rows (rows_imm imms_encI_i64)) .nil)) rfl)) (fun n p h => ?_)
    obtain ⟨n9, l10⟩ := p
    refine rn 5 rfl ?_
    refine spL rfl (fun hb11 => ?_) (fun hb11 => ?_)
    · obtain ⟨x14, tl, hx15, h, hk1⟩ := RG.t hA21 h hb11
      unfold M120_L1 at h
      refine rn 2 rfl ?_
      refine jK h (fun (p : (List Int)) => (⟨[(1, (iV a2)), (5, (V.own 0 p.length)), (9, (V.lst 6 (y3.map encTWindow))), (10, (iV ((y3.length : Nat) : Int))), (11, (iV n9))], [(0, (Ob.arr 3 1 (p.map encI_i64)))], 1⟩ : St)) (fun k12 (p : (List Int)) => k12 p = some r) (fun k12 h => ?_) ?_
      · refine rn 3 rfl ?_
        refine ixh hx15 rfl rfl ?_
        refine rn 10 rfl ?_
        refine spO 18 h rfl (fun hb16 h => ?_) (fun hb16 h => ?_)
        · refine rn 6 rfl ?_
          refine jK h (fun (p : (List Int)) => (⟨[(1, (iV a2)), (5, (V.own 0 p.length)), (9, (V.lst 6 (y3.map encTWindow))), (10, (iV ((y3.length : Nat) : Int))), (11, (iV n9)), (19, (V.ptr 1 6 0 2)), (20, (iV x14.Severity)), (21, (iV a2)), (22, (bV (decide (x14.Severity ≥ a2))))], [(0, (Ob.arr 3 1 (p.map encI_i64))), (1, (Ob.arr 35 6 [(encTWindow x14)]))], 2⟩ : St)) (fun k17 (p : (List Int)) => k17 p = some r) (fun k17 h => ?_) ?_
          · refine spC h rfl (fun hb19 h => ?_) (fun hb19 h => ?_)
            · refine rn 7 rfl ?_
              refine aops_buildSlice [(0, (iV (w64 (x14.To - x14.From))))] [[(iV (w64 (x14.To - x14.From)))]] tEl22 tZ3 rfl rfl rfl rfl wants_none (evp_cons rfl evp_nil) rfl rfl (by simp) rfl ?_
              refine fo ?_
              refine apO encI_i64 h rfl rfl rfl rfl rfl rfl rfl rfl (fun h => ?_)
              refine rn 2 rfl ?_
              exact jX (l10 ++ ([(w64 (x14.To - x14.From))] : List Int)) h (gr [3, 1] rfl (hR rfl rfl (hB rfl rfl rfl .nil)) rfl)
            refine rn 1 rfl ?_
            exact jX l10 h (gr [0, 1] rfl (hR rfl rfl (hB rfl rfl rfl .nil)) rfl)
          intro l18 h
          refine rn 1 rfl ?_
          exact jX l18 h (gr [0] rfl (hR rfl rfl .nil) rfl)
        refine rn 9 rfl ?_
        exact jX l10 h (gr [0] rfl (hR rfl rfl .nil) rfl)
      intro l13 h
      refine rn 4 rfl ?_
      exact jX ((w64 (n9 + 1)), l13) (hk1 _ h) (gr [0] rfl (hR rfl rfl .nil) rfl)
    replace h := RG.f h hb11
    unfold M120_L1 at h
    refine rn 1 rfl ?_
    exact jX l10 h (gr [0] rfl (hR rfl rfl .nil) rfl)
  intro l6 h
  obtain ⟨y22, hx23, h⟩ := bind_some h
  refine rn 3 rfl ?_
  refine ck h (fun hc24 h => ?_)
  refine aops_mcall (V.tup []) [(V.own 0 l6.length)] (fun i => ([0] : List Nat).getD i 0) (fun i => ([0] : List Nat).getD i 0) 1 1 [(0, (Ob.arr 3 1 (y22.map encI_i64)))] fOk144 wants_none rfl (evm_cons rfl evm_nil) (.cons (Sub.own rfl rfl) .nil) (.cons rfl (ObSub.rows (rows_imm imms_encI_i64)) .nil) (W144 F l6 y22 hx23) rfl rfl rfl rfl rfl (Sub.immT (Imm.tup .nil)) (.cons rfl (ObSub.rowsT (rows_imm imms_encI_i64)) .nil) ?_
  refine aops_ghost (ghost_tell 5 (V.own 0 y22.length) rfl (Sub.ownI hc24)) ?_
  refine aops_ghost (ghost_tell 33 (V.own 0 y22.length) rfl (Sub.ownI hc24)) ?_
  refine fo (rn 6 rfl ?_)
  refine awp_ghost (ghost_frzE 0 4 rfl (rows_imm imms_encI_i64) rfl (List.length_map ..).symm) ?_
  refine fa ?_
  exact rt h rfl
theorem W121 (F : Nat) (a1 : Int) (a2 : Int) (r : (Int × Int)) (h : M121 F a1 a2 = some r) : Pure Try.prog 121 [(iV a1), (iV a2)] (V.tup [(iV (r.1)), (iV (r.2))]) := by
  refine pin (fun r => (V.tup [(iV (r.1)), (iV (r.2))])) r rfl Try.func121 rfl rfl rfl rfl rfl (fun w0 m0 => ?_)
  unfold M121 at h
  refine rn 11 rfl ?_
  refine jK h (fun (p : Int × Int) => (⟨[(0, (iV (p.1))), (1, (iV (p.2)))], [], 0⟩ : St)) (fun k3 (p : Int × Int) => k3 p.1 p.2 = some r) (fun k3 h => ?_) ?_
  · refine spC h rfl (fun hb6 h => ?_) (fun hb6 h => ?_)
    · refine rn 8 rfl ?_
      exact jX ((w64 (0 - a1)), (w64 (0 - a2))) h (g0 rfl rfl)
    refine rn 1 rfl ?_
    exact jX (a1, a2) h (g0 rfl rfl)
  rintro ⟨n4, n5⟩ h
  refine rn 11 rfl ?_
  refine jK h (fun (p : Int) => (⟨[(0, (iV n4)), (1, (iV n5)), (6, (iV p))], [], 0⟩ : St)) (fun k7 (p : Int) => k7 p = some r) (fun k7 h => ?_) ?_
  · refine rn 1 rfl ?_
    refine lC (fun (p : Int × Int) => (⟨[(0, (iV n4)), (1, (iV n5)), (6, (iV (p.1))), (7, (iV (p.2)))], [], 0⟩ : St)) (fun n (p : Int × Int) => M121_L1 F k7 n p.1 p.2 = some r) (fun p h => by simp [M121_L1] at h) F ((if (w64 (0 - n4)) > n4 then (w64 (0 - n4)) else n4), n5) h (g0 rfl rfl) (fun n p h => ?_)
    obtain ⟨n11, n12⟩ := p
    unfold M121_L1 at h
    refine rn 6 rfl ?_
    refine spC h rfl (fun hb13 h => ?_) (fun hb13 h => ?_)
    · refine rn 2 rfl ?_
      refine ck h (fun hc14 h => ?_)
      refine dr mixed (vs 3 rfl (xD (OD.mk [(22, (iV n11)), (23, (iV n12))] [] [(24, (iV (Int.tmod n11 n12)))] []) ⟨⟨rfl, rfl, trivial⟩, trivial⟩ (by exact fun S hn h hh => aops_bin (.int .i64 (Int.tmod n11 n12)) wants_none h.1 h.2.1 (binS_rem hc14) rfl (aops_nil ⟨rfl, rfl⟩)) rfl (vs 2 rfl .nil))) (by kernel_rfl) ?_
      refine rn 1 rfl ?_
      exact jX (n12, (Int.tmod n11 n12)) h (g0 rfl rfl)
    refine rn 1 rfl ?_
    exact jX n11 h (g0 rfl rfl)
  intro n8 h
  refine rn 1 rfl ?_
  refine ck h (fun hc15 h => ?_)
  refine ck h (fun hc16 h => ?_)
  refine dr mixed (vs 2 rfl (xD (OD.mk [(25, (iV n4)), (26, (iV n8))] [] [(27, (iV (w64 (Int.tdiv n4 n8))))] []) ⟨⟨rfl, rfl, trivial⟩, trivial⟩ (by exact fun S hn h hh => aops_bin (.int .i64 (w64 (Int.tdiv n4 n8))) wants_none h.1 h.2.1 (binS_quo hc15) rfl (aops_nil ⟨rfl, rfl⟩)) rfl (vs 2 rfl (xD (OD.mk [(28, (iV n5)), (29, (iV n8))] [] [(30, (iV (w64 (Int.tdiv n5 n8))))] []) ⟨⟨rfl, rfl, trivial⟩, trivial⟩ (by exact fun S hn h hh => aops_bin (.int .i64 (w64 (Int.tdiv n5 n8))) wants_none h.1 h.2.1 (binS_quo hc16) rfl (aops_nil ⟨rfl, rfl⟩)) rfl (vs 2 rfl .nil))))) (by kernel_rfl) ?_
  exact rt h rfl
theorem W62 (F : Nat) (a1 : TStory) (a2 : Int) (r : (Int × Int × Int)) (h : M62 F a1 a2 = some r) : Pure Try.prog 62 [(V.agg (encTStory a1)), (iV a2)] (V.tup [(iV (r.1)), (iV (r.2.1)), (iV (r.2.2))]) := by
  refine pin (fun r => (V.tup [(iV (r.1)), (iV (r.2.1)), (iV (r.2.2))])) r rfl Try.func62 rfl rfl rfl rfl rfl (fun w0 m0 => ?_)
  unfold M62 at h
  refine rn 12 rfl ?_
  refine cl h rfl rfl rfl (W113 _ _ _ _ _) rfl (fun y3 hx4 h => ?_)
  refine rn 7 rfl ?_
  refine spC h rfl (fun hb5 h => ?_) (fun hb5 h => ?_)
  · refine rn 7 rfl ?_
    exact rt h rfl
  refine rn 5 rfl ?_
  refine cl h rfl rfl rfl (W120 _ _ _) rfl (fun y6 hx7 h => ?_)
  refine rn 6 rfl ?_
  refine ln rfl rfl ?_
  refine rn 2 rfl ?_
  refine spC h rfl (fun hb8 h => ?_) (fun hb8 h => ?_)
  · refine rn 6 rfl ?_
    exact rt h rfl
  refine rn 5 rfl ?_
  refine ln rfl rfl ?_
  refine rn 2 rfl ?_
  refine jK h (fun (p : Int) => (⟨[(4, (iV p)), (8, (V.lst 1 (y6.map encI_i64)))], [], 0⟩ : St)) (fun k9 (p : Int) => k9 p = some r) (fun k9 h => ?_) ?_
  · refine rn 1 rfl ?_
    refine wl (A := y6) 19 rfl (fun hA18 => ?_)
    refine lC (fun (p : Int × Int) => (⟨[(4, (iV (p.1))), (8, (V.lst 1 (y6.map encI_i64))), (23, (V.lst 1 (y6.map encI_i64))), (24, (iV ((y6.length : Nat) : Int))), (25, (iV (p.2)))], [], 0⟩ : St)) (fun n (p : Int × Int) => RG y6 (fun tl nn => M62_L1 F k9 tl p.1 = some r) n p.2) (fun p h => RG.zero h) (y6.length + 1) (0, 0) (RG.start h) (g0 rfl rfl) (fun n p h => ?_)
    obtain ⟨n13, n14⟩ := p
    refine rn 5 rfl ?_
    refine spL rfl (fun hb15 => ?_) (fun hb15 => ?_)
    · obtain ⟨x16, tl, hx17, h, hk1⟩ := RG.t hA18 h hb15
      unfold M62_L1 at h
      refine rn 5 rfl ?_
      refine ixh hx17 rfl rfl ?_
      refine rn 14 rfl ?_
      exact jX ((w64 (n13 + x16)), (w64 (n14 + 1))) (hk1 _ h) (g0 rfl rfl)
    replace h := RG.f h hb15
    unfold M62_L1 at h
    refine rn 1 rfl ?_
    exact jX n13 h (g0 rfl rfl)
  intro n10 h
  refine rn 4 rfl ?_
  refine ln rfl rfl ?_
  refine cl h rfl rfl rfl (W121 _ _ _) rfl (fun y19 hx20 h => ?_)
  refine rn 14 rfl ?_
  exact rt h rfl
theorem W122 (F : Nat) (a1 : TStory) (a2 : Int) (r : (List Int)) (h : M122 F a1 a2 = some r) : Pure Try.prog 122 [(V.agg (encTStory a1)), (iV a2)] (V.lst 1 (r.map encI_i64)) := by
  refine pin (fun r => (V.lst 1 (r.map encI_i64))) r rfl Try.func122 rfl rfl rfl rfl rfl (fun w0 m0 => ?_)
  unfold M122 at h
  refine rn 13 rfl ?_
  refine cl h rfl rfl rfl (W99 _ _) rfl (fun y3 hx4 h => ?_)
  refine ln rfl rfl ?_
  refine rn 2 rfl ?_
  refine jK h (fun (p : (List Int)) => (⟨[(5, (V.own 0 p.length))], [(0, (Ob.arr 3 1 (p.map encI_i64)))], 1⟩ : St)) (fun k5 (p : (List Int)) => k5 p = some r) (fun k5 h => ?_) ?_
  · refine rn 1 rfl ?_
    refine wl (A := y3) 9 rfl (fun hA21 => ?_)
    refine lC (fun (p : Int × (List Int)) => (⟨[(1, (iV a2)), (5, (V.own 0 (p.2).length)), (9, (V.lst 6 (y3.map encTWindow))), (10, (iV ((y3.length : Nat) : Int))), (11, (iV (p.1)))], [(0, (Ob.arr 3 1 ((p.2).map encI_i64)))], 1⟩ : St)) (fun n (p : Int × (List Int)) => RG y3 (fun tl nn => M122_L1 F a2 k5 tl p.2 = some r) n p.1) (fun p h => RG.zero h) (y3.length + 1) (0, ([] : List Int)) (RG.start h) (Ghost.trans (ghost_nilE 5 3 1 rfl) (ghost_ren 1 (fun i => ([1] : List Nat).getD i 0) _ _ (by decide) (EnvSub.get (.cons (Sub.imm (Imm.con _)) (.cons (Sub.ownE rfl rfl (by simp)) (.cons (Sub.imm (Imm.lst _ _)) (.cons (Sub.imm (Imm.con _)) (.cons (Sub.imm (Imm.con _)) .nil)))))) (HpSub.get (.cons rfl (ObSub.rows (rows_imm imms_encI_i64)) .nil)) rfl)) (fun n p h => ?_)
    obtain ⟨n9, l10⟩ := p
    refine rn 5 rfl ?_
    refine spL rfl (fun hb11 => ?_) (fun hb11 => ?_)
    · obtain ⟨x14, tl, hx15, h, hk1⟩ := RG.t hA21 h hb11
      unfold M122_L1 at h
      refine rn 2 rfl ?_
      refine jK h (fun (p : (List Int)) => (⟨[(1, (iV a2)), (5, (V.own 0 p.length)), (9, (V.lst 6 (y3.map encTWindow))), (10, (iV ((y3.length : Nat) : Int))), (11, (iV n9))], [(0, (Ob.arr 3 1 (p.map encI_i64)))], 1⟩ : St)) (fun k12 (p : (List Int)) => k12 p = some r) (fun k12 h => ?_) ?_
      · refine rn 3 rfl ?_
        refine ixh hx15 rfl rfl ?_
        refine rn 10 rfl ?_
        refine spO 18 h rfl (fun hb16 h => ?_) (fun hb16 h => ?_)
        · refine rn 6 rfl ?_
          refine jK h (fun (p : (List Int)) => (⟨[(1, (iV a2)), (5, (V.own 0 p.length)), (9, (V.lst 6 (y3.map encTWindow))), (10, (iV ((y3.length : Nat) : Int))), (11, (iV n9)), (19, (V.ptr 1 6 0 2)), (20, (iV x14.Severity)), (21, (iV a2)), (22, (bV (decide (x14.Severity ≥ a2))))], [(0, (Ob.arr 3 1 (p.map encI_i64))), (1, (Ob.arr 35 6 [(encTWindow x14)]))], 2⟩ : St)) (fun k17 (p : (List Int)) => k17 p = some r) (fun k17 h => ?_) ?_
          · refine spC h rfl (fun hb19 h => ?_) (fun hb19 h => ?_)
            · refine rn 7 rfl ?_
              refine aops_buildSlice [(0, (iV (w64 (x14.To - x14.From))))] [[(iV (w64 (x14.To - x14.From)))]] tEl22 tZ3 rfl rfl rfl rfl wants_none (evp_cons rfl evp_nil) rfl rfl (by simp) rfl ?_
              refine fo ?_
              refine apO encI_i64 h rfl rfl rfl rfl rfl rfl rfl rfl (fun h => ?_)
              refine rn 2 rfl ?_
              exact jX (l10 ++ ([(w64 (x14.To - x14.From))] : List Int)) h (gr [3, 1] rfl (hR rfl rfl (hB rfl rfl rfl .nil)) rfl)
            refine rn 1 rfl ?_
            exact jX l10 h (gr [0, 1] rfl (hR rfl rfl (hB rfl rfl rfl .nil)) rfl)
          intro l18 h
          refine rn 1 rfl ?_
          exact jX l18 h (gr [0] rfl (hR rfl rfl .nil) rfl)
        refine rn 9 rfl ?_
        exact jX l10 h (gr [0] rfl (hR rfl rfl .nil) rfl)
      intro l13 h
      refine rn 4 rfl ?_
      exact jX ((w64 (n9 + 1)), l13) (hk1 _ h) (gr [0] rfl (hR rfl rfl .nil) rfl)
    replace h := RG.f h hb11
    unfold M122_L1 at h
    refine rn 1 rfl ?_
    exact jX l10 h (gr [0] rfl (hR rfl rfl .nil) rfl)
  intro l6 h
  refine rn 5 rfl ?_
  refine awp_ghost (ghost_frzE 0 4 rfl (rows_imm imms_encI_i64) rfl (List.length_map ..).symm) ?_
  refine fa ?_
  exact rt h rfl
theorem W145 (F : Nat) (a1 : Int) (a2 : Int) (r : Int) (h : M145 F a1 a2 = some r) : Pure Try.prog 145 [(iV a1), (iV a2)] (iV r) := by
  refine pin (fun r => (iV r)) r rfl Try.func145 rfl rfl rfl rfl rfl (fun w0 m0 => ?_)
  unfold M145 at h
  refine rn 5 rfl ?_
  refine jK h (fun (p : Int) => (⟨[(0, (iV p))], [], 0⟩ : St)) (fun k3 (p : Int) => k3 p = some r) (fun k3 h => ?_) ?_
  · refine rn 1 rfl ?_
    refine lC (fun (p : Int × Int) => (⟨[(0, (iV (p.1))), (1, (iV (p.2)))], [], 0⟩ : St)) (fun n (p : Int × Int) => M145_L1 F k3 n p.1 p.2 = some r) (fun p h => by simp [M145_L1] at h) F (a1, a2) h (g0 rfl rfl) (fun n p h => ?_)
    obtain ⟨n7, n8⟩ := p
    unfold M145_L1 at h
    refine rn 6 rfl ?_
    refine spC h rfl (fun hb9 h => ?_) (fun hb9 h => ?_)
    · refine rn 2 rfl ?_
      refine ck h (fun hc10 h => ?_)
      refine dr mixed (vs 3 rfl (xD (OD.mk [(8, (iV n7)), (9, (iV n8))] [] [(10, (iV (Int.tmod n7 n8)))] []) ⟨⟨rfl, rfl, trivial⟩, trivial⟩ (by exact fun S hn h hh => aops_bin (.int .i64 (Int.tmod n7 n8)) wants_none h.1 h.2.1 (binS_rem hc10) rfl (aops_nil ⟨rfl, rfl⟩)) rfl (vs 2 rfl .nil))) (by kernel_rfl) ?_
      refine rn 1 rfl ?_
      exact jX (n8, (Int.tmod n7 n8)) h (g0 rfl rfl)
    refine rn 1 rfl ?_
    exact jX n7 h (g0 rfl rfl)
  intro n4 h
  refine rn 5 rfl ?_
  exact rt h rfl
theorem W123 (F : Nat) (a1 : Int) (a2 : Int) (r : (Int × Int)) (h : M123 F a1 a2 = some r) : Pure Try.prog 123 [(iV a1), (iV a2)] (V.tup [(iV (r.1)), (iV (r.2))]) := by
  refine pin (fun r => (V.tup [(iV (r.1)), (iV (r.2))])) r rfl Try.func123 rfl rfl rfl rfl rfl (fun w0 m0 => ?_)
  unfold M123 at h
  refine rn 12 rfl ?_
  refine cl h rfl rfl rfl (W145 _ _ _) rfl (fun y3 hx4 h => ?_)
  refine rn 3 rfl ?_
  refine ck h (fun hc5 h => ?_)
  refine ck h (fun hc6 h => ?_)
  refine dr mixed (vs 2 rfl (xD (OD.mk [(13, (iV a1)), (14, (iV y3))] [] [(15, (iV (w64 (Int.tdiv a1 y3))))] []) ⟨⟨rfl, rfl, trivial⟩, trivial⟩ (by exact fun S hn h hh => aops_bin (.int .i64 (w64 (Int.tdiv a1 y3))) wants_none h.1 h.2.1 (binS_quo hc5) rfl (aops_nil ⟨rfl, rfl⟩)) rfl (vs 2 rfl (xD (OD.mk [(16, (iV a2)), (17, (iV y3))] [] [(18, (iV (w64 (Int.tdiv a2 y3))))] []) ⟨⟨rfl, rfl, trivial⟩, trivial⟩ (by exact fun S hn h hh => aops_bin (.int .i64 (w64 (Int.tdiv a2 y3))) wants_none h.1 h.2.1 (binS_quo hc6) rfl (aops_nil ⟨rfl, rfl⟩)) rfl (vs 2 rfl .nil))))) (by kernel_rfl) ?_
  exact rt h rfl
theorem W63 (F : Nat) (a1 : TStory) (a2 : Int) (r : (Int × Int × Int)) (h : M63 F a1 a2 = some r) : Pure Try.prog 63 [(V.agg (encTStory a1)), (iV a2)] (V.tup [(iV (r.1)), (iV (r.2.1)), (iV (r.2.2))]) := by
  refine pin (fun r => (V.tup [(iV (r.1)), (iV (r.2.1)), (iV (r.2.2))])) r rfl Try.func63 rfl rfl rfl rfl rfl (fun w0 m0 => ?_)
  unfold M63 at h
  refine rn 11 rfl ?_
  refine cl h rfl rfl rfl (W36 _ _) rfl (fun y3 hx4 h => ?_)
  refine rn 7 rfl ?_
  refine spC h rfl (fun hb5 h => ?_) (fun hb5 h => ?_)
  · refine rn 7 rfl ?_
    exact rt h rfl
  refine rn 5 rfl ?_
  refine cl h rfl rfl rfl (W117 _ _) rfl (fun y6 hx7 h => ?_)
  refine rn 1 rfl ?_
  refine spC h rfl (fun hb8 h => ?_) (fun hb8 h => ?_)
  · refine rn 6 rfl ?_
    exact rt h rfl
  refine rn 5 rfl ?_
  refine cl h rfl rfl rfl (W122 _ _ _) rfl (fun y9 hx10 h => ?_)
  refine rn 6 rfl ?_
  refine ln rfl rfl ?_
  refine rn 2 rfl ?_
  refine spC h rfl (fun hb11 h => ?_) (fun hb11 h => ?_)
  · refine rn 6 rfl ?_
    exact rt h rfl
  refine rn 9 rfl ?_
  refine ln rfl rfl ?_
  refine rn 2 rfl ?_
  refine jK h (fun (p : Int) => (⟨[(8, (V.lst 1 (y9.map encI_i64))), (9, (iV p))], [], 0⟩ : St)) (fun k12 (p : Int) => k12 p = some r) (fun k12 h => ?_) ?_
  · refine rn 1 rfl ?_
    refine wl (A := y9) 21 rfl (fun hA21 => ?_)
    refine lC (fun (p : Int × Int) => (⟨[(8, (V.lst 1 (y9.map encI_i64))), (9, (iV (p.1))), (25, (V.lst 1 (y9.map encI_i64))), (26, (iV ((y9.length : Nat) : Int))), (27, (iV (p.2)))], [], 0⟩ : St)) (fun n (p : Int × Int) => RG y9 (fun tl nn => M63_L1 F k12 tl p.1 = some r) n p.2) (fun p h => RG.zero h) (y9.length + 1) (0, 0) (RG.start h) (g0 rfl rfl) (fun n p h => ?_)
    obtain ⟨n16, n17⟩ := p
    refine rn 5 rfl ?_
    refine spL rfl (fun hb18 => ?_) (fun hb18 => ?_)
    · obtain ⟨x19, tl, hx20, h, hk1⟩ := RG.t hA21 h hb18
      unfold M63_L1 at h
      refine rn 5 rfl ?_
      refine ixh hx20 rfl rfl ?_
      refine rn 14 rfl ?_
      exact jX ((w64 (n16 + x19)), (w64 (n17 + 1))) (hk1 _ h) (g0 rfl rfl)
    replace h := RG.f h hb18
    unfold M63_L1 at h
    refine rn 1 rfl ?_
    exact jX n16 h (g0 rfl rfl)
  intro n13 h
  refine rn 4 rfl ?_
  refine ln rfl rfl ?_
  refine cl h rfl rfl rfl (W123 _ _ _) rfl (fun y22 hx23 h => ?_)
  refine rn 14 rfl ?_
  exact rt h rfl
theorem W64 (F : Nat) (a1 : TStory) (a2 : Int) (r : (Int × Bool × Int)) (h : M64 F a1 a2 = some r) : Pure Try.prog 64 [(V.agg (encTStory a1)), (iV a2)] (V.tup [(iV (r.1)), (bV (r.2.1)), (iV (r.2.2))]) := by
  refine pin (fun r => (V.tup [(iV (r.1)), (bV (r.2.1)), (iV (r.2.2))])) r rfl Try.func64 rfl rfl rfl rfl rfl (fun w0 m0 => ?_)
  unfold M64 at h
  refine rn 12 rfl ?_
  refine cl h rfl rfl rfl (W113 _ _ _ _ _) rfl (fun y3 hx4 h => ?_)
  refine rn 7 rfl ?_
  refine spC h rfl (fun hb5 h => ?_) (fun hb5 h => ?_)
  · refine rn 7 rfl ?_
    exact rt h rfl
  refine rn 5 rfl ?_
  refine cl h rfl rfl rfl (W120 _ _ _) rfl (fun y6 hx7 h => ?_)
  refine rn 6 rfl ?_
  refine ln rfl rfl ?_
  refine rn 2 rfl ?_
  refine spC h rfl (fun hb8 h => ?_) (fun hb8 h => ?_)
  · refine rn 6 rfl ?_
    exact rt h rfl
  refine rn 5 rfl ?_
  refine ln rfl rfl ?_
  refine rn 2 rfl ?_
  refine ixl h rfl rfl (fun x9 hx10 h => ?_)
  refine rn 5 rfl ?_
  exact rt h rfl
theorem W65 (F : Nat) (a1 : TStory) (a2 : Int) (r : (Int × Bool × Int)) (h : M65 F a1 a2 = some r) : Pure Try.prog 65 [(V.agg (encTStory a1)), (iV a2)] (V.tup [(iV (r.1)), (bV (r.2.1)), (iV (r.2.2))]) := by
  refine pin (fun r => (V.tup [(iV (r.1)), (bV (r.2.1)), (iV (r.2.2))])) r rfl Try.func65 rfl rfl rfl rfl rfl (fun w0 m0 => ?_)
  unfold M65 at h
  refine rn 11 rfl ?_
  refine cl h rfl rfl rfl (W36 _ _) rfl (fun y3 hx4 h => ?_)
  refine rn 7 rfl ?_
  refine spC h rfl (fun hb5 h => ?_) (fun hb5 h => ?_)
  · refine rn 7 rfl ?_
    exact rt h rfl
  refine rn 5 rfl ?_
  refine cl h rfl rfl rfl (W117 _ _) rfl (fun y6 hx7 h => ?_)
  refine rn 1 rfl ?_
  refine spC h rfl (fun hb8 h => ?_) (fun hb8 h => ?_)
  · refine rn 6 rfl ?_
    exact rt h rfl
  refine rn 5 rfl ?_
  refine cl h rfl rfl rfl (W122 _ _ _) rfl (fun y9 hx10 h => ?_)
  refine rn 6 rfl ?_
  refine ln rfl rfl ?_
  refine rn 2 rfl ?_
  refine jK h (fun _ : Unit => (⟨[], [], 0⟩ : St)) (fun k11 (_ : Unit) => k11 = some r) (fun k11 h => ?_) ?_
  · refine rn 1 rfl ?_
    refine wl (A := y9) 25 rfl (fun hA39 => ?_)
    refine lC (fun (p : Int) => (⟨[(8, (V.lst 1 (y9.map encI_i64))), (26, (V.lst 1 (y9.map encI_i64))), (27, (iV ((y9.length : Nat) : Int))), (28, (iV p))], [], 0⟩ : St)) (fun n (p : Int) => RG y9 (fun tl nn => M65_L1 F y9 k11 tl = some r) n p) (fun p h => RG.zero h) (y9.length + 1) 0 (RG.start h) (g0 rfl rfl) (fun n n13 h => ?_)
    refine rn 5 rfl ?_
    refine spL rfl (fun hb14 => ?_) (fun hb14 => ?_)
    · obtain ⟨x16, tl, hx17, h, hk1⟩ := RG.t hA39 h hb14
      unfold M65_L1 at h
      refine rn 2 rfl ?_
      refine jK h (fun _ : Unit => (⟨[(8, (V.lst 1 (y9.map encI_i64))), (26, (V.lst 1 (y9.map encI_i64))), (27, (iV ((y9.length : Nat) : Int))), (28, (iV n13))], [], 0⟩ : St)) (fun k15 (_ : Unit) => k15 = some r) (fun k15 h => ?_) ?_
      · refine rn 3 rfl ?_
        refine ixh hx17 rfl rfl ?_
        refine rn 12 rfl ?_
        refine ln rfl rfl ?_
        refine rn 2 rfl ?_
        refine jK h (fun (p : Int × Int) => (⟨[(8, (V.lst 1 (y9.map encI_i64))), (10, (iV x16)), (11, (iV (p.1))), (12, (iV (p.2))), (26, (V.lst 1 (y9.map encI_i64))), (27, (iV ((y9.length : Nat) : Int))), (28, (iV n13))], [], 0⟩ : St)) (fun k18 (p : Int × Int) => k18 p.1 p.2 = some r) (fun k18 h => ?_) ?_
        · refine rn 1 rfl ?_
          refine wl (A := y9) 8 rfl (fun hA36 => ?_)
          refine lC (fun (p : Int × Int × Int) => (⟨[(8, (V.lst 1 (y9.map encI_i64))), (10, (iV x16)), (11, (iV (p.1))), (12, (iV (p.2.1))), (26, (V.lst 1 (y9.map encI_i64))), (27, (iV ((y9.length : Nat) : Int))), (28, (iV n13)), (32, (V.lst 1 (y9.map encI_i64))), (33, (iV ((y9.length : Nat) : Int))), (34, (iV (p.2.2)))], [], 0⟩ : St)) (fun n (p : Int × Int × Int) => RG y9 (fun tl nn => M65_L2 F x16 k18 tl p.1 p.2.1 = some r) n p.2.2) (fun p h => RG.zero h) (y9.length + 1) (0, 0, 0) (RG.start h) (g0 rfl rfl) (fun n p h => ?_)
          obtain ⟨n24, n25, n26⟩ := p
          refine rn 5 rfl ?_
          refine spL rfl (fun hb27 => ?_) (fun hb27 => ?_)
          · obtain ⟨x28, tl, hx29, h, hk2⟩ := RG.t hA36 h hb27
            unfold M65_L2 at h
            refine rn 5 rfl ?_
            refine ixh hx29 rfl rfl ?_
            refine rn 10 rfl ?_
            refine jK h (fun (p : Int) => (⟨[(8, (V.lst 1 (y9.map encI_i64))), (10, (iV x16)), (11, (iV p)), (12, (iV n25)), (14, (iV x28)), (26, (V.lst 1 (y9.map encI_i64))), (27, (iV ((y9.length : Nat) : Int))), (28, (iV n13)), (32, (V.lst 1 (y9.map encI_i64))), (33, (iV ((y9.length : Nat) : Int))), (34, (iV n26))], [], 0⟩ : St)) (fun k30 (p : Int) => k30 p = some r) (fun k30 h => ?_) ?_
            · refine spC h rfl (fun hb32 h => ?_) (fun hb32 h => ?_)
              · refine rn 5 rfl ?_
                exact jX (w64 (n24 + 1)) h (g0 rfl rfl)
              refine rn 1 rfl ?_
              exact jX n24 h (g0 rfl rfl)
            intro n31 h
            refine rn 6 rfl ?_
            refine jK h (fun (p : Int) => (⟨[(8, (V.lst 1 (y9.map encI_i64))), (10, (iV x16)), (11, (iV n31)), (12, (iV p)), (26, (V.lst 1 (y9.map encI_i64))), (27, (iV ((y9.length : Nat) : Int))), (28, (iV n13)), (32, (V.lst 1 (y9.map encI_i64))), (33, (iV ((y9.length : Nat) : Int))), (34, (iV n26))], [], 0⟩ : St)) (fun k33 (p : Int) => k33 p = some r) (fun k33 h => ?_) ?_
            · refine spC h rfl (fun hb35 h => ?_) (fun hb35 h => ?_)
              · refine rn 5 rfl ?_
                exact jX (w64 (n25 + 1)) h (g0 rfl rfl)
              refine rn 1 rfl ?_
              exact jX n25 h (g0 rfl rfl)
            intro n34 h
            refine rn 5 rfl ?_
            exact jX (n31, n34, (w64 (n26 + 1))) (hk2 _ h) (g0 rfl rfl)
          replace h := RG.f h hb27
          unfold M65_L2 at h
          refine rn 1 rfl ?_
          exact jX (n24, n25) h (g0 rfl rfl)
        rintro ⟨n19, n20⟩ h
        refine rn 3 rfl ?_
        refine ln rfl rfl ?_
        refine rn 10 rfl ?_
        refine spO 56 h rfl (fun hb37 h => ?_) (fun hb37 h => ?_)
        · refine rn 7 rfl ?_
          refine spC h rfl (fun hb38 h => ?_) (fun hb38 h => ?_)
          · refine rn 7 rfl ?_
            exact rt h rfl
          refine rn 2 rfl ?_
          exact jX () h (g0 rfl rfl)
        refine rn 10 rfl ?_
        exact jX () h (g0 rfl rfl)
      intro _ h
      refine rn 4 rfl ?_
      exact jX (w64 (n13 + 1)) (hk1 _ h) (g0 rfl rfl)
    replace h := RG.f h hb14
    unfold M65_L1 at h
    refine rn 1 rfl ?_
    exact jX () h (g0 rfl rfl)
  intro _ h
  refine rn 6 rfl ?_
  exact rt h rfl
theorem W124 (F : Nat) (a1 : (List Thistory_piece)) (a2 : Int) (a3 : Int) (r : (List Int)) (h : M124 F a1 a2 a3 = some r) : Pure Try.prog 124 [(V.lst 5 (a1.map encThistory_piece)), (iV a2), (iV a3)] (V.lst 1 (r.map encI_i64)) := by
  refine pin (fun r => (V.lst 1 (r.map encI_i64))) r rfl Try.func124 rfl rfl rfl rfl rfl (fun w0 m0 => ?_)
  unfold M124 at h
  refine rn 9 rfl ?_
  refine ck h (fun hc4 h => ?_)
  refine aops_makeSlice (ln := (List.replicate ((w64 (a3 - a2))).toNat (0 : Int)).length) ((List.replicate ((w64 (a3 - a2))).toNat (0 : Int)).map encI_i64) tEl22 tZ3 rfl rfl hc4 List.map_replicate List.length_replicate wants_none rfl rfl ?_
  refine fo (rn 6 rfl ?_)
  refine ln rfl rfl ?_
  refine rn 2 rfl ?_
  refine jK h (fun (p : (List Int)) => (⟨[(7, (V.own 0 p.length))], [(0, (Ob.arr 3 1 (p.map encI_i64)))], 1⟩ : St)) (fun k5 (p : (List Int)) => k5 p = some r) (fun k5 h => ?_) ?_
  · refine rn 1 rfl ?_
    refine wl (A := a1) 0 rfl (fun hA27 => ?_)
    refine lC (fun (p : Int × (List Int)) => (⟨[(1, (iV a2)), (2, (iV a3)), (7, (V.own 0 (p.2).length)), (15, (V.lst 5 (a1.map encThistory_piece))), (16, (iV ((a1.length : Nat) : Int))), (17, (iV (p.1)))], [(0, (Ob.arr 3 1 ((p.2).map encI_i64)))], 1⟩ : St)) (fun n (p : Int × (List Int)) => RG a1 (fun tl nn => M124_L1 F a2 a3 k5 tl p.2 = some r) n p.1) (fun p h => RG.zero h) (a1.length + 1) (0, (List.replicate ((w64 (a3 - a2))).toNat (0 : Int))) (RG.start h) (gr [0] rfl (hR rfl rfl .nil) rfl) (fun n p h => ?_)
    obtain ⟨n9, l10⟩ := p
    refine rn 5 rfl ?_
    refine spL rfl (fun hb11 => ?_) (fun hb11 => ?_)
    · obtain ⟨x14, tl, hx15, h, hk1⟩ := RG.t hA27 h hb11
      unfold M124_L1 at h
      refine rn 2 rfl ?_
      refine jK h (fun (p : (List Int)) => (⟨[(1, (iV a2)), (2, (iV a3)), (7, (V.own 0 p.length)), (15, (V.lst 5 (a1.map encThistory_piece))), (16, (iV ((a1.length : Nat) : Int))), (17, (iV n9))], [(0, (Ob.arr 3 1 (p.map encI_i64)))], 1⟩ : St)) (fun k12 (p : (List Int)) => k12 p = some r) (fun k12 h => ?_) ?_
      · refine rn 3 rfl ?_
        refine ixh hx15 rfl rfl ?_
        refine rn 12 rfl ?_
        refine jK h (fun (p : (List Int)) => (⟨[(1, (iV a2)), (2, (iV a3)), (7, (V.own 0 p.length)), (15, (V.lst 5 (a1.map encThistory_piece))), (16, (iV ((a1.length : Nat) : Int))), (17, (iV n9))], [(0, (Ob.arr 3 1 (p.map encI_i64)))], 1⟩ : St)) (fun k16 (p : (List Int)) => k16 p = some r) (fun k16 h => ?_) ?_
        · refine rn 1 rfl ?_
          refine lC (fun (p : Int × (List Int)) => (⟨[(1, (iV a2)), (2, (iV a3)), (7, (V.own 0 (p.2).length)), (9, (V.ptr 1 5 0 0)), (10, (iV (p.1))), (15, (V.lst 5 (a1.map encThistory_piece))), (16, (iV ((a1.length : Nat) : Int))), (17, (iV n9))], [(0, (Ob.arr 3 1 ((p.2).map encI_i64))), (1, (Ob.arr 128 5 [(encThistory_piece x14)]))], 2⟩ : St)) (fun n (p : Int × (List Int)) => M124_L2 F a2 a3 x14 k16 n p.1 p.2 = some r) (fun p h => by simp [M124_L2] at h) F ((if x14.from_ > a2 then x14.from_ else a2), l10) h (gr [0, 1] rfl (hR rfl rfl (hB rfl rfl rfl .nil)) rfl) (fun n p h => ?_)
          obtain ⟨n20, l21⟩ := p
          unfold M124_L2 at h
          refine rn 10 rfl ?_
          refine spC h rfl (fun hb22 h => ?_) (fun hb22 h => ?_)
          · refine rn 8 rfl ?_
            refine ixo (a := l21) h rfl rfl rfl (fun x23 hx24 h => ?_)
            refine ldp hx24 rfl rfl rfl rfl ?_
            refine rn 1 rfl ?_
            refine ixo (a := l21) h rfl rfl rfl (fun x25 hx26 h => ?_)
            refine stS (w64 (x23 + 1)) hx26 rfl rfl rfl rfl rfl rfl ?_
            refine rn 7 rfl ?_
            exact jX ((w64 (n20 + 1)), (l21.set (w64 (n20 - a2)).toNat (w64 (x23 + 1)))) h (ghost_ren 2 (fun i => ([0, 1] : List Nat).getD i 0) _ _ (by decide) (EnvSub.get (.cons (Sub.imm (Imm.con _)) (.cons (Sub.imm (Imm.con _)) (.cons (Sub.ownE rfl rfl (by simp)) (.cons (Sub.ptr rfl rfl) (.cons (Sub.imm (Imm.con _)) (.cons (Sub.imm (Imm.lst _ _)) (.cons (Sub.imm (Imm.con _)) (.cons (Sub.imm (Imm.con _)) .nil))))))))) (HpSub.get (.cons rfl (ObSub.rows (rows_imm imms_encI_i64)) (.cons rfl (ObSub.box (.cons (Sub.imm (Imm.con _)) (.cons (Sub.imm (Imm.con _)) (.cons (Sub.imm (Imm.con _)) (.cons (Sub.imm (Imm.con _)) (.cons (Sub.imm (Imm.con _)) .nil)))))) .nil))) rfl)
          refine rn 1 rfl ?_
          exact jX l21 h (gr [0] rfl (hR rfl rfl .nil) rfl)
        intro l17 h
        refine rn 1 rfl ?_
        exact jX l17 h (gr [0] rfl (hR rfl rfl .nil) rfl)
      intro l13 h
      refine rn 4 rfl ?_
      exact jX ((w64 (n9 + 1)), l13) (hk1 _ h) (gr [0] rfl (hR rfl rfl .nil) rfl)
    replace h := RG.f h hb11
    unfold M124_L1 at h
    refine rn 1 rfl ?_
    exact jX l10 h (gr [0] rfl (hR rfl rfl .nil) rfl)
  intro l6 h
  refine rn 5 rfl ?_
  refine awp_ghost (ghost_frzE 0 6 rfl (rows_imm imms_encI_i64) rfl (List.length_map ..).symm) ?_
  refine fa ?_
  exact rt h rfl
theorem W66 (F : Nat) (a1 : TStory) (a2 : Int) (a3 : Int) (r : (Int × Int × Int)) (h : M66 F a1 a2 a3 = some r) : Pure Try.prog 66 [(V.agg (encTStory a1)), (iV a2), (iV a3)] (V.tup [(iV (r.1)), (iV (r.2.1)), (iV (r.2.2))]) := by
  refine pin (fun r => (V.tup [(iV (r.1)), (iV (r.2.1)), (iV (r.2.2))])) r rfl Try.func66 rfl rfl rfl rfl rfl (fun w0 m0 => ?_)
  unfold M66 at h
  refine rn 13 rfl ?_
  refine cl h rfl rfl rfl (W113 _ _ _ _ _) rfl (fun y4 hx5 h => ?_)
  refine rn 7 rfl ?_
  refine spC h rfl (fun hb6 h => ?_) (fun hb6 h => ?_)
  · refine rn 7 rfl ?_
    exact rt h rfl
  refine rn 9 rfl ?_
  refine spC h rfl (fun hb7 h => ?_) (fun hb7 h => ?_)
  · refine rn 6 rfl ?_
    exact rt h rfl
  refine rn 14 rfl ?_
  refine spC h rfl (fun hb8 h => ?_) (fun hb8 h => ?_)
  · refine rn 6 rfl ?_
    exact rt h rfl
  refine rn 4 rfl ?_
  refine cl h rfl rfl rfl (W90 _ _) rfl (fun y9 hx10 h => ?_)
  refine rn 2 rfl ?_
  refine cl h rfl rfl rfl (W124 _ _ _ _) rfl (fun y11 hx12 h => ?_)
  refine rn 15 rfl ?_
  refine jK h (fun (p : Int × Int × Int × Int) => (⟨[(10, (iV (w64 (a3 - a2)))), (12, (iV (p.1))), (13, (iV (p.2.1))), (14, (iV (p.2.2.1))), (15, (iV (p.2.2.2)))], [], 0⟩ : St)) (fun k13 (p : Int × Int × Int × Int) => k13 p.1 p.2.1 p.2.2.1 p.2.2.2 = some r) (fun k13 h => ?_) ?_
  · refine rn 1 rfl ?_
    refine ck h (fun hA33 h => ?_)
    refine lC (fun (p : Int × Int × Int × Int × Int) => (⟨[(10, (iV (w64 (a3 - a2)))), (11, (V.lst 1 (y11.map encI_i64))), (12, (iV (p.1))), (13, (iV (p.2.1))), (14, (iV (p.2.2.1))), (15, (iV (p.2.2.2.1))), (38, (iV (w64 (a3 - a2)))), (39, (iV (p.2.2.2.2)))], [], 0⟩ : St)) (fun n (p : Int × Int × Int × Int × Int) => RC (w64 (a3 - a2)) (fun tl nn => M66_L1 F y11 k13 tl nn p.1 p.2.1 p.2.2.1 p.2.2.2.1 = some r) n p.2.2.2.2) (fun p h => RC.zero h) (Int.toNat (w64 (a3 - a2)) + 1) (0, 0, 0, 0, 0) (RC.start h) (g0 rfl rfl) (fun n p h => ?_)
    obtain ⟨n23, n24, n25, n26, n27⟩ := p
    refine rn 5 rfl ?_
    refine spL rfl (fun hb28 => ?_) (fun hb28 => ?_)
    · obtain ⟨tl, h, hk1⟩ := RC.t hA33 h hb28
      unfold M66_L1 at h
      obtain ⟨x29, hx30, h⟩ := bind_some h
      obtain ⟨x31, hx32, h⟩ := bind_some h
      refine rn 8 rfl ?_
      refine dr mixed (vs 6 rfl (iD hx30 rfl rfl rfl (vs 11 rfl (iD hx32 rfl rfl rfl (vs 7 rfl .nil))))) (by kernel_rfl) ?_
      refine rn 5 rfl ?_
      exact jX ((w64 (n23 + n27)), (w64 (n24 + x29)), (w64 (n25 + (w64 (n27 * n27)))), (w64 (n26 + (w64 (n27 * x31)))), (w64 (n27 + 1))) (hk1 _ h) (g0 rfl rfl)
    replace h := RC.f h hb28
    unfold M66_L1 at h
    refine rn 1 rfl ?_
    exact jX (n23, n24, n25, n26) h (g0 rfl rfl)
  rintro ⟨n14, n15, n16, n17⟩ h
  refine rn 16 rfl ?_
  refine cl h rfl rfl rfl (W121 _ _ _) rfl (fun y34 hx35 h => ?_)
  refine rn 14 rfl ?_
  exact rt h rfl
theorem W67 (F : Nat) (a1 : TStory) (a2 : Int) (a3 : Int) (r : (Int × Int × Int)) (h : M67 F a1 a2 a3 = some r) : Pure Try.prog 67 [(V.agg (encTStory a1)), (iV a2), (iV a3)] (V.tup [(iV (r.1)), (iV (r.2.1)), (iV (r.2.2))]) := by
  refine pin (fun r => (V.tup [(iV (r.1)), (iV (r.2.1)), (iV (r.2.2))])) r rfl Try.func67 rfl rfl rfl rfl rfl (fun w0 m0 => ?_)
  unfold M67 at h
  refine rn 11 rfl ?_
  refine cl h rfl rfl rfl (W36 _ _) rfl (fun y4 hx5 h => ?_)
  refine rn 7 rfl ?_
  refine spC h rfl (fun hb6 h => ?_) (fun hb6 h => ?_)
  · refine rn 7 rfl ?_
    exact rt h rfl
  refine rn 7 rfl ?_
  refine spO 25 h rfl (fun hb7 h => ?_) (fun hb7 h => ?_)
  · refine rn 22 rfl ?_
    exact rt h rfl
  refine rn 5 rfl ?_
  refine spO 30 h rfl (fun hb8 h => ?_) (fun hb8 h => ?_)
  · refine rn 17 rfl ?_
    exact rt h rfl
  refine rn 4 rfl ?_
  refine spO 34 h rfl (fun hb9 h => ?_) (fun hb9 h => ?_)
  · refine rn 13 rfl ?_
    exact rt h rfl
  refine rn 6 rfl ?_
  refine spC h rfl (fun hb10 h => ?_) (fun hb10 h => ?_)
  · refine rn 6 rfl ?_
    exact rt h rfl
  refine rn 14 rfl ?_
  refine spC h rfl (fun hb11 h => ?_) (fun hb11 h => ?_)
  · refine rn 6 rfl ?_
    exact rt h rfl
  refine rn 4 rfl ?_
  refine cl h rfl rfl rfl (W91 _ _) rfl (fun y12 hx13 h => ?_)
  refine rn 16 rfl ?_
  refine jK h (fun (p : Int × Int × Int × Int) => (⟨[(10, (iV (w64 (a3 - a2)))), (12, (iV (p.1))), (13, (iV (p.2.1))), (14, (iV (p.2.2.1))), (15, (iV (p.2.2.2)))], [], 0⟩ : St)) (fun k14 (p : Int × Int × Int × Int) => k14 p.1 p.2.1 p.2.2.1 p.2.2.2 = some r) (fun k14 h => ?_) ?_
  · refine rn 1 rfl ?_
    refine ck h (fun hA32 h => ?_)
    refine lC (fun (p : Int × Int × Int × Int × Int) => (⟨[(1, (iV a2)), (10, (iV (w64 (a3 - a2)))), (11, (V.ptr 0 5 0 0)), (12, (iV (p.1))), (13, (iV (p.2.1))), (14, (iV (p.2.2.1))), (15, (iV (p.2.2.2.1))), (47, (iV (w64 (a3 - a2)))), (48, (iV (p.2.2.2.2)))], [(0, (Ob.arr 131 5 [(encTprovenderref11_view y12)]))], 1⟩ : St)) (fun n (p : Int × Int × Int × Int × Int) => RC (w64 (a3 - a2)) (fun tl nn => M67_L1 F a2 y12 k14 tl nn p.1 p.2.1 p.2.2.1 p.2.2.2.1 = some r) n p.2.2.2.2) (fun p h => RC.zero h) (Int.toNat (w64 (a3 - a2)) + 1) (0, 0, 0, 0, 0) (RC.start h) (gr [1] rfl (hB rfl rfl rfl .nil) rfl) (fun n p h => ?_)
    obtain ⟨n24, n25, n26, n27, n28⟩ := p
    refine rn 5 rfl ?_
    refine spL rfl (fun hb29 => ?_) (fun hb29 => ?_)
    · obtain ⟨tl, h, hk1⟩ := RC.t hA32 h hb29
      unfold M67_L1 at h
      refine rn 14 rfl ?_
      refine cl h rfl rfl rfl (W92 _ _ _) rfl (fun y30 hx31 h => ?_)
      refine ln rfl rfl ?_
      refine rn 29 rfl ?_
      exact jX ((w64 (n24 + n28)), (w64 (n25 + ((y30.length : Nat) : Int))), (w64 (n26 + (w64 (n28 * n28)))), (w64 (n27 + (w64 (n28 * ((y30.length : Nat) : Int))))), (w64 (n28 + 1))) (hk1 _ h) (gr [0] rfl (hB rfl rfl rfl .nil) rfl)
    replace h := RC.f h hb29
    unfold M67_L1 at h
    refine rn 1 rfl ?_
    exact jX (n24, n25, n26, n27) h (g0 rfl rfl)
  rintro ⟨n15, n16, n17, n18⟩ h
  refine rn 16 rfl ?_
  refine cl h rfl rfl rfl (W123 _ _ _) rfl (fun y33 hx34 h => ?_)
  refine rn 14 rfl ?_
  exact rt h rfl
theorem W68 (F : Nat) (a1 : (List TTally)) (a2 : (List TTally)) (r : Bool) (h : M68 F a1 a2 = some r) : Pure Try.prog 68 [(V.lst 5 (a1.map encTTally)), (V.lst 5 (a2.map encTTally))] (bV r) := by
  refine pin (fun r => (bV r)) r rfl Try.func68 rfl rfl rfl rfl rfl (fun w0 m0 => ?_)
  unfold M68 at h
  refine rn 8 rfl ?_
  refine ln rfl rfl ?_
  refine rn 1 rfl ?_
  refine ln rfl rfl ?_
  refine rn 2 rfl ?_
  refine spC h rfl (fun hb3 h => ?_) (fun hb3 h => ?_)
  · refine rn 4 rfl ?_
    exact rt h rfl
  refine rn 5 rfl ?_
  refine ln rfl rfl ?_
  refine rn 2 rfl ?_
  refine jK h (fun _ : Unit => (⟨[], [], 0⟩ : St)) (fun k4 (_ : Unit) => k4 = some r) (fun k4 h => ?_) ?_
  · refine rn 1 rfl ?_
    refine wl (A := a1) 0 rfl (fun hA13 => ?_)
    refine lC (fun (p : Int) => (⟨[(0, (V.lst 5 (a1.map encTTally))), (1, (V.lst 5 (a2.map encTTally))), (12, (iV ((a1.length : Nat) : Int))), (13, (iV p))], [], 0⟩ : St)) (fun n (p : Int) => RG a1 (fun tl nn => M68_L1 F a2 k4 tl nn = some r) n p) (fun p h => RG.zero h) (a1.length + 1) 0 (RG.start h) (g0 rfl rfl) (fun n n6 h => ?_)
    refine rn 5 rfl ?_
    refine spL rfl (fun hb7 => ?_) (fun hb7 => ?_)
    · obtain ⟨x8, tl, hx9, h, hk1⟩ := RG.t hA13 h hb7
      unfold M68_L1 at h
      obtain ⟨x10, hx11, h⟩ := bind_some h
      refine rn 9 rfl ?_
      refine dr mixed (vs 2 rfl (iD hx9 rfl rfl rfl (vs 3 rfl (iD hx11 rfl rfl rfl (vs 1 rfl (xD (OD.mk [(19, (V.agg (encTTally x8))), (23, (V.agg (encTTally x10)))] [] [(24, (bV (!(decide (x8 = x10)))))] []) ⟨⟨rfl, rfl, trivial⟩, trivial⟩ (by exact fun S hn h hh => aops_eqS true (xs := cv96 x8) (ys := cv96 x10) (b := (decide (x8 = x10))) eqk96 ⟨_, rfl⟩ ⟨_, rfl⟩ (eq_b cv96 _ _ (inj_cv96 _ _)) tEqG96 wants_none h.1 h.2.1 rfl (aops_nil ⟨rfl, rfl⟩)) rfl .nil)))))) (by kernel_rfl) ?_
      refine spC h rfl (fun hb12 h => ?_) (fun hb12 h => ?_)
      · refine rn 4 rfl ?_
        exact rt h rfl
      refine rn 6 rfl ?_
      exact jX (w64 (n6 + 1)) (hk1 _ h) (g0 rfl rfl)
    replace h := RG.f h hb7
    unfold M68_L1 at h
    refine rn 1 rfl ?_
    exact jX () h (g0 rfl rfl)
  intro _ h
  refine rn 4 rfl ?_
  exact rt h rfl
theorem W14 (F : Nat) (a1 : TStory) (a2 : Int) (a3 : Int) (a4 : Int) (a5 : Int) (a6 : Int) (r : Bool) (h : M14 F a1 a2 a3 a4 a5 a6 = some r) : Pure Try.prog 14 [(V.agg (encTStory a1)), (iV a2), (iV a3), (iV a4), (iV a5), (iV a6)] (bV r) := by
  refine pin (fun r => (bV r)) r rfl Try.func14 rfl rfl rfl rfl rfl (fun w0 m0 => ?_)
  unfold M14 at h
  refine rn 11 rfl ?_
  refine cl h rfl rfl rfl (W58 _ _ _ _ _) rfl (fun y7 hx8 h => ?_)
  refine rn 12 rfl ?_
  refine cl h rfl rfl rfl (W59 _ _ _ _ _) rfl (fun y9 hx10 h => ?_)
  refine rn 12 rfl ?_
  refine cl h rfl rfl rfl (W60 _ _ _ _ _) rfl (fun y11 hx12 h => ?_)
  refine rn 12 rfl ?_
  refine cl h rfl rfl rfl (W61 _ _ _ _ _) rfl (fun y13 hx14 h => ?_)
  refine rn 10 rfl ?_
  refine cl h rfl rfl rfl (W62 _ _ _) rfl (fun y15 hx16 h => ?_)
  refine rn 12 rfl ?_
  refine cl h rfl rfl rfl (W63 _ _ _) rfl (fun y17 hx18 h => ?_)
  refine rn 12 rfl ?_
  refine cl h rfl rfl rfl (W64 _ _ _) rfl (fun y19 hx20 h => ?_)
  refine rn 12 rfl ?_
  refine cl h rfl rfl rfl (W65 _ _ _) rfl (fun y21 hx22 h => ?_)
  refine rn 13 rfl ?_
  refine cl h rfl rfl rfl (W66 _ _ _ _) rfl (fun y23 hx24 h => ?_)
  refine rn 13 rfl ?_
  refine cl h rfl rfl rfl (W67 _ _ _ _) rfl (fun y25 hx26 h => ?_)
  refine rn 14 rfl ?_
  refine spO 118 h rfl (fun hb27 h => ?_) (fun hb27 h => ?_)
  · refine rn 5 rfl ?_
    refine spO 123 h rfl (fun hb28 h => ?_) (fun hb28 h => ?_)
    · refine rn 2 rfl ?_
      refine cl h rfl rfl rfl (W68 _ _ _) rfl (fun y29 hx30 h => ?_)
      refine rn 2 rfl ?_
      refine spO 128 h rfl (fun hb31 h => ?_) (fun hb31 h => ?_)
      · refine rn 5 rfl ?_
        refine spO 133 h rfl (fun hb32 h => ?_) (fun hb32 h => ?_)
        · refine rn 5 rfl ?_
          refine spO 138 h rfl (fun hb33 h => ?_) (fun hb33 h => ?_)
          · refine rn 5 rfl ?_
            refine spO 143 h rfl (fun hb34 h => ?_) (fun hb34 h => ?_)
            · refine rn 5 rfl ?_
              refine spO 148 h rfl (fun hb35 h => ?_) (fun hb35 h => ?_)
              · refine rn 5 rfl ?_
                refine spO 153 h rfl (fun hb36 h => ?_) (fun hb36 h => ?_)
                · refine rn 5 rfl ?_
                  refine spO 158 h rfl (fun hb37 h => ?_) (fun hb37 h => ?_)
                  · refine rn 5 rfl ?_
                    refine spO 163 h rfl (fun hb38 h => ?_) (fun hb38 h => ?_)
                    · refine rn 5 rfl ?_
                      refine spO 168 h rfl (fun hb39 h => ?_) (fun hb39 h => ?_)
                      · refine rn 5 rfl ?_
                        refine spO 173 h rfl (fun hb40 h => ?_) (fun hb40 h => ?_)
                        · refine rn 5 rfl ?_
                          refine spO 178 h rfl (fun hb41 h => ?_) (fun hb41 h => ?_)
                          · refine cl h rfl rfl rfl (W23 _) rfl (fun y42 hx43 h => ?_)
                            refine rn 3 rfl ?_
                            exact rt h rfl
                          refine rn 4 rfl ?_
                          exact rt h rfl
                        refine rn 9 rfl ?_
                        exact rt h rfl
                      refine rn 14 rfl ?_
                      exact rt h rfl
                    refine rn 19 rfl ?_
                    exact rt h rfl
                  refine rn 24 rfl ?_
                  exact rt h rfl
                refine rn 29 rfl ?_
                exact rt h rfl
              refine rn 34 rfl ?_
              exact rt h rfl
            refine rn 39 rfl ?_
            exact rt h rfl
          refine rn 44 rfl ?_
          exact rt h rfl
        refine rn 49 rfl ?_
        exact rt h rfl
      refine rn 54 rfl ?_
      exact rt h rfl
    refine rn 59 rfl ?_
    exact rt h rfl
  refine rn 64 rfl ?_
  exact rt h rfl
end Go.Proofs.Ytkciogeafbbggaa
