/- Part of the proof: HW13a. -/
import Derived.Test.YtkciogeafbbggaaOHM
import Derived.Test.YtkciogeafbbggaaOHShI
import Derived.Test.YtkciogeafbbggaaOHW3a
import Derived.Test.YtkciogeafbbggaaOHW5a
import Derived.Test.YtkciogeafbbggaaOHW7a
import Derived.Test.YtkciogeafbbggaaOHW8a
import Derived.KernelRfl
namespace Go.Proofs.Ytkciogeafbbggaa
open Go Go.Pv
set_option linter.unusedVariables false
set_option maxRecDepth 100000
theorem W50 (F : Nat) (a1 : TCalendar) (a2 : (List TTerm)) (a3 : TStory) (r : ((List TLate) × Int)) (h : M50 F a1 a2 a3 = some r) : Pure Try.prog 50 [(V.agg (encTCalendar a1)), (V.lst 2 (a2.map encTTerm)), (V.agg (encTStory a3))] (V.tup [(V.lst 8 ((r.1).map encTLate)), (iV (r.2))]) := by
  refine pin (fun r => (V.tup [(V.lst 8 ((r.1).map encTLate)), (iV (r.2))])) r rfl Try.func50 rfl rfl rfl rfl rfl (fun w0 m0 => ?_)
  unfold M50 at h
  refine rn 11 rfl ?_
  refine cl h rfl rfl rfl (W21 _ _) rfl (fun y4 hx5 h => ?_)
  refine rn 7 rfl ?_
  refine spC h rfl (fun hb6 h => ?_) (fun hb6 h => ?_)
  · refine rn 6 rfl ?_
    exact rt h rfl
  refine rn 5 rfl ?_
  refine cl h rfl rfl rfl (W26 _ _) rfl (fun y7 hx8 h => ?_)
  refine rn 7 rfl ?_
  refine spC h rfl (fun hb9 h => ?_) (fun hb9 h => ?_)
  · refine rn 6 rfl ?_
    exact rt h rfl
  refine rn 5 rfl ?_
  refine cl h rfl rfl rfl (W35 _ _) rfl (fun y10 hx11 h => ?_)
  refine rn 7 rfl ?_
  refine spC h rfl (fun hb12 h => ?_) (fun hb12 h => ?_)
  · refine rn 6 rfl ?_
    exact rt h rfl
  refine rn 4 rfl ?_
  refine cl h rfl rfl rfl (W70 _ _) rfl (fun y13 hx14 h => ?_)
  refine rn 11 rfl ?_
  refine cl h rfl rfl rfl (W98 _ _) rfl (fun y15 hx16 h => ?_)
  refine ln rfl rfl ?_
  refine rn 2 rfl ?_
  refine jK h (fun (p : (List TLate)) => (⟨[(12, (V.own 0 p.length))], [(0, (Ob.arr 78 8 (p.map encTLate)))], 1⟩ : St)) (fun k17 (p : (List TLate)) => k17 p = some r) (fun k17 h => ?_) ?_
  · refine rn 1 rfl ?_
    refine wl (A := y15) 36 rfl (fun hA40 => ?_)
    refine lC (fun (p : Int × (List TLate)) => (⟨[(1, (V.lst 2 (a2.map encTTerm))), (11, (V.ptr 0 9 0 0)), (12, (V.own 1 (p.2).length)), (36, (V.lst 6 (y15.map encTWindow))), (37, (iV ((y15.length : Nat) : Int))), (38, (iV (p.1)))], [(0, (Ob.arr 101 9 [[(bV (y13.free 0)), (bV (y13.free 1)), (bV (y13.free 2)), (bV (y13.free 3)), (bV (y13.free 4)), (bV (y13.free 5)), (bV (y13.free 6)), (iV y13.work), (V.lst 1 (y13.holidays.map encI_i64))]])), (1, (Ob.arr 78 8 ((p.2).map encTLate)))], 2⟩ : St)) (fun n (p : Int × (List TLate)) => RG y15 (fun tl nn => M50_L1 F a2 y13 k17 tl p.2 = some r) n p.1) (fun p h => RG.zero h) (y15.length + 1) (0, ([] : List TLate)) (RG.start h) (Ghost.trans (ghost_nilE 12 78 8 rfl) (ghost_ren 2 (fun i => ([2, 3] : List Nat).getD i 0) _ _ (by decide) (EnvSub.get (.cons (Sub.imm (Imm.lst _ _)) (.cons (Sub.ptr rfl rfl) (.cons (Sub.ownE rfl rfl (by simp)) (.cons (Sub.imm (Imm.lst _ _)) (.cons (Sub.imm (Imm.con _)) (.cons (Sub.imm (Imm.con _)) .nil))))))) (HpSub.get (.cons rfl (ObSub.box (.cons (Sub.imm (Imm.con _)) (.cons (Sub.imm (Imm.con _)) (.cons (Sub.imm (Imm.con _)) (.cons (Sub.imm (Imm.con _)) (.cons (Sub.imm (Imm.con _)) (.cons (Sub.imm (Imm.con _)) (.cons (Sub.imm (Imm.con _)) (.cons (Sub.imm (Imm.con _)) (.cons (Sub.imm (Imm.lst _ _)) .nil)))))))))) (.cons rfl (ObSub.rows (rows_imm imms_encTLate)) .nil))) rfl)) (fun n p h => ?_)
    obtain ⟨n21, l22⟩ := p
    refine rn 5 rfl ?_
    refine spL rfl (fun hb23 => ?_) (fun hb23 => ?_)
    · obtain ⟨x26, tl, hx27, h, hk1⟩ := RG.t hA40 h hb23
      unfold M50_L1 at h
      refine rn 2 rfl ?_
      refine jK h (fun (p : (List TLate)) => (⟨[(1, (V.lst 2 (a2.map encTTerm))), (11, (V.ptr 0 9 0 0)), (12, (V.own 1 p.length)), (36, (V.lst 6 (y15.map encTWindow))), (37, (iV ((y15.length : Nat) : Int))), (38, (iV n21))], [(0, (Ob.arr 101 9 [[(bV (y13.free 0)), (bV (y13.free 1)), (bV (y13.free 2)), (bV (y13.free 3)), (bV (y13.free 4)), (bV (y13.free 5)), (bV (y13.free 6)), (iV y13.work), (V.lst 1 (y13.holidays.map encI_i64))]])), (1, (Ob.arr 78 8 (p.map encTLate)))], 2⟩ : St)) (fun k24 (p : (List TLate)) => k24 p = some r) (fun k24 h => ?_) ?_
      · refine rn 3 rfl ?_
        refine ixh hx27 rfl rfl ?_
        refine rn 9 rfl ?_
        refine cl h rfl rfl rfl (W79 _ _ _ _) rfl (fun y28 hx29 h => ?_)
        refine rn 14 rfl ?_
        refine spC h rfl (fun hb30 h => ?_) (fun hb30 h => ?_)
        · refine rn 6 rfl ?_
          exact rt h rfl
        refine rn 5 rfl ?_
        refine spO 54 h rfl (fun hb31 h => ?_) (fun hb31 h => ?_)
        · refine rn 6 rfl ?_
          refine jK h (fun (p : (List TLate)) => (⟨[(1, (V.lst 2 (a2.map encTTerm))), (11, (V.ptr 0 9 0 0)), (12, (V.own 1 p.length)), (36, (V.lst 6 (y15.map encTWindow))), (37, (iV ((y15.length : Nat) : Int))), (38, (iV n21)), (55, (V.ptr 2 6 0 4)), (56, (iV x26.To)), (57, (iV (y28.1))), (58, (bV (decide (x26.To > (y28.1)))))], [(0, (Ob.arr 101 9 [[(bV (y13.free 0)), (bV (y13.free 1)), (bV (y13.free 2)), (bV (y13.free 3)), (bV (y13.free 4)), (bV (y13.free 5)), (bV (y13.free 6)), (iV y13.work), (V.lst 1 (y13.holidays.map encI_i64))]])), (1, (Ob.arr 78 8 (p.map encTLate))), (2, (Ob.arr 35 6 [(encTWindow x26)]))], 3⟩ : St)) (fun k32 (p : (List TLate)) => k32 p = some r) (fun k32 h => ?_) ?_
          · refine spC h rfl (fun hb34 h => ?_) (fun hb34 h => ?_)
            · obtain ⟨y35, hx36, h⟩ := bind_some h
              obtain ⟨y37, hx38, h⟩ := bind_some h
              refine ck h (fun hc39 h => ?_)
              refine awp_ghost ghost_res ?_
              refine fa ?_
              refine dr mixed (vs 6 rfl (cD rfl rfl rfl rfl (W71 _ _ _ _ hx36) rfl (vs 2 rfl (cD rfl rfl rfl rfl (W71 _ _ _ _ hx38) rfl (vs 2 rfl (xD (OD.mk [(71, (V.agg [(sV x26.Advisory), (sV x26.Component), (iV x26.Severity), (iV x26.From), (iV x26.To), (bV x26.Open), (iV (y28.1)), (iV (w64 (y35 - y37)))]))] [] [(72, (V.lst 8 (([(TLate.mk x26 (y28.1) (w64 (y35 - y37)))] : List TLate).map encTLate)))] []) ⟨⟨rfl, trivial⟩, trivial⟩ (by exact fun S hn h hh => aops_buildSlice_imm [(0, (V.agg [(sV x26.Advisory), (sV x26.Component), (iV x26.Severity), (iV x26.From), (iV x26.To), (bV x26.Open), (iV (y28.1)), (iV (w64 (y35 - y37)))]))] [[(sV x26.Advisory), (sV x26.Component), (iV x26.Severity), (iV x26.From), (iV x26.To), (bV x26.Open), (iV (y28.1)), (iV (w64 (y35 - y37)))]] tEl73 tZ78 wants_none rfl rfl rfl rfl (evp_cons h.1 evp_nil) rfl rfl (by simp) (imms_rows (.cons (.cons (Imm.con _) (.cons (Imm.con _) (.cons (Imm.con _) (.cons (Imm.con _) (.cons (Imm.con _) (.cons (Imm.con _) (.cons (Imm.con _) (.cons (Imm.con _) .nil)))))))) .nil)) rfl (aops_nil ⟨rfl, rfl⟩)) rfl (xD (OD.mk [(60, (V.own 1 l22.length)), (72, (V.lst 8 (([(TLate.mk x26 (y28.1) (w64 (y35 - y37)))] : List TLate).map encTLate)))] [(1, (Ob.arr 78 8 (l22.map encTLate))), (3, Ob.res)] [(73, (V.own 3 (l22 ++ ([(TLate.mk x26 (y28.1) (w64 (y35 - y37)))] : List TLate)).length))] [(3, (Ob.arr 78 8 ((l22 ++ ([(TLate.mk x26 (y28.1) (w64 (y35 - y37)))] : List TLate)).map encTLate))), (1, Ob.dead)]) ⟨⟨rfl, rfl, trivial⟩, ⟨rfl, rfl, trivial⟩⟩ (by exact fun S hn h hh => aops_append_at 3 rfl hn hh.2.1 (([(TLate.mk x26 (y28.1) (w64 (y35 - y37)))] : List TLate).map encTLate) ((l22 ++ ([(TLate.mk x26 (y28.1) (w64 (y35 - y37)))] : List TLate)).map encTLate) tEl73 tIsSl73 rfl rfl wants_none h.1 hh.1 (by simp) h.2.1 (.lst (rows_one one_encTLate)) (map_snoc encTLate l22 ([(TLate.mk x26 (y28.1) (w64 (y35 - y37)))] : List TLate)) (List.length_map ..) hc39 rfl (aops_nil ⟨rfl, rfl⟩)) rfl (vs 1 rfl .nil)))))))) (by kernel_rfl) ?_
              exact jX (l22 ++ ([(TLate.mk x26 (y28.1) (w64 (y35 - y37)))] : List TLate)) h (gr [0, 3, 2] rfl (hB rfl rfl rfl (hR rfl rfl (hB rfl rfl rfl .nil))) rfl)
            refine rn 1 rfl ?_
            exact jX l22 h (gr [0, 1, 2] rfl (hB rfl rfl rfl (hR rfl rfl (hB rfl rfl rfl .nil))) rfl)
          intro l33 h
          refine rn 1 rfl ?_
          exact jX l33 h (gr [0, 1] rfl (hB rfl rfl rfl (hR rfl rfl .nil)) rfl)
        refine rn 9 rfl ?_
        exact jX l22 h (gr [0, 1] rfl (hB rfl rfl rfl (hR rfl rfl .nil)) rfl)
      intro l25 h
      refine rn 4 rfl ?_
      exact jX ((w64 (n21 + 1)), l25) (hk1 _ h) (gr [0, 1] rfl (hB rfl rfl rfl (hR rfl rfl .nil)) rfl)
    replace h := RG.f h hb23
    unfold M50_L1 at h
    refine rn 1 rfl ?_
    exact jX l22 h (gr [1] rfl (hR rfl rfl .nil) rfl)
  intro l18 h
  refine rn 6 rfl ?_
  refine awp_ghost (ghost_frzE 0 6 rfl (rows_imm imms_encTLate) rfl (List.length_map ..).symm) ?_
  refine fa ?_
  exact rt h rfl
theorem W51 (F : Nat) (a1 : TCalendar) (a2 : (List TTerm)) (a3 : TStory) (r : ((List TLate) × Int)) (h : M51 F a1 a2 a3 = some r) : Pure Try.prog 51 [(V.agg (encTCalendar a1)), (V.lst 2 (a2.map encTTerm)), (V.agg (encTStory a3))] (V.tup [(V.lst 8 ((r.1).map encTLate)), (iV (r.2))]) := by
  refine pin (fun r => (V.tup [(V.lst 8 ((r.1).map encTLate)), (iV (r.2))])) r rfl Try.func51 rfl rfl rfl rfl rfl (fun w0 m0 => ?_)
  unfold M51 at h
  refine rn 11 rfl ?_
  refine cl h rfl rfl rfl (W22 _ _) rfl (fun y4 hx5 h => ?_)
  refine rn 7 rfl ?_
  refine spC h rfl (fun hb6 h => ?_) (fun hb6 h => ?_)
  · refine rn 6 rfl ?_
    exact rt h rfl
  refine rn 5 rfl ?_
  refine cl h rfl rfl rfl (W27 _ _) rfl (fun y7 hx8 h => ?_)
  refine rn 7 rfl ?_
  refine spC h rfl (fun hb9 h => ?_) (fun hb9 h => ?_)
  · refine rn 6 rfl ?_
    exact rt h rfl
  refine rn 5 rfl ?_
  refine cl h rfl rfl rfl (W36 _ _) rfl (fun y10 hx11 h => ?_)
  refine rn 7 rfl ?_
  refine spC h rfl (fun hb12 h => ?_) (fun hb12 h => ?_)
  · refine rn 6 rfl ?_
    exact rt h rfl
  refine rn 4 rfl ?_
  refine cl h rfl rfl rfl (W73 _ _) rfl (fun y13 hx14 h => ?_)
  refine rn 11 rfl ?_
  refine cl h rfl rfl rfl (W99 _ _) rfl (fun y15 hx16 h => ?_)
  refine ln rfl rfl ?_
  refine rn 2 rfl ?_
  refine jK h (fun (p : (List TLate)) => (⟨[(12, (V.own 0 p.length))], [(0, (Ob.arr 78 8 (p.map encTLate)))], 1⟩ : St)) (fun k17 (p : (List TLate)) => k17 p = some r) (fun k17 h => ?_) ?_
  · refine rn 1 rfl ?_
    refine wl (A := y15) 37 rfl (fun hA40 => ?_)
    refine lC (fun (p : Int × (List TLate)) => (⟨[(1, (V.lst 2 (a2.map encTTerm))), (11, (V.ptr 0 8 0 0)), (12, (V.own 1 (p.2).length)), (37, (V.lst 6 (y15.map encTWindow))), (38, (iV ((y15.length : Nat) : Int))), (39, (iV (p.1)))], [(0, (Ob.arr 106 8 [[(bV (y13.free 0)), (bV (y13.free 1)), (bV (y13.free 2)), (bV (y13.free 3)), (bV (y13.free 4)), (bV (y13.free 5)), (bV (y13.free 6)), (V.imap (y13.holidays.map encM3_4))]])), (1, (Ob.arr 78 8 ((p.2).map encTLate)))], 2⟩ : St)) (fun n (p : Int × (List TLate)) => RG y15 (fun tl nn => M51_L1 F a2 y13 k17 tl p.2 = some r) n p.1) (fun p h => RG.zero h) (y15.length + 1) (0, ([] : List TLate)) (RG.start h) (Ghost.trans (ghost_nilE 12 78 8 rfl) (ghost_ren 2 (fun i => ([2, 3] : List Nat).getD i 0) _ _ (by decide) (EnvSub.get (.cons (Sub.imm (Imm.lst _ _)) (.cons (Sub.ptr rfl rfl) (.cons (Sub.ownE rfl rfl (by simp)) (.cons (Sub.imm (Imm.lst _ _)) (.cons (Sub.imm (Imm.con _)) (.cons (Sub.imm (Imm.con _)) .nil))))))) (HpSub.get (.cons rfl (ObSub.box (.cons (Sub.imm (Imm.con _)) (.cons (Sub.imm (Imm.con _)) (.cons (Sub.imm (Imm.con _)) (.cons (Sub.imm (Imm.con _)) (.cons (Sub.imm (Imm.con _)) (.cons (Sub.imm (Imm.con _)) (.cons (Sub.imm (Imm.con _)) (.cons (Sub.imm (Imm.imap _)) .nil))))))))) (.cons rfl (ObSub.rows (rows_imm imms_encTLate)) .nil))) rfl)) (fun n p h => ?_)
    obtain ⟨n21, l22⟩ := p
    refine rn 5 rfl ?_
    refine spL rfl (fun hb23 => ?_) (fun hb23 => ?_)
    · obtain ⟨x26, tl, hx27, h, hk1⟩ := RG.t hA40 h hb23
      unfold M51_L1 at h
      refine rn 2 rfl ?_
      refine jK h (fun (p : (List TLate)) => (⟨[(1, (V.lst 2 (a2.map encTTerm))), (11, (V.ptr 0 8 0 0)), (12, (V.own 1 p.length)), (37, (V.lst 6 (y15.map encTWindow))), (38, (iV ((y15.length : Nat) : Int))), (39, (iV n21))], [(0, (Ob.arr 106 8 [[(bV (y13.free 0)), (bV (y13.free 1)), (bV (y13.free 2)), (bV (y13.free 3)), (bV (y13.free 4)), (bV (y13.free 5)), (bV (y13.free 6)), (V.imap (y13.holidays.map encM3_4))]])), (1, (Ob.arr 78 8 (p.map encTLate)))], 2⟩ : St)) (fun k24 (p : (List TLate)) => k24 p = some r) (fun k24 h => ?_) ?_
      · refine rn 3 rfl ?_
        refine ixh hx27 rfl rfl ?_
        refine rn 9 rfl ?_
        refine cl h rfl rfl rfl (W80 _ _ _) rfl (fun y28 hx29 h => ?_)
        refine rn 13 rfl ?_
        refine spC h rfl (fun hb30 h => ?_) (fun hb30 h => ?_)
        · refine rn 1 rfl ?_
          exact jX l22 h (gr [0, 1] rfl (hB rfl rfl rfl (hR rfl rfl .nil)) rfl)
        refine rn 8 rfl ?_
        refine cl h rfl rfl rfl (W77 _ _ _ _) rfl (fun y31 hx32 h => ?_)
        refine rn 12 rfl ?_
        refine spC h rfl (fun hb33 h => ?_) (fun hb33 h => ?_)
        · refine rn 5 rfl ?_
          exact rt h rfl
        refine rn 8 rfl ?_
        refine jK h (fun (p : (List TLate)) => (⟨[(1, (V.lst 2 (a2.map encTTerm))), (11, (V.ptr 0 8 0 0)), (12, (V.own 1 p.length)), (37, (V.lst 6 (y15.map encTWindow))), (38, (iV ((y15.length : Nat) : Int))), (39, (iV n21))], [(0, (Ob.arr 106 8 [[(bV (y13.free 0)), (bV (y13.free 1)), (bV (y13.free 2)), (bV (y13.free 3)), (bV (y13.free 4)), (bV (y13.free 5)), (bV (y13.free 6)), (V.imap (y13.holidays.map encM3_4))]])), (1, (Ob.arr 78 8 (p.map encTLate)))], 2⟩ : St)) (fun k34 (p : (List TLate)) => k34 p = some r) (fun k34 h => ?_) ?_
        · refine spC h rfl (fun hb36 h => ?_) (fun hb36 h => ?_)
          · obtain ⟨y37, hx38, h⟩ := bind_some h
            refine ck h (fun hc39 h => ?_)
            refine awp_ghost ghost_res ?_
            refine fa ?_
            refine dr mixed (vs 7 rfl (cD rfl rfl rfl rfl (W75 _ _ _ _ _ hx38) rfl (vs 1 rfl (xD (OD.mk [(75, (V.agg [(sV x26.Advisory), (sV x26.Component), (iV x26.Severity), (iV x26.From), (iV x26.To), (bV x26.Open), (iV (y31.1)), (iV y37)]))] [] [(76, (V.lst 8 (([(TLate.mk x26 (y31.1) y37)] : List TLate).map encTLate)))] []) ⟨⟨rfl, trivial⟩, trivial⟩ (by exact fun S hn h hh => aops_buildSlice_imm [(0, (V.agg [(sV x26.Advisory), (sV x26.Component), (iV x26.Severity), (iV x26.From), (iV x26.To), (bV x26.Open), (iV (y31.1)), (iV y37)]))] [[(sV x26.Advisory), (sV x26.Component), (iV x26.Severity), (iV x26.From), (iV x26.To), (bV x26.Open), (iV (y31.1)), (iV y37)]] tEl73 tZ78 wants_none rfl rfl rfl rfl (evp_cons h.1 evp_nil) rfl rfl (by simp) (imms_rows (.cons (.cons (Imm.con _) (.cons (Imm.con _) (.cons (Imm.con _) (.cons (Imm.con _) (.cons (Imm.con _) (.cons (Imm.con _) (.cons (Imm.con _) (.cons (Imm.con _) .nil)))))))) .nil)) rfl (aops_nil ⟨rfl, rfl⟩)) rfl (xD (OD.mk [(67, (V.own 1 l22.length)), (76, (V.lst 8 (([(TLate.mk x26 (y31.1) y37)] : List TLate).map encTLate)))] [(1, (Ob.arr 78 8 (l22.map encTLate))), (4, Ob.res)] [(77, (V.own 4 (l22 ++ ([(TLate.mk x26 (y31.1) y37)] : List TLate)).length))] [(4, (Ob.arr 78 8 ((l22 ++ ([(TLate.mk x26 (y31.1) y37)] : List TLate)).map encTLate))), (1, Ob.dead)]) ⟨⟨rfl, rfl, trivial⟩, ⟨rfl, rfl, trivial⟩⟩ (by exact fun S hn h hh => aops_append_at 4 rfl hn hh.2.1 (([(TLate.mk x26 (y31.1) y37)] : List TLate).map encTLate) ((l22 ++ ([(TLate.mk x26 (y31.1) y37)] : List TLate)).map encTLate) tEl73 tIsSl73 rfl rfl wants_none h.1 hh.1 (by simp) h.2.1 (.lst (rows_one one_encTLate)) (map_snoc encTLate l22 ([(TLate.mk x26 (y31.1) y37)] : List TLate)) (List.length_map ..) hc39 rfl (aops_nil ⟨rfl, rfl⟩)) rfl (vs 1 rfl .nil)))))) (by kernel_rfl) ?_
            exact jX (l22 ++ ([(TLate.mk x26 (y31.1) y37)] : List TLate)) h (gr [0, 4] rfl (hB rfl rfl rfl (hR rfl rfl .nil)) rfl)
          refine rn 1 rfl ?_
          exact jX l22 h (gr [0, 1] rfl (hB rfl rfl rfl (hR rfl rfl .nil)) rfl)
        intro l35 h
        refine rn 1 rfl ?_
        exact jX l35 h (gr [0, 1] rfl (hB rfl rfl rfl (hR rfl rfl .nil)) rfl)
      intro l25 h
      refine rn 4 rfl ?_
      exact jX ((w64 (n21 + 1)), l25) (hk1 _ h) (gr [0, 1] rfl (hB rfl rfl rfl (hR rfl rfl .nil)) rfl)
    replace h := RG.f h hb23
    unfold M51_L1 at h
    refine rn 1 rfl ?_
    exact jX l22 h (gr [1] rfl (hR rfl rfl .nil) rfl)
  intro l18 h
  refine rn 6 rfl ?_
  refine awp_ghost (ghost_frzE 0 6 rfl (rows_imm imms_encTLate) rfl (List.length_map ..).symm) ?_
  refine fa ?_
  exact rt h rfl
theorem W52 (F : Nat) (a1 : (List TLate)) (a2 : (List TLate)) (r : Bool) (h : M52 F a1 a2 = some r) : Pure Try.prog 52 [(V.lst 8 (a1.map encTLate)), (V.lst 8 (a2.map encTLate))] (bV r) := by
  refine pin (fun r => (bV r)) r rfl Try.func52 rfl rfl rfl rfl rfl (fun w0 m0 => ?_)
  unfold M52 at h
  refine rn 8 rfl ?_
  refine ln rfl rfl ?_
  refine rn 1 rfl ?_
  refine ln rfl rfl ?_
  refine rn 2 rfl ?_
  refine spC h rfl (fun hb3 h => ?_) (fun hb3 h => ?_)
  · refine rn 4 rfl ?_
    exact rt h rfl
  refine rn 5 rfl ?_
  refine ln rfl rfl ?_
  refine rn 2 rfl ?_
  refine jK h (fun _ : Unit => (⟨[], [], 0⟩ : St)) (fun k4 (_ : Unit) => k4 = some r) (fun k4 h => ?_) ?_
  · refine rn 1 rfl ?_
    refine wl (A := a1) 0 rfl (fun hA13 => ?_)
    refine lC (fun (p : Int) => (⟨[(0, (V.lst 8 (a1.map encTLate))), (1, (V.lst 8 (a2.map encTLate))), (12, (iV ((a1.length : Nat) : Int))), (13, (iV p))], [], 0⟩ : St)) (fun n (p : Int) => RG a1 (fun tl nn => M52_L1 F a2 k4 tl nn = some r) n p) (fun p h => RG.zero h) (a1.length + 1) 0 (RG.start h) (g0 rfl rfl) (fun n n6 h => ?_)
    refine rn 5 rfl ?_
    refine spL rfl (fun hb7 => ?_) (fun hb7 => ?_)
    · obtain ⟨x8, tl, hx9, h, hk1⟩ := RG.t hA13 h hb7
      unfold M52_L1 at h
      obtain ⟨x10, hx11, h⟩ := bind_some h
      refine rn 9 rfl ?_
      refine dr mixed (vs 2 rfl (iD hx9 rfl rfl rfl (vs 3 rfl (iD hx11 rfl rfl rfl (vs 1 rfl (xD (OD.mk [(19, (V.agg (encTLate x8))), (23, (V.agg (encTLate x10)))] [] [(24, (bV (!(decide (x8 = x10)))))] []) ⟨⟨rfl, rfl, trivial⟩, trivial⟩ (by exact fun S hn h hh => aops_eqS true (xs := cv78 x8) (ys := cv78 x10) (b := (decide (x8 = x10))) eqk78 ⟨_, rfl⟩ ⟨_, rfl⟩ (eq_b cv78 _ _ (inj_cv78 _ _)) tEqG78 wants_none h.1 h.2.1 rfl (aops_nil ⟨rfl, rfl⟩)) rfl .nil)))))) (by kernel_rfl) ?_
      refine spC h rfl (fun hb12 h => ?_) (fun hb12 h => ?_)
      · refine rn 4 rfl ?_
        exact rt h rfl
      refine rn 6 rfl ?_
      exact jX (w64 (n6 + 1)) (hk1 _ h) (g0 rfl rfl)
    replace h := RG.f h hb7
    unfold M52_L1 at h
    refine rn 1 rfl ?_
    exact jX () h (g0 rfl rfl)
  intro _ h
  refine rn 4 rfl ?_
  exact rt h rfl
theorem W55 (F : Nat) (a1 : (List Int)) (r : (List Int)) (h : M55 F a1 = some r) : Mut Try.prog 55 [(V.lst 1 (a1.map encI_i64))] 0 [] (resV [(V.own 0 r.length)]) 1 [(0, (Ob.arr 3 1 (r.map encI_i64)))] := by
  refine mut_enter Try.func55 rfl rfl (l := [.tmp 2]) rfl rfl [(0, (V.lst 1 (a1.map encI_i64)))] rfl (fun w0 m0 β0 => en ?_)
  unfold M55 at h
  refine rn 8 rfl ?_
  refine aops_isNil (n := a1.length) false tIsSl22 wants_none rfl rfl (congrArg some (List.length_map ..)) rfl (fun b7 hn8 => ?_)
  replace h := nilq_elim h hn8
  refine fo (rn 1 rfl ?_)
  refine spC h rfl (fun hb9 h => ?_) (fun hb9 h => ?_)
  · refine rn 4 rfl ?_
    replace h := Option.some.inj h
    subst h
    exact wR ⟨.inl rfl, [(2, (V.own 0 ([] : List Int).length))], (Ghost.trans (ghost_nilE 2 3 1 rfl) (ghost_ren 1 (fun i => ([0] : List Nat).getD i 0) _ _ (by decide) (EnvSub.get (.cons (Sub.ownE rfl rfl (by simp)) .nil)) (HpSub.get (.cons rfl (ObSub.rows (rows_imm imms_encI_i64)) .nil)) rfl)), (.cons (.tmp rfl) .nil)⟩
  refine rn 3 rfl ?_
  refine aops_emptySlice tEl22 wants_none rfl ?_
  refine fo (rn 1 rfl ?_)
  refine apL encI_i64 h rfl rfl rfl (by simp) rfl (fun h => ?_)
  refine rn 2 rfl ?_
  replace h := Option.some.inj h
  subst h
  exact wR ⟨.inl rfl, [(2, (V.own 0 (([] : List Int) ++ a1).length))], (gr [1] rfl (hR rfl rfl .nil) rfl), (.cons (.tmp rfl) .nil)⟩
theorem W54 (F : Nat) (a1 : Int) (a2 : List Int) (a3 : Int) (r : List Int) (h : M54 F a1 a2 a3 = some r) : Mut Try.prog 54 [(V.own 0 a2.length), (iV a1), (V.own 1 1)] 2 [(0, (Ob.arr 3 1 (a2.map encI_i64))), (1, (Ob.arr 3 1 [[(iV a3)]]))] (resV [(V.own 2 r.length)]) 3 [(0, Ob.dead), (1, (Ob.arr 3 1 [[(iV a3)]])), (2, (Ob.arr 3 1 (r.map encI_i64)))] := by
  unfold M54 at h
  by_cases hc : [a3] ≠ [] ∧ (0 ≤ a1 ∧ a1.toNat ≤ a2.length) ∧ (a2.length + [a3].length) * 8 ≤ 140737488355328
  · rw [if_pos hc] at h
    replace h := Option.some.inj h
    subst h
    exact (mut_insert (k := 2) (id := 0) (id2 := 1) (hp := [(0, (Ob.arr 3 1 (a2.map encI_i64))), (1, (Ob.arr 3 1 [[(iV a3)]]))]) Go.Proofs.Try.laysNm221 a2 [a3] a1 rfl rfl (by decide) hc.1 hc.2.1 hc.2.2).heap hget_ins
  · rw [if_neg hc] at h; simp at h
theorem W57 (F : Nat) (a1 : TLate) (a2 : List UInt8) (a3 : List UInt8) (a4 : Int) (a5 : Int) (a6 : Int) (a7 : Bool) (a8 : Int) (a9 : Int) (r : Bool) (h : M57 F a1 a2 a3 a4 a5 a6 a7 a8 a9 = some r) : Pure Try.prog 57 [(V.agg (encTLate a1)), (V.iptr [(sV a2), (sV a3), (iV a4), (iV a5), (iV a6), (bV a7), (iV a8), (iV a9)] 0)] (bV r) := by
  refine pin (fun r => (bV r)) r rfl Try.func57 rfl rfl rfl rfl rfl (fun w0 m0 => ?_)
  unfold M57 at h
  refine rn 11 rfl ?_
  refine aops_eqS false (xs := cv35 a1.Window) (ys := cv35 (TWindow.mk a2 a3 a4 a5 a6 a7)) (b := (decide (a1.Window = (TWindow.mk a2 a3 a4 a5 a6 a7)))) eqk35 ⟨_, rfl⟩ ⟨_, rfl⟩ (eq_b cv35 _ _ (inj_cv35 _ _)) tEqG35 wants_none rfl rfl rfl ?_
  refine fo (rn 1 rfl ?_)
  refine spO 9 h rfl (fun hb10 h => ?_) (fun hb10 h => ?_)
  · refine rn 8 rfl ?_
    exact rt h rfl
  refine rn 8 rfl ?_
  exact rt h rfl
theorem W112 (F : Nat) (a1 : (List TLate)) (a2 : List UInt8) (a3 : List UInt8) (a4 : Int) (a5 : Int) (a6 : Int) (a7 : Bool) (a8 : Int) (a9 : Int) (r : Int) (h : M112 F a1 a2 a3 a4 a5 a6 a7 a8 a9 = some r) : Pure Try.prog 112 [(V.lst 8 (a1.map encTLate)), (V.fn (.func 57) [] [(V.iptr [(sV a2), (sV a3), (iV a4), (iV a5), (iV a6), (bV a7), (iV a8), (iV a9)] 0)])] (iV r) := by
  refine pin (fun r => (iV r)) r rfl Try.func112 rfl rfl rfl rfl rfl (fun w0 m0 => ?_)
  unfold M112 at h
  refine rn 8 rfl ?_
  refine ln rfl rfl ?_
  refine rn 2 rfl ?_
  refine jK h (fun _ : Unit => (⟨[], [], 0⟩ : St)) (fun k10 (_ : Unit) => k10 = some r) (fun k10 h => ?_) ?_
  · refine rn 1 rfl ?_
    refine wl (A := a1) 0 rfl (fun hA19 => ?_)
    refine lC (fun (p : Int) => (⟨[(0, (V.lst 8 (a1.map encTLate))), (1, (V.fn (.func 57) [] [(V.iptr [(sV a2), (sV a3), (iV a4), (iV a5), (iV a6), (bV a7), (iV a8), (iV a9)] 0)])), (7, (iV ((a1.length : Nat) : Int))), (8, (iV p))], [], 0⟩ : St)) (fun n (p : Int) => RG a1 (fun tl nn => M112_L1 F a2 a3 a4 a5 a6 a7 a8 a9 k10 tl nn = some r) n p) (fun p h => RG.zero h) (a1.length + 1) 0 (RG.start h) (g0 rfl rfl) (fun n n12 h => ?_)
    refine rn 5 rfl ?_
    refine spL rfl (fun hb13 => ?_) (fun hb13 => ?_)
    · obtain ⟨x14, tl, hx15, h, hk1⟩ := RG.t hA19 h hb13
      unfold M112_L1 at h
      refine rn 13 rfl ?_
      refine ixh hx15 rfl rfl ?_
      refine rn 1 rfl ?_
      refine cl h rfl rfl rfl (W57 _ _ _ _ _ _ _ _ _ _) rfl (fun y16 hx17 h => ?_)
      refine rn 1 rfl ?_
      refine spC h rfl (fun hb18 h => ?_) (fun hb18 h => ?_)
      · refine rn 5 rfl ?_
        exact rt h rfl
      refine rn 6 rfl ?_
      exact jX (w64 (n12 + 1)) (hk1 _ h) (g0 rfl rfl)
    replace h := RG.f h hb13
    unfold M112_L1 at h
    refine rn 1 rfl ?_
    exact jX () h (g0 rfl rfl)
  intro _ h
  refine rn 4 rfl ?_
  exact rt h rfl
theorem W56 (F : Nat) (a1 : (List TLate)) (a2 : List UInt8) (a3 : List UInt8) (a4 : Int) (a5 : Int) (a6 : Int) (a7 : Bool) (a8 : Int) (a9 : Int) (r : Bool) (h : M56 F a1 a2 a3 a4 a5 a6 a7 a8 a9 = some r) : Pure Try.prog 56 [(V.lst 8 (a1.map encTLate)), (V.fn (.func 57) [] [(V.iptr [(sV a2), (sV a3), (iV a4), (iV a5), (iV a6), (bV a7), (iV a8), (iV a9)] 0)])] (bV r) := by
  refine pin (fun r => (bV r)) r rfl Try.func56 rfl rfl rfl rfl rfl (fun w0 m0 => ?_)
  unfold M56 at h
  refine rn 8 rfl ?_
  refine cl h rfl rfl rfl (W112 _ _ _ _ _ _ _ _ _ _) rfl (fun y10 hx11 h => ?_)
  refine rn 3 rfl ?_
  exact rt h rfl
theorem W13 (F : Nat) (a1 : TCalendar) (a2 : (List TTerm)) (a3 : TStory) (a4 : Int) (r : Bool) (h : M13 F a1 a2 a3 a4 = some r) : Pure Try.prog 13 [(V.agg (encTCalendar a1)), (V.lst 2 (a2.map encTTerm)), (V.agg (encTStory a3)), (iV a4)] (bV r) := by
  refine pin (fun r => (bV r)) r rfl Try.func13 rfl rfl rfl rfl rfl (fun w0 m0 => ?_)
  unfold M13 at h
  refine rn 11 rfl ?_
  refine cl h rfl rfl rfl (W50 _ _ _ _) rfl (fun y5 hx6 h => ?_)
  refine rn 11 rfl ?_
  refine cl h rfl rfl rfl (W51 _ _ _ _) rfl (fun y7 hx8 h => ?_)
  refine rn 11 rfl ?_
  refine cl h rfl rfl rfl (W52 _ _ _) rfl (fun y9 hx10 h => ?_)
  refine rn 2 rfl ?_
  refine spO 39 h rfl (fun hb11 h => ?_) (fun hb11 h => ?_)
  · refine rn 10 rfl ?_
    exact rt h rfl
  refine rn 5 rfl ?_
  refine spC h rfl (fun hb12 h => ?_) (fun hb12 h => ?_)
  · refine rn 4 rfl ?_
    exact rt h rfl
  refine rn 6 rfl ?_
  refine cl h rfl rfl rfl (W53 _ _ _) rfl (fun y13 hx14 h => ?_)
  refine rn 12 rfl ?_
  refine spO 53 h rfl (fun hb15 h => ?_) (fun hb15 h => ?_)
  · refine rn 11 rfl ?_
    refine cl h rfl rfl rfl (W23 _) rfl (fun y16 hx17 h => ?_)
    refine rn 2 rfl ?_
    exact rt h rfl
  refine rn 3 rfl ?_
  refine spO 56 h rfl (fun hb18 h => ?_) (fun hb18 h => ?_)
  · refine rn 8 rfl ?_
    refine cl h rfl rfl rfl (W23 _) rfl (fun y19 hx20 h => ?_)
    refine rn 2 rfl ?_
    exact rt h rfl
  refine rn 1 rfl ?_
  refine cl h rfl rfl rfl (W21 _ _) rfl (fun y21 hx22 h => ?_)
  refine rn 3 rfl ?_
  refine spC h rfl (fun hb23 h => ?_) (fun hb23 h => ?_)
  · refine rn 2 rfl ?_
    refine cl h rfl rfl rfl (W23 _) rfl (fun y24 hx25 h => ?_)
    refine rn 2 rfl ?_
    exact rt h rfl
  obtain ⟨y26, hx27, h⟩ := bind_some h
  refine rn 5 rfl ?_
  refine aops_mcall (V.own 2 y26.length) [(V.lst 1 (a1.Holidays.map encI_i64))] (fun i => ([] : List Nat).getD i 0) (fun i => ([2] : List Nat).getD i 0) 2 3 [(2, (Ob.arr 3 1 (y26.map encI_i64)))] fOk55 wants_none rfl (evm_cons rfl evm_nil) (.cons (Sub.imm (Imm.lst _ _)) .nil) .nil (W55 F a1.Holidays y26 hx27) rfl rfl rfl rfl rfl (Sub.ownT rfl rfl) (.cons rfl (ObSub.rowsT (rows_imm imms_encI_i64)) .nil) ?_
  refine fo (rn 2 rfl ?_)
  refine aops_buildSlice [(0, (iV a4))] [[(iV a4)]] tEl22 tZ3 rfl rfl rfl rfl wants_none (evp_cons rfl evp_nil) rfl rfl (by simp) rfl ?_
  obtain ⟨y28, hx29, h⟩ := bind_some h
  refine aops_mcall (V.own 4 y28.length) [(V.own 2 y26.length), (iV (y13.1)), (V.own 3 1)] (fun i => ([2, 3] : List Nat).getD i 0) (fun i => ([2, 3, 4] : List Nat).getD i 0) 4 5 [(2, Ob.dead), (3, (Ob.arr 3 1 [[(iV a4)]])), (4, (Ob.arr 3 1 (y28.map encI_i64)))] fOk54 wants_none rfl (evm_cons rfl (evm_cons rfl (evm_cons rfl evm_nil))) (.cons (Sub.own rfl rfl) (.cons (Sub.imm (Imm.con _)) (.cons (Sub.own rfl rfl) .nil))) (.cons rfl (ObSub.rows (rows_imm imms_encI_i64)) (.cons rfl (ObSub.box (.cons (Sub.imm (Imm.con _)) .nil)) .nil)) (W54 F (y13.1) y26 a4 y28 hx29) rfl rfl rfl rfl rfl (Sub.ownT rfl rfl) (.cons rfl ObSub.deadT (.cons rfl (ObSub.box (.cons (Sub.immT (Imm.con _)) .nil)) (.cons rfl (ObSub.rowsT (rows_imm imms_encI_i64)) .nil))) ?_
  refine aops_ghost (ghost_frzE 4 68 rfl (rows_imm imms_encI_i64) rfl (List.length_map ..).symm) ?_
  refine fo (rn 8 rfl ?_)
  refine cl h rfl rfl rfl (W50 _ _ _ _) rfl (fun y30 hx31 h => ?_)
  refine rn 12 rfl ?_
  refine spC h rfl (fun hb32 h => ?_) (fun hb32 h => ?_)
  · refine rn 5 rfl ?_
    refine cl h rfl rfl rfl (W51 _ _ _ _) rfl (fun y33 hx34 h => ?_)
    refine rn 12 rfl ?_
    refine spO 89 h rfl (fun hb35 h => ?_) (fun hb35 h => ?_)
    · refine cl h rfl rfl rfl (W23 _) rfl (fun y36 hx37 h => ?_)
      refine rn 3 rfl ?_
      exact rt h rfl
    refine rn 4 rfl ?_
    exact rt h rfl
  refine rn 5 rfl ?_
  refine ln rfl rfl ?_
  refine rn 2 rfl ?_
  refine jK h (fun _ : Unit => (⟨[], [], 0⟩ : St)) (fun k38 (_ : Unit) => k38 = some r) (fun k38 h => ?_) ?_
  · refine rn 1 rfl ?_
    refine wl (A := (y30.1)) 75 rfl (fun hA47 => ?_)
    refine lC (fun (p : Int) => (⟨[(9, (V.lst 8 ((y5.1).map encTLate))), (92, (V.lst 8 ((y30.1).map encTLate))), (93, (iV (((y30.1).length : Nat) : Int))), (94, (iV p))], [], 0⟩ : St)) (fun n (p : Int) => RG (y30.1) (fun tl nn => M13_L1 F y5 k38 tl = some r) n p) (fun p h => RG.zero h) ((y30.1).length + 1) 0 (RG.start h) (g0 rfl rfl) (fun n n40 h => ?_)
    refine rn 5 rfl ?_
    refine spL rfl (fun hb41 => ?_) (fun hb41 => ?_)
    · obtain ⟨x42, tl, hx43, h, hk1⟩ := RG.t hA47 h hb41
      unfold M13_L1 at h
      refine rn 5 rfl ?_
      refine ixh hx43 rfl rfl ?_
      obtain ⟨y44, hx45, h⟩ := bind_some h
      refine rn 8 rfl ?_
      refine aops_lend_call (bV y44) [(V.lst 8 ((y5.1).map encTLate)), (V.fn (.func 57) [] [(V.iptr (encTLate x42) 0)])] fOk56 (ghost_frzV 0 99 (V.fn (.func 57) [] [(V.iptr (encTLate x42) 0)]) rfl (imms_rows (.cons (imms_encTLate _) .nil)) rfl (Sub.fnc (.cons (Sub.frzptr rfl) .nil))) (Flat.con _) wants_none (evm_cons rfl (evm_cons rfl evm_nil)) (.cons (Imm.lst _ _) (.cons (Imm.fn .nil (.cons (Imm.iptr _ _) .nil)) .nil)) (W56 F (y5.1) x42.Window.Advisory x42.Window.Component x42.Window.Severity x42.Window.From x42.Window.To x42.Window.Open x42.Due x42.WorkDays y44 hx45) rfl ?_
      refine fo (rn 2 rfl ?_)
      refine spC h rfl (fun hb46 h => ?_) (fun hb46 h => ?_)
      · refine rn 4 rfl ?_
        exact rt h rfl
      refine rn 6 rfl ?_
      exact jX (w64 (n40 + 1)) (hk1 _ h) (g0 rfl rfl)
    replace h := RG.f h hb41
    unfold M13_L1 at h
    refine rn 1 rfl ?_
    exact jX () h (g0 rfl rfl)
  intro _ h
  refine rn 2 rfl ?_
  refine cl h rfl rfl rfl (W23 _) rfl (fun y48 hx49 h => ?_)
  refine rn 2 rfl ?_
  exact rt h rfl
end Go.Proofs.Ytkciogeafbbggaa
