/- Part of the proof: HW7b. -/
import Derived.Test.YtkciogeafbbggaaWHM
import Derived.Test.YtkciogeafbbggaaWHW7a
import Derived.Test.YtkciogeafbbggaaWHW3a
import Derived.Test.YtkciogeafbbggaaWHW6a
import Derived.KernelRfl
namespace Go.Proofs.Ytkciogeafbbggaa
open Go Go.Pv
set_option linter.unusedVariables false
set_option maxRecDepth 100000
theorem W90 (F : Nat) (a1 : TStory) (r : (List Thistory_piece)) (h : M90 F a1 = some r) : Pure Try.prog 90 [(V.agg [(sV a1.Product), (V.lst 3 (a1.Releases.map encTRelease)), (V.lst 3 (a1.Known.map encTPublished)), (iV a1.Until)])] (V.lst 5 (r.map encThistory_piece)) := by
  refine pure_enter Try.func90 rfl rfl (l := [.tmp 2]) rfl rfl [(0, (V.agg [(sV a1.Product), (V.lst 3 (a1.Releases.map encTRelease)), (V.lst 3 (a1.Known.map encTPublished)), (iV a1.Until)]))] rfl (fun w0 m0 => ?_)
  unfold M90 at h
  refine awp_seq ?_
  refine awp_region ?_
  refine aops_box [(sV a1.Product), (V.lst 3 (a1.Releases.map encTRelease)), (V.lst 3 (a1.Known.map encTPublished)), (iV a1.Until)] wants_none rfl rfl rfl rfl ?_
  refine aops_assign nV wants_none rfl rfl ?_
  refine aops_nil ?_
  refine awp_seq ?_
  refine awp_region ?_
  refine aops_makeMap wants_none rfl ?_
  refine aops_assign (V.map 1) wants_none rfl rfl ?_
  refine aops_nil ?_
  refine awp_seq ?_
  refine awp_seq ?_
  refine awp_region ?_
  refine aops_fieldAddr tF52_2 wants_none rfl rfl ?_
  refine aops_load_cell (V.lst 3 (a1.Known.map encTPublished)) tC50 wants_none rfl rfl rfl rfl rfl ?_
  refine aops_len (n := a1.Known.length) tIsSl50 wants_none rfl (congrArg some (List.length_map ..)) rfl ?_
  refine aops_move (iV 0) wants_none rfl rfl ?_
  refine aops_nil ?_
  replace h := jn_elim h
  obtain ⟨k2, hk2, h⟩ := h
  refine awp_cut (fun (p : (List ((List UInt8) × TPublished))) => (⟨[(1, (V.ptr 0 4 0 0)), (3, (V.map 1))], [(0, (Ob.arr 52 4 [[(sV a1.Product), (V.lst 3 (a1.Releases.map encTRelease)), (V.lst 3 (a1.Known.map encTPublished)), (iV a1.Until)]])), (1, (Ob.map (p.map encM9_137)))], 2⟩ : St)) (fun (p : (List ((List UInt8) × TPublished))) => k2 p = some r) ?_ ?_
  · clear hk2
    refine awp_block ?_
    refine awp_len (A := a1.Known) 16 rfl (fun hA11 => ?_)
    refine awp_loop_ind (fun (p : Int × (List ((List UInt8) × TPublished))) => (⟨[(1, (V.ptr 0 4 0 0)), (3, (V.map 1)), (16, (V.lst 3 (a1.Known.map encTPublished))), (17, (iV ((a1.Known.length : Nat) : Int))), (18, (iV (p.1)))], [(0, (Ob.arr 52 4 [[(sV a1.Product), (V.lst 3 (a1.Releases.map encTRelease)), (V.lst 3 (a1.Known.map encTPublished)), (iV a1.Until)]])), (1, (Ob.map ((p.2).map encM9_137)))], 2⟩ : St)) (fun n (p : Int × (List ((List UInt8) × TPublished))) => RG a1.Known (fun tl nn => M90_L1 F k2 tl p.2 = some r) n p.1) (fun p h => RG.zero h) (fun n ih1 p h => ?_) (a1.Known.length + 1) (0, ([] : List ((List UInt8) × TPublished))) (RG.start h) (ghost_ren 2 (fun i => ([0, 1] : List Nat).getD i 0) _ _ (by decide) (EnvSub.get (.cons (Sub.ptr rfl rfl) (.cons (Sub.map rfl rfl) (.cons (Sub.imm (Imm.lst _ _)) (.cons (Sub.imm (Imm.con _)) (.cons (Sub.imm (Imm.con _)) .nil)))))) (HpSub.get (.cons rfl (ObSub.box (.cons (Sub.imm (Imm.con _)) (.cons (Sub.imm (Imm.lst _ _)) (.cons (Sub.imm (Imm.lst _ _)) (.cons (Sub.imm (Imm.con _)) .nil))))) (.cons rfl (ObSub.maps encM9_137_imm) .nil))) rfl)
    obtain ⟨n6, m7⟩ := p
    refine awp_loop ?_
    refine awp_seq ?_
    refine awp_region ?_
    refine aops_bin (.bool (decide (n6 < ((a1.Known.length : Nat) : Int)))) wants_none rfl rfl rfl rfl ?_
    refine aops_nil ?_
    refine awp_seq ?_
    refine awp_cond (decide (n6 < ((a1.Known.length : Nat) : Int))) rfl (fun hb8 => ?_) (fun hb8 => ?_)
    · obtain ⟨x9, tl, hx10, h, hk1⟩ := RG.t hA11 h hb8
      unfold M90_L1 at h
      refine awp_skip ?_
      refine awp_seq ?_
      refine awp_block ?_
      refine awp_seq ?_
      refine awp_region ?_
      refine aops_index_lst [(sV x9.Advisory), (iV x9.Day), (iV x9.Ended)] tSl50 wants_none rfl rfl (idx_some hx10).1 (idx_map encTPublished hx10) rfl ?_
      refine aops_iload_agg (cs := [(sV x9.Advisory), (iV x9.Day), (iV x9.Ended)]) tA137 wants_none rfl rfl rfl rfl ?_
      refine aops_alloc tZ137 rfl rfl wants_none rfl ?_
      refine aops_store [(sV x9.Advisory), (iV x9.Day), (iV x9.Ended)] [[(sV x9.Advisory), (iV x9.Day), (iV x9.Ended)]] tS137 wants_none rfl rfl rfl rfl rfl rfl rfl rfl ?_
      refine aops_nil ?_
      refine awp_region ?_
      refine aops_move (V.map 1) wants_none rfl rfl ?_
      refine aops_fieldAddr tF137_0 wants_none rfl rfl ?_
      refine aops_load_cell (sV x9.Advisory) tC9 wants_none rfl rfl rfl rfl rfl ?_
      refine aops_load_agg (cs := [(sV x9.Advisory), (iV x9.Day), (iV x9.Ended)]) tA137 wants_none rfl rfl rfl rfl rfl rfl ?_
      refine aops_mapUpdate ((mput m7 x9.Advisory x9).map encM9_137) tMap129 tKey9 wants_none rfl rfl (.con rfl) ⟨_, rfl⟩ encM9_137_good rfl (encM9_137_puts m7 x9.Advisory x9) ?_
      refine aops_nil ?_
      refine awp_region ?_
      refine aops_bin (.int .i64 (w64 (n6 + 1))) wants_none rfl rfl rfl rfl ?_
      refine aops_move (iV (w64 (n6 + 1))) wants_none rfl rfl ?_
      refine aops_nil ?_
      exact awp_back (ih1 ((w64 (n6 + 1)), (mput m7 x9.Advisory x9)) (hk1 _ h)) (ghost_ren 2 (fun i => ([0, 1] : List Nat).getD i 0) _ _ (by decide) (EnvSub.get (.cons (Sub.ptr rfl rfl) (.cons (Sub.map rfl rfl) (.cons (Sub.imm (Imm.lst _ _)) (.cons (Sub.imm (Imm.con _)) (.cons (Sub.imm (Imm.con _)) .nil)))))) (HpSub.get (.cons rfl (ObSub.box (.cons (Sub.imm (Imm.con _)) (.cons (Sub.imm (Imm.lst _ _)) (.cons (Sub.imm (Imm.lst _ _)) (.cons (Sub.imm (Imm.con _)) .nil))))) (.cons rfl (ObSub.maps encM9_137_imm) .nil))) rfl)
    · replace h := RG.f h hb8
      unfold M90_L1 at h
      refine awp_exit ?_
      exact ⟨m7, h, (ghost_ren 2 (fun i => ([0, 1] : List Nat).getD i 0) _ _ (by decide) (EnvSub.get (.cons (Sub.ptr rfl rfl) (.cons (Sub.map rfl rfl) .nil))) (HpSub.get (.cons rfl (ObSub.box (.cons (Sub.imm (Imm.con _)) (.cons (Sub.imm (Imm.lst _ _)) (.cons (Sub.imm (Imm.lst _ _)) (.cons (Sub.imm (Imm.con _)) .nil))))) (.cons rfl (ObSub.maps encM9_137_imm) .nil))) rfl)⟩
  · clear h
    intro m3 h
    subst hk2
    refine awp_seq ?_
    refine awp_region ?_
    refine aops_assign nV wants_none rfl rfl ?_
    refine aops_nil ?_
    refine awp_seq ?_
    refine awp_seq ?_
    refine awp_region ?_
    refine aops_fieldAddr tF52_1 wants_none rfl rfl ?_
    refine aops_load_cell (V.lst 3 (a1.Releases.map encTRelease)) tC49 wants_none rfl rfl rfl rfl rfl ?_
    refine aops_len (n := a1.Releases.length) tIsSl49 wants_none rfl (congrArg some (List.length_map ..)) rfl ?_
    refine aops_move (iV 0) wants_none rfl rfl ?_
    refine aops_nil ?_
    replace h := jn_elim h
    obtain ⟨k12, hk12, h⟩ := h
    refine awp_cut (fun (p : (List Thistory_piece)) => (⟨[(6, (V.own 0 p.length))], [(0, (Ob.arr 128 5 (p.map encThistory_piece)))], 1⟩ : St)) (fun (p : (List Thistory_piece)) => k12 p = some r) ?_ ?_
    · clear hk12
      refine awp_block ?_
      refine awp_len (A := a1.Releases) 28 rfl (fun hA45 => ?_)
      refine awp_loop_ind (fun (p : Int × (List Thistory_piece)) => (⟨[(1, (V.ptr 0 4 0 0)), (3, (V.map 1)), (6, (V.own 2 (p.2).length)), (28, (V.lst 3 (a1.Releases.map encTRelease))), (29, (iV ((a1.Releases.length : Nat) : Int))), (30, (iV (p.1)))], [(0, (Ob.arr 52 4 [[(sV a1.Product), (V.lst 3 (a1.Releases.map encTRelease)), (V.lst 3 (a1.Known.map encTPublished)), (iV a1.Until)]])), (1, (Ob.map (m3.map encM9_137))), (2, (Ob.arr 128 5 ((p.2).map encThistory_piece)))], 3⟩ : St)) (fun n (p : Int × (List Thistory_piece)) => RG a1.Releases (fun tl nn => M90_L2 F a1 m3 k12 tl nn p.2 = some r) n p.1) (fun p h => RG.zero h) (fun n ih2 p h => ?_) (a1.Releases.length + 1) (0, ([] : List Thistory_piece)) (RG.start h) (Ghost.trans (ghost_nilE 6 128 5 rfl) (ghost_ren 3 (fun i => ([0, 1, 2] : List Nat).getD i 0) _ _ (by decide) (EnvSub.get (.cons (Sub.ptr rfl rfl) (.cons (Sub.map rfl rfl) (.cons (Sub.ownE rfl rfl (by simp)) (.cons (Sub.imm (Imm.lst _ _)) (.cons (Sub.imm (Imm.con _)) (.cons (Sub.imm (Imm.con _)) .nil))))))) (HpSub.get (.cons rfl (ObSub.box (.cons (Sub.imm (Imm.con _)) (.cons (Sub.imm (Imm.lst _ _)) (.cons (Sub.imm (Imm.lst _ _)) (.cons (Sub.imm (Imm.con _)) .nil))))) (.cons rfl (ObSub.maps encM9_137_imm) (.cons rfl (ObSub.rows (rows_imm imms_encThistory_piece)) .nil)))) rfl))
      obtain ⟨n16, l17⟩ := p
      refine awp_loop ?_
      refine awp_seq ?_
      refine awp_region ?_
      refine aops_bin (.bool (decide (n16 < ((a1.Releases.length : Nat) : Int)))) wants_none rfl rfl rfl rfl ?_
      refine aops_nil ?_
      refine awp_seq ?_
      refine awp_cond (decide (n16 < ((a1.Releases.length : Nat) : Int))) rfl (fun hb18 => ?_) (fun hb18 => ?_)
      · obtain ⟨x21, tl, hx22, h, hk2⟩ := RG.t hA45 h hb18
        unfold M90_L2 at h
        refine awp_skip ?_
        refine awp_seq ?_
        replace h := jn_elim h
        obtain ⟨k19, hk19, h⟩ := h
        refine awp_cut (fun (p : (List Thistory_piece)) => (⟨[(1, (V.ptr 0 4 0 0)), (3, (V.map 1)), (6, (V.own 2 p.length)), (28, (V.lst 3 (a1.Releases.map encTRelease))), (29, (iV ((a1.Releases.length : Nat) : Int))), (30, (iV n16))], [(0, (Ob.arr 52 4 [[(sV a1.Product), (V.lst 3 (a1.Releases.map encTRelease)), (V.lst 3 (a1.Known.map encTPublished)), (iV a1.Until)]])), (1, (Ob.map (m3.map encM9_137))), (2, (Ob.arr 128 5 (p.map encThistory_piece)))], 3⟩ : St)) (fun (p : (List Thistory_piece)) => k19 p = some r) ?_ ?_
        · clear hk19
          refine awp_block ?_
          refine awp_seq ?_
          refine awp_region ?_
          refine aops_move (iV n16) wants_none rfl rfl ?_
          refine aops_index_lst [(sV x21.Version), (iV x21.Day), (V.lst 3 (x21.Exposures.map encTExposure))] tSl49 wants_none rfl rfl (idx_some hx22).1 (idx_map encTRelease hx22) rfl ?_
          refine aops_iload_agg (cs := [(sV x21.Version), (iV x21.Day), (V.lst 3 (x21.Exposures.map encTExposure))]) tA42 wants_none rfl rfl rfl rfl ?_
          refine aops_alloc tZ42 rfl rfl wants_none rfl ?_
          refine aops_assign (iV n16) wants_none rfl rfl ?_
          refine aops_store [(sV x21.Version), (iV x21.Day), (V.lst 3 (x21.Exposures.map encTExposure))] [[(sV x21.Version), (iV x21.Day), (V.lst 3 (x21.Exposures.map encTExposure))]] tS42 wants_none rfl rfl rfl rfl rfl rfl rfl rfl ?_
          refine aops_nil ?_
          refine awp_seq ?_
          refine awp_region ?_
          refine aops_fieldAddr tF52_3 wants_none rfl rfl ?_
          refine aops_load_cell (iV a1.Until) tC3 wants_none rfl rfl rfl rfl rfl ?_
          refine aops_assign (iV a1.Until) wants_none rfl rfl ?_
          refine aops_nil ?_
          refine awp_seq ?_
          refine awp_seq ?_
          refine awp_region ?_
          refine aops_move (iV n16) wants_none rfl rfl ?_
          refine aops_bin (.int .i64 (w64 (n16 + 1))) wants_none rfl rfl rfl rfl ?_
          refine aops_fieldAddr tF52_1 wants_none rfl rfl ?_
          refine aops_load_cell (V.lst 3 (a1.Releases.map encTRelease)) tC49 wants_none rfl rfl rfl rfl rfl ?_
          refine aops_len (n := a1.Releases.length) tIsSl49 wants_none rfl (congrArg some (List.length_map ..)) rfl ?_
          refine aops_bin (.bool (decide ((w64 (n16 + 1)) < ((a1.Releases.length : Nat) : Int)))) wants_none rfl rfl rfl rfl ?_
          refine aops_nil ?_
          replace h := jn_elim h
          obtain ⟨k23, hk23, h⟩ := h
          refine awp_cut (fun (p : Int) => (⟨[(1, (V.ptr 0 4 0 0)), (3, (V.map 1)), (6, (V.own 2 l17.length)), (8, (V.ptr 3 3 0 0)), (9, (iV p)), (28, (V.lst 3 (a1.Releases.map encTRelease))), (29, (iV ((a1.Releases.length : Nat) : Int))), (30, (iV n16))], [(0, (Ob.arr 52 4 [[(sV a1.Product), (V.lst 3 (a1.Releases.map encTRelease)), (V.lst 3 (a1.Known.map encTPublished)), (iV a1.Until)]])), (1, (Ob.map (m3.map encM9_137))), (2, (Ob.arr 128 5 (l17.map encThistory_piece))), (3, (Ob.arr 42 3 [[(sV x21.Version), (iV x21.Day), (V.lst 3 (x21.Exposures.map encTExposure))]]))], 4⟩ : St)) (fun (p : Int) => k23 p = some r) ?_ ?_
          · clear hk23
            refine awp_cond (decide ((w64 (n16 + 1)) < ((a1.Releases.length : Nat) : Int))) rfl (fun hb25 => ?_) (fun hb25 => ?_)
            · replace h := ite_t hb25 h
              refine awp_region ?_
              refine aops_fieldAddr tF52_1 wants_none rfl rfl ?_
              refine aops_load_cell (V.lst 3 (a1.Releases.map encTRelease)) tC49 wants_none rfl rfl rfl rfl rfl ?_
              refine aops_move (iV n16) wants_none rfl rfl ?_
              refine aops_bin (.int .i64 (w64 (n16 + 1))) wants_none rfl rfl rfl rfl ?_
              replace h := bind_some h
              obtain ⟨x26, hx27, h⟩ := h
              refine aops_index_lst [(sV x26.Version), (iV x26.Day), (V.lst 3 (x26.Exposures.map encTExposure))] tSl49 wants_none rfl rfl (idx_some hx27).1 (idx_map encTRelease hx27) rfl ?_
              refine aops_ifieldAddr tF42_1 wants_none rfl rfl ?_
              refine aops_iload_cell (iV x26.Day) tC3 wants_none rfl rfl rfl ?_
              refine aops_assign (iV x26.Day) wants_none rfl rfl ?_
              refine aops_nil ?_
              exact ⟨x26.Day, h, (ghost_ren 4 (fun i => ([0, 1, 2, 3] : List Nat).getD i 0) _ _ (by decide) (EnvSub.get (.cons (Sub.ptr rfl rfl) (.cons (Sub.map rfl rfl) (.cons (Sub.own rfl rfl) (.cons (Sub.ptr rfl rfl) (.cons (Sub.imm (Imm.con _)) (.cons (Sub.imm (Imm.lst _ _)) (.cons (Sub.imm (Imm.con _)) (.cons (Sub.imm (Imm.con _)) .nil))))))))) (HpSub.get (.cons rfl (ObSub.box (.cons (Sub.imm (Imm.con _)) (.cons (Sub.imm (Imm.lst _ _)) (.cons (Sub.imm (Imm.lst _ _)) (.cons (Sub.imm (Imm.con _)) .nil))))) (.cons rfl (ObSub.maps encM9_137_imm) (.cons rfl (ObSub.rows (rows_imm imms_encThistory_piece)) (.cons rfl (ObSub.box (.cons (Sub.imm (Imm.con _)) (.cons (Sub.imm (Imm.con _)) (.cons (Sub.imm (Imm.lst _ _)) .nil)))) .nil))))) rfl)⟩
            · replace h := ite_f hb25 h
              refine awp_skip ?_
              exact ⟨a1.Until, h, (ghost_ren 4 (fun i => ([0, 1, 2, 3] : List Nat).getD i 0) _ _ (by decide) (EnvSub.get (.cons (Sub.ptr rfl rfl) (.cons (Sub.map rfl rfl) (.cons (Sub.own rfl rfl) (.cons (Sub.ptr rfl rfl) (.cons (Sub.imm (Imm.con _)) (.cons (Sub.imm (Imm.lst _ _)) (.cons (Sub.imm (Imm.con _)) (.cons (Sub.imm (Imm.con _)) .nil))))))))) (HpSub.get (.cons rfl (ObSub.box (.cons (Sub.imm (Imm.con _)) (.cons (Sub.imm (Imm.lst _ _)) (.cons (Sub.imm (Imm.lst _ _)) (.cons (Sub.imm (Imm.con _)) .nil))))) (.cons rfl (ObSub.maps encM9_137_imm) (.cons rfl (ObSub.rows (rows_imm imms_encThistory_piece)) (.cons rfl (ObSub.box (.cons (Sub.imm (Imm.con _)) (.cons (Sub.imm (Imm.con _)) (.cons (Sub.imm (Imm.lst _ _)) .nil)))) .nil))))) rfl)⟩
          · clear h
            intro n24 h
            subst hk23
            refine awp_seq ?_
            refine awp_region ?_
            refine aops_fieldAddr tF42_2 wants_none rfl rfl ?_
            refine aops_load_cell (V.lst 3 (x21.Exposures.map encTExposure)) tC40 wants_none rfl rfl rfl rfl rfl ?_
            refine aops_len (n := x21.Exposures.length) tIsSl40 wants_none rfl (congrArg some (List.length_map ..)) rfl ?_
            refine aops_move (iV 0) wants_none rfl rfl ?_
            refine aops_nil ?_
            replace h := jn_elim h
            obtain ⟨k28, hk28, h⟩ := h
            refine awp_cut (fun (p : (List Thistory_piece)) => (⟨[(1, (V.ptr 0 4 0 0)), (3, (V.map 1)), (6, (V.own 2 p.length)), (28, (V.lst 3 (a1.Releases.map encTRelease))), (29, (iV ((a1.Releases.length : Nat) : Int))), (30, (iV n16))], [(0, (Ob.arr 52 4 [[(sV a1.Product), (V.lst 3 (a1.Releases.map encTRelease)), (V.lst 3 (a1.Known.map encTPublished)), (iV a1.Until)]])), (1, (Ob.map (m3.map encM9_137))), (2, (Ob.arr 128 5 (p.map encThistory_piece)))], 3⟩ : St)) (fun (p : (List Thistory_piece)) => k28 p = some r) ?_ ?_
            · clear hk28
              refine awp_block ?_
              refine awp_len (A := x21.Exposures) 51 rfl (fun hA44 => ?_)
              refine awp_loop_ind (fun (p : Int × (List Thistory_piece)) => (⟨[(1, (V.ptr 0 4 0 0)), (3, (V.map 1)), (6, (V.own 2 (p.2).length)), (8, (V.ptr 3 3 0 0)), (9, (iV n24)), (28, (V.lst 3 (a1.Releases.map encTRelease))), (29, (iV ((a1.Releases.length : Nat) : Int))), (30, (iV n16)), (51, (V.lst 3 (x21.Exposures.map encTExposure))), (52, (iV ((x21.Exposures.length : Nat) : Int))), (53, (iV (p.1)))], [(0, (Ob.arr 52 4 [[(sV a1.Product), (V.lst 3 (a1.Releases.map encTRelease)), (V.lst 3 (a1.Known.map encTPublished)), (iV a1.Until)]])), (1, (Ob.map (m3.map encM9_137))), (2, (Ob.arr 128 5 ((p.2).map encThistory_piece))), (3, (Ob.arr 42 3 [[(sV x21.Version), (iV x21.Day), (V.lst 3 (x21.Exposures.map encTExposure))]]))], 4⟩ : St)) (fun n (p : Int × (List Thistory_piece)) => RG x21.Exposures (fun tl nn => M90_L3 F m3 x21 n24 k28 tl p.2 = some r) n p.1) (fun p h => RG.zero h) (fun n ih3 p h => ?_) (x21.Exposures.length + 1) (0, l17) (RG.start h) (ghost_ren 4 (fun i => ([0, 1, 2, 3] : List Nat).getD i 0) _ _ (by decide) (EnvSub.get (.cons (Sub.ptr rfl rfl) (.cons (Sub.map rfl rfl) (.cons (Sub.own rfl rfl) (.cons (Sub.ptr rfl rfl) (.cons (Sub.imm (Imm.con _)) (.cons (Sub.imm (Imm.lst _ _)) (.cons (Sub.imm (Imm.con _)) (.cons (Sub.imm (Imm.con _)) (.cons (Sub.imm (Imm.lst _ _)) (.cons (Sub.imm (Imm.con _)) (.cons (Sub.imm (Imm.con _)) .nil)))))))))))) (HpSub.get (.cons rfl (ObSub.box (.cons (Sub.imm (Imm.con _)) (.cons (Sub.imm (Imm.lst _ _)) (.cons (Sub.imm (Imm.lst _ _)) (.cons (Sub.imm (Imm.con _)) .nil))))) (.cons rfl (ObSub.maps encM9_137_imm) (.cons rfl (ObSub.rows (rows_imm imms_encThistory_piece)) (.cons rfl (ObSub.box (.cons (Sub.imm (Imm.con _)) (.cons (Sub.imm (Imm.con _)) (.cons (Sub.imm (Imm.lst _ _)) .nil)))) .nil))))) rfl)
              obtain ⟨n32, l33⟩ := p
              refine awp_loop ?_
              refine awp_seq ?_
              refine awp_region ?_
              refine aops_bin (.bool (decide (n32 < ((x21.Exposures.length : Nat) : Int)))) wants_none rfl rfl rfl rfl ?_
              refine aops_nil ?_
              refine awp_seq ?_
              refine awp_cond (decide (n32 < ((x21.Exposures.length : Nat) : Int))) rfl (fun hb34 => ?_) (fun hb34 => ?_)
              · obtain ⟨x35, tl, hx36, h, hk3⟩ := RG.t hA44 h hb34
                unfold M90_L3 at h
                refine awp_skip ?_
                refine awp_seq ?_
                refine awp_block ?_
                refine awp_seq ?_
                refine awp_region ?_
                refine aops_index_lst [(sV x35.Advisory), (sV x35.Component), (iV x35.Severity)] tSl40 wants_none rfl rfl (idx_some hx36).1 (idx_map encTExposure hx36) rfl ?_
                refine aops_iload_agg (cs := [(sV x35.Advisory), (sV x35.Component), (iV x35.Severity)]) tA47 wants_none rfl rfl rfl rfl ?_
                refine aops_alloc tZ47 rfl rfl wants_none rfl ?_
                refine aops_store [(sV x35.Advisory), (sV x35.Component), (iV x35.Severity)] [[(sV x35.Advisory), (sV x35.Component), (iV x35.Severity)]] tS47 wants_none rfl rfl rfl rfl rfl rfl rfl rfl ?_
                refine aops_nil ?_
                refine awp_seq ?_
                refine awp_region ?_
                refine aops_move (V.map 1) wants_none rfl rfl ?_
                refine aops_fieldAddr tF47_0 wants_none rfl rfl ?_
                refine aops_load_cell (sV x35.Advisory) tC9 wants_none rfl rfl rfl rfl rfl ?_
                refine aops_lookup _ (V.agg [(sV ([] : List UInt8)), (iV 0), (iV 0)]) (V.agg [(sV ((mget m3 x35.Advisory).getD (TPublished.mk ([] : List UInt8) 0 0)).Advisory), (iV ((mget m3 x35.Advisory).getD (TPublished.mk ([] : List UInt8) 0 0)).Day), (iV ((mget m3 x35.Advisory).getD (TPublished.mk ([] : List UInt8) 0 0)).Ended)]) tMap129 tKey9 tZo137 (irel_conAgg [str ([] : List UInt8), .int .i64 0, .int .i64 0]) wants_none rfl (.own rfl) (.con rfl) ⟨_, rfl⟩ encM9_137_good (encM9_137_look m3 x35.Advisory) (getD_map (encM9_137_val) (mget m3 x35.Advisory) (TPublished.mk ([] : List UInt8) 0 0)) rfl ?_
                refine aops_alloc tZ137 rfl rfl wants_none rfl ?_
                refine aops_store [(sV ((mget m3 x35.Advisory).getD (TPublished.mk ([] : List UInt8) 0 0)).Advisory), (iV ((mget m3 x35.Advisory).getD (TPublished.mk ([] : List UInt8) 0 0)).Day), (iV ((mget m3 x35.Advisory).getD (TPublished.mk ([] : List UInt8) 0 0)).Ended)] [[(sV ((mget m3 x35.Advisory).getD (TPublished.mk ([] : List UInt8) 0 0)).Advisory), (iV ((mget m3 x35.Advisory).getD (TPublished.mk ([] : List UInt8) 0 0)).Day), (iV ((mget m3 x35.Advisory).getD (TPublished.mk ([] : List UInt8) 0 0)).Ended)]] tS137 wants_none rfl rfl rfl rfl rfl rfl rfl rfl ?_
                refine aops_nil ?_
                refine awp_seq ?_
                refine awp_region ?_
                refine aops_load_agg (cs := [(sV x35.Advisory), (sV x35.Component), (iV x35.Severity)]) tA47 wants_none rfl rfl rfl rfl rfl rfl ?_
                refine aops_fieldAddr tF42_1 wants_none rfl rfl ?_
                refine aops_load_cell (iV x21.Day) tC3 wants_none rfl rfl rfl rfl rfl ?_
                refine aops_fieldAddr tF137_1 wants_none rfl rfl ?_
                refine aops_load_cell (iV ((mget m3 x35.Advisory).getD (TPublished.mk ([] : List UInt8) 0 0)).Day) tC3 wants_none rfl rfl rfl rfl rfl ?_
                refine aops_max wants_none rfl rfl rfl ?_
                refine aops_move (iV n24) wants_none rfl rfl ?_
                refine aops_build [(0, (V.agg [(sV x35.Advisory), (sV x35.Component), (iV x35.Severity)])), (1, (iV (if ((mget m3 x35.Advisory).getD (TPublished.mk ([] : List UInt8) 0 0)).Day > x21.Day then ((mget m3 x35.Advisory).getD (TPublished.mk ([] : List UInt8) 0 0)).Day else x21.Day))), (2, (iV n24))] [(sV x35.Advisory), (sV x35.Component), (iV x35.Severity), (iV (if ((mget m3 x35.Advisory).getD (TPublished.mk ([] : List UInt8) 0 0)).Day > x21.Day then ((mget m3 x35.Advisory).getD (TPublished.mk ([] : List UInt8) 0 0)).Day else x21.Day)), (iV n24)] tZ128 tPl128 rfl wants_none (evp_cons rfl (evp_cons rfl (evp_cons rfl evp_nil))) rfl rfl ?_
                refine aops_alloc tZ128 rfl rfl wants_none rfl ?_
                refine aops_store [(sV x35.Advisory), (sV x35.Component), (iV x35.Severity), (iV (if ((mget m3 x35.Advisory).getD (TPublished.mk ([] : List UInt8) 0 0)).Day > x21.Day then ((mget m3 x35.Advisory).getD (TPublished.mk ([] : List UInt8) 0 0)).Day else x21.Day)), (iV n24)] [[(sV x35.Advisory), (sV x35.Component), (iV x35.Severity), (iV (if ((mget m3 x35.Advisory).getD (TPublished.mk ([] : List UInt8) 0 0)).Day > x21.Day then ((mget m3 x35.Advisory).getD (TPublished.mk ([] : List UInt8) 0 0)).Day else x21.Day)), (iV n24)]] tS128 wants_none rfl rfl rfl rfl rfl rfl rfl rfl ?_
                refine aops_nil ?_
                refine awp_seq ?_
                refine awp_seq ?_
                refine awp_region ?_
                refine aops_fieldAddr tF137_2 wants_none rfl rfl ?_
                refine aops_load_cell (iV ((mget m3 x35.Advisory).getD (TPublished.mk ([] : List UInt8) 0 0)).Ended) tC3 wants_none rfl rfl rfl rfl rfl ?_
                refine aops_bin (.bool (decide (((mget m3 x35.Advisory).getD (TPublished.mk ([] : List UInt8) 0 0)).Ended ≥ 0))) wants_none rfl rfl rfl rfl ?_
                refine aops_nil ?_
                replace h := jn_elim h
                obtain ⟨k37, hk37, h⟩ := h
                refine awp_cut (fun (p : Int) => (⟨[(1, (V.ptr 0 4 0 0)), (3, (V.map 1)), (6, (V.own 2 l33.length)), (8, (V.ptr 3 3 0 0)), (9, (iV n24)), (13, (V.ptr 4 5 0 0)), (28, (V.lst 3 (a1.Releases.map encTRelease))), (29, (iV ((a1.Releases.length : Nat) : Int))), (30, (iV n16)), (51, (V.lst 3 (x21.Exposures.map encTExposure))), (52, (iV ((x21.Exposures.length : Nat) : Int))), (53, (iV n32))], [(0, (Ob.arr 52 4 [[(sV a1.Product), (V.lst 3 (a1.Releases.map encTRelease)), (V.lst 3 (a1.Known.map encTPublished)), (iV a1.Until)]])), (1, (Ob.map (m3.map encM9_137))), (2, (Ob.arr 128 5 (l33.map encThistory_piece))), (3, (Ob.arr 42 3 [[(sV x21.Version), (iV x21.Day), (V.lst 3 (x21.Exposures.map encTExposure))]])), (4, (Ob.arr 128 5 [[(sV x35.Advisory), (sV x35.Component), (iV x35.Severity), (iV (if ((mget m3 x35.Advisory).getD (TPublished.mk ([] : List UInt8) 0 0)).Day > x21.Day then ((mget m3 x35.Advisory).getD (TPublished.mk ([] : List UInt8) 0 0)).Day else x21.Day)), (iV p)]]))], 5⟩ : St)) (fun (p : Int) => k37 p = some r) ?_ ?_
                · clear hk37
                  refine awp_cond (decide (((mget m3 x35.Advisory).getD (TPublished.mk ([] : List UInt8) 0 0)).Ended ≥ 0)) rfl (fun hb39 => ?_) (fun hb39 => ?_)
                  · replace h := ite_t hb39 h
                    refine awp_region ?_
                    refine aops_move (iV n24) wants_none rfl rfl ?_
                    refine aops_fieldAddr tF137_2 wants_none rfl rfl ?_
                    refine aops_load_cell (iV ((mget m3 x35.Advisory).getD (TPublished.mk ([] : List UInt8) 0 0)).Ended) tC3 wants_none rfl rfl rfl rfl rfl ?_
                    refine aops_min wants_none rfl rfl rfl ?_
                    refine aops_fieldAddr tF128_2 wants_none rfl rfl ?_
                    refine aops_store [(iV (if ((mget m3 x35.Advisory).getD (TPublished.mk ([] : List UInt8) 0 0)).Ended < n24 then ((mget m3 x35.Advisory).getD (TPublished.mk ([] : List UInt8) 0 0)).Ended else n24))] [[(sV x35.Advisory), (sV x35.Component), (iV x35.Severity), (iV (if ((mget m3 x35.Advisory).getD (TPublished.mk ([] : List UInt8) 0 0)).Day > x21.Day then ((mget m3 x35.Advisory).getD (TPublished.mk ([] : List UInt8) 0 0)).Day else x21.Day)), (iV (if ((mget m3 x35.Advisory).getD (TPublished.mk ([] : List UInt8) 0 0)).Ended < n24 then ((mget m3 x35.Advisory).getD (TPublished.mk ([] : List UInt8) 0 0)).Ended else n24))]] tS3 wants_none rfl rfl rfl rfl rfl rfl rfl rfl ?_
                    refine aops_nil ?_
                    exact ⟨(if ((mget m3 x35.Advisory).getD (TPublished.mk ([] : List UInt8) 0 0)).Ended < n24 then ((mget m3 x35.Advisory).getD (TPublished.mk ([] : List UInt8) 0 0)).Ended else n24), h, (ghost_ren 5 (fun i => ([0, 1, 2, 3, 6] : List Nat).getD i 0) _ _ (by decide) (EnvSub.get (.cons (Sub.ptr rfl rfl) (.cons (Sub.map rfl rfl) (.cons (Sub.own rfl rfl) (.cons (Sub.ptr rfl rfl) (.cons (Sub.imm (Imm.con _)) (.cons (Sub.ptr rfl rfl) (.cons (Sub.imm (Imm.lst _ _)) (.cons (Sub.imm (Imm.con _)) (.cons (Sub.imm (Imm.con _)) (.cons (Sub.imm (Imm.lst _ _)) (.cons (Sub.imm (Imm.con _)) (.cons (Sub.imm (Imm.con _)) .nil))))))))))))) (HpSub.get (.cons rfl (ObSub.box (.cons (Sub.imm (Imm.con _)) (.cons (Sub.imm (Imm.lst _ _)) (.cons (Sub.imm (Imm.lst _ _)) (.cons (Sub.imm (Imm.con _)) .nil))))) (.cons rfl (ObSub.maps encM9_137_imm) (.cons rfl (ObSub.rows (rows_imm imms_encThistory_piece)) (.cons rfl (ObSub.box (.cons (Sub.imm (Imm.con _)) (.cons (Sub.imm (Imm.con _)) (.cons (Sub.imm (Imm.lst _ _)) .nil)))) (.cons rfl (ObSub.box (.cons (Sub.imm (Imm.con _)) (.cons (Sub.imm (Imm.con _)) (.cons (Sub.imm (Imm.con _)) (.cons (Sub.imm (Imm.con _)) (.cons (Sub.imm (Imm.con _)) .nil)))))) .nil)))))) rfl)⟩
                  · replace h := ite_f hb39 h
                    refine awp_skip ?_
                    exact ⟨n24, h, (ghost_ren 5 (fun i => ([0, 1, 2, 3, 6] : List Nat).getD i 0) _ _ (by decide) (EnvSub.get (.cons (Sub.ptr rfl rfl) (.cons (Sub.map rfl rfl) (.cons (Sub.own rfl rfl) (.cons (Sub.ptr rfl rfl) (.cons (Sub.imm (Imm.con _)) (.cons (Sub.ptr rfl rfl) (.cons (Sub.imm (Imm.lst _ _)) (.cons (Sub.imm (Imm.con _)) (.cons (Sub.imm (Imm.con _)) (.cons (Sub.imm (Imm.lst _ _)) (.cons (Sub.imm (Imm.con _)) (.cons (Sub.imm (Imm.con _)) .nil))))))))))))) (HpSub.get (.cons rfl (ObSub.box (.cons (Sub.imm (Imm.con _)) (.cons (Sub.imm (Imm.lst _ _)) (.cons (Sub.imm (Imm.lst _ _)) (.cons (Sub.imm (Imm.con _)) .nil))))) (.cons rfl (ObSub.maps encM9_137_imm) (.cons rfl (ObSub.rows (rows_imm imms_encThistory_piece)) (.cons rfl (ObSub.box (.cons (Sub.imm (Imm.con _)) (.cons (Sub.imm (Imm.con _)) (.cons (Sub.imm (Imm.lst _ _)) .nil)))) (.cons rfl (ObSub.box (.cons (Sub.imm (Imm.con _)) (.cons (Sub.imm (Imm.con _)) (.cons (Sub.imm (Imm.con _)) (.cons (Sub.imm (Imm.con _)) (.cons (Sub.imm (Imm.con _)) .nil)))))) .nil)))))) rfl)⟩
                · clear h
                  intro n38 h
                  subst hk37
                  refine awp_seq ?_
                  refine awp_region ?_
                  refine aops_fieldAddr tF128_1 wants_none rfl rfl ?_
                  refine aops_load_cell (iV (if ((mget m3 x35.Advisory).getD (TPublished.mk ([] : List UInt8) 0 0)).Day > x21.Day then ((mget m3 x35.Advisory).getD (TPublished.mk ([] : List UInt8) 0 0)).Day else x21.Day)) tC3 wants_none rfl rfl rfl rfl rfl ?_
                  refine aops_fieldAddr tF128_2 wants_none rfl rfl ?_
                  refine aops_load_cell (iV n38) tC3 wants_none rfl rfl rfl rfl rfl ?_
                  refine aops_bin (.bool (decide ((if ((mget m3 x35.Advisory).getD (TPublished.mk ([] : List UInt8) 0 0)).Day > x21.Day then ((mget m3 x35.Advisory).getD (TPublished.mk ([] : List UInt8) 0 0)).Day else x21.Day) < n38))) wants_none rfl rfl rfl rfl ?_
                  refine aops_nil ?_
                  replace h := jn_elim h
                  obtain ⟨k40, hk40, h⟩ := h
                  refine awp_cut (fun (p : (List Thistory_piece)) => (⟨[(1, (V.ptr 0 4 0 0)), (3, (V.map 1)), (6, (V.own 2 p.length)), (8, (V.ptr 3 3 0 0)), (9, (iV n24)), (28, (V.lst 3 (a1.Releases.map encTRelease))), (29, (iV ((a1.Releases.length : Nat) : Int))), (30, (iV n16)), (51, (V.lst 3 (x21.Exposures.map encTExposure))), (52, (iV ((x21.Exposures.length : Nat) : Int))), (53, (iV n32))], [(0, (Ob.arr 52 4 [[(sV a1.Product), (V.lst 3 (a1.Releases.map encTRelease)), (V.lst 3 (a1.Known.map encTPublished)), (iV a1.Until)]])), (1, (Ob.map (m3.map encM9_137))), (2, (Ob.arr 128 5 (p.map encThistory_piece))), (3, (Ob.arr 42 3 [[(sV x21.Version), (iV x21.Day), (V.lst 3 (x21.Exposures.map encTExposure))]]))], 4⟩ : St)) (fun (p : (List Thistory_piece)) => k40 p = some r) ?_ ?_
                  · clear hk40
                    refine awp_cond (decide ((if ((mget m3 x35.Advisory).getD (TPublished.mk ([] : List UInt8) 0 0)).Day > x21.Day then ((mget m3 x35.Advisory).getD (TPublished.mk ([] : List UInt8) 0 0)).Day else x21.Day) < n38)) rfl (fun hb42 => ?_) (fun hb42 => ?_)
                    · replace h := ite_t hb42 h
                      refine awp_region ?_
                      refine aops_move (V.own 2 l33.length) wants_none rfl rfl ?_
                      refine aops_load_agg (cs := [(sV x35.Advisory), (sV x35.Component), (iV x35.Severity), (iV (if ((mget m3 x35.Advisory).getD (TPublished.mk ([] : List UInt8) 0 0)).Day > x21.Day then ((mget m3 x35.Advisory).getD (TPublished.mk ([] : List UInt8) 0 0)).Day else x21.Day)), (iV n38)]) tA128 wants_none rfl rfl rfl rfl rfl rfl ?_
                      refine aops_buildSlice [(0, (V.agg [(sV x35.Advisory), (sV x35.Component), (iV x35.Severity), (iV (if ((mget m3 x35.Advisory).getD (TPublished.mk ([] : List UInt8) 0 0)).Day > x21.Day then ((mget m3 x35.Advisory).getD (TPublished.mk ([] : List UInt8) 0 0)).Day else x21.Day)), (iV n38)]))] [[(sV x35.Advisory), (sV x35.Component), (iV x35.Severity), (iV (if ((mget m3 x35.Advisory).getD (TPublished.mk ([] : List UInt8) 0 0)).Day > x21.Day then ((mget m3 x35.Advisory).getD (TPublished.mk ([] : List UInt8) 0 0)).Day else x21.Day)), (iV n38)]] tEl125 tZ128 rfl rfl rfl rfl wants_none (evp_cons rfl evp_nil) rfl rfl (by simp) rfl ?_
                      replace h := chk_some h
                      obtain ⟨hc43, h⟩ := h
                      refine aops_append [[(sV x35.Advisory), (sV x35.Component), (iV x35.Severity), (iV (if ((mget m3 x35.Advisory).getD (TPublished.mk ([] : List UInt8) 0 0)).Day > x21.Day then ((mget m3 x35.Advisory).getD (TPublished.mk ([] : List UInt8) 0 0)).Day else x21.Day)), (iV n38)]] ((l33 ++ ([(Thistory_piece.mk x35 (if ((mget m3 x35.Advisory).getD (TPublished.mk ([] : List UInt8) 0 0)).Day > x21.Day then ((mget m3 x35.Advisory).getD (TPublished.mk ([] : List UInt8) 0 0)).Day else x21.Day) n38)] : List Thistory_piece)).map encThistory_piece) tEl125 tIsSl125 rfl rfl wants_none rfl rfl (by simp) rfl (.own rfl (by simp)) (map_snoc encThistory_piece l33 ([(Thistory_piece.mk x35 (if ((mget m3 x35.Advisory).getD (TPublished.mk ([] : List UInt8) 0 0)).Day > x21.Day then ((mget m3 x35.Advisory).getD (TPublished.mk ([] : List UInt8) 0 0)).Day else x21.Day) n38)] : List Thistory_piece)) (List.length_map ..) hc43 rfl ?_
                      refine aops_assign (V.own 6 (l33 ++ ([(Thistory_piece.mk x35 (if ((mget m3 x35.Advisory).getD (TPublished.mk ([] : List UInt8) 0 0)).Day > x21.Day then ((mget m3 x35.Advisory).getD (TPublished.mk ([] : List UInt8) 0 0)).Day else x21.Day) n38)] : List Thistory_piece)).length) wants_none rfl rfl ?_
                      refine aops_nil ?_
                      exact ⟨(l33 ++ ([(Thistory_piece.mk x35 (if ((mget m3 x35.Advisory).getD (TPublished.mk ([] : List UInt8) 0 0)).Day > x21.Day then ((mget m3 x35.Advisory).getD (TPublished.mk ([] : List UInt8) 0 0)).Day else x21.Day) n38)] : List Thistory_piece)), h, (ghost_ren 4 (fun i => ([0, 1, 6, 3] : List Nat).getD i 0) _ _ (by decide) (EnvSub.get (.cons (Sub.ptr rfl rfl) (.cons (Sub.map rfl rfl) (.cons (Sub.own rfl rfl) (.cons (Sub.ptr rfl rfl) (.cons (Sub.imm (Imm.con _)) (.cons (Sub.imm (Imm.lst _ _)) (.cons (Sub.imm (Imm.con _)) (.cons (Sub.imm (Imm.con _)) (.cons (Sub.imm (Imm.lst _ _)) (.cons (Sub.imm (Imm.con _)) (.cons (Sub.imm (Imm.con _)) .nil)))))))))))) (HpSub.get (.cons rfl (ObSub.box (.cons (Sub.imm (Imm.con _)) (.cons (Sub.imm (Imm.lst _ _)) (.cons (Sub.imm (Imm.lst _ _)) (.cons (Sub.imm (Imm.con _)) .nil))))) (.cons rfl (ObSub.maps encM9_137_imm) (.cons rfl (ObSub.rows (rows_imm imms_encThistory_piece)) (.cons rfl (ObSub.box (.cons (Sub.imm (Imm.con _)) (.cons (Sub.imm (Imm.con _)) (.cons (Sub.imm (Imm.lst _ _)) .nil)))) .nil))))) rfl)⟩
                    · replace h := ite_f hb42 h
                      refine awp_skip ?_
                      exact ⟨l33, h, (ghost_ren 4 (fun i => ([0, 1, 2, 3] : List Nat).getD i 0) _ _ (by decide) (EnvSub.get (.cons (Sub.ptr rfl rfl) (.cons (Sub.map rfl rfl) (.cons (Sub.own rfl rfl) (.cons (Sub.ptr rfl rfl) (.cons (Sub.imm (Imm.con _)) (.cons (Sub.imm (Imm.lst _ _)) (.cons (Sub.imm (Imm.con _)) (.cons (Sub.imm (Imm.con _)) (.cons (Sub.imm (Imm.lst _ _)) (.cons (Sub.imm (Imm.con _)) (.cons (Sub.imm (Imm.con _)) .nil)))))))))))) (HpSub.get (.cons rfl (ObSub.box (.cons (Sub.imm (Imm.con _)) (.cons (Sub.imm (Imm.lst _ _)) (.cons (Sub.imm (Imm.lst _ _)) (.cons (Sub.imm (Imm.con _)) .nil))))) (.cons rfl (ObSub.maps encM9_137_imm) (.cons rfl (ObSub.rows (rows_imm imms_encThistory_piece)) (.cons rfl (ObSub.box (.cons (Sub.imm (Imm.con _)) (.cons (Sub.imm (Imm.con _)) (.cons (Sub.imm (Imm.lst _ _)) .nil)))) .nil))))) rfl)⟩
                  · clear h
                    intro l41 h
                    subst hk40
                    refine awp_region ?_
                    refine aops_bin (.int .i64 (w64 (n32 + 1))) wants_none rfl rfl rfl rfl ?_
                    refine aops_move (iV (w64 (n32 + 1))) wants_none rfl rfl ?_
                    refine aops_nil ?_
                    exact awp_back (ih3 ((w64 (n32 + 1)), l41) (hk3 _ h)) (ghost_ren 4 (fun i => ([0, 1, 2, 3] : List Nat).getD i 0) _ _ (by decide) (EnvSub.get (.cons (Sub.ptr rfl rfl) (.cons (Sub.map rfl rfl) (.cons (Sub.own rfl rfl) (.cons (Sub.ptr rfl rfl) (.cons (Sub.imm (Imm.con _)) (.cons (Sub.imm (Imm.lst _ _)) (.cons (Sub.imm (Imm.con _)) (.cons (Sub.imm (Imm.con _)) (.cons (Sub.imm (Imm.lst _ _)) (.cons (Sub.imm (Imm.con _)) (.cons (Sub.imm (Imm.con _)) .nil)))))))))))) (HpSub.get (.cons rfl (ObSub.box (.cons (Sub.imm (Imm.con _)) (.cons (Sub.imm (Imm.lst _ _)) (.cons (Sub.imm (Imm.lst _ _)) (.cons (Sub.imm (Imm.con _)) .nil))))) (.cons rfl (ObSub.maps encM9_137_imm) (.cons rfl (ObSub.rows (rows_imm imms_encThistory_piece)) (.cons rfl (ObSub.box (.cons (Sub.imm (Imm.con _)) (.cons (Sub.imm (Imm.con _)) (.cons (Sub.imm (Imm.lst _ _)) .nil)))) .nil))))) rfl)
              · replace h := RG.f h hb34
                unfold M90_L3 at h
                refine awp_exit ?_
                exact ⟨l33, h, (ghost_ren 3 (fun i => ([0, 1, 2] : List Nat).getD i 0) _ _ (by decide) (EnvSub.get (.cons (Sub.ptr rfl rfl) (.cons (Sub.map rfl rfl) (.cons (Sub.own rfl rfl) (.cons (Sub.imm (Imm.lst _ _)) (.cons (Sub.imm (Imm.con _)) (.cons (Sub.imm (Imm.con _)) .nil))))))) (HpSub.get (.cons rfl (ObSub.box (.cons (Sub.imm (Imm.con _)) (.cons (Sub.imm (Imm.lst _ _)) (.cons (Sub.imm (Imm.lst _ _)) (.cons (Sub.imm (Imm.con _)) .nil))))) (.cons rfl (ObSub.maps encM9_137_imm) (.cons rfl (ObSub.rows (rows_imm imms_encThistory_piece)) .nil)))) rfl)⟩
            · clear h
              intro l29 h
              subst hk28
              exact ⟨l29, h, (ghost_ren 3 (fun i => ([0, 1, 2] : List Nat).getD i 0) _ _ (by decide) (EnvSub.get (.cons (Sub.ptr rfl rfl) (.cons (Sub.map rfl rfl) (.cons (Sub.own rfl rfl) (.cons (Sub.imm (Imm.lst _ _)) (.cons (Sub.imm (Imm.con _)) (.cons (Sub.imm (Imm.con _)) .nil))))))) (HpSub.get (.cons rfl (ObSub.box (.cons (Sub.imm (Imm.con _)) (.cons (Sub.imm (Imm.lst _ _)) (.cons (Sub.imm (Imm.lst _ _)) (.cons (Sub.imm (Imm.con _)) .nil))))) (.cons rfl (ObSub.maps encM9_137_imm) (.cons rfl (ObSub.rows (rows_imm imms_encThistory_piece)) .nil)))) rfl)⟩
        · clear h
          intro l20 h
          subst hk19
          refine awp_region ?_
          refine aops_bin (.int .i64 (w64 (n16 + 1))) wants_none rfl rfl rfl rfl ?_
          refine aops_move (iV (w64 (n16 + 1))) wants_none rfl rfl ?_
          refine aops_nil ?_
          exact awp_back (ih2 ((w64 (n16 + 1)), l20) (hk2 _ h)) (ghost_ren 3 (fun i => ([0, 1, 2] : List Nat).getD i 0) _ _ (by decide) (EnvSub.get (.cons (Sub.ptr rfl rfl) (.cons (Sub.map rfl rfl) (.cons (Sub.own rfl rfl) (.cons (Sub.imm (Imm.lst _ _)) (.cons (Sub.imm (Imm.con _)) (.cons (Sub.imm (Imm.con _)) .nil))))))) (HpSub.get (.cons rfl (ObSub.box (.cons (Sub.imm (Imm.con _)) (.cons (Sub.imm (Imm.lst _ _)) (.cons (Sub.imm (Imm.lst _ _)) (.cons (Sub.imm (Imm.con _)) .nil))))) (.cons rfl (ObSub.maps encM9_137_imm) (.cons rfl (ObSub.rows (rows_imm imms_encThistory_piece)) .nil)))) rfl)
      · replace h := RG.f h hb18
        unfold M90_L2 at h
        refine awp_exit ?_
        exact ⟨l17, h, (ghost_ren 1 (fun i => ([2] : List Nat).getD i 0) _ _ (by decide) (EnvSub.get (.cons (Sub.own rfl rfl) .nil)) (HpSub.get (.cons rfl (ObSub.rows (rows_imm imms_encThistory_piece)) .nil)) rfl)⟩
    · clear h
      intro l13 h
      subst hk12
      refine awp_seq ?_
      refine awp_region ?_
      refine aops_move (V.own 0 l13.length) wants_none rfl rfl ?_
      refine aops_assign (V.own 0 l13.length) wants_none rfl rfl ?_
      refine aops_nil ?_
      refine awp_ghost (ghost_frzE 0 2 rfl (rows_imm imms_encThistory_piece) rfl (List.length_map ..).symm) ?_
      refine awp_ret ?_
      obtain rfl := Option.some.inj h
      exact ⟨.inl rfl, .one (.tmp rfl (Imm.lst _ _))⟩
theorem W91 (F : Nat) (a1 : TStory) (r : Tprovenderref11_view) (h : M91 F a1 = some r) : Pure Try.prog 91 [(V.agg [(sV a1.Product), (V.lst 3 (a1.Releases.map encTRelease)), (V.lst 3 (a1.Known.map encTPublished)), (iV a1.Until)])] (V.agg [(sV r.s.Product), (V.lst 3 (r.s.Releases.map encTRelease)), (V.lst 3 (r.s.Known.map encTPublished)), (iV r.s.Until), (V.imap (r.known.map encM9_137))]) := by
  refine pure_enter Try.func91 rfl rfl (l := [.cell 2 131]) rfl rfl [(0, (V.agg [(sV a1.Product), (V.lst 3 (a1.Releases.map encTRelease)), (V.lst 3 (a1.Known.map encTPublished)), (iV a1.Until)]))] rfl (fun w0 m0 => ?_)
  unfold M91 at h
  refine awp_seq ?_
  refine awp_region ?_
  refine aops_box [(sV a1.Product), (V.lst 3 (a1.Releases.map encTRelease)), (V.lst 3 (a1.Known.map encTPublished)), (iV a1.Until)] wants_none rfl rfl rfl rfl ?_
  refine aops_alloc tZ131 rfl rfl wants_none rfl ?_
  refine aops_nil ?_
  refine awp_seq ?_
  refine awp_region ?_
  refine aops_load_agg (cs := [(sV a1.Product), (V.lst 3 (a1.Releases.map encTRelease)), (V.lst 3 (a1.Known.map encTPublished)), (iV a1.Until)]) tA52 wants_none rfl rfl rfl rfl rfl rfl ?_
  refine aops_makeMap wants_none rfl ?_
  refine aops_build [(0, (V.agg [(sV a1.Product), (V.lst 3 (a1.Releases.map encTRelease)), (V.lst 3 (a1.Known.map encTPublished)), (iV a1.Until)])), (1, (V.map 2))] [(sV a1.Product), (V.lst 3 (a1.Releases.map encTRelease)), (V.lst 3 (a1.Known.map encTPublished)), (iV a1.Until), (V.map 2)] tZ131 tPl131 rfl wants_none (evp_cons rfl (evp_cons rfl evp_nil)) rfl rfl ?_
  refine aops_alloc tZ131 rfl rfl wants_none rfl ?_
  refine aops_store [(sV a1.Product), (V.lst 3 (a1.Releases.map encTRelease)), (V.lst 3 (a1.Known.map encTPublished)), (iV a1.Until), (V.map 2)] [[(sV a1.Product), (V.lst 3 (a1.Releases.map encTRelease)), (V.lst 3 (a1.Known.map encTPublished)), (iV a1.Until), (V.map 2)]] tS131 wants_none rfl rfl rfl rfl rfl rfl rfl rfl ?_
  refine aops_nil ?_
  refine awp_seq ?_
  refine awp_seq ?_
  refine awp_region ?_
  refine aops_fieldAddr tF52_2 wants_none rfl rfl ?_
  refine aops_load_cell (V.lst 3 (a1.Known.map encTPublished)) tC50 wants_none rfl rfl rfl rfl rfl ?_
  refine aops_len (n := a1.Known.length) tIsSl50 wants_none rfl (congrArg some (List.length_map ..)) rfl ?_
  refine aops_move (iV 0) wants_none rfl rfl ?_
  refine aops_nil ?_
  replace h := jn_elim h
  obtain ⟨k2, hk2, h⟩ := h
  refine awp_cut (fun (p : (List ((List UInt8) × TPublished))) => (⟨[(2, (V.ptr 0 5 0 0)), (3, (V.ptr 1 5 0 0))], [(0, (Ob.arr 131 5 [[(sV ([] : List UInt8)), nV, nV, (iV 0), (V.con (.map none))]])), (1, (Ob.arr 131 5 [[(sV a1.Product), (V.lst 3 (a1.Releases.map encTRelease)), (V.lst 3 (a1.Known.map encTPublished)), (iV a1.Until), (V.map 2)]])), (2, (Ob.map (p.map encM9_137)))], 3⟩ : St)) (fun (p : (List ((List UInt8) × TPublished))) => k2 p = some r) ?_ ?_
  · clear hk2
    refine awp_block ?_
    refine awp_len (A := a1.Known) 10 rfl (fun hA11 => ?_)
    refine awp_loop_ind (fun (p : Int × (List ((List UInt8) × TPublished))) => (⟨[(2, (V.ptr 0 5 0 0)), (3, (V.ptr 1 5 0 0)), (10, (V.lst 3 (a1.Known.map encTPublished))), (11, (iV ((a1.Known.length : Nat) : Int))), (12, (iV (p.1)))], [(0, (Ob.arr 131 5 [[(sV ([] : List UInt8)), nV, nV, (iV 0), (V.con (.map none))]])), (1, (Ob.arr 131 5 [[(sV a1.Product), (V.lst 3 (a1.Releases.map encTRelease)), (V.lst 3 (a1.Known.map encTPublished)), (iV a1.Until), (V.map 2)]])), (2, (Ob.map ((p.2).map encM9_137)))], 3⟩ : St)) (fun n (p : Int × (List ((List UInt8) × TPublished))) => RG a1.Known (fun tl nn => M91_L1 F k2 tl p.2 = some r) n p.1) (fun p h => RG.zero h) (fun n ih1 p h => ?_) (a1.Known.length + 1) (0, ([] : List ((List UInt8) × TPublished))) (RG.start h) (ghost_ren 3 (fun i => ([1, 3, 2] : List Nat).getD i 0) _ _ (by decide) (EnvSub.get (.cons (Sub.ptr rfl rfl) (.cons (Sub.ptr rfl rfl) (.cons (Sub.imm (Imm.lst _ _)) (.cons (Sub.imm (Imm.con _)) (.cons (Sub.imm (Imm.con _)) .nil)))))) (HpSub.get (.cons rfl (ObSub.box (.cons (Sub.imm (Imm.con _)) (.cons (Sub.imm (Imm.con _)) (.cons (Sub.imm (Imm.con _)) (.cons (Sub.imm (Imm.con _)) (.cons (Sub.imm (Imm.con _)) .nil)))))) (.cons rfl (ObSub.box (.cons (Sub.imm (Imm.con _)) (.cons (Sub.imm (Imm.lst _ _)) (.cons (Sub.imm (Imm.lst _ _)) (.cons (Sub.imm (Imm.con _)) (.cons (Sub.map rfl rfl) .nil)))))) (.cons rfl (ObSub.maps encM9_137_imm) .nil)))) rfl)
    obtain ⟨n6, m7⟩ := p
    refine awp_loop ?_
    refine awp_seq ?_
    refine awp_region ?_
    refine aops_bin (.bool (decide (n6 < ((a1.Known.length : Nat) : Int)))) wants_none rfl rfl rfl rfl ?_
    refine aops_nil ?_
    refine awp_seq ?_
    refine awp_cond (decide (n6 < ((a1.Known.length : Nat) : Int))) rfl (fun hb8 => ?_) (fun hb8 => ?_)
    · obtain ⟨x9, tl, hx10, h, hk1⟩ := RG.t hA11 h hb8
      unfold M91_L1 at h
      refine awp_skip ?_
      refine awp_seq ?_
      refine awp_block ?_
      refine awp_seq ?_
      refine awp_region ?_
      refine aops_index_lst [(sV x9.Advisory), (iV x9.Day), (iV x9.Ended)] tSl50 wants_none rfl rfl (idx_some hx10).1 (idx_map encTPublished hx10) rfl ?_
      refine aops_iload_agg (cs := [(sV x9.Advisory), (iV x9.Day), (iV x9.Ended)]) tA137 wants_none rfl rfl rfl rfl ?_
      refine aops_alloc tZ137 rfl rfl wants_none rfl ?_
      refine aops_store [(sV x9.Advisory), (iV x9.Day), (iV x9.Ended)] [[(sV x9.Advisory), (iV x9.Day), (iV x9.Ended)]] tS137 wants_none rfl rfl rfl rfl rfl rfl rfl rfl ?_
      refine aops_nil ?_
      refine awp_region ?_
      refine aops_fieldAddr tF131_1 wants_none rfl rfl ?_
      refine aops_load_cell (V.map 2) tC129 wants_none rfl rfl rfl rfl rfl ?_
      refine aops_fieldAddr tF137_0 wants_none rfl rfl ?_
      refine aops_load_cell (sV x9.Advisory) tC9 wants_none rfl rfl rfl rfl rfl ?_
      refine aops_load_agg (cs := [(sV x9.Advisory), (iV x9.Day), (iV x9.Ended)]) tA137 wants_none rfl rfl rfl rfl rfl rfl ?_
      refine aops_mapUpdate ((mput m7 x9.Advisory x9).map encM9_137) tMap129 tKey9 wants_none rfl rfl (.con rfl) ⟨_, rfl⟩ encM9_137_good rfl (encM9_137_puts m7 x9.Advisory x9) ?_
      refine aops_nil ?_
      refine awp_region ?_
      refine aops_bin (.int .i64 (w64 (n6 + 1))) wants_none rfl rfl rfl rfl ?_
      refine aops_move (iV (w64 (n6 + 1))) wants_none rfl rfl ?_
      refine aops_nil ?_
      exact awp_back (ih1 ((w64 (n6 + 1)), (mput m7 x9.Advisory x9)) (hk1 _ h)) (ghost_ren 3 (fun i => ([0, 1, 2] : List Nat).getD i 0) _ _ (by decide) (EnvSub.get (.cons (Sub.ptr rfl rfl) (.cons (Sub.ptr rfl rfl) (.cons (Sub.imm (Imm.lst _ _)) (.cons (Sub.imm (Imm.con _)) (.cons (Sub.imm (Imm.con _)) .nil)))))) (HpSub.get (.cons rfl (ObSub.box (.cons (Sub.imm (Imm.con _)) (.cons (Sub.imm (Imm.con _)) (.cons (Sub.imm (Imm.con _)) (.cons (Sub.imm (Imm.con _)) (.cons (Sub.imm (Imm.con _)) .nil)))))) (.cons rfl (ObSub.box (.cons (Sub.imm (Imm.con _)) (.cons (Sub.imm (Imm.lst _ _)) (.cons (Sub.imm (Imm.lst _ _)) (.cons (Sub.imm (Imm.con _)) (.cons (Sub.map rfl rfl) .nil)))))) (.cons rfl (ObSub.maps encM9_137_imm) .nil)))) rfl)
    · replace h := RG.f h hb8
      unfold M91_L1 at h
      refine awp_exit ?_
      exact ⟨m7, h, (ghost_ren 3 (fun i => ([0, 1, 2] : List Nat).getD i 0) _ _ (by decide) (EnvSub.get (.cons (Sub.ptr rfl rfl) (.cons (Sub.ptr rfl rfl) .nil))) (HpSub.get (.cons rfl (ObSub.box (.cons (Sub.imm (Imm.con _)) (.cons (Sub.imm (Imm.con _)) (.cons (Sub.imm (Imm.con _)) (.cons (Sub.imm (Imm.con _)) (.cons (Sub.imm (Imm.con _)) .nil)))))) (.cons rfl (ObSub.box (.cons (Sub.imm (Imm.con _)) (.cons (Sub.imm (Imm.lst _ _)) (.cons (Sub.imm (Imm.lst _ _)) (.cons (Sub.imm (Imm.con _)) (.cons (Sub.map rfl rfl) .nil)))))) (.cons rfl (ObSub.maps encM9_137_imm) .nil)))) rfl)⟩
  · clear h
    intro m3 h
    subst hk2
    refine awp_seq ?_
    refine awp_region ?_
    refine aops_load_agg (cs := [(sV a1.Product), (V.lst 3 (a1.Releases.map encTRelease)), (V.lst 3 (a1.Known.map encTPublished)), (iV a1.Until), (V.map 2)]) tA131 wants_none rfl rfl rfl rfl rfl rfl ?_
    refine aops_store [(sV a1.Product), (V.lst 3 (a1.Releases.map encTRelease)), (V.lst 3 (a1.Known.map encTPublished)), (iV a1.Until), (V.map 2)] [[(sV a1.Product), (V.lst 3 (a1.Releases.map encTRelease)), (V.lst 3 (a1.Known.map encTPublished)), (iV a1.Until), (V.map 2)]] tS131 wants_none rfl rfl rfl rfl rfl rfl rfl rfl ?_
    refine aops_nil ?_
    refine awp_ghost (ghost_frzMC 2 0 (Ob.arr 131 5 [[(sV a1.Product), (V.lst 3 (a1.Releases.map encTRelease)), (V.lst 3 (a1.Known.map encTPublished)), (iV a1.Until), (V.imap (m3.map encM9_137))]]) rfl encM9_137_imm (ObSub.box (.cons Sub.keepM (.cons Sub.keepM (.cons Sub.keepM (.cons Sub.keepM (.cons Sub.frzM .nil))))))) ?_
    refine awp_ret ?_
    obtain rfl := Option.some.inj h
    exact ⟨.inl rfl, .one (.agg tA131 rfl rfl rfl rfl rfl (.cons (Imm.con _) (.cons (Imm.lst _ _) (.cons (Imm.lst _ _) (.cons (Imm.con _) (.cons (Imm.imap _) .nil))))))⟩
end Go.Proofs.Ytkciogeafbbggaa
