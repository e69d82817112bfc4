/- Part of the proof: HW7b. -/
import Derived.Test.YtkciogeafbbggaaLHM
import Derived.Test.YtkciogeafbbggaaLHW7a
import Derived.Test.YtkciogeafbbggaaLHW3a
import Derived.Test.YtkciogeafbbggaaLHW6a
import Derived.KernelRfl
namespace Go.Proofs.Ytkciogeafbbggaa
open Go Go.Pv
set_option linter.unusedVariables false
set_option maxRecDepth 100000
theorem W90 (F : Nat) (a1 : TStory) (r : (List Thistory_piece)) (h : M90 F a1 = some r) : Pure Try.prog 90 [(V.agg [(sV a1.Product), (V.lst 3 (a1.Releases.map encTRelease)), (V.lst 3 (a1.Known.map encTPublished)), (iV a1.Until)])] (V.lst 5 (r.map encThistory_piece)) := by
  refine pure_enter Try.func90 rfl rfl (l := [.tmp 2]) rfl rfl [(0, (V.agg [(sV a1.Product), (V.lst 3 (a1.Releases.map encTRelease)), (V.lst 3 (a1.Known.map encTPublished)), (iV a1.Until)]))] rfl (fun w0 m0 => ?_)
  unfold M90 at h
  refine awp_seq ?_
  refine awp_region ?_
  refine aops_box [(sV a1.Product), (V.lst 3 (a1.Releases.map encTRelease)), (V.lst 3 (a1.Known.map encTPublished)), (iV a1.Until)] wants_none rfl rfl rfl rfl ?_
  refine aops_assign nV wants_none rfl rfl ?_
  refine aops_nil ?_
  refine awp_seq ?_
  refine awp_region ?_
  refine aops_makeMap wants_none rfl ?_
  refine aops_assign (V.map 1) wants_none rfl rfl ?_
  refine aops_nil ?_
  refine awp_seq ?_
  refine awp_seq ?_
  refine awp_region ?_
  refine aops_fieldAddr tF52_2 wants_none rfl rfl ?_
  refine aops_load_cell (V.lst 3 (a1.Known.map encTPublished)) tC50 wants_none rfl rfl rfl rfl rfl ?_
  refine aops_len (n := a1.Known.length) tIsSl50 wants_none rfl (congrArg some (List.length_map ..)) rfl ?_
  refine aops_move (iV 0) wants_none rfl rfl ?_
  refine aops_nil ?_
  replace h := jn_elim h
  obtain ⟨k2, hk2, h⟩ := h
  refine awp_cut (fun (p : (List ((List UInt8) × TPublished))) => (⟨[(1, (V.ptr 0 4 0 0)), (3, (V.map 1))], [(0, (Ob.arr 52 4 [[(sV a1.Product), (V.lst 3 (a1.Releases.map encTRelease)), (V.lst 3 (a1.Known.map encTPublished)), (iV a1.Until)]])), (1, (Ob.map (p.map encM9_137)))], 2⟩ : St)) (fun (p : (List ((List UInt8) × TPublished))) => k2 p = some r) ?_ ?_
  · clear hk2
    refine awp_block ?_
    refine awp_len (A := a1.Known) 16 rfl (fun hA11 => ?_)
    refine awp_loop_ind (fun (p : Int × (List ((List UInt8) × TPublished))) => (⟨[(1, (V.ptr 0 4 0 0)), (3, (V.map 1)), (16, (V.lst 3 (a1.Known.map encTPublished))), (17, (iV ((a1.Known.length : Nat) : Int))), (18, (iV (p.1)))], [(0, (Ob.arr 52 4 [[(sV a1.Product), (V.lst 3 (a1.Releases.map encTRelease)), (V.lst 3 (a1.Known.map encTPublished)), (iV a1.Until)]])), (1, (Ob.map ((p.2).map encM9_137)))], 2⟩ : St)) (fun n (p : Int × (List ((List UInt8) × TPublished))) => RG a1.Known (fun tl nn => M90_L1 F k2 tl p.2 = some r) n p.1) (fun p h => RG.zero h) (fun n ih1 p h => ?_) (a1.Known.length + 1) (0, ([] : List ((List UInt8) × TPublished))) (RG.start h) (ghost_ren 2 (fun i => ([0, 1] : List Nat).getD i 0) _ _ (by decide) (EnvSub.get (.cons (Sub.ptr rfl rfl) (.cons (Sub.map rfl rfl) (.cons (Sub.imm (Imm.lst _ _)) (.cons (Sub.imm (Imm.con _)) (.cons (Sub.imm (Imm.con _)) .nil)))))) (HpSub.get (.cons rfl (ObSub.box (.cons (Sub.imm (Imm.con _)) (.cons (Sub.imm (Imm.lst _ _)) (.cons (Sub.imm (Imm.lst _ _)) (.cons (Sub.imm (Imm.con _)) .nil))))) (.cons rfl (ObSub.maps encM9_137_imm) .nil))) rfl)
    obtain ⟨n6, m7⟩ := p
    refine awp_loop ?_
    refine awp_seq ?_
    refine awp_region ?_
    refine aops_bin (.bool (decide (n6 < ((a1.Known.length : Nat) : Int)))) wants_none rfl rfl rfl rfl ?_
    refine aops_nil ?_
    refine awp_seq ?_
    refine awp_cond (decide (n6 < ((a1.Known.length : Nat) : Int))) rfl (fun hb8 => ?_) (fun hb8 => ?_)
    · obtain ⟨x9, tl, hx10, h, hk1⟩ := RG.t hA11 h hb8
      unfold M90_L1 at h
      refine awp_skip ?_
      refine awp_seq ?_
      refine awp_block ?_
      refine awp_seq ?_
      refine awp_region ?_
      refine aops_index_lst [(sV x9.Advisory), (iV x9.Day), (iV x9.Ended)] tSl50 wants_none rfl rfl (idx_some hx10).1 (idx_map encTPublished hx10) rfl ?_
      refine aops_iload_agg (cs := [(sV x9.Advisory), (iV x9.Day), (iV x9.Ended)]) tA137 wants_none rfl rfl rfl rfl ?_
      refine aops_alloc tZ137 rfl rfl wants_none rfl ?_
      refine aops_store [(sV x9.Advisory), (iV x9.Day), (iV x9.Ended)] [[(sV x9.Advisory), (iV x9.Day), (iV x9.Ended)]] tS137 wants_none rfl rfl rfl rfl rfl rfl rfl rfl ?_
      refine aops_nil ?_
      refine awp_region ?_
      refine aops_move (V.map 1) wants_none rfl rfl ?_
      refine aops_fieldAddr tF137_0 wants_none rfl rfl ?_
      refine aops_load_cell (sV x9.Advisory) tC9 wants_none rfl rfl rfl rfl rfl ?_
      refine aops_load_agg (cs := [(sV x9.Advisory), (iV x9.Day), (iV x9.Ended)]) tA137 wants_none rfl rfl rfl rfl rfl rfl ?_
      refine aops_mapUpdate ((mput m7 x9.Advisory x9).map encM9_137) tMap129 tKey9 wants_none rfl rfl (.con rfl) ⟨_, rfl⟩ encM9_137_good rfl (encM9_137_puts m7 x9.Advisory x9) ?_
      refine aops_nil ?_
      refine awp_region ?_
      refine aops_bin (.int .i64 (w64 (n6 + 1))) wants_none rfl rfl rfl rfl ?_
      refine aops_move (iV (w64 (n6 + 1))) wants_none rfl rfl ?_
      refine aops_nil ?_
      exact awp_back (ih1 ((w64 (n6 + 1)), (mput m7 x9.Advisory x9)) (hk1 _ h)) (ghost_ren 2 (fun i => ([0, 1] : List Nat).getD i 0) _ _ (by decide) (EnvSub.get (.cons (Sub.ptr rfl rfl) (.cons (Sub.map rfl rfl) (.cons (Sub.imm (Imm.lst _ _)) (.cons (Sub.imm (Imm.con _)) (.cons (Sub.imm (Imm.con _)) .nil)))))) (HpSub.get (.cons rfl (ObSub.box (.cons (Sub.imm (Imm.con _)) (.cons (Sub.imm (Imm.lst _ _)) (.cons (Sub.imm (Imm.lst _ _)) (.cons (Sub.imm (Imm.con _)) .nil))))) (.cons rfl (ObSub.maps encM9_137_imm) .nil))) rfl)
    · replace h := RG.f h hb8
      unfold M90_L1 at h
      refine awp_exit ?_
      exact ⟨m7, h, (ghost_ren 2 (fun i => ([0, 1] : List Nat).getD i 0) _ _ (by decide) (EnvSub.get (.cons (Sub.ptr rfl rfl) (.cons (Sub.map rfl rfl) .nil))) (HpSub.get (.cons rfl (ObSub.box (.cons (Sub.imm (Imm.con _)) (.cons (Sub.imm (Imm.lst _ _)) (.cons (Sub.imm (Imm.lst _ _)) (.cons (Sub.imm (Imm.con _)) .nil))))) (.cons rfl (ObSub.maps encM9_137_imm) .nil))) rfl)⟩
  · clear h
    intro m3 h
    subst hk2
    refine awp_seq ?_
    refine awp_region ?_
    refine aops_assign nV wants_none rfl rfl ?_
    refine aops_nil ?_
    refine awp_seq ?_
    refine awp_seq ?_
    refine awp_region ?_
    refine aops_fieldAddr tF52_1 wants_none rfl rfl ?_
    refine aops_load_cell (V.lst 3 (a1.Releases.map encTRelease)) tC49 wants_none rfl rfl rfl rfl rfl ?_
    refine aops_len (n := a1.Releases.length) tIsSl49 wants_none rfl (congrArg some (List.length_map ..)) rfl ?_
    refine aops_move (iV 0) wants_none rfl rfl ?_
    refine aops_nil ?_
    replace h := jn_elim h
    obtain ⟨k12, hk12, h⟩ := h
    refine awp_cut (fun (p : (List Thistory_piece)) => (⟨[(6, (V.own 0 p.length))], [(0, (Ob.arr 128 5 (p.map encThistory_piece)))], 1⟩ : St)) (fun (p : (List Thistory_piece)) => k12 p = some r) ?_ ?_
    · clear hk12
      refine awp_block ?_
      refine awp_len (A := a1.Releases) 28 rfl (fun hA45 => ?_)
      refine awp_loop_ind (fun (p : Int × (List Thistory_piece)) => (⟨[(1, (V.ptr 0 4 0 0)), (3, (V.map 1)), (6, (V.own 2 (p.2).length)), (28, (V.lst 3 (a1.Releases.map encTRelease))), (29, (iV ((a1.Releases.length : Nat) : Int))), (30, (iV (p.1)))], [(0, (Ob.arr 52 4 [[(sV a1.Product), (V.lst 3 (a1.Releases.map encTRelease)), (V.lst 3 (a1.Known.map encTPublished)), (iV a1.Until)]])), (1, (Ob.map (m3.map encM9_137))), (2, (Ob.arr 128 5 ((p.2).map encThistory_piece)))], 3⟩ : St)) (fun n (p : Int × (List Thistory_piece)) => RG a1.Releases (fun tl nn => M90_L2 F a1 m3 k12 tl nn p.2 = some r) n p.1) (fun p h => RG.zero h) (fun n ih2 p h => ?_) (a1.Releases.length + 1) (0, ([] : List Thistory_piece)) (RG.start h) (Ghost.trans (ghost_nilE 6 128 5 rfl) (ghost_ren 3 (fun i => ([0, 1, 2] : List Nat).getD i 0) _ _ (by decide) (EnvSub.get (.cons (Sub.ptr rfl rfl) (.cons (Sub.map rfl rfl) (.cons (Sub.ownE rfl rfl (by simp)) (.cons (Sub.imm (Imm.lst _ _)) (.cons (Sub.imm (Imm.con _)) (.cons (Sub.imm (Imm.con _)) .nil))))))) (HpSub.get (.cons rfl (ObSub.box (.cons (Sub.imm (Imm.con _)) (.cons (Sub.imm (Imm.lst _ _)) (.cons (Sub.imm (Imm.lst _ _)) (.cons (Sub.imm (Imm.con _)) .nil))))) (.cons rfl (ObSub.maps encM9_137_imm) (.cons rfl (ObSub.rows (rows_imm imms_encThistory_piece)) .nil)))) rfl))
      obtain ⟨n16, l17⟩ := p
      refine awp_loop ?_
      refine awp_seq ?_
      refine awp_region ?_
      refine aops_bin (.bool (decide (n16 < ((a1.Releases.length : Nat) : Int)))) wants_none rfl rfl rfl rfl ?_
      refine aops_nil ?_
      refine awp_seq ?_
      refine awp_cond (decide (n16 < ((a1.Releases.length : Nat) : Int))) rfl (fun hb18 => ?_) (fun hb18 => ?_)
      · obtain ⟨x21, tl, hx22, h, hk2⟩ := RG.t hA45 h hb18
        unfold M90_L2 at h
        refine awp_skip ?_
        refine awp_seq ?_
        replace h := jn_elim h
        obtain ⟨k19, hk19, h⟩ := h
        refine awp_cut (fun (p : (List Thistory_piece)) => (⟨[(1, (V.ptr 0 4 0 0)), (3, (V.map 1)), (6, (V.own 2 p.length)), (28, (V.lst 3 (a1.Releases.map encTRelease))), (29, (iV ((a1.Releases.length : Nat) : Int))), (30, (iV n16))], [(0, (Ob.arr 52 4 [[(sV a1.Product), (V.lst 3 (a1.Releases.map encTRelease)), (V.lst 3 (a1.Known.map encTPublished)), (iV a1.Until)]])), (1, (Ob.map (m3.map encM9_137))), (2, (Ob.arr 128 5 (p.map encThistory_piece)))], 3⟩ : St)) (fun (p : (List Thistory_piece)) => k19 p = some r) ?_ ?_
        · clear hk19
          refine awp_block ?_
          refine awp_seq ?_
          refine awp_region ?_
          refine aops_move (iV n16) wants_none rfl rfl ?_
          refine aops_index_lst [(sV x21.Version), (iV x21.Day), (V.lst 3 (x21.Exposures.map encTExposure))] tSl49 wants_none rfl rfl (idx_some hx22).1 (idx_map encTRelease hx22) rfl ?_
          refine aops_iload_agg (cs := [(sV x21.Version), (iV x21.Day), (V.lst 3 (x21.Exposures.map encTExposure))]) tA42 wants_none rfl rfl rfl rfl ?_
          refine aops_alloc tZ42 rfl rfl wants_none rfl ?_
          refine aops_assign (iV n16) wants_none rfl rfl ?_
          refine aops_store [(sV x21.Version), (iV x21.Day), (V.lst 3 (x21.Exposures.map encTExposure))] [[(sV x21.Version), (iV x21.Day), (V.lst 3 (x21.Exposures.map encTExposure))]] tS42 wants_none rfl rfl rfl rfl rfl rfl rfl rfl ?_
          refine aops_nil ?_
          refine awp_seq ?_
          refine awp_region ?_
          refine aops_fieldAddr tF52_3 wants_none rfl rfl ?_
          refine aops_load_cell (iV a1.Until) tC3 wants_none rfl rfl rfl rfl rfl ?_
          refine aops_assign (iV a1.Until) wants_none rfl rfl ?_
          refine aops_nil ?_
          refine awp_seq ?_
          refine awp_seq ?_
          refine awp_region ?_
          refine aops_move (iV n16) wants_none rfl rfl ?_
          refine aops_bin (.int .i64 (w64 (n16 + 1))) wants_none rfl rfl rfl rfl ?_
          refine aops_fieldAddr tF52_1 wants_none rfl rfl ?_
          refine aops_load_cell (V.lst 3 (a1.Releases.map encTRelease)) tC49 wants_none rfl rfl rfl rfl rfl ?_
          refine aops_len (n := a1.Releases.length) tIsSl49 wants_none rfl (congrArg some (List.length_map ..)) rfl ?_
          refine aops_bin (.bool (decide ((w64 (n16 + 1)) < ((a1.Releases.length : Nat) : Int)))) wants_none rfl rfl rfl rfl ?_
          refine aops_nil ?_
          replace h := jn_elim h
          obtain ⟨k23, hk23, h⟩ := h
          refine awp_cut (fun (p : Int) => (⟨[(1, (V.ptr 0 4 0 0)), (3, (V.map 1)), (6, (V.own 2 l17.length)), (8, (V.ptr 3 3 0 0)), (9, (iV p)), (28, (V.lst 3 (a1.Releases.map encTRelease))), (29, (iV ((a1.Releases.length : Nat) : Int))), (30, (iV n16))], [(0, (Ob.arr 52 4 [[(sV a1.Product), (V.lst 3 (a1.Releases.map encTRelease)), (V.lst 3 (a1.Known.map encTPublished)), (iV a1.Until)]])), (1, (Ob.map (m3.map encM9_137))), (2, (Ob.arr 128 5 (l17.map encThistory_piece))), (3, (Ob.arr 42 3 [[(sV x21.Version), (iV x21.Day), (V.lst 3 (x21.Exposures.map encTExposure))]]))], 4⟩ : St)) (fun (p : Int) => k23 p = some r) ?_ ?_
          · clear hk23
            refine awp_cond (decide ((w64 (n16 + 1)) < ((a1.Releases.length : Nat) : Int))) rfl (fun hb25 => ?_) (fun hb25 => ?_)
            · replace h := ite_t hb25 h
              refine awp_region ?_
              refine aops_fieldAddr tF52_1 wants_none rfl rfl ?_
              refine aops_load_cell (V.lst 3 (a1.Releases.map encTRelease)) tC49 wants_none rfl rfl rfl rfl rfl ?_
              refine aops_move (iV n16) wants_none rfl rfl ?_
              refine aops_bin (.int .i64 (w64 (n16 + 1))) wants_none rfl rfl rfl rfl ?_
              replace h := bind_some h
              obtain ⟨x26, hx27, h⟩ := h
              refine aops_index_lst [(sV x26.Version), (iV x26.Day), (V.lst 3 (x26.Exposures.map encTExposure))] tSl49 wants_none rfl rfl (idx_some hx27).1 (idx_map encTRelease hx27) rfl ?_
              refine aops_ifieldAddr tF42_1 wants_none rfl rfl ?_
              refine aops_iload_cell (iV x26.Day) tC3 wants_none rfl rfl rfl ?_
              refine aops_assign (iV x26.Day) wants_none rfl rfl ?_
              refine aops_nil ?_
              exact ⟨x26.Day, h, (ghost_ren 4 (fun i => ([0, 1, 2, 3] : List Nat).getD i 0) _ _ (by decide) (EnvSub.get (.cons (Sub.ptr rfl rfl) (.cons (Sub.map rfl rfl) (.cons (Sub.own rfl rfl) (.cons (Sub.ptr rfl rfl) (.cons (Sub.imm (Imm.con _)) (.cons (Sub.imm (Imm.lst _ _)) (.cons (Sub.imm (Imm.con _)) (.cons (Sub.imm (Imm.con _)) .nil))))))))) (HpSub.get (.cons rfl (ObSub.box (.cons (Sub.imm (Imm.con _)) (.cons (Sub.imm (Imm.lst _ _)) (.cons (Sub.imm (Imm.lst _ _)) (.cons (Sub.imm (Imm.con _)) .nil))))) (.cons rfl (ObSub.maps encM9_137_imm) (.cons rfl (ObSub.rows (rows_imm imms_encThistory_piece)) (.cons rfl (ObSub.box (.cons (Sub.imm (Imm.con _)) (.cons (Sub.imm (Imm.con _)) (.cons (Sub.imm (Imm.lst _ _)) .nil)))) .nil))))) rfl)⟩
            · replace h := ite_f hb25 h
              refine awp_skip ?_
              exact ⟨a1.Until, h, (ghost_ren 4 (fun i => ([0, 1, 2, 3] : List Nat).getD i 0) _ _ (by decide) (EnvSub.get (.cons (Sub.ptr rfl rfl) (.cons (Sub.map rfl rfl) (.cons (Sub.own rfl rfl) (.cons (Sub.ptr rfl rfl) (.cons (Sub.imm (Imm.con _)) (.cons (Sub.imm (Imm.lst _ _)) (.cons (Sub.imm (Imm.con _)) (.cons (Sub.imm (Imm.con _)) .nil))))))))) (HpSub.get (.cons rfl (ObSub.box (.cons (Sub.imm (Imm.con _)) (.cons (Sub.imm (Imm.lst _ _)) (.cons (Sub.imm (Imm.lst _ _)) (.cons (Sub.imm (Imm.con _)) .nil))))) (.cons rfl (ObSub.maps encM9_137_imm) (.cons rfl (ObSub.rows (rows_imm imms_encThistory_piece)) (.cons rfl (ObSub.box (.cons (Sub.imm (Imm.con _)) (.cons (Sub.imm (Imm.con _)) (.cons (Sub.imm (Imm.lst _ _)) .nil)))) .nil))))) rfl)⟩
          · clear h
            intro n24 h
            subst hk23
            refine awp_seq ?_
            refine awp_region ?_
            refine aops_fieldAddr tF42_2 wants_none rfl rfl ?_
            refine aops_load_cell (V.lst 3 (x21.Exposures.map encTExposure)) tC40 wants_none rfl rfl rfl rfl rfl ?_
            refine aops_len (n := x21.Exposures.length) tIsSl40 wants_none rfl (congrArg some (List.length_map ..)) rfl ?_
            refine aops_move (iV 0) wants_none rfl rfl ?_
            refine aops_nil ?_
            replace h := jn_elim h
            obtain ⟨k28, hk28, h⟩ := h
            refine awp_cut (fun (p : (List Thistory_piece)) => (⟨[(1, (V.ptr 0 4 0 0)), (3, (V.map 1)), (6, (V.own 2 p.length)), (28, (V.lst 3 (a1.Releases.map encTRelease))), (29, (iV ((a1.Releases.length : Nat) : Int))), (30, (iV n16))], [(0, (Ob.arr 52 4 [[(sV a1.Product), (V.lst 3 (a1.Releases.map encTRelease)), (V.lst 3 (a1.Known.map encTPublished)), (iV a1.Until)]])), (1, (Ob.map (m3.map encM9_137))), (2, (Ob.arr 128 5 (p.map encThistory_piece)))], 3⟩ : St)) (fun (p : (List Thistory_piece)) => k28 p = some r) ?_ ?_
            · clear hk28
              refine awp_block ?_
              refine awp_len (A := x21.Exposures) 51 rfl (fun hA44 => ?_)
              refine awp_loop_ind (fun (p : Int × (List Thistory_piece)) => (⟨[(1, (V.ptr 0 4 0 0)), (3, (V.map 1)), (6, (V.own 2 (p.2).length)), (8, (V.ptr 3 3 0 0)), (9, (iV n24)), (28, (V.lst 3 (a1.Releases.map encTRelease))), (29, (iV ((a1.Releases.length : Nat) : Int))), (30, (iV n16)), (51, (V.lst 3 (x21.Exposures.map encTExposure))), (52, (iV ((x21.Exposures.length : Nat) : Int))), (53, (iV (p.1)))], [(0, (Ob.arr 52 4 [[(sV a1.Product), (V.lst 3 (a1.Releases.map encTRelease)), (V.lst 3 (a1.Known.map encTPublished)), (iV a1.Until)]])), (1, (Ob.map (m3.map encM9_137))), (2, (Ob.arr 128 5 ((p.2).map encThistory_piece))), (3, (Ob.arr 42 3 [[(sV x21.Version), (iV x21.Day), (V.lst 3 (x21.Exposures.map encTExposure))]]))], 4⟩ : St)) (fun n (p : Int × (List Thistory_piece)) => RG x21.Exposures (fun tl nn => M90_L3 F m3 x21 n24 k28 tl p.2 = some r) n p.1) (fun p h => RG.zero h) (fun n ih3 p h => ?_) (x21.Exposures.length + 1) (0, l17) (RG.start h) (ghost_ren 4 (fun i => ([0, 1, 2, 3] : List Nat).getD i 0) _ _ (by decide) (EnvSub.get (.cons (Sub.ptr rfl rfl) (.cons (Sub.map rfl rfl) (.cons (Sub.own rfl rfl) (.cons (Sub.ptr rfl rfl) (.cons (Sub.imm (Imm.con _)) (.cons (Sub.imm (Imm.lst _ _)) (.cons (Sub.imm (Imm.con _)) (.cons (Sub.imm (Imm.con _)) (.cons (Sub.imm (Imm.lst _ _)) (.cons (Sub.imm (Imm.con _)) (.cons (Sub.imm (Imm.con _)) .nil)))))))))))) (HpSub.get (.cons rfl (ObSub.box (.cons (Sub.imm (Imm.con _)) (.cons (Sub.imm (Imm.lst _ _)) (.cons (Sub.imm (Imm.lst _ _)) (.cons (Sub.imm (Imm.con _)) .nil))))) (.cons rfl (ObSub.maps encM9_137_imm) (.cons rfl (ObSub.rows (rows_imm imms_encThistory_piece)) (.cons rfl (ObSub.box (.cons (Sub.imm (Imm.con _)) (.cons (Sub.imm (Imm.con _)) (.cons (Sub.imm (Imm.lst _ _)) .nil)))) .nil))))) rfl)
              obtain ⟨n32, l33⟩ := p
              refine awp_loop ?_
              refine awp_seq ?_
              refine awp_region ?_
              refine aops_bin (.bool (decide (n32 < ((x21.Exposures.length : Nat) : Int)))) wants_none rfl rfl rfl rfl ?_
              refine aops_nil ?_
              refine awp_seq ?_
              refine awp_cond (decide (n32 < ((x21.Exposures.length : Nat) : Int))) rfl (fun hb34 => ?_) (fun hb34 => ?_)
              · obtain ⟨x35, tl, hx36, h, hk3⟩ := RG.t hA44 h hb34
                unfold M90_L3 at h
                refine awp_skip ?_
                refine awp_seq ?_
                refine awp_block ?_
                refine awp_seq ?_
                refine awp_region ?_
                refine aops_index_lst [(sV x35.Advisory), (sV x35.Component), (iV x35.Severity)] tSl40 wants_none rfl rfl (idx_some hx36).1 (idx_map encTExposure hx36) rfl ?_
                refine aops_iload_agg (cs := [(sV x35.Advisory), (sV x35.Component), (iV x35.Severity)]) tA47 wants_none rfl rfl rfl rfl ?_
                refine aops_alloc tZ47 rfl rfl wants_none rfl ?_
                refine aops_store [(sV x35.Advisory), (sV x35.Component), (iV x35.Severity)] [[(sV x35.Advisory), (sV x35.Component), (iV x35.Severity)]] tS47 wants_none rfl rfl rfl rfl rfl rfl rfl rfl ?_
                refine aops_nil ?_
                refine awp_seq ?_
                refine awp_region ?_
                refine aops_move (V.map 1) wants_none rfl rfl ?_
                refine aops_fieldAddr tF47_0 wants_none rfl rfl ?_
                refine aops_load_cell (sV x35.Advisory) tC9 wants_none rfl rfl rfl rfl rfl ?_
                refine aops_lookup _ (V.agg [(sV ([] : List UInt8)), (iV 0), (iV 0)]) (V.agg [(sV ((mget m3 x35.Advisory).getD (TPublished.mk ([] : List UInt8) 0 0)).Advisory), (iV ((mget m3 x35.Advisory).getD (TPublished.mk ([] : List UInt8) 0 0)).Day), (iV ((mget m3 x35.Advisory).getD (TPublished.mk ([] : List UInt8) 0 0)).Ended)]) tMap129 tKey9 tZo137 (irel_conAgg [str ([] : List UInt8), .int .i64 0, .int .i64 0]) wants_none rfl (.own rfl) (.con rfl) ⟨_, rfl⟩ encM9_137_good (encM9_137_look m3 x35.Advisory) (getD_map (encM9_137_val) (mget m3 x35.Advisory) (TPublished.mk ([] : List UInt8) 0 0)) rfl ?_
                refine aops_alloc tZ137 rfl rfl wants_none rfl ?_
                refine aops_store [(sV ((mget m3 x35.Advisory).getD (TPublished.mk ([] : List UInt8) 0 0)).Advisory), (iV ((mget m3 x35.Advisory).getD (TPublished.mk ([] : List UInt8) 0 0)).Day), (iV ((mget m3 x35.Advisory).getD (TPublished.mk ([] : List UInt8) 0 0)).Ended)] [[(sV ((mget m3 x35.Advisory).getD (TPublished.mk ([] : List UInt8) 0 0)).Advisory), (iV ((mget m3 x35.Advisory).getD (TPublished.mk ([] : List UInt8) 0 0)).Day), (iV ((mget m3 x35.Advisory).getD (TPublished.mk ([] : List UInt8) 0 0)).Ended)]] tS137 wants_none rfl rfl rfl rfl rfl rfl rfl rfl ?_
                refine aops_nil ?_
                refine awp_seq ?_
                refine awp_region ?_
                refine aops_load_agg (cs := [(sV x35.Advisory), (sV x35.Component), (iV x35.Severity)]) tA47 wants_none rfl rfl rfl rfl rfl rfl ?_
                refine aops_fieldAddr tF42_1 wants_none rfl rfl ?_
                refine aops_load_cell (iV x21.Day) tC3 wants_none rfl rfl rfl rfl rfl ?_
                refine aops_fieldAddr tF137_1 wants_none rfl rfl ?_
                refine aops_load_cell (iV ((mget m3 x35.Advisory).getD (TPublished.mk ([] : List UInt8) 0 0)).Day) tC3 wants_none rfl rfl rfl rfl rfl ?_
                refine aops_max wants_none rfl rfl rfl ?_
                refine aops_move (iV n24) wants_none rfl rfl ?_
                refine aops_build [(0, (V.agg [(sV x35.Advisory), (sV x35.Component), (iV x35.Severity)])), (1, (iV (if ((mget m3 x35.Advisory).getD (TPublished.mk ([] : List UInt8) 0 0)).Day > x21.Day then ((mget m3 x35.Advisory).getD (TPublished.mk ([] : List UInt8) 0 0)).Day else x21.Day))), (2, (iV n24))] [(sV x35.Advisory), (sV x35.Component), (iV x35.Severity), (iV (if ((mget m3 x35.Advisory).getD (TPublished.mk ([] : List UInt8) 0 0)).Day > x21.Day then ((mget m3 x35.Advisory).getD (TPublished.mk ([] : List UInt8) 0 0)).Day else x21.Day)), (iV n24)] tZ128 tPl128 rfl wants_none (evp_cons rfl (evp_cons rfl (evp_cons rfl evp_nil))) rfl rfl ?_
                refine aops_alloc tZ128 rfl rfl wants_none rfl ?_
                refine aops_store [(sV x35.Advisory), (sV x35.Component), (iV x35.Severity), (iV (if ((mget m3 x35.Advisory).getD (TPublished.mk ([] : List UInt8) 0 0)).Day > x21.Day then ((mget m3 x35.Advisory).getD (TPublished.mk ([] : List UInt8) 0 0)).Day else x21.Day)), (iV n24)] [[(sV x35.Advisory), (sV x35.Component), (iV x35.Severity), (iV (if ((mget m3 x35.Advisory).getD (TPublished.mk ([] : List UInt8) 0 0)).Day > x21.Day then ((mget m3 x35.Advisory).getD (TPublished.mk ([] : List UInt8) 0 0)).Day else x21.Day)), (iV n24)]] tS128 wants_none rfl rfl rfl rfl rfl rfl rfl rfl ?_
                refine aops_nil ?_
                refine awp_seq ?_
                refine awp_seq ?_
                refine awp_region ?_
                refine aops_fieldAddr tF137_2 wants_none rfl rfl ?_
                refine aops_load_cell (iV ((mget m3 x35.Advisory).getD (TPublished.mk ([] : List UInt8) 0 0)).Ended) tC3 wants_none rfl rfl rfl rfl rfl ?_
                refine aops_bin (.bool (decide (((mget m3 x35.Advisory).getD (TPublished.mk ([] : List UInt8) 0 0)).Ended ≥ 0))) wants_none rfl rfl rfl rfl ?_
                refine aops_nil ?_
                replace h := jn_elim h
                obtain ⟨k37, hk37, h⟩ := h
                refine awp_cut (fun (p : Int) => (⟨[(1, (V.ptr 0 4 0 0)), (3, (V.map 1)), (6, (V.own 2 l33.length)), (8, (V.ptr 3 3 0 0)), (9, (iV n24)), (13, (V.ptr 4 5 0 0)), (28, (V.lst 3 (a1.Releases.map encTRelease))), (29, (iV ((a1.Releases.length : Nat) : Int))), (30, (iV n16)), (51, (V.lst 3 (x21.Exposures.map encTExposure))), (52, (iV ((x21.Exposures.length : Nat) : Int))), (53, (iV n32))], [(0, (Ob.arr 52 4 [[(sV a1.Product), (V.lst 3 (a1.Releases.map encTRelease)), (V.lst 3 (a1.Known.map encTPublished)), (iV a1.Until)]])), (1, (Ob.map (m3.map encM9_137))), (2, (Ob.arr 128 5 (l33.map encThistory_piece))), (3, (Ob.arr 42 3 [[(sV x21.Version), (iV x21.Day), (V.lst 3 (x21.Exposures.map encTExposure))]])), (4, (Ob.arr 128 5 [[(sV x35.Advisory), (sV x35.Component), (iV x35.Severity), (iV (if ((mget m3 x35.Advisory).getD (TPublished.mk ([] : List UInt8) 0 0)).Day > x21.Day then ((mget m3 x35.Advisory).getD (TPublished.mk ([] : List UInt8) 0 0)).Day else x21.Day)), (iV p)]]))], 5⟩ : St)) (fun (p : Int) => k37 p = some r) ?_ ?_
                · clear hk37
                  refine awp_cond (decide (((mget m3 x35.Advisory).getD (TPublished.mk ([] : List UInt8) 0 0)).Ended ≥ 0)) rfl (fun hb39 => ?_) (fun hb39 => ?_)
                  · replace h := ite_t hb39 h
                    refine awp_region ?_
                    refine aops_move (iV n24) wants_none rfl rfl ?_
                    refine aops_fieldAddr tF137_2 wants_none rfl rfl ?_
                    refine aops_load_cell (iV ((mget m3 x35.Advisory).getD (TPublished.mk ([] : List UInt8) 0 0)).Ended) tC3 wants_none rfl rfl rfl rfl rfl ?_
                    refine aops_min wants_none rfl rfl rfl ?_
                    refine aops_fieldAddr tF128_2 wants_none rfl rfl ?_
                    refine aops_store [(iV (if ((mget m3 x35.Advisory).getD (TPublished.mk ([] : List UInt8) 0 0)).Ended < n24 then ((mget m3 x35.Advisory).getD (TPublished.mk ([] : List UInt8) 0 0)).Ended else n24))] [[(sV x35.Advisory), (sV x35.Component), (iV x35.Severity), (iV (if ((mget m3 x35.Advisory).getD (TPublished.mk ([] : List UInt8) 0 0)).Day > x21.Day then ((mget m3 x35.Advisory).getD (TPublished.mk ([] : List UInt8) 0 0)).Day else x21.Day)), (iV (if ((mget m3 x35.Advisory).getD (TPublished.mk ([] : List UInt8) 0 0)).Ended < n24 then ((mget m3 x35.Advisory).getD (TPublished.mk ([] : List UInt8) 0 0)).Ended else n24))]] tS3 wants_none rfl rfl rfl rfl rfl rfl rfl rfl ?_
                    refine aops_nil ?_
                    exact ⟨(if ((mget m3 x35.Advisory).getD (TPublished.mk ([] : List UInt8) 0 0)).Ended < n24 then ((mget m3 x35.Advisory).getD (TPublished.mk ([] : List UInt8) 0 0)).Ended else n24), h, (ghost_ren 5 (fun i => ([0, 1, 2, 3, 6] : List Nat).getD i 0) _ _ (by decide) (EnvSub.get (.cons (Sub.ptr rfl rfl) (.cons (Sub.map rfl rfl) (.cons (Sub.own rfl rfl) (.cons (Sub.ptr rfl rfl) (.cons (Sub.imm (Imm.con _)) (.cons (Sub.ptr rfl rfl) (.cons (Sub.imm (Imm.lst _ _)) (.cons (Sub.imm (Imm.con _)) (.cons (Sub.imm (Imm.con _)) (.cons (Sub.imm (Imm.lst _ _)) (.cons (Sub.imm (Imm.con _)) (.cons (Sub.imm (Imm.con _)) .nil))))))))))))) (HpSub.get (.cons rfl (ObSub.box (.cons (Sub.imm (Imm.con _)) (.cons (Sub.imm (Imm.lst _ _)) (.cons (Sub.imm (Imm.lst _ _)) (.cons (Sub.imm (Imm.con _)) .nil))))) (.cons rfl (ObSub.maps encM9_137_imm) (.cons rfl (ObSub.rows (rows_imm imms_encThistory_piece)) (.cons rfl (ObSub.box (.cons (Sub.imm (Imm.con _)) (.cons (Sub.imm (Imm.con _)) (.cons (Sub.imm (Imm.lst _ _)) .nil)))) (.cons rfl (ObSub.box (.cons (Sub.imm (Imm.con _)) (.cons (Sub.imm (Imm.con _)) (.cons (Sub.imm (Imm.con _)) (.cons (Sub.imm (Imm.con _)) (.cons (Sub.imm (Imm.con _)) .nil)))))) .nil)))))) rfl)⟩
                  · replace h := ite_f hb39 h
                    refine awp_skip ?_
                    exact ⟨n24, h, (ghost_ren 5 (fun i => ([0, 1, 2, 3, 6] : List Nat).getD i 0) _ _ (by decide) (EnvSub.get (.cons (Sub.ptr rfl rfl) (.cons (Sub.map rfl rfl) (.cons (Sub.own rfl rfl) (.cons (Sub.ptr rfl rfl) (.cons (Sub.imm (Imm.con _)) (.cons (Sub.ptr rfl rfl) (.cons (Sub.imm (Imm.lst _ _)) (.cons (Sub.imm (Imm.con _)) (.cons (Sub.imm (Imm.con _)) (.cons (Sub.imm (Imm.lst _ _)) (.cons (Sub.imm (Imm.con _)) (.cons (Sub.imm (Imm.con _)) .nil))))))))))))) (HpSub.get (.cons rfl (ObSub.box (.cons (Sub.imm (Imm.con _)) (.cons (Sub.imm (Imm.lst _ _)) (.cons (Sub.imm (Imm.lst _ _)) (.cons (Sub.imm (Imm.con _)) .nil))))) (.cons rfl (ObSub.maps encM9_137_imm) (.cons rfl (ObSub.rows (rows_imm imms_encThistory_piece)) (.cons rfl (ObSub.box (.cons (Sub.imm (Imm.con _)) (.cons (Sub.imm (Imm.con _)) (.cons (Sub.imm (Imm.lst _ _)) .nil)))) (.cons rfl (ObSub.box (.cons (Sub.imm (Imm.con _)) (.cons (Sub.imm (Imm.con _)) (.cons (Sub.imm (Imm.con _)) (.cons (Sub.imm (Imm.con _)) (.cons (Sub.imm (Imm.con _)) .nil)))))) .nil)))))) rfl)⟩
                · clear h
                  intro n38 h
                  subst hk37
                  refine awp_seq ?_
                  refine awp_region ?_
                  refine aops_fieldAddr tF128_1 wants_none rfl rfl ?_
                  refine aops_load_cell (iV (if ((mget m3 x35.Advisory).getD (TPublished.mk ([] : List UInt8) 0 0)).Day > x21.Day then ((mget m3 x35.Advisory).getD (TPublished.mk ([] : List UInt8) 0 0)).Day else x21.Day)) tC3 wants_none rfl rfl rfl rfl rfl ?_
                  refine aops_fieldAddr tF128_2 wants_none rfl rfl ?_
                  refine aops_load_cell (iV n38) tC3 wants_none rfl rfl rfl rfl rfl ?_
                  refine aops_bin (.bool (decide ((if ((mget m3 x35.Advisory).getD (TPublished.mk ([] : List UInt8) 0 0)).Day > x21.Day then ((mget m3 x35.Advisory).getD (TPublished.mk ([] : List UInt8) 0 0)).Day else x21.Day) < n38))) wants_none rfl rfl rfl rfl ?_
                  refine aops_nil ?_
                  replace h := jn_elim h
                  obtain ⟨k40, hk40, h⟩ := h
                  refine awp_cut (fun (p : (List Thistory_piece)) => (⟨[(1, (V.ptr 0 4 0 0)), (3, (V.map 1)), (6, (V.own 2 p.length)), (8, (V.ptr 3 3 0 0)), (9, (iV n24)), (28, (V.lst 3 (a1.Releases.map encTRelease))), (29, (iV ((a1.Releases.length : Nat) : Int))), (30, (iV n16)), (51, (V.lst 3 (x21.Exposures.map encTExposure))), (52, (iV ((x21.Exposures.length : Nat) : Int))), (53, (iV n32))], [(0, (Ob.arr 52 4 [[(sV a1.Product), (V.lst 3 (a1.Releases.map encTRelease)), (V.lst 3 (a1.Known.map encTPublished)), (iV a1.Until)]])), (1, (Ob.map (m3.map encM9_137))), (2, (Ob.arr 128 5 (p.map encThistory_piece))), (3, (Ob.arr 42 3 [[(sV x21.Version), (iV x21.Day), (V.lst 3 (x21.Exposures.map encTExposure))]]))], 4⟩ : St)) (fun (p : (List Thistory_piece)) => k40 p = some r) ?_ ?_
                  · clear hk40
                    refine awp_cond (decide ((if ((mget m3 x35.Advisory).getD (TPublished.mk ([] : List UInt8) 0 0)).Day > x21.Day then ((mget m3 x35.Advisory).getD (TPublished.mk ([] : List UInt8) 0 0)).Day else x21.Day) < n38)) rfl (fun hb42 => ?_) (fun hb42 => ?_)
                    · replace h := ite_t hb42 h
                      refine awp_region ?_
                      refine aops_move (V.own 2 l33.length) wants_none rfl rfl ?_
                      refine aops_load_agg (cs := [(sV x35.Advisory), (sV x35.Component), (iV x35.Severity), (iV (if ((mget m3 x35.Advisory).getD (TPublished.mk ([] : List UInt8) 0 0)).Day > x21.Day then ((mget m3 x35.Advisory).getD (TPublished.mk ([] : List UInt8) 0 0)).Day else x21.Day)), (iV n38)]) tA128 wants_none rfl rfl rfl rfl rfl rfl ?_
                      refine aops_buildSlice [(0, (V.agg [(sV x35.Advisory), (sV x35.Component), (iV x35.Severity), (iV (if ((mget m3 x35.Advisory).getD (TPublished.mk ([] : List UInt8) 0 0)).Day > x21.Day then ((mget m3 x35.Advisory).getD (TPublished.mk ([] : List UInt8) 0 0)).Day else x21.Day)), (iV n38)]))] [[(sV x35.Advisory), (sV x35.Component), (iV x35.Severity), (iV (if ((mget m3 x35.Advisory).getD (TPublished.mk ([] : List UInt8) 0 0)).Day > x21.Day then ((mget m3 x35.Advisory).getD (TPublished.mk ([] : List UInt8) 0 0)).Day else x21.Day)), (iV n38)]] tEl125 tZ128 rfl rfl rfl rfl wants_none (evp_cons rfl evp_nil) rfl rfl (by simp) rfl ?_
                      replace h := chk_some h
                      obtain ⟨hc43, h⟩ := h
                      refine aops_append [[(sV x35.Advisory), (sV x35.Component), (iV x35.Severity), (iV (if ((mget m3 x35.Advisory).getD (TPublished.mk ([] : List UInt8) 0 0)).Day > x21.Day then ((mget m3 x35.Advisory).getD (TPublished.mk ([] : List UInt8) 0 0)).Day else x21.Day)), (iV n38)]] ((l33 ++ ([(Thistory_piece.mk x35 (if ((mget m3 x35.Advisory).getD (TPublished.mk ([] : List UInt8) 0 0)).Day > x21.Day then ((mget m3 x35.Advisory).getD (TPublished.mk ([] : List UInt8) 0 0)).Day else x21.Day) n38)] : List Thistory_piece)).map encThistory_piece) tEl125 tIsSl125 rfl rfl wants_none rfl rfl (by simp) rfl (.own rfl (by simp)) (map_snoc encThistory_piece l33 ([(Thistory_piece.mk x35 (if ((mget m3 x35.Advisory).getD (TPublished.mk ([] : List UInt8) 0 0)).Day > x21.Day then ((mget m3 x35.Advisory).getD (TPublished.mk ([] : List UInt8) 0 0)).Day else x21.Day) n38)] : List Thistory_piece)) (List.length_map ..) hc43 rfl ?_
                      refine aops_assign (V.own 6 (l33 ++ ([(Thistory_piece.mk x35 (if ((mget m3 x35.Advisory).getD (TPublished.mk ([] : List UInt8) 0 0)).Day > x21.Day then ((mget m3 x35.Advisory).getD (TPublished.mk ([] : List UInt8) 0 0)).Day else x21.Day) n38)] : List Thistory_piece)).length) wants_none rfl rfl ?_
                      refine aops_nil ?_
                      exact ⟨(l33 ++ ([(Thistory_piece.mk x35 (if ((mget m3 x35.Advisory).getD (TPublished.mk ([] : List UInt8) 0 0)).Day > x21.Day then ((mget m3 x35.Advisory).getD (TPublished.mk ([] : List UInt8) 0 0)).Day else x21.Day) n38)] : List Thistory_piece)), h, (ghost_ren 4 (fun i => ([0, 1, 6, 3] : List Nat).getD i 0) _ _ (by decide) (EnvSub.get (.cons (Sub.ptr rfl rfl) (.cons (Sub.map rfl rfl) (.cons (Sub.own rfl rfl) (.cons (Sub.ptr rfl rfl) (.cons (Sub.imm (Imm.con _)) (.cons (Sub.imm (Imm.lst _ _)) (.cons (Sub.imm (Imm.con _)) (.cons (Sub.imm (Imm.con _)) (.cons (Sub.imm (Imm.lst _ _)) (.cons (Sub.imm (Imm.con _)) (.cons (Sub.imm (Imm.con _)) .nil)))))))))))) (HpSub.get (.cons rfl (ObSub.box (.cons (Sub.imm (Imm.con _)) (.cons (Sub.imm (Imm.lst _ _)) (.cons (Sub.imm (Imm.lst _ _)) (.cons (Sub.imm (Imm.con _)) .nil))))) (.cons rfl (ObSub.maps encM9_137_imm) (.cons rfl (ObSub.rows (rows_imm imms_encThistory_piece)) (.cons rfl (ObSub.box (.cons (Sub.imm (Imm.con _)) (.cons (Sub.imm (Imm.con _)) (.cons (Sub.imm (Imm.lst _ _)) .nil)))) .nil))))) rfl)⟩
                    · replace h := ite_f hb42 h
                      refine awp_skip ?_
                      exact ⟨l33, h, (ghost_ren 4 (fun i => ([0, 1, 2, 3] : List Nat).getD i 0) _ _ (by decide) (EnvSub.get (.cons (Sub.ptr rfl rfl) (.cons (Sub.map rfl rfl) (.cons (Sub.own rfl rfl) (.cons (Sub.ptr rfl rfl) (.cons (Sub.imm (Imm.con _)) (.cons (Sub.imm (Imm.lst _ _)) (.cons (Sub.imm (Imm.con _)) (.cons (Sub.imm (Imm.con _)) (.cons (Sub.imm (Imm.lst _ _)) (.cons (Sub.imm (Imm.con _)) (.cons (Sub.imm (Imm.con _)) .nil)))))))))))) (HpSub.get (.cons rfl (ObSub.box (.cons (Sub.imm (Imm.con _)) (.cons (Sub.imm (Imm.lst _ _)) (.cons (Sub.imm (Imm.lst _ _)) (.cons (Sub.imm (Imm.con _)) .nil))))) (.cons rfl (ObSub.maps encM9_137_imm) (.cons rfl (ObSub.rows (rows_imm imms_encThistory_piece)) (.cons rfl (ObSub.box (.cons (Sub.imm (Imm.con _)) (.cons (Sub.imm (Imm.con _)) (.cons (Sub.imm (Imm.lst _ _)) .nil)))) .nil))))) rfl)⟩
                  · clear h
                    intro l41 h
                    subst hk40
                    refine awp_region ?_
                    refine aops_bin (.int .i64 (w64 (n32 + 1))) wants_none rfl rfl rfl rfl ?_
                    refine aops_move (iV (w64 (n32 + 1))) wants_none rfl rfl ?_
                    refine aops_nil ?_
                    exact awp_back (ih3 ((w64 (n32 + 1)), l41) (hk3 _ h)) (ghost_ren 4 (fun i => ([0, 1, 2, 3] : List Nat).getD i 0) _ _ (by decide) (EnvSub.get (.cons (Sub.ptr rfl rfl) (.cons (Sub.map rfl rfl) (.cons (Sub.own rfl rfl) (.cons (Sub.ptr rfl rfl) (.cons (Sub.imm (Imm.con _)) (.cons (Sub.imm (Imm.lst _ _)) (.cons (Sub.imm (Imm.con _)) (.cons (Sub.imm (Imm.con _)) (.cons (Sub.imm (Imm.lst _ _)) (.cons (Sub.imm (Imm.con _)) (.cons (Sub.imm (Imm.con _)) .nil)))))))))))) (HpSub.get (.cons rfl (ObSub.box (.cons (Sub.imm (Imm.con _)) (.cons (Sub.imm (Imm.lst _ _)) (.cons (Sub.imm (Imm.lst _ _)) (.cons (Sub.imm (Imm.con _)) .nil))))) (.cons rfl (ObSub.maps encM9_137_imm) (.cons rfl (ObSub.rows (rows_imm imms_encThistory_piece)) (.cons rfl (ObSub.box (.cons (Sub.imm (Imm.con _)) (.cons (Sub.imm (Imm.con _)) (.cons (Sub.imm (Imm.lst _ _)) .nil)))) .nil))))) rfl)
              · replace h := RG.f h hb34
                unfold M90_L3 at h
                refine awp_exit ?_
                exact ⟨l33, h, (ghost_ren 3 (fun i => ([0, 1, 2] : List Nat).getD i 0) _ _ (by decide) (EnvSub.get (.cons (Sub.ptr rfl rfl) (.cons (Sub.map rfl rfl) (.cons (Sub.own rfl rfl) (.cons (Sub.imm (Imm.lst _ _)) (.cons (Sub.imm (Imm.con _)) (.cons (Sub.imm (Imm.con _)) .nil))))))) (HpSub.get (.cons rfl (ObSub.box (.cons (Sub.imm (Imm.con _)) (.cons (Sub.imm (Imm.lst _ _)) (.cons (Sub.imm (Imm.lst _ _)) (.cons (Sub.imm (Imm.con _)) .nil))))) (.cons rfl (ObSub.maps encM9_137_imm) (.cons rfl (ObSub.rows (rows_imm imms_encThistory_piece)) .nil)))) rfl)⟩
            · clear h
              intro l29 h
              subst hk28
              exact ⟨l29, h, (ghost_ren 3 (fun i => ([0, 1, 2] : List Nat).getD i 0) _ _ (by decide) (EnvSub.get (.cons (Sub.ptr rfl rfl) (.cons (Sub.map rfl rfl) (.cons (Sub.own rfl rfl) (.cons (Sub.imm (Imm.lst _ _)) (.cons (Sub.imm (Imm.con _)) (.cons (Sub.imm (Imm.con _)) .nil))))))) (HpSub.get (.cons rfl (ObSub.box (.cons (Sub.imm (Imm.con _)) (.cons (Sub.imm (Imm.lst _ _)) (.cons (Sub.imm (Imm.lst _ _)) (.cons (Sub.imm (Imm.con _)) .nil))))) (.cons rfl (ObSub.maps encM9_137_imm) (.cons rfl (ObSub.rows (rows_imm imms_encThistory_piece)) .nil)))) rfl)⟩
        · clear h
          intro l20 h
          subst hk19
          refine awp_region ?_
          refine aops_bin (.int .i64 (w64 (n16 + 1))) wants_none rfl rfl rfl rfl ?_
          refine aops_move (iV (w64 (n16 + 1))) wants_none rfl rfl ?_
          refine aops_nil ?_
          exact awp_back (ih2 ((w64 (n16 + 1)), l20) (hk2 _ h)) (ghost_ren 3 (fun i => ([0, 1, 2] : List Nat).getD i 0) _ _ (by decide) (EnvSub.get (.cons (Sub.ptr rfl rfl) (.cons (Sub.map rfl rfl) (.cons (Sub.own rfl rfl) (.cons (Sub.imm (Imm.lst _ _)) (.cons (Sub.imm (Imm.con _)) (.cons (Sub.imm (Imm.con _)) .nil))))))) (HpSub.get (.cons rfl (ObSub.box (.cons (Sub.imm (Imm.con _)) (.cons (Sub.imm (Imm.lst _ _)) (.cons (Sub.imm (Imm.lst _ _)) (.cons (Sub.imm (Imm.con _)) .nil))))) (.cons rfl (ObSub.maps encM9_137_imm) (.cons rfl (ObSub.rows (rows_imm imms_encThistory_piece)) .nil)))) rfl)
      · replace h := RG.f h hb18
        unfold M90_L2 at h
        refine awp_exit ?_
        exact ⟨l17, h, (ghost_ren 1 (fun i => ([2] : List Nat).getD i 0) _ _ (by decide) (EnvSub.get (.cons (Sub.own rfl rfl) .nil)) (HpSub.get (.cons rfl (ObSub.rows (rows_imm imms_encThistory_piece)) .nil)) rfl)⟩
    · clear h
      intro l13 h
      subst hk12
      refine awp_seq ?_
      refine awp_region ?_
      refine aops_move (V.own 0 l13.length) wants_none rfl rfl ?_
      refine aops_assign (V.own 0 l13.length) wants_none rfl rfl ?_
      refine aops_nil ?_
      refine awp_ghost (ghost_frzE 0 2 rfl (rows_imm imms_encThistory_piece) rfl (List.length_map ..).symm) ?_
      refine awp_ret ?_
      obtain rfl := Option.some.inj h
      exact ⟨.inl rfl, .one (.tmp rfl (Imm.lst _ _))⟩

theorem W33 (F : Nat) (a1 : TStory) (a2 : Int) (r : ((List TExposure) × Int)) (h : M33 F a1 a2 = some r) : Pure Try.prog 33 [(V.agg [(sV a1.Product), (V.lst 3 (a1.Releases.map encTRelease)), (V.lst 3 (a1.Known.map encTPublished)), (iV a1.Until)]), (iV a2)] (V.tup [(V.lst 3 ((r.1).map encTExposure)), (iV (r.2))]) := by
  refine pure_enter Try.func33 rfl rfl (l := [.tmp 4, .tmp 5]) rfl rfl [(0, (V.agg [(sV a1.Product), (V.lst 3 (a1.Releases.map encTRelease)), (V.lst 3 (a1.Known.map encTPublished)), (iV a1.Until)])), (1, (iV a2))] rfl (fun w0 m0 => ?_)
  unfold M33 at h
  refine awp_seq ?_
  refine awp_region ?_
  refine aops_box [(sV a1.Product), (V.lst 3 (a1.Releases.map encTRelease)), (V.lst 3 (a1.Known.map encTPublished)), (iV a1.Until)] wants_none rfl rfl rfl rfl ?_
  refine aops_assign nV wants_none rfl rfl ?_
  refine aops_assign (iV 0) wants_none rfl rfl ?_
  refine aops_nil ?_
  refine awp_seq ?_
  refine awp_seq ?_
  refine awp_region ?_
  refine aops_load_agg (cs := [(sV a1.Product), (V.lst 3 (a1.Releases.map encTRelease)), (V.lst 3 (a1.Known.map encTPublished)), (iV a1.Until)]) tA52 wants_none rfl rfl rfl rfl rfl rfl ?_
  replace h := bind_some h
  obtain ⟨y3, hx4, h⟩ := h
  refine aops_call (iV y3) [(V.agg [(sV a1.Product), (V.lst 3 (a1.Releases.map encTRelease)), (V.lst 3 (a1.Known.map encTPublished)), (iV a1.Until)])] fOk35 wants_none (evm_cons rfl evm_nil) (.cons (Imm.agg (.cons (Imm.con _) (.cons (Imm.lst _ _) (.cons (Imm.lst _ _) (.cons (Imm.con _) .nil))))) .nil) (W35 F a1 y3 hx4) rfl ?_
  refine aops_assign (iV y3) wants_none rfl rfl ?_
  refine aops_nil ?_
  refine awp_seq ?_
  refine awp_region ?_
  refine aops_move (iV y3) wants_none rfl rfl ?_
  refine aops_bin (.bool (y3 != 0)) wants_none rfl rfl rfl rfl ?_
  refine aops_nil ?_
  refine awp_cond (y3 != 0) rfl (fun hb5 => ?_) (fun hb5 => ?_)
  · replace h := ite_t hb5 h
    refine awp_seq ?_
    refine awp_region ?_
    refine aops_move (iV y3) wants_none rfl rfl ?_
    refine aops_assign nV wants_none rfl rfl ?_
    refine aops_assign (iV y3) wants_none rfl rfl ?_
    refine aops_nil ?_
    refine awp_ghost (ghost_tell 4 (V.lst 3 (([] : List TExposure).map encTExposure)) rfl (Sub.nil _)) ?_
    refine awp_ret ?_
    obtain rfl := Option.some.inj h
    exact ⟨.inl rfl, .two (.tmp rfl (Imm.lst _ _)) (.tmp rfl (Imm.con _))⟩
  · replace h := ite_f hb5 h
    refine awp_skip ?_
    refine awp_seq ?_
    refine awp_seq ?_
    refine awp_region ?_
    refine aops_move (iV a2) wants_none rfl rfl ?_
    replace h := bind_some h
    obtain ⟨y6, hx7, h⟩ := h
    refine aops_call (bV y6) [(iV a2)] fOk69 wants_none (evm_cons rfl evm_nil) (.cons (Imm.con _) .nil) (W69 F a2 y6 hx7) rfl ?_
    refine aops_not wants_none rfl rfl ?_
    refine aops_nil ?_
    refine awp_cond (!y6) rfl (fun hb8 => ?_) (fun hb8 => ?_)
    · replace h := ite_t hb8 h
      refine awp_seq ?_
      refine awp_region ?_
      refine aops_assign nV wants_none rfl rfl ?_
      refine aops_assign (iV 9) wants_none rfl rfl ?_
      refine aops_nil ?_
      refine awp_ghost (ghost_tell 4 (V.lst 3 (([] : List TExposure).map encTExposure)) rfl (Sub.nil _)) ?_
      refine awp_ret ?_
      obtain rfl := Option.some.inj h
      exact ⟨.inl rfl, .two (.tmp rfl (Imm.lst _ _)) (.tmp rfl (Imm.con _))⟩
    · replace h := ite_f hb8 h
      refine awp_skip ?_
      refine awp_seq ?_
      refine awp_region ?_
      refine aops_assign nV wants_none rfl rfl ?_
      refine aops_nil ?_
      refine awp_seq ?_
      refine awp_seq ?_
      refine awp_region ?_
      refine aops_load_agg (cs := [(sV a1.Product), (V.lst 3 (a1.Releases.map encTRelease)), (V.lst 3 (a1.Known.map encTPublished)), (iV a1.Until)]) tA52 wants_none rfl rfl rfl rfl rfl rfl ?_
      replace h := bind_some h
      obtain ⟨y9, hx10, h⟩ := h
      refine aops_call (V.lst 5 (y9.map encThistory_piece)) [(V.agg [(sV a1.Product), (V.lst 3 (a1.Releases.map encTRelease)), (V.lst 3 (a1.Known.map encTPublished)), (iV a1.Until)])] fOk90 wants_none (evm_cons rfl evm_nil) (.cons (Imm.agg (.cons (Imm.con _) (.cons (Imm.lst _ _) (.cons (Imm.lst _ _) (.cons (Imm.con _) .nil))))) .nil) (W90 F a1 y9 hx10) rfl ?_
      refine aops_len (n := y9.length) tIsSl125 wants_none rfl (congrArg some (List.length_map ..)) rfl ?_
      refine aops_move (iV 0) wants_none rfl rfl ?_
      refine aops_nil ?_
      replace h := jn_elim h
      obtain ⟨k11, hk11, h⟩ := h
      refine awp_cut (fun (p : (List TExposure)) => (⟨[(7, (V.own 0 p.length))], [(0, (Ob.arr 47 3 (p.map encTExposure)))], 1⟩ : St)) (fun (p : (List TExposure)) => k11 p = some r) ?_ ?_
      · clear hk11
        refine awp_block ?_
        refine awp_len (A := y9) 19 rfl (fun hA27 => ?_)
        refine awp_loop_ind (fun (p : Int × (List TExposure)) => (⟨[(1, (iV a2)), (7, (V.own 0 (p.2).length)), (19, (V.lst 5 (y9.map encThistory_piece))), (20, (iV ((y9.length : Nat) : Int))), (21, (iV (p.1)))], [(0, (Ob.arr 47 3 ((p.2).map encTExposure)))], 1⟩ : St)) (fun n (p : Int × (List TExposure)) => RG y9 (fun tl nn => M33_L1 F a2 k11 tl p.2 = some r) n p.1) (fun p h => RG.zero h) (fun n ih1 p h => ?_) (y9.length + 1) (0, ([] : List TExposure)) (RG.start h) (Ghost.trans (ghost_nilE 7 47 3 rfl) (ghost_ren 1 (fun i => ([1] : List Nat).getD i 0) _ _ (by decide) (EnvSub.get (.cons (Sub.imm (Imm.con _)) (.cons (Sub.ownE rfl rfl (by simp)) (.cons (Sub.imm (Imm.lst _ _)) (.cons (Sub.imm (Imm.con _)) (.cons (Sub.imm (Imm.con _)) .nil)))))) (HpSub.get (.cons rfl (ObSub.rows (rows_imm imms_encTExposure)) .nil)) rfl))
        obtain ⟨n15, l16⟩ := p
        refine awp_loop ?_
        refine awp_seq ?_
        refine awp_region ?_
        refine aops_bin (.bool (decide (n15 < ((y9.length : Nat) : Int)))) wants_none rfl rfl rfl rfl ?_
        refine aops_nil ?_
        refine awp_seq ?_
        refine awp_cond (decide (n15 < ((y9.length : Nat) : Int))) rfl (fun hb17 => ?_) (fun hb17 => ?_)
        · obtain ⟨x20, tl, hx21, h, hk1⟩ := RG.t hA27 h hb17
          unfold M33_L1 at h
          refine awp_skip ?_
          refine awp_seq ?_
          replace h := jn_elim h
          obtain ⟨k18, hk18, h⟩ := h
          refine awp_cut (fun (p : (List TExposure)) => (⟨[(1, (iV a2)), (7, (V.own 0 p.length)), (19, (V.lst 5 (y9.map encThistory_piece))), (20, (iV ((y9.length : Nat) : Int))), (21, (iV n15))], [(0, (Ob.arr 47 3 (p.map encTExposure)))], 1⟩ : St)) (fun (p : (List TExposure)) => k18 p = some r) ?_ ?_
          · clear hk18
            refine awp_block ?_
            refine awp_seq ?_
            refine awp_region ?_
            refine aops_index_lst [(sV x20.x.Advisory), (sV x20.x.Component), (iV x20.x.Severity), (iV x20.from_), (iV x20.to)] tSl125 wants_none rfl rfl (idx_some hx21).1 (idx_map encThistory_piece hx21) rfl ?_
            refine aops_iload_agg (cs := [(sV x20.x.Advisory), (sV x20.x.Component), (iV x20.x.Severity), (iV x20.from_), (iV x20.to)]) tA128 wants_none rfl rfl rfl rfl ?_
            refine aops_alloc tZ128 rfl rfl wants_none rfl ?_
            refine aops_store [(sV x20.x.Advisory), (sV x20.x.Component), (iV x20.x.Severity), (iV x20.from_), (iV x20.to)] [[(sV x20.x.Advisory), (sV x20.x.Component), (iV x20.x.Severity), (iV x20.from_), (iV x20.to)]] tS128 wants_none rfl rfl rfl rfl rfl rfl rfl rfl ?_
            refine aops_nil ?_
            refine awp_seq ?_
            refine awp_region ?_
            refine aops_fieldAddr tF128_1 wants_none rfl rfl ?_
            refine aops_load_cell (iV x20.from_) tC3 wants_none rfl rfl rfl rfl rfl ?_
            refine aops_move (iV a2) wants_none rfl rfl ?_
            refine aops_bin (.bool (decide (x20.from_ ≤ a2))) wants_none rfl rfl rfl rfl ?_
            refine aops_move (bV (decide (x20.from_ ≤ a2))) wants_none rfl rfl ?_
            rcases Bool.eq_false_or_eq_true (decide (x20.from_ ≤ a2)) with hb22 | hb22
            · replace h := ite_t hb22 h
              refine aops_move (iV a2) (wants_some (c := (decide (x20.from_ ≤ a2))) (b := true) 29 rfl rfl hb22) rfl rfl ?_
              refine aops_fieldAddr tF128_2 (wants_some (c := (decide (x20.from_ ≤ a2))) (b := true) 29 rfl rfl hb22) rfl rfl ?_
              refine aops_load_cell (iV x20.to) tC3 (wants_some (c := (decide (x20.from_ ≤ a2))) (b := true) 29 rfl rfl hb22) rfl rfl rfl rfl rfl ?_
              refine aops_bin (.bool (decide (a2 < x20.to))) (wants_some (c := (decide (x20.from_ ≤ a2))) (b := true) 29 rfl rfl hb22) rfl rfl rfl rfl ?_
              refine aops_pick true (cb := (decide (x20.from_ ≤ a2))) (bV (decide (a2 < x20.to))) wants_none rfl hb22 rfl rfl ?_
              refine aops_nil ?_
              replace h := jn_elim h
              obtain ⟨k23, hk23, h⟩ := h
              refine awp_cut (fun (p : (List TExposure)) => (⟨[(1, (iV a2)), (7, (V.own 0 p.length)), (19, (V.lst 5 (y9.map encThistory_piece))), (20, (iV ((y9.length : Nat) : Int))), (21, (iV n15)), (30, (iV a2)), (31, (V.ptr 1 5 0 4)), (32, (iV x20.to)), (33, (bV (decide (a2 < x20.to))))], [(0, (Ob.arr 47 3 (p.map encTExposure))), (1, (Ob.arr 128 5 [[(sV x20.x.Advisory), (sV x20.x.Component), (iV x20.x.Severity), (iV x20.from_), (iV x20.to)]]))], 2⟩ : St)) (fun (p : (List TExposure)) => k23 p = some r) ?_ ?_
              · clear hk23
                refine awp_cond (decide (a2 < x20.to)) rfl (fun hb25 => ?_) (fun hb25 => ?_)
                · replace h := ite_t hb25 h
                  refine awp_region ?_
                  refine aops_move (V.own 0 l16.length) wants_none rfl rfl ?_
                  refine aops_fieldAddr tF128_0 wants_none rfl rfl ?_
                  refine aops_load_agg (cs := [(sV x20.x.Advisory), (sV x20.x.Component), (iV x20.x.Severity)]) tA47 wants_none rfl rfl rfl rfl rfl rfl ?_
                  refine aops_buildSlice [(0, (V.agg [(sV x20.x.Advisory), (sV x20.x.Component), (iV x20.x.Severity)]))] [[(sV x20.x.Advisory), (sV x20.x.Component), (iV x20.x.Severity)]] tEl40 tZ47 rfl rfl rfl rfl wants_none (evp_cons rfl evp_nil) rfl rfl (by simp) rfl ?_
                  replace h := chk_some h
                  obtain ⟨hc26, h⟩ := h
                  refine aops_append [[(sV x20.x.Advisory), (sV x20.x.Component), (iV x20.x.Severity)]] ((l16 ++ ([x20.x] : List TExposure)).map encTExposure) tEl40 tIsSl40 rfl rfl wants_none rfl rfl (by simp) rfl (.own rfl (by simp)) (map_snoc encTExposure l16 ([x20.x] : List TExposure)) (List.length_map ..) hc26 rfl ?_
                  refine aops_assign (V.own 3 (l16 ++ ([x20.x] : List TExposure)).length) wants_none rfl rfl ?_
                  refine aops_nil ?_
                  exact ⟨(l16 ++ ([x20.x] : List TExposure)), h, (ghost_ren 2 (fun i => ([3, 1] : List Nat).getD i 0) _ _ (by decide) (EnvSub.get (.cons (Sub.imm (Imm.con _)) (.cons (Sub.own rfl rfl) (.cons (Sub.imm (Imm.lst _ _)) (.cons (Sub.imm (Imm.con _)) (.cons (Sub.imm (Imm.con _)) (.cons (Sub.imm (Imm.con _)) (.cons (Sub.ptr rfl rfl) (.cons (Sub.imm (Imm.con _)) (.cons (Sub.imm (Imm.con _)) .nil)))))))))) (HpSub.get (.cons rfl (ObSub.rows (rows_imm imms_encTExposure)) (.cons rfl (ObSub.box (.cons (Sub.imm (Imm.con _)) (.cons (Sub.imm (Imm.con _)) (.cons (Sub.imm (Imm.con _)) (.cons (Sub.imm (Imm.con _)) (.cons (Sub.imm (Imm.con _)) .nil)))))) .nil))) rfl)⟩
                · replace h := ite_f hb25 h
                  refine awp_skip ?_
                  exact ⟨l16, h, (ghost_ren 2 (fun i => ([0, 1] : List Nat).getD i 0) _ _ (by decide) (EnvSub.get (.cons (Sub.imm (Imm.con _)) (.cons (Sub.own rfl rfl) (.cons (Sub.imm (Imm.lst _ _)) (.cons (Sub.imm (Imm.con _)) (.cons (Sub.imm (Imm.con _)) (.cons (Sub.imm (Imm.con _)) (.cons (Sub.ptr rfl rfl) (.cons (Sub.imm (Imm.con _)) (.cons (Sub.imm (Imm.con _)) .nil)))))))))) (HpSub.get (.cons rfl (ObSub.rows (rows_imm imms_encTExposure)) (.cons rfl (ObSub.box (.cons (Sub.imm (Imm.con _)) (.cons (Sub.imm (Imm.con _)) (.cons (Sub.imm (Imm.con _)) (.cons (Sub.imm (Imm.con _)) (.cons (Sub.imm (Imm.con _)) .nil)))))) .nil))) rfl)⟩
              · clear h
                intro l24 h
                subst hk23
                exact ⟨l24, h, (ghost_ren 1 (fun i => ([0] : List Nat).getD i 0) _ _ (by decide) (EnvSub.get (.cons (Sub.imm (Imm.con _)) (.cons (Sub.own rfl rfl) (.cons (Sub.imm (Imm.lst _ _)) (.cons (Sub.imm (Imm.con _)) (.cons (Sub.imm (Imm.con _)) .nil)))))) (HpSub.get (.cons rfl (ObSub.rows (rows_imm imms_encTExposure)) .nil)) rfl)⟩
            · replace h := ite_f hb22 h
              refine aops_skip (wants_some (c := (decide (x20.from_ ≤ a2))) (b := false) 29 rfl rfl hb22) rfl rfl ?_
              refine aops_skip (wants_some (c := (decide (x20.from_ ≤ a2))) (b := false) 29 rfl rfl hb22) rfl rfl ?_
              refine aops_skip (wants_some (c := (decide (x20.from_ ≤ a2))) (b := false) 29 rfl rfl hb22) rfl rfl ?_
              refine aops_skip (wants_some (c := (decide (x20.from_ ≤ a2))) (b := false) 29 rfl rfl hb22) rfl rfl ?_
              refine aops_pick false (cb := (decide (x20.from_ ≤ a2))) (bV false) wants_none rfl hb22 rfl rfl ?_
              refine aops_nil ?_
              refine awp_cond_f rfl rfl ?_
              refine awp_skip ?_
              exact ⟨l16, h, (ghost_ren 1 (fun i => ([0] : List Nat).getD i 0) _ _ (by decide) (EnvSub.get (.cons (Sub.imm (Imm.con _)) (.cons (Sub.own rfl rfl) (.cons (Sub.imm (Imm.lst _ _)) (.cons (Sub.imm (Imm.con _)) (.cons (Sub.imm (Imm.con _)) .nil)))))) (HpSub.get (.cons rfl (ObSub.rows (rows_imm imms_encTExposure)) .nil)) rfl)⟩
          · clear h
            intro l19 h
            subst hk18
            refine awp_region ?_
            refine aops_bin (.int .i64 (w64 (n15 + 1))) wants_none rfl rfl rfl rfl ?_
            refine aops_move (iV (w64 (n15 + 1))) wants_none rfl rfl ?_
            refine aops_nil ?_
            exact awp_back (ih1 ((w64 (n15 + 1)), l19) (hk1 _ h)) (ghost_ren 1 (fun i => ([0] : List Nat).getD i 0) _ _ (by decide) (EnvSub.get (.cons (Sub.imm (Imm.con _)) (.cons (Sub.own rfl rfl) (.cons (Sub.imm (Imm.lst _ _)) (.cons (Sub.imm (Imm.con _)) (.cons (Sub.imm (Imm.con _)) .nil)))))) (HpSub.get (.cons rfl (ObSub.rows (rows_imm imms_encTExposure)) .nil)) rfl)
        · replace h := RG.f h hb17
          unfold M33_L1 at h
          refine awp_exit ?_
          exact ⟨l16, h, (ghost_ren 1 (fun i => ([0] : List Nat).getD i 0) _ _ (by decide) (EnvSub.get (.cons (Sub.own rfl rfl) .nil)) (HpSub.get (.cons rfl (ObSub.rows (rows_imm imms_encTExposure)) .nil)) rfl)⟩
      · clear h
        intro l12 h
        subst hk11
        refine awp_seq ?_
        refine awp_region ?_
        refine aops_move (V.own 0 l12.length) wants_none rfl rfl ?_
        refine aops_assign (V.own 0 l12.length) wants_none rfl rfl ?_
        refine aops_assign (iV 0) wants_none rfl rfl ?_
        refine aops_nil ?_
        refine awp_ghost (ghost_frzE 0 4 rfl (rows_imm imms_encTExposure) rfl (List.length_map ..).symm) ?_
        refine awp_ret ?_
        obtain rfl := Option.some.inj h
        exact ⟨.inl rfl, .two (.tmp rfl (Imm.lst _ _)) (.tmp rfl (Imm.con _))⟩

theorem W91 (F : Nat) (a1 : TStory) (r : Tprovenderref11_view) (h : M91 F a1 = some r) : Pure Try.prog 91 [(V.agg [(sV a1.Product), (V.lst 3 (a1.Releases.map encTRelease)), (V.lst 3 (a1.Known.map encTPublished)), (iV a1.Until)])] (V.agg [(sV r.s.Product), (V.lst 3 (r.s.Releases.map encTRelease)), (V.lst 3 (r.s.Known.map encTPublished)), (iV r.s.Until), (V.imap (r.known.map encM9_137))]) := by
  refine pure_enter Try.func91 rfl rfl (l := [.cell 2 131]) rfl rfl [(0, (V.agg [(sV a1.Product), (V.lst 3 (a1.Releases.map encTRelease)), (V.lst 3 (a1.Known.map encTPublished)), (iV a1.Until)]))] rfl (fun w0 m0 => ?_)
  unfold M91 at h
  refine awp_seq ?_
  refine awp_region ?_
  refine aops_box [(sV a1.Product), (V.lst 3 (a1.Releases.map encTRelease)), (V.lst 3 (a1.Known.map encTPublished)), (iV a1.Until)] wants_none rfl rfl rfl rfl ?_
  refine aops_alloc tZ131 rfl rfl wants_none rfl ?_
  refine aops_nil ?_
  refine awp_seq ?_
  refine awp_region ?_
  refine aops_load_agg (cs := [(sV a1.Product), (V.lst 3 (a1.Releases.map encTRelease)), (V.lst 3 (a1.Known.map encTPublished)), (iV a1.Until)]) tA52 wants_none rfl rfl rfl rfl rfl rfl ?_
  refine aops_makeMap wants_none rfl ?_
  refine aops_build [(0, (V.agg [(sV a1.Product), (V.lst 3 (a1.Releases.map encTRelease)), (V.lst 3 (a1.Known.map encTPublished)), (iV a1.Until)])), (1, (V.map 2))] [(sV a1.Product), (V.lst 3 (a1.Releases.map encTRelease)), (V.lst 3 (a1.Known.map encTPublished)), (iV a1.Until), (V.map 2)] tZ131 tPl131 rfl wants_none (evp_cons rfl (evp_cons rfl evp_nil)) rfl rfl ?_
  refine aops_alloc tZ131 rfl rfl wants_none rfl ?_
  refine aops_store [(sV a1.Product), (V.lst 3 (a1.Releases.map encTRelease)), (V.lst 3 (a1.Known.map encTPublished)), (iV a1.Until), (V.map 2)] [[(sV a1.Product), (V.lst 3 (a1.Releases.map encTRelease)), (V.lst 3 (a1.Known.map encTPublished)), (iV a1.Until), (V.map 2)]] tS131 wants_none rfl rfl rfl rfl rfl rfl rfl rfl ?_
  refine aops_nil ?_
  refine awp_seq ?_
  refine awp_seq ?_
  refine awp_region ?_
  refine aops_fieldAddr tF52_2 wants_none rfl rfl ?_
  refine aops_load_cell (V.lst 3 (a1.Known.map encTPublished)) tC50 wants_none rfl rfl rfl rfl rfl ?_
  refine aops_len (n := a1.Known.length) tIsSl50 wants_none rfl (congrArg some (List.length_map ..)) rfl ?_
  refine aops_move (iV 0) wants_none rfl rfl ?_
  refine aops_nil ?_
  replace h := jn_elim h
  obtain ⟨k2, hk2, h⟩ := h
  refine awp_cut (fun (p : (List ((List UInt8) × TPublished))) => (⟨[(2, (V.ptr 0 5 0 0)), (3, (V.ptr 1 5 0 0))], [(0, (Ob.arr 131 5 [[(sV ([] : List UInt8)), nV, nV, (iV 0), (V.con (.map none))]])), (1, (Ob.arr 131 5 [[(sV a1.Product), (V.lst 3 (a1.Releases.map encTRelease)), (V.lst 3 (a1.Known.map encTPublished)), (iV a1.Until), (V.map 2)]])), (2, (Ob.map (p.map encM9_137)))], 3⟩ : St)) (fun (p : (List ((List UInt8) × TPublished))) => k2 p = some r) ?_ ?_
  · clear hk2
    refine awp_block ?_
    refine awp_len (A := a1.Known) 10 rfl (fun hA11 => ?_)
    refine awp_loop_ind (fun (p : Int × (List ((List UInt8) × TPublished))) => (⟨[(2, (V.ptr 0 5 0 0)), (3, (V.ptr 1 5 0 0)), (10, (V.lst 3 (a1.Known.map encTPublished))), (11, (iV ((a1.Known.length : Nat) : Int))), (12, (iV (p.1)))], [(0, (Ob.arr 131 5 [[(sV ([] : List UInt8)), nV, nV, (iV 0), (V.con (.map none))]])), (1, (Ob.arr 131 5 [[(sV a1.Product), (V.lst 3 (a1.Releases.map encTRelease)), (V.lst 3 (a1.Known.map encTPublished)), (iV a1.Until), (V.map 2)]])), (2, (Ob.map ((p.2).map encM9_137)))], 3⟩ : St)) (fun n (p : Int × (List ((List UInt8) × TPublished))) => RG a1.Known (fun tl nn => M91_L1 F k2 tl p.2 = some r) n p.1) (fun p h => RG.zero h) (fun n ih1 p h => ?_) (a1.Known.length + 1) (0, ([] : List ((List UInt8) × TPublished))) (RG.start h) (ghost_ren 3 (fun i => ([1, 3, 2] : List Nat).getD i 0) _ _ (by decide) (EnvSub.get (.cons (Sub.ptr rfl rfl) (.cons (Sub.ptr rfl rfl) (.cons (Sub.imm (Imm.lst _ _)) (.cons (Sub.imm (Imm.con _)) (.cons (Sub.imm (Imm.con _)) .nil)))))) (HpSub.get (.cons rfl (ObSub.box (.cons (Sub.imm (Imm.con _)) (.cons (Sub.imm (Imm.con _)) (.cons (Sub.imm (Imm.con _)) (.cons (Sub.imm (Imm.con _)) (.cons (Sub.imm (Imm.con _)) .nil)))))) (.cons rfl (ObSub.box (.cons (Sub.imm (Imm.con _)) (.cons (Sub.imm (Imm.lst _ _)) (.cons (Sub.imm (Imm.lst _ _)) (.cons (Sub.imm (Imm.con _)) (.cons (Sub.map rfl rfl) .nil)))))) (.cons rfl (ObSub.maps encM9_137_imm) .nil)))) rfl)
    obtain ⟨n6, m7⟩ := p
    refine awp_loop ?_
    refine awp_seq ?_
    refine awp_region ?_
    refine aops_bin (.bool (decide (n6 < ((a1.Known.length : Nat) : Int)))) wants_none rfl rfl rfl rfl ?_
    refine aops_nil ?_
    refine awp_seq ?_
    refine awp_cond (decide (n6 < ((a1.Known.length : Nat) : Int))) rfl (fun hb8 => ?_) (fun hb8 => ?_)
    · obtain ⟨x9, tl, hx10, h, hk1⟩ := RG.t hA11 h hb8
      unfold M91_L1 at h
      refine awp_skip ?_
      refine awp_seq ?_
      refine awp_block ?_
      refine awp_seq ?_
      refine awp_region ?_
      refine aops_index_lst [(sV x9.Advisory), (iV x9.Day), (iV x9.Ended)] tSl50 wants_none rfl rfl (idx_some hx10).1 (idx_map encTPublished hx10) rfl ?_
      refine aops_iload_agg (cs := [(sV x9.Advisory), (iV x9.Day), (iV x9.Ended)]) tA137 wants_none rfl rfl rfl rfl ?_
      refine aops_alloc tZ137 rfl rfl wants_none rfl ?_
      refine aops_store [(sV x9.Advisory), (iV x9.Day), (iV x9.Ended)] [[(sV x9.Advisory), (iV x9.Day), (iV x9.Ended)]] tS137 wants_none rfl rfl rfl rfl rfl rfl rfl rfl ?_
      refine aops_nil ?_
      refine awp_region ?_
      refine aops_fieldAddr tF131_1 wants_none rfl rfl ?_
      refine aops_load_cell (V.map 2) tC129 wants_none rfl rfl rfl rfl rfl ?_
      refine aops_fieldAddr tF137_0 wants_none rfl rfl ?_
      refine aops_load_cell (sV x9.Advisory) tC9 wants_none rfl rfl rfl rfl rfl ?_
      refine aops_load_agg (cs := [(sV x9.Advisory), (iV x9.Day), (iV x9.Ended)]) tA137 wants_none rfl rfl rfl rfl rfl rfl ?_
      refine aops_mapUpdate ((mput m7 x9.Advisory x9).map encM9_137) tMap129 tKey9 wants_none rfl rfl (.con rfl) ⟨_, rfl⟩ encM9_137_good rfl (encM9_137_puts m7 x9.Advisory x9) ?_
      refine aops_nil ?_
      refine awp_region ?_
      refine aops_bin (.int .i64 (w64 (n6 + 1))) wants_none rfl rfl rfl rfl ?_
      refine aops_move (iV (w64 (n6 + 1))) wants_none rfl rfl ?_
      refine aops_nil ?_
      exact awp_back (ih1 ((w64 (n6 + 1)), (mput m7 x9.Advisory x9)) (hk1 _ h)) (ghost_ren 3 (fun i => ([0, 1, 2] : List Nat).getD i 0) _ _ (by decide) (EnvSub.get (.cons (Sub.ptr rfl rfl) (.cons (Sub.ptr rfl rfl) (.cons (Sub.imm (Imm.lst _ _)) (.cons (Sub.imm (Imm.con _)) (.cons (Sub.imm (Imm.con _)) .nil)))))) (HpSub.get (.cons rfl (ObSub.box (.cons (Sub.imm (Imm.con _)) (.cons (Sub.imm (Imm.con _)) (.cons (Sub.imm (Imm.con _)) (.cons (Sub.imm (Imm.con _)) (.cons (Sub.imm (Imm.con _)) .nil)))))) (.cons rfl (ObSub.box (.cons (Sub.imm (Imm.con _)) (.cons (Sub.imm (Imm.lst _ _)) (.cons (Sub.imm (Imm.lst _ _)) (.cons (Sub.imm (Imm.con _)) (.cons (Sub.map rfl rfl) .nil)))))) (.cons rfl (ObSub.maps encM9_137_imm) .nil)))) rfl)
    · replace h := RG.f h hb8
      unfold M91_L1 at h
      refine awp_exit ?_
      exact ⟨m7, h, (ghost_ren 3 (fun i => ([0, 1, 2] : List Nat).getD i 0) _ _ (by decide) (EnvSub.get (.cons (Sub.ptr rfl rfl) (.cons (Sub.ptr rfl rfl) .nil))) (HpSub.get (.cons rfl (ObSub.box (.cons (Sub.imm (Imm.con _)) (.cons (Sub.imm (Imm.con _)) (.cons (Sub.imm (Imm.con _)) (.cons (Sub.imm (Imm.con _)) (.cons (Sub.imm (Imm.con _)) .nil)))))) (.cons rfl (ObSub.box (.cons (Sub.imm (Imm.con _)) (.cons (Sub.imm (Imm.lst _ _)) (.cons (Sub.imm (Imm.lst _ _)) (.cons (Sub.imm (Imm.con _)) (.cons (Sub.map rfl rfl) .nil)))))) (.cons rfl (ObSub.maps encM9_137_imm) .nil)))) rfl)⟩
  · clear h
    intro m3 h
    subst hk2
    refine awp_seq ?_
    refine awp_region ?_
    refine aops_load_agg (cs := [(sV a1.Product), (V.lst 3 (a1.Releases.map encTRelease)), (V.lst 3 (a1.Known.map encTPublished)), (iV a1.Until), (V.map 2)]) tA131 wants_none rfl rfl rfl rfl rfl rfl ?_
    refine aops_store [(sV a1.Product), (V.lst 3 (a1.Releases.map encTRelease)), (V.lst 3 (a1.Known.map encTPublished)), (iV a1.Until), (V.map 2)] [[(sV a1.Product), (V.lst 3 (a1.Releases.map encTRelease)), (V.lst 3 (a1.Known.map encTPublished)), (iV a1.Until), (V.map 2)]] tS131 wants_none rfl rfl rfl rfl rfl rfl rfl rfl ?_
    refine aops_nil ?_
    refine awp_ghost (ghost_frzMC 2 0 (Ob.arr 131 5 [[(sV a1.Product), (V.lst 3 (a1.Releases.map encTRelease)), (V.lst 3 (a1.Known.map encTPublished)), (iV a1.Until), (V.imap (m3.map encM9_137))]]) rfl encM9_137_imm (ObSub.box (.cons Sub.keepM (.cons Sub.keepM (.cons Sub.keepM (.cons Sub.keepM (.cons Sub.frzM .nil))))))) ?_
    refine awp_ret ?_
    obtain rfl := Option.some.inj h
    exact ⟨.inl rfl, .one (.agg tA131 rfl rfl rfl rfl rfl (.cons (Imm.con _) (.cons (Imm.lst _ _) (.cons (Imm.lst _ _) (.cons (Imm.con _) (.cons (Imm.imap _) .nil))))))⟩

theorem W130 (F : Nat) (a1 : Tprovenderref11_view) (a2 : TExposure) (a3 : Int) (r : Bool) (h : M130 F a1 a2 a3 = some r) : Pure Try.prog 130 [(V.agg [(sV a1.s.Product), (V.lst 3 (a1.s.Releases.map encTRelease)), (V.lst 3 (a1.s.Known.map encTPublished)), (iV a1.s.Until), (V.imap (a1.known.map encM9_137))]), (V.agg [(sV a2.Advisory), (sV a2.Component), (iV a2.Severity)]), (iV a3)] (bV r) := by
  refine pure_enter Try.func130 rfl rfl (l := [.tmp 6]) rfl rfl [(0, (V.agg [(sV a1.s.Product), (V.lst 3 (a1.s.Releases.map encTRelease)), (V.lst 3 (a1.s.Known.map encTPublished)), (iV a1.s.Until), (V.imap (a1.known.map encM9_137))])), (1, (V.agg [(sV a2.Advisory), (sV a2.Component), (iV a2.Severity)])), (2, (iV a3))] rfl (fun w0 m0 => ?_)
  unfold M130 at h
  refine awp_seq ?_
  refine awp_region ?_
  refine aops_box [(sV a1.s.Product), (V.lst 3 (a1.s.Releases.map encTRelease)), (V.lst 3 (a1.s.Known.map encTPublished)), (iV a1.s.Until), (V.imap (a1.known.map encM9_137))] wants_none rfl rfl rfl rfl ?_
  refine aops_box [(sV a2.Advisory), (sV a2.Component), (iV a2.Severity)] wants_none rfl rfl rfl rfl ?_
  refine aops_assign (bV false) wants_none rfl rfl ?_
  refine aops_nil ?_
  refine awp_seq ?_
  refine awp_region ?_
  refine aops_fieldAddr tF131_1 wants_none rfl rfl ?_
  refine aops_load_cell (V.imap (a1.known.map encM9_137)) tC129 wants_none rfl rfl rfl rfl rfl ?_
  refine aops_fieldAddr tF47_0 wants_none rfl rfl ?_
  refine aops_load_cell (sV a2.Advisory) tC9 wants_none rfl rfl rfl rfl rfl ?_
  refine aops_lookup _ (V.agg [(sV ([] : List UInt8)), (iV 0), (iV 0)]) (V.agg [(sV ((mget a1.known a2.Advisory).getD (TPublished.mk ([] : List UInt8) 0 0)).Advisory), (iV ((mget a1.known a2.Advisory).getD (TPublished.mk ([] : List UInt8) 0 0)).Day), (iV ((mget a1.known a2.Advisory).getD (TPublished.mk ([] : List UInt8) 0 0)).Ended)]) tMap129 tKey9 tZo137 (irel_conAgg [str ([] : List UInt8), .int .i64 0, .int .i64 0]) wants_none rfl .imm (.con rfl) ⟨_, rfl⟩ encM9_137_good (encM9_137_look a1.known a2.Advisory) (getD_map (encM9_137_val) (mget a1.known a2.Advisory) (TPublished.mk ([] : List UInt8) 0 0)) rfl ?_
  refine aops_alloc tZ137 rfl rfl wants_none rfl ?_
  refine aops_store [(sV ((mget a1.known a2.Advisory).getD (TPublished.mk ([] : List UInt8) 0 0)).Advisory), (iV ((mget a1.known a2.Advisory).getD (TPublished.mk ([] : List UInt8) 0 0)).Day), (iV ((mget a1.known a2.Advisory).getD (TPublished.mk ([] : List UInt8) 0 0)).Ended)] [[(sV ((mget a1.known a2.Advisory).getD (TPublished.mk ([] : List UInt8) 0 0)).Advisory), (iV ((mget a1.known a2.Advisory).getD (TPublished.mk ([] : List UInt8) 0 0)).Day), (iV ((mget a1.known a2.Advisory).getD (TPublished.mk ([] : List UInt8) 0 0)).Ended)]] tS137 wants_none rfl rfl rfl rfl rfl rfl rfl rfl ?_
  refine aops_nil ?_
  refine awp_seq ?_
  refine awp_region ?_
  refine aops_fieldAddr tF137_1 wants_none rfl rfl ?_
  refine aops_load_cell (iV ((mget a1.known a2.Advisory).getD (TPublished.mk ([] : List UInt8) 0 0)).Day) tC3 wants_none rfl rfl rfl rfl rfl ?_
  refine aops_move (iV a3) wants_none rfl rfl ?_
  refine aops_bin (.bool (decide (((mget a1.known a2.Advisory).getD (TPublished.mk ([] : List UInt8) 0 0)).Day ≤ a3))) wants_none rfl rfl rfl rfl ?_
  refine aops_move (bV (decide (((mget a1.known a2.Advisory).getD (TPublished.mk ([] : List UInt8) 0 0)).Day ≤ a3))) wants_none rfl rfl ?_
  rcases Bool.eq_false_or_eq_true (decide (((mget a1.known a2.Advisory).getD (TPublished.mk ([] : List UInt8) 0 0)).Day ≤ a3)) with hb4 | hb4
  · replace h := ite_t hb4 h
    refine aops_fieldAddr tF137_2 (wants_some (c := (decide (((mget a1.known a2.Advisory).getD (TPublished.mk ([] : List UInt8) 0 0)).Day ≤ a3))) (b := true) 17 rfl rfl hb4) rfl rfl ?_
    refine aops_load_cell (iV ((mget a1.known a2.Advisory).getD (TPublished.mk ([] : List UInt8) 0 0)).Ended) tC3 (wants_some (c := (decide (((mget a1.known a2.Advisory).getD (TPublished.mk ([] : List UInt8) 0 0)).Day ≤ a3))) (b := true) 17 rfl rfl hb4) rfl rfl rfl rfl rfl ?_
    refine aops_bin (.bool (((mget a1.known a2.Advisory).getD (TPublished.mk ([] : List UInt8) 0 0)).Ended == (-1))) (wants_some (c := (decide (((mget a1.known a2.Advisory).getD (TPublished.mk ([] : List UInt8) 0 0)).Day ≤ a3))) (b := true) 17 rfl rfl hb4) rfl rfl rfl rfl ?_
    refine aops_move (bV (((mget a1.known a2.Advisory).getD (TPublished.mk ([] : List UInt8) 0 0)).Ended == (-1))) (wants_some (c := (decide (((mget a1.known a2.Advisory).getD (TPublished.mk ([] : List UInt8) 0 0)).Day ≤ a3))) (b := true) 17 rfl rfl hb4) rfl rfl ?_
    rcases Bool.eq_false_or_eq_true (((mget a1.known a2.Advisory).getD (TPublished.mk ([] : List UInt8) 0 0)).Ended == (-1)) with hb5 | hb5
    · replace h := ite_t hb5 h
      refine aops_skip (wants_some (c := (((mget a1.known a2.Advisory).getD (TPublished.mk ([] : List UInt8) 0 0)).Ended == (-1))) (b := true) 21 rfl rfl hb5) rfl rfl ?_
      refine aops_skip (wants_some (c := (((mget a1.known a2.Advisory).getD (TPublished.mk ([] : List UInt8) 0 0)).Ended == (-1))) (b := true) 21 rfl rfl hb5) rfl rfl ?_
      refine aops_skip (wants_some (c := (((mget a1.known a2.Advisory).getD (TPublished.mk ([] : List UInt8) 0 0)).Ended == (-1))) (b := true) 21 rfl rfl hb5) rfl rfl ?_
      refine aops_skip (wants_some (c := (((mget a1.known a2.Advisory).getD (TPublished.mk ([] : List UInt8) 0 0)).Ended == (-1))) (b := true) 21 rfl rfl hb5) rfl rfl ?_
      refine aops_pick true (cb := (((mget a1.known a2.Advisory).getD (TPublished.mk ([] : List UInt8) 0 0)).Ended == (-1))) (bV true) (wants_some (c := (decide (((mget a1.known a2.Advisory).getD (TPublished.mk ([] : List UInt8) 0 0)).Day ≤ a3))) (b := true) 17 rfl rfl hb4) rfl hb5 rfl rfl ?_
      refine aops_pick true (cb := (decide (((mget a1.known a2.Advisory).getD (TPublished.mk ([] : List UInt8) 0 0)).Day ≤ a3))) (bV true) wants_none rfl hb4 rfl rfl ?_
      refine aops_assign (bV true) wants_none rfl rfl ?_
      refine aops_nil ?_
      refine awp_ret ?_
      obtain rfl := Option.some.inj h
      exact ⟨.inl rfl, .one (.tmp rfl (Imm.con _))⟩
    · replace h := ite_f hb5 h
      refine aops_fieldAddr tF137_2 (wants_some (c := (((mget a1.known a2.Advisory).getD (TPublished.mk ([] : List UInt8) 0 0)).Ended == (-1))) (b := false) 21 rfl rfl hb5) rfl rfl ?_
      refine aops_load_cell (iV ((mget a1.known a2.Advisory).getD (TPublished.mk ([] : List UInt8) 0 0)).Ended) tC3 (wants_some (c := (((mget a1.known a2.Advisory).getD (TPublished.mk ([] : List UInt8) 0 0)).Ended == (-1))) (b := false) 21 rfl rfl hb5) rfl rfl rfl rfl rfl ?_
      refine aops_move (iV a3) (wants_some (c := (((mget a1.known a2.Advisory).getD (TPublished.mk ([] : List UInt8) 0 0)).Ended == (-1))) (b := false) 21 rfl rfl hb5) rfl rfl ?_
      refine aops_bin (.bool (decide (((mget a1.known a2.Advisory).getD (TPublished.mk ([] : List UInt8) 0 0)).Ended > a3))) (wants_some (c := (((mget a1.known a2.Advisory).getD (TPublished.mk ([] : List UInt8) 0 0)).Ended == (-1))) (b := false) 21 rfl rfl hb5) rfl rfl rfl rfl ?_
      refine aops_pick false (cb := (((mget a1.known a2.Advisory).getD (TPublished.mk ([] : List UInt8) 0 0)).Ended == (-1))) (bV (decide (((mget a1.known a2.Advisory).getD (TPublished.mk ([] : List UInt8) 0 0)).Ended > a3))) (wants_some (c := (decide (((mget a1.known a2.Advisory).getD (TPublished.mk ([] : List UInt8) 0 0)).Day ≤ a3))) (b := true) 17 rfl rfl hb4) rfl hb5 rfl rfl ?_
      refine aops_pick true (cb := (decide (((mget a1.known a2.Advisory).getD (TPublished.mk ([] : List UInt8) 0 0)).Day ≤ a3))) (bV (decide (((mget a1.known a2.Advisory).getD (TPublished.mk ([] : List UInt8) 0 0)).Ended > a3))) wants_none rfl hb4 rfl rfl ?_
      refine aops_assign (bV (decide (((mget a1.known a2.Advisory).getD (TPublished.mk ([] : List UInt8) 0 0)).Ended > a3))) wants_none rfl rfl ?_
      refine aops_nil ?_
      refine awp_ret ?_
      obtain rfl := Option.some.inj h
      exact ⟨.inl rfl, .one (.tmp rfl (Imm.con _))⟩
  · replace h := ite_f hb4 h
    refine aops_skip (wants_some (c := (decide (((mget a1.known a2.Advisory).getD (TPublished.mk ([] : List UInt8) 0 0)).Day ≤ a3))) (b := false) 17 rfl rfl hb4) rfl rfl ?_
    refine aops_skip (wants_some (c := (decide (((mget a1.known a2.Advisory).getD (TPublished.mk ([] : List UInt8) 0 0)).Day ≤ a3))) (b := false) 17 rfl rfl hb4) rfl rfl ?_
    refine aops_skip (wants_some (c := (decide (((mget a1.known a2.Advisory).getD (TPublished.mk ([] : List UInt8) 0 0)).Day ≤ a3))) (b := false) 17 rfl rfl hb4) rfl rfl ?_
    refine aops_skip (wants_some (c := (decide (((mget a1.known a2.Advisory).getD (TPublished.mk ([] : List UInt8) 0 0)).Day ≤ a3))) (b := false) 17 rfl rfl hb4) rfl rfl ?_
    refine aops_skip (wants_undef 21 rfl rfl) rfl rfl ?_
    refine aops_skip (wants_undef 21 rfl rfl) rfl rfl ?_
    refine aops_skip (wants_undef 21 rfl rfl) rfl rfl ?_
    refine aops_skip (wants_undef 21 rfl rfl) rfl rfl ?_
    refine aops_skip (wants_some (c := (decide (((mget a1.known a2.Advisory).getD (TPublished.mk ([] : List UInt8) 0 0)).Day ≤ a3))) (b := false) 17 rfl rfl hb4) rfl rfl ?_
    refine aops_pick false (cb := (decide (((mget a1.known a2.Advisory).getD (TPublished.mk ([] : List UInt8) 0 0)).Day ≤ a3))) (bV false) wants_none rfl hb4 rfl rfl ?_
    refine aops_assign (bV false) wants_none rfl rfl ?_
    refine aops_nil ?_
    refine awp_ret ?_
    obtain rfl := Option.some.inj h
    exact ⟨.inl rfl, .one (.tmp rfl (Imm.con _))⟩

theorem W92 (F : Nat) (a1 : Tprovenderref11_view) (a2 : Int) (r : (List TExposure)) (h : M92 F a1 a2 = some r) : Pure Try.prog 92 [(V.agg [(sV a1.s.Product), (V.lst 3 (a1.s.Releases.map encTRelease)), (V.lst 3 (a1.s.Known.map encTPublished)), (iV a1.s.Until), (V.imap (a1.known.map encM9_137))]), (iV a2)] (V.lst 3 (r.map encTExposure)) := by
  refine pure_enter Try.func92 rfl rfl (l := [.tmp 4]) rfl rfl [(0, (V.agg [(sV a1.s.Product), (V.lst 3 (a1.s.Releases.map encTRelease)), (V.lst 3 (a1.s.Known.map encTPublished)), (iV a1.s.Until), (V.imap (a1.known.map encM9_137))])), (1, (iV a2))] rfl (fun w0 m0 => ?_)
  unfold M92 at h
  refine awp_seq ?_
  refine awp_region ?_
  refine aops_box [(sV a1.s.Product), (V.lst 3 (a1.s.Releases.map encTRelease)), (V.lst 3 (a1.s.Known.map encTPublished)), (iV a1.s.Until), (V.imap (a1.known.map encM9_137))] wants_none rfl rfl rfl rfl ?_
  refine aops_assign nV wants_none rfl rfl ?_
  refine aops_nil ?_
  refine awp_seq ?_
  refine awp_region ?_
  refine aops_fieldAddr tF131_0 wants_none rfl rfl ?_
  refine aops_load_agg (cs := [(sV a1.s.Product), (V.lst 3 (a1.s.Releases.map encTRelease)), (V.lst 3 (a1.s.Known.map encTPublished)), (iV a1.s.Until)]) tA52 wants_none rfl rfl rfl rfl rfl rfl ?_
  refine aops_move (iV a2) wants_none rfl rfl ?_
  replace h := bind_some h
  obtain ⟨y3, hx4, h⟩ := h
  refine aops_call (V.tup [(V.agg [(sV (y3.1).Version), (iV (y3.1).Day), (V.lst 3 ((y3.1).Exposures.map encTExposure))]), (bV (y3.2))]) [(V.agg [(sV a1.s.Product), (V.lst 3 (a1.s.Releases.map encTRelease)), (V.lst 3 (a1.s.Known.map encTPublished)), (iV a1.s.Until)]), (iV a2)] fOk89 wants_none (evm_cons rfl (evm_cons rfl evm_nil)) (.cons (Imm.agg (.cons (Imm.con _) (.cons (Imm.lst _ _) (.cons (Imm.lst _ _) (.cons (Imm.con _) .nil))))) (.cons (Imm.con _) .nil)) (W89 F a1.s a2 y3 hx4) rfl ?_
  refine aops_move (V.tup [(V.agg [(sV (y3.1).Version), (iV (y3.1).Day), (V.lst 3 ((y3.1).Exposures.map encTExposure))]), (bV (y3.2))]) wants_none rfl rfl ?_
  refine aops_extract (V.agg [(sV (y3.1).Version), (iV (y3.1).Day), (V.lst 3 ((y3.1).Exposures.map encTExposure))]) wants_none rfl rfl rfl ?_
  refine aops_extract (bV (y3.2)) wants_none rfl rfl rfl ?_
  refine aops_alloc tZ42 rfl rfl wants_none rfl ?_
  refine aops_store [(sV (y3.1).Version), (iV (y3.1).Day), (V.lst 3 ((y3.1).Exposures.map encTExposure))] [[(sV (y3.1).Version), (iV (y3.1).Day), (V.lst 3 ((y3.1).Exposures.map encTExposure))]] tS42 wants_none rfl rfl rfl rfl rfl rfl rfl rfl ?_
  refine aops_assign (bV (y3.2)) wants_none rfl rfl ?_
  refine aops_nil ?_
  refine awp_seq ?_
  refine awp_region ?_
  refine aops_assign nV wants_none rfl rfl ?_
  refine aops_nil ?_
  refine awp_seq ?_
  refine awp_seq ?_
  refine awp_region ?_
  refine aops_fieldAddr tF42_2 wants_none rfl rfl ?_
  refine aops_load_cell (V.lst 3 ((y3.1).Exposures.map encTExposure)) tC40 wants_none rfl rfl rfl rfl rfl ?_
  refine aops_len (n := (y3.1).Exposures.length) tIsSl40 wants_none rfl (congrArg some (List.length_map ..)) rfl ?_
  refine aops_move (iV 0) wants_none rfl rfl ?_
  refine aops_nil ?_
  replace h := jn_elim h
  obtain ⟨k5, hk5, h⟩ := h
  refine awp_cut (fun (p : (List TExposure)) => (⟨[(7, (V.own 0 p.length))], [(0, (Ob.arr 47 3 (p.map encTExposure)))], 1⟩ : St)) (fun (p : (List TExposure)) => k5 p = some r) ?_ ?_
  · clear hk5
    refine awp_block ?_
    refine awp_len (A := (y3.1).Exposures) 18 rfl (fun hA20 => ?_)
    refine awp_loop_ind (fun (p : Int × (List TExposure)) => (⟨[(1, (iV a2)), (2, (V.ptr 0 5 0 0)), (7, (V.own 1 (p.2).length)), (18, (V.lst 3 ((y3.1).Exposures.map encTExposure))), (19, (iV (((y3.1).Exposures.length : Nat) : Int))), (20, (iV (p.1)))], [(0, (Ob.arr 131 5 [[(sV a1.s.Product), (V.lst 3 (a1.s.Releases.map encTRelease)), (V.lst 3 (a1.s.Known.map encTPublished)), (iV a1.s.Until), (V.imap (a1.known.map encM9_137))]])), (1, (Ob.arr 47 3 ((p.2).map encTExposure)))], 2⟩ : St)) (fun n (p : Int × (List TExposure)) => RG ((y3.1).Exposures) (fun tl nn => M92_L1 F a1 a2 k5 tl p.2 = some r) n p.1) (fun p h => RG.zero h) (fun n ih1 p h => ?_) (((y3.1).Exposures).length + 1) (0, ([] : List TExposure)) (RG.start h) (Ghost.trans (ghost_nilE 7 47 3 rfl) (ghost_ren 2 (fun i => ([0, 2] : List Nat).getD i 0) _ _ (by decide) (EnvSub.get (.cons (Sub.imm (Imm.con _)) (.cons (Sub.ptr rfl rfl) (.cons (Sub.ownE rfl rfl (by simp)) (.cons (Sub.imm (Imm.lst _ _)) (.cons (Sub.imm (Imm.con _)) (.cons (Sub.imm (Imm.con _)) .nil))))))) (HpSub.get (.cons rfl (ObSub.box (.cons (Sub.imm (Imm.con _)) (.cons (Sub.imm (Imm.lst _ _)) (.cons (Sub.imm (Imm.lst _ _)) (.cons (Sub.imm (Imm.con _)) (.cons (Sub.imm (Imm.imap _)) .nil)))))) (.cons rfl (ObSub.rows (rows_imm imms_encTExposure)) .nil))) rfl))
    obtain ⟨n9, l10⟩ := p
    refine awp_loop ?_
    refine awp_seq ?_
    refine awp_region ?_
    refine aops_bin (.bool (decide (n9 < (((y3.1).Exposures.length : Nat) : Int)))) wants_none rfl rfl rfl rfl ?_
    refine aops_nil ?_
    refine awp_seq ?_
    refine awp_cond (decide (n9 < (((y3.1).Exposures.length : Nat) : Int))) rfl (fun hb11 => ?_) (fun hb11 => ?_)
    · obtain ⟨x12, tl, hx13, h, hk1⟩ := RG.t hA20 h hb11
      unfold M92_L1 at h
      refine awp_skip ?_
      refine awp_seq ?_
      refine awp_block ?_
      refine awp_seq ?_
      refine awp_region ?_
      refine aops_index_lst [(sV x12.Advisory), (sV x12.Component), (iV x12.Severity)] tSl40 wants_none rfl rfl (idx_some hx13).1 (idx_map encTExposure hx13) rfl ?_
      refine aops_iload_agg (cs := [(sV x12.Advisory), (sV x12.Component), (iV x12.Severity)]) tA47 wants_none rfl rfl rfl rfl ?_
      refine aops_alloc tZ47 rfl rfl wants_none rfl ?_
      refine aops_store [(sV x12.Advisory), (sV x12.Component), (iV x12.Severity)] [[(sV x12.Advisory), (sV x12.Component), (iV x12.Severity)]] tS47 wants_none rfl rfl rfl rfl rfl rfl rfl rfl ?_
      refine aops_nil ?_
      refine awp_seq ?_
      refine awp_region ?_
      refine aops_load_agg (cs := [(sV a1.s.Product), (V.lst 3 (a1.s.Releases.map encTRelease)), (V.lst 3 (a1.s.Known.map encTPublished)), (iV a1.s.Until), (V.imap (a1.known.map encM9_137))]) tA131 wants_none rfl rfl rfl rfl rfl rfl ?_
      refine aops_load_agg (cs := [(sV x12.Advisory), (sV x12.Component), (iV x12.Severity)]) tA47 wants_none rfl rfl rfl rfl rfl rfl ?_
      refine aops_move (iV a2) wants_none rfl rfl ?_
      replace h := bind_some h
      obtain ⟨y14, hx15, h⟩ := h
      refine aops_call (bV y14) [(V.agg [(sV a1.s.Product), (V.lst 3 (a1.s.Releases.map encTRelease)), (V.lst 3 (a1.s.Known.map encTPublished)), (iV a1.s.Until), (V.imap (a1.known.map encM9_137))]), (V.agg [(sV x12.Advisory), (sV x12.Component), (iV x12.Severity)]), (iV a2)] fOk130 wants_none (evm_cons rfl (evm_cons rfl (evm_cons rfl evm_nil))) (.cons (Imm.agg (.cons (Imm.con _) (.cons (Imm.lst _ _) (.cons (Imm.lst _ _) (.cons (Imm.con _) (.cons (Imm.imap _) .nil)))))) (.cons (Imm.agg (.cons (Imm.con _) (.cons (Imm.con _) (.cons (Imm.con _) .nil)))) (.cons (Imm.con _) .nil))) (W130 F a1 x12 a2 y14 hx15) rfl ?_
      refine aops_nil ?_
      replace h := jn_elim h
      obtain ⟨k16, hk16, h⟩ := h
      refine awp_cut (fun (p : (List TExposure)) => (⟨[(1, (iV a2)), (2, (V.ptr 0 5 0 0)), (7, (V.own 1 p.length)), (18, (V.lst 3 ((y3.1).Exposures.map encTExposure))), (19, (iV (((y3.1).Exposures.length : Nat) : Int))), (20, (iV n9))], [(0, (Ob.arr 131 5 [[(sV a1.s.Product), (V.lst 3 (a1.s.Releases.map encTRelease)), (V.lst 3 (a1.s.Known.map encTPublished)), (iV a1.s.Until), (V.imap (a1.known.map encM9_137))]])), (1, (Ob.arr 47 3 (p.map encTExposure)))], 2⟩ : St)) (fun (p : (List TExposure)) => k16 p = some r) ?_ ?_
      · clear hk16
        refine awp_cond y14 rfl (fun hb18 => ?_) (fun hb18 => ?_)
        · replace h := ite_t hb18 h
          refine awp_region ?_
          refine aops_move (V.own 1 l10.length) wants_none rfl rfl ?_
          refine aops_load_agg (cs := [(sV x12.Advisory), (sV x12.Component), (iV x12.Severity)]) tA47 wants_none rfl rfl rfl rfl rfl rfl ?_
          refine aops_buildSlice [(0, (V.agg [(sV x12.Advisory), (sV x12.Component), (iV x12.Severity)]))] [[(sV x12.Advisory), (sV x12.Component), (iV x12.Severity)]] tEl40 tZ47 rfl rfl rfl rfl wants_none (evp_cons rfl evp_nil) rfl rfl (by simp) rfl ?_
          replace h := chk_some h
          obtain ⟨hc19, h⟩ := h
          refine aops_append [[(sV x12.Advisory), (sV x12.Component), (iV x12.Severity)]] ((l10 ++ ([x12] : List TExposure)).map encTExposure) tEl40 tIsSl40 rfl rfl wants_none rfl rfl (by simp) rfl (.own rfl (by simp)) (map_snoc encTExposure l10 ([x12] : List TExposure)) (List.length_map ..) hc19 rfl ?_
          refine aops_assign (V.own 4 (l10 ++ ([x12] : List TExposure)).length) wants_none rfl rfl ?_
          refine aops_nil ?_
          exact ⟨(l10 ++ ([x12] : List TExposure)), h, (ghost_ren 2 (fun i => ([0, 4] : List Nat).getD i 0) _ _ (by decide) (EnvSub.get (.cons (Sub.imm (Imm.con _)) (.cons (Sub.ptr rfl rfl) (.cons (Sub.own rfl rfl) (.cons (Sub.imm (Imm.lst _ _)) (.cons (Sub.imm (Imm.con _)) (.cons (Sub.imm (Imm.con _)) .nil))))))) (HpSub.get (.cons rfl (ObSub.box (.cons (Sub.imm (Imm.con _)) (.cons (Sub.imm (Imm.lst _ _)) (.cons (Sub.imm (Imm.lst _ _)) (.cons (Sub.imm (Imm.con _)) (.cons (Sub.imm (Imm.imap _)) .nil)))))) (.cons rfl (ObSub.rows (rows_imm imms_encTExposure)) .nil))) rfl)⟩
        · replace h := ite_f hb18 h
          refine awp_skip ?_
          exact ⟨l10, h, (ghost_ren 2 (fun i => ([0, 1] : List Nat).getD i 0) _ _ (by decide) (EnvSub.get (.cons (Sub.imm (Imm.con _)) (.cons (Sub.ptr rfl rfl) (.cons (Sub.own rfl rfl) (.cons (Sub.imm (Imm.lst _ _)) (.cons (Sub.imm (Imm.con _)) (.cons (Sub.imm (Imm.con _)) .nil))))))) (HpSub.get (.cons rfl (ObSub.box (.cons (Sub.imm (Imm.con _)) (.cons (Sub.imm (Imm.lst _ _)) (.cons (Sub.imm (Imm.lst _ _)) (.cons (Sub.imm (Imm.con _)) (.cons (Sub.imm (Imm.imap _)) .nil)))))) (.cons rfl (ObSub.rows (rows_imm imms_encTExposure)) .nil))) rfl)⟩
      · clear h
        intro l17 h
        subst hk16
        refine awp_region ?_
        refine aops_bin (.int .i64 (w64 (n9 + 1))) wants_none rfl rfl rfl rfl ?_
        refine aops_move (iV (w64 (n9 + 1))) wants_none rfl rfl ?_
        refine aops_nil ?_
        exact awp_back (ih1 ((w64 (n9 + 1)), l17) (hk1 _ h)) (ghost_ren 2 (fun i => ([0, 1] : List Nat).getD i 0) _ _ (by decide) (EnvSub.get (.cons (Sub.imm (Imm.con _)) (.cons (Sub.ptr rfl rfl) (.cons (Sub.own rfl rfl) (.cons (Sub.imm (Imm.lst _ _)) (.cons (Sub.imm (Imm.con _)) (.cons (Sub.imm (Imm.con _)) .nil))))))) (HpSub.get (.cons rfl (ObSub.box (.cons (Sub.imm (Imm.con _)) (.cons (Sub.imm (Imm.lst _ _)) (.cons (Sub.imm (Imm.lst _ _)) (.cons (Sub.imm (Imm.con _)) (.cons (Sub.imm (Imm.imap _)) .nil)))))) (.cons rfl (ObSub.rows (rows_imm imms_encTExposure)) .nil))) rfl)
    · replace h := RG.f h hb11
      unfold M92_L1 at h
      refine awp_exit ?_
      exact ⟨l10, h, (ghost_ren 1 (fun i => ([1] : List Nat).getD i 0) _ _ (by decide) (EnvSub.get (.cons (Sub.own rfl rfl) .nil)) (HpSub.get (.cons rfl (ObSub.rows (rows_imm imms_encTExposure)) .nil)) rfl)⟩
  · clear h
    intro l6 h
    subst hk5
    refine awp_seq ?_
    refine awp_region ?_
    refine aops_move (V.own 0 l6.length) wants_none rfl rfl ?_
    refine aops_assign (V.own 0 l6.length) wants_none rfl rfl ?_
    refine aops_nil ?_
    refine awp_ghost (ghost_frzE 0 4 rfl (rows_imm imms_encTExposure) rfl (List.length_map ..).symm) ?_
    refine awp_ret ?_
    obtain rfl := Option.some.inj h
    exact ⟨.inl rfl, .one (.tmp rfl (Imm.lst _ _))⟩

theorem W34 (F : Nat) (a1 : TStory) (a2 : Int) (r : ((List TExposure) × Int)) (h : M34 F a1 a2 = some r) : Pure Try.prog 34 [(V.agg [(sV a1.Product), (V.lst 3 (a1.Releases.map encTRelease)), (V.lst 3 (a1.Known.map encTPublished)), (iV a1.Until)]), (iV a2)] (V.tup [(V.lst 3 ((r.1).map encTExposure)), (iV (r.2))]) := by
  refine pure_enter Try.func34 rfl rfl (l := [.tmp 4, .tmp 5]) rfl rfl [(0, (V.agg [(sV a1.Product), (V.lst 3 (a1.Releases.map encTRelease)), (V.lst 3 (a1.Known.map encTPublished)), (iV a1.Until)])), (1, (iV a2))] rfl (fun w0 m0 => ?_)
  unfold M34 at h
  refine awp_seq ?_
  refine awp_region ?_
  refine aops_box [(sV a1.Product), (V.lst 3 (a1.Releases.map encTRelease)), (V.lst 3 (a1.Known.map encTPublished)), (iV a1.Until)] wants_none rfl rfl rfl rfl ?_
  refine aops_assign nV wants_none rfl rfl ?_
  refine aops_assign (iV 0) wants_none rfl rfl ?_
  refine aops_nil ?_
  refine awp_seq ?_
  refine awp_seq ?_
  refine awp_region ?_
  refine aops_load_agg (cs := [(sV a1.Product), (V.lst 3 (a1.Releases.map encTRelease)), (V.lst 3 (a1.Known.map encTPublished)), (iV a1.Until)]) tA52 wants_none rfl rfl rfl rfl rfl rfl ?_
  replace h := bind_some h
  obtain ⟨y3, hx4, h⟩ := h
  refine aops_call (iV y3) [(V.agg [(sV a1.Product), (V.lst 3 (a1.Releases.map encTRelease)), (V.lst 3 (a1.Known.map encTPublished)), (iV a1.Until)])] fOk36 wants_none (evm_cons rfl evm_nil) (.cons (Imm.agg (.cons (Imm.con _) (.cons (Imm.lst _ _) (.cons (Imm.lst _ _) (.cons (Imm.con _) .nil))))) .nil) (W36 F a1 y3 hx4) rfl ?_
  refine aops_assign (iV y3) wants_none rfl rfl ?_
  refine aops_nil ?_
  refine awp_seq ?_
  refine awp_region ?_
  refine aops_move (iV y3) wants_none rfl rfl ?_
  refine aops_bin (.bool (y3 != 0)) wants_none rfl rfl rfl rfl ?_
  refine aops_nil ?_
  refine awp_cond (y3 != 0) rfl (fun hb5 => ?_) (fun hb5 => ?_)
  · replace h := ite_t hb5 h
    refine awp_seq ?_
    refine awp_region ?_
    refine aops_move (iV y3) wants_none rfl rfl ?_
    refine aops_assign nV wants_none rfl rfl ?_
    refine aops_assign (iV y3) wants_none rfl rfl ?_
    refine aops_nil ?_
    refine awp_ghost (ghost_tell 4 (V.lst 3 (([] : List TExposure).map encTExposure)) rfl (Sub.nil _)) ?_
    refine awp_ret ?_
    obtain rfl := Option.some.inj h
    exact ⟨.inl rfl, .two (.tmp rfl (Imm.lst _ _)) (.tmp rfl (Imm.con _))⟩
  · replace h := ite_f hb5 h
    refine awp_skip ?_
    refine awp_seq ?_
    refine awp_seq ?_
    refine awp_region ?_
    refine aops_move (iV a2) wants_none rfl rfl ?_
    replace h := bind_some h
    obtain ⟨y6, hx7, h⟩ := h
    refine aops_call (bV y6) [(iV a2)] fOk72 wants_none (evm_cons rfl evm_nil) (.cons (Imm.con _) .nil) (W72 F a2 y6 hx7) rfl ?_
    refine aops_not wants_none rfl rfl ?_
    refine aops_nil ?_
    refine awp_cond (!y6) rfl (fun hb8 => ?_) (fun hb8 => ?_)
    · replace h := ite_t hb8 h
      refine awp_seq ?_
      refine awp_region ?_
      refine aops_assign nV wants_none rfl rfl ?_
      refine aops_assign (iV 9) wants_none rfl rfl ?_
      refine aops_nil ?_
      refine awp_ghost (ghost_tell 4 (V.lst 3 (([] : List TExposure).map encTExposure)) rfl (Sub.nil _)) ?_
      refine awp_ret ?_
      obtain rfl := Option.some.inj h
      exact ⟨.inl rfl, .two (.tmp rfl (Imm.lst _ _)) (.tmp rfl (Imm.con _))⟩
    · replace h := ite_f hb8 h
      refine awp_skip ?_
      refine awp_seq ?_
      refine awp_region ?_
      refine aops_load_agg (cs := [(sV a1.Product), (V.lst 3 (a1.Releases.map encTRelease)), (V.lst 3 (a1.Known.map encTPublished)), (iV a1.Until)]) tA52 wants_none rfl rfl rfl rfl rfl rfl ?_
      replace h := bind_some h
      obtain ⟨y9, hx10, h⟩ := h
      refine aops_call (V.agg [(sV y9.s.Product), (V.lst 3 (y9.s.Releases.map encTRelease)), (V.lst 3 (y9.s.Known.map encTPublished)), (iV y9.s.Until), (V.imap (y9.known.map encM9_137))]) [(V.agg [(sV a1.Product), (V.lst 3 (a1.Releases.map encTRelease)), (V.lst 3 (a1.Known.map encTPublished)), (iV a1.Until)])] fOk91 wants_none (evm_cons rfl evm_nil) (.cons (Imm.agg (.cons (Imm.con _) (.cons (Imm.lst _ _) (.cons (Imm.lst _ _) (.cons (Imm.con _) .nil))))) .nil) (W91 F a1 y9 hx10) rfl ?_
      refine aops_move (iV a2) wants_none rfl rfl ?_
      replace h := bind_some h
      obtain ⟨y11, hx12, h⟩ := h
      refine aops_call (V.lst 3 (y11.map encTExposure)) [(V.agg [(sV y9.s.Product), (V.lst 3 (y9.s.Releases.map encTRelease)), (V.lst 3 (y9.s.Known.map encTPublished)), (iV y9.s.Until), (V.imap (y9.known.map encM9_137))]), (iV a2)] fOk92 wants_none (evm_cons rfl (evm_cons rfl evm_nil)) (.cons (Imm.agg (.cons (Imm.con _) (.cons (Imm.lst _ _) (.cons (Imm.lst _ _) (.cons (Imm.con _) (.cons (Imm.imap _) .nil)))))) (.cons (Imm.con _) .nil)) (W92 F y9 a2 y11 hx12) rfl ?_
      refine aops_assign (V.lst 3 (y11.map encTExposure)) wants_none rfl rfl ?_
      refine aops_assign (iV 0) wants_none rfl rfl ?_
      refine aops_nil ?_
      refine awp_ret ?_
      obtain rfl := Option.some.inj h
      exact ⟨.inl rfl, .two (.tmp rfl (Imm.lst _ _)) (.tmp rfl (Imm.con _))⟩

theorem W37 (F : Nat) (a1 : TRelease) (a2 : TRelease) (r : Bool) (h : M37 F a1 a2 = some r) : Pure Try.prog 37 [(V.agg [(sV a1.Version), (iV a1.Day), (V.lst 3 (a1.Exposures.map encTExposure))]), (V.agg [(sV a2.Version), (iV a2.Day), (V.lst 3 (a2.Exposures.map encTExposure))])] (bV r) := by
  refine pure_enter Try.func37 rfl rfl (l := [.tmp 4]) rfl rfl [(0, (V.agg [(sV a1.Version), (iV a1.Day), (V.lst 3 (a1.Exposures.map encTExposure))])), (1, (V.agg [(sV a2.Version), (iV a2.Day), (V.lst 3 (a2.Exposures.map encTExposure))]))] rfl (fun w0 m0 => ?_)
  unfold M37 at h
  refine awp_seq ?_
  refine awp_region ?_
  refine aops_box [(sV a1.Version), (iV a1.Day), (V.lst 3 (a1.Exposures.map encTExposure))] wants_none rfl rfl rfl rfl ?_
  refine aops_box [(sV a2.Version), (iV a2.Day), (V.lst 3 (a2.Exposures.map encTExposure))] wants_none rfl rfl rfl rfl ?_
  refine aops_assign (bV false) wants_none rfl rfl ?_
  refine aops_nil ?_
  refine awp_seq ?_
  refine awp_region ?_
  refine aops_fieldAddr tF42_0 wants_none rfl rfl ?_
  refine aops_load_cell (sV a1.Version) tC9 wants_none rfl rfl rfl rfl rfl ?_
  refine aops_fieldAddr tF42_0 wants_none rfl rfl ?_
  refine aops_load_cell (sV a2.Version) tC9 wants_none rfl rfl rfl rfl rfl ?_
  refine aops_binT (.bool (a1.Version == a2.Version)) wants_none rfl rfl rfl rfl ?_
  refine aops_move (bV (a1.Version == a2.Version)) wants_none rfl rfl ?_
  rcases Bool.eq_false_or_eq_true (a1.Version == a2.Version) with hb3 | hb3
  · replace h := ite_t hb3 h
    refine aops_fieldAddr tF42_1 (wants_some (c := (a1.Version == a2.Version)) (b := true) 10 rfl rfl hb3) rfl rfl ?_
    refine aops_load_cell (iV a1.Day) tC3 (wants_some (c := (a1.Version == a2.Version)) (b := true) 10 rfl rfl hb3) rfl rfl rfl rfl rfl ?_
    refine aops_fieldAddr tF42_1 (wants_some (c := (a1.Version == a2.Version)) (b := true) 10 rfl rfl hb3) rfl rfl ?_
    refine aops_load_cell (iV a2.Day) tC3 (wants_some (c := (a1.Version == a2.Version)) (b := true) 10 rfl rfl hb3) rfl rfl rfl rfl rfl ?_
    refine aops_bin (.bool (a1.Day == a2.Day)) (wants_some (c := (a1.Version == a2.Version)) (b := true) 10 rfl rfl hb3) rfl rfl rfl rfl ?_
    refine aops_pick true (cb := (a1.Version == a2.Version)) (bV (a1.Day == a2.Day)) wants_none rfl hb3 rfl rfl ?_
    refine aops_move (bV (a1.Day == a2.Day)) wants_none rfl rfl ?_
    rcases Bool.eq_false_or_eq_true (a1.Day == a2.Day) with hb4 | hb4
    · replace h := ite_t hb4 h
      refine aops_fieldAddr tF42_2 (wants_some (c := (a1.Day == a2.Day)) (b := true) 17 rfl rfl hb4) rfl rfl ?_
      refine aops_load_cell (V.lst 3 (a1.Exposures.map encTExposure)) tC40 (wants_some (c := (a1.Day == a2.Day)) (b := true) 17 rfl rfl hb4) rfl rfl rfl rfl rfl ?_
      refine aops_fieldAddr tF42_2 (wants_some (c := (a1.Day == a2.Day)) (b := true) 17 rfl rfl hb4) rfl rfl ?_
      refine aops_load_cell (V.lst 3 (a2.Exposures.map encTExposure)) tC40 (wants_some (c := (a1.Day == a2.Day)) (b := true) 17 rfl rfl hb4) rfl rfl rfl rfl rfl ?_
      replace h := bind_some h
      obtain ⟨y5, hx6, h⟩ := h
      refine aops_call (bV y5) [(V.lst 3 (a1.Exposures.map encTExposure)), (V.lst 3 (a2.Exposures.map encTExposure))] fOk30 (wants_some (c := (a1.Day == a2.Day)) (b := true) 17 rfl rfl hb4) (evm_cons rfl (evm_cons rfl evm_nil)) (.cons (Imm.lst _ _) (.cons (Imm.lst _ _) .nil)) (W30 F a1.Exposures a2.Exposures y5 hx6) rfl ?_
      refine aops_pick true (cb := (a1.Day == a2.Day)) (bV y5) wants_none rfl hb4 rfl rfl ?_
      refine aops_assign (bV y5) wants_none rfl rfl ?_
      refine aops_nil ?_
      refine awp_ret ?_
      obtain rfl := Option.some.inj h
      exact ⟨.inl rfl, .one (.tmp rfl (Imm.con _))⟩
    · replace h := ite_f hb4 h
      refine aops_skip (wants_some (c := (a1.Day == a2.Day)) (b := false) 17 rfl rfl hb4) rfl rfl ?_
      refine aops_skip (wants_some (c := (a1.Day == a2.Day)) (b := false) 17 rfl rfl hb4) rfl rfl ?_
      refine aops_skip (wants_some (c := (a1.Day == a2.Day)) (b := false) 17 rfl rfl hb4) rfl rfl ?_
      refine aops_skip (wants_some (c := (a1.Day == a2.Day)) (b := false) 17 rfl rfl hb4) rfl rfl ?_
      refine aops_skip (wants_some (c := (a1.Day == a2.Day)) (b := false) 17 rfl rfl hb4) rfl rfl ?_
      refine aops_pick false (cb := (a1.Day == a2.Day)) (bV false) wants_none rfl hb4 rfl rfl ?_
      refine aops_assign (bV false) wants_none rfl rfl ?_
      refine aops_nil ?_
      refine awp_ret ?_
      obtain rfl := Option.some.inj h
      exact ⟨.inl rfl, .one (.tmp rfl (Imm.con _))⟩
  · replace h := ite_f hb3 h
    refine aops_skip (wants_some (c := (a1.Version == a2.Version)) (b := false) 10 rfl rfl hb3) rfl rfl ?_
    refine aops_skip (wants_some (c := (a1.Version == a2.Version)) (b := false) 10 rfl rfl hb3) rfl rfl ?_
    refine aops_skip (wants_some (c := (a1.Version == a2.Version)) (b := false) 10 rfl rfl hb3) rfl rfl ?_
    refine aops_skip (wants_some (c := (a1.Version == a2.Version)) (b := false) 10 rfl rfl hb3) rfl rfl ?_
    refine aops_skip (wants_some (c := (a1.Version == a2.Version)) (b := false) 10 rfl rfl hb3) rfl rfl ?_
    refine aops_pick false (cb := (a1.Version == a2.Version)) (bV false) wants_none rfl hb3 rfl rfl ?_
    refine aops_move (bV false) wants_none rfl rfl ?_
    refine aops_skip (wants_some (c := false) (b := false) 17 rfl rfl rfl) rfl rfl ?_
    refine aops_skip (wants_some (c := false) (b := false) 17 rfl rfl rfl) rfl rfl ?_
    refine aops_skip (wants_some (c := false) (b := false) 17 rfl rfl rfl) rfl rfl ?_
    refine aops_skip (wants_some (c := false) (b := false) 17 rfl rfl rfl) rfl rfl ?_
    refine aops_skip (wants_some (c := false) (b := false) 17 rfl rfl rfl) rfl rfl ?_
    refine aops_pick false (cb := false) (bV false) wants_none rfl rfl rfl rfl ?_
    refine aops_assign (bV false) wants_none rfl rfl ?_
    refine aops_nil ?_
    refine awp_ret ?_
    obtain rfl := Option.some.inj h
    exact ⟨.inl rfl, .one (.tmp rfl (Imm.con _))⟩

theorem W7 (F : Nat) (a1 : TStory) (a2 : Int) (r : Bool) (h : M7 F a1 a2 = some r) : Pure Try.prog 7 [(V.agg [(sV a1.Product), (V.lst 3 (a1.Releases.map encTRelease)), (V.lst 3 (a1.Known.map encTPublished)), (iV a1.Until)]), (iV a2)] (bV r) := by
  refine pure_enter Try.func7 rfl rfl (l := [.tmp 4]) rfl rfl [(0, (V.agg [(sV a1.Product), (V.lst 3 (a1.Releases.map encTRelease)), (V.lst 3 (a1.Known.map encTPublished)), (iV a1.Until)])), (1, (iV a2))] rfl (fun w0 m0 => ?_)
  unfold M7 at h
  refine awp_seq ?_
  refine awp_region ?_
  refine aops_box [(sV a1.Product), (V.lst 3 (a1.Releases.map encTRelease)), (V.lst 3 (a1.Known.map encTPublished)), (iV a1.Until)] wants_none rfl rfl rfl rfl ?_
  refine aops_assign (bV false) wants_none rfl rfl ?_
  refine aops_nil ?_
  refine awp_seq ?_
  refine awp_region ?_
  refine aops_load_agg (cs := [(sV a1.Product), (V.lst 3 (a1.Releases.map encTRelease)), (V.lst 3 (a1.Known.map encTPublished)), (iV a1.Until)]) tA52 wants_none rfl rfl rfl rfl rfl rfl ?_
  refine aops_move (iV a2) wants_none rfl rfl ?_
  replace h := bind_some h
  obtain ⟨y3, hx4, h⟩ := h
  refine aops_call (V.tup [(V.agg [(sV (y3.1).Version), (iV (y3.1).Day), (V.lst 3 ((y3.1).Exposures.map encTExposure))]), (bV (y3.2.1)), (iV (y3.2.2))]) [(V.agg [(sV a1.Product), (V.lst 3 (a1.Releases.map encTRelease)), (V.lst 3 (a1.Known.map encTPublished)), (iV a1.Until)]), (iV a2)] fOk31 wants_none (evm_cons rfl (evm_cons rfl evm_nil)) (.cons (Imm.agg (.cons (Imm.con _) (.cons (Imm.lst _ _) (.cons (Imm.lst _ _) (.cons (Imm.con _) .nil))))) (.cons (Imm.con _) .nil)) (W31 F a1 a2 y3 hx4) rfl ?_
  refine aops_move (V.tup [(V.agg [(sV (y3.1).Version), (iV (y3.1).Day), (V.lst 3 ((y3.1).Exposures.map encTExposure))]), (bV (y3.2.1)), (iV (y3.2.2))]) wants_none rfl rfl ?_
  refine aops_extract (V.agg [(sV (y3.1).Version), (iV (y3.1).Day), (V.lst 3 ((y3.1).Exposures.map encTExposure))]) wants_none rfl rfl rfl ?_
  refine aops_extract (bV (y3.2.1)) wants_none rfl rfl rfl ?_
  refine aops_extract (iV (y3.2.2)) wants_none rfl rfl rfl ?_
  refine aops_alloc tZ42 rfl rfl wants_none rfl ?_
  refine aops_store [(sV (y3.1).Version), (iV (y3.1).Day), (V.lst 3 ((y3.1).Exposures.map encTExposure))] [[(sV (y3.1).Version), (iV (y3.1).Day), (V.lst 3 ((y3.1).Exposures.map encTExposure))]] tS42 wants_none rfl rfl rfl rfl rfl rfl rfl rfl ?_
  refine aops_assign (bV (y3.2.1)) wants_none rfl rfl ?_
  refine aops_assign (iV (y3.2.2)) wants_none rfl rfl ?_
  refine aops_nil ?_
  refine awp_seq ?_
  refine awp_region ?_
  refine aops_load_agg (cs := [(sV a1.Product), (V.lst 3 (a1.Releases.map encTRelease)), (V.lst 3 (a1.Known.map encTPublished)), (iV a1.Until)]) tA52 wants_none rfl rfl rfl rfl rfl rfl ?_
  refine aops_move (iV a2) wants_none rfl rfl ?_
  replace h := bind_some h
  obtain ⟨y5, hx6, h⟩ := h
  refine aops_call (V.tup [(V.agg [(sV (y5.1).Version), (iV (y5.1).Day), (V.lst 3 ((y5.1).Exposures.map encTExposure))]), (bV (y5.2.1)), (iV (y5.2.2))]) [(V.agg [(sV a1.Product), (V.lst 3 (a1.Releases.map encTRelease)), (V.lst 3 (a1.Known.map encTPublished)), (iV a1.Until)]), (iV a2)] fOk32 wants_none (evm_cons rfl (evm_cons rfl evm_nil)) (.cons (Imm.agg (.cons (Imm.con _) (.cons (Imm.lst _ _) (.cons (Imm.lst _ _) (.cons (Imm.con _) .nil))))) (.cons (Imm.con _) .nil)) (W32 F a1 a2 y5 hx6) rfl ?_
  refine aops_move (V.tup [(V.agg [(sV (y5.1).Version), (iV (y5.1).Day), (V.lst 3 ((y5.1).Exposures.map encTExposure))]), (bV (y5.2.1)), (iV (y5.2.2))]) wants_none rfl rfl ?_
  refine aops_extract (V.agg [(sV (y5.1).Version), (iV (y5.1).Day), (V.lst 3 ((y5.1).Exposures.map encTExposure))]) wants_none rfl rfl rfl ?_
  refine aops_extract (bV (y5.2.1)) wants_none rfl rfl rfl ?_
  refine aops_extract (iV (y5.2.2)) wants_none rfl rfl rfl ?_
  refine aops_alloc tZ42 rfl rfl wants_none rfl ?_
  refine aops_store [(sV (y5.1).Version), (iV (y5.1).Day), (V.lst 3 ((y5.1).Exposures.map encTExposure))] [[(sV (y5.1).Version), (iV (y5.1).Day), (V.lst 3 ((y5.1).Exposures.map encTExposure))]] tS42 wants_none rfl rfl rfl rfl rfl rfl rfl rfl ?_
  refine aops_assign (bV (y5.2.1)) wants_none rfl rfl ?_
  refine aops_assign (iV (y5.2.2)) wants_none rfl rfl ?_
  refine aops_nil ?_
  refine awp_seq ?_
  refine awp_region ?_
  refine aops_load_agg (cs := [(sV a1.Product), (V.lst 3 (a1.Releases.map encTRelease)), (V.lst 3 (a1.Known.map encTPublished)), (iV a1.Until)]) tA52 wants_none rfl rfl rfl rfl rfl rfl ?_
  refine aops_move (iV a2) wants_none rfl rfl ?_
  replace h := bind_some h
  obtain ⟨y7, hx8, h⟩ := h
  refine aops_call (V.tup [(V.lst 3 ((y7.1).map encTExposure)), (iV (y7.2))]) [(V.agg [(sV a1.Product), (V.lst 3 (a1.Releases.map encTRelease)), (V.lst 3 (a1.Known.map encTPublished)), (iV a1.Until)]), (iV a2)] fOk33 wants_none (evm_cons rfl (evm_cons rfl evm_nil)) (.cons (Imm.agg (.cons (Imm.con _) (.cons (Imm.lst _ _) (.cons (Imm.lst _ _) (.cons (Imm.con _) .nil))))) (.cons (Imm.con _) .nil)) (W33 F a1 a2 y7 hx8) rfl ?_
  refine aops_move (V.tup [(V.lst 3 ((y7.1).map encTExposure)), (iV (y7.2))]) wants_none rfl rfl ?_
  refine aops_extract (V.lst 3 ((y7.1).map encTExposure)) wants_none rfl rfl rfl ?_
  refine aops_extract (iV (y7.2)) wants_none rfl rfl rfl ?_
  refine aops_assign (V.lst 3 ((y7.1).map encTExposure)) wants_none rfl rfl ?_
  refine aops_assign (iV (y7.2)) wants_none rfl rfl ?_
  refine aops_nil ?_
  refine awp_seq ?_
  refine awp_region ?_
  refine aops_load_agg (cs := [(sV a1.Product), (V.lst 3 (a1.Releases.map encTRelease)), (V.lst 3 (a1.Known.map encTPublished)), (iV a1.Until)]) tA52 wants_none rfl rfl rfl rfl rfl rfl ?_
  refine aops_move (iV a2) wants_none rfl rfl ?_
  replace h := bind_some h
  obtain ⟨y9, hx10, h⟩ := h
  refine aops_call (V.tup [(V.lst 3 ((y9.1).map encTExposure)), (iV (y9.2))]) [(V.agg [(sV a1.Product), (V.lst 3 (a1.Releases.map encTRelease)), (V.lst 3 (a1.Known.map encTPublished)), (iV a1.Until)]), (iV a2)] fOk34 wants_none (evm_cons rfl (evm_cons rfl evm_nil)) (.cons (Imm.agg (.cons (Imm.con _) (.cons (Imm.lst _ _) (.cons (Imm.lst _ _) (.cons (Imm.con _) .nil))))) (.cons (Imm.con _) .nil)) (W34 F a1 a2 y9 hx10) rfl ?_
  refine aops_move (V.tup [(V.lst 3 ((y9.1).map encTExposure)), (iV (y9.2))]) wants_none rfl rfl ?_
  refine aops_extract (V.lst 3 ((y9.1).map encTExposure)) wants_none rfl rfl rfl ?_
  refine aops_extract (iV (y9.2)) wants_none rfl rfl rfl ?_
  refine aops_assign (V.lst 3 ((y9.1).map encTExposure)) wants_none rfl rfl ?_
  refine aops_assign (iV (y9.2)) wants_none rfl rfl ?_
  refine aops_nil ?_
  refine awp_seq ?_
  replace h := bind_some h
  obtain ⟨y11, hx12, h⟩ := h
  replace h := bind_some h
  obtain ⟨y13, hx14, h⟩ := h
  rcases Bool.eq_false_or_eq_true (y11 == y13) with hb15 | hb15
  · replace h := ite_t hb15 h
    replace h := bind_some h
    obtain ⟨y16, hx17, h⟩ := h
    rcases Bool.eq_false_or_eq_true y16 with hb18 | hb18
    · replace h := ite_t hb18 h
      rcases Bool.eq_false_or_eq_true ((y3.2.1) == (y5.2.1)) with hb19 | hb19
      · replace h := ite_t hb19 h
        rcases Bool.eq_false_or_eq_true ((y3.2.2) == (y5.2.2)) with hb20 | hb20
        · replace h := ite_t hb20 h
          replace h := bind_some h
          obtain ⟨y21, hx22, h⟩ := h
          rcases Bool.eq_false_or_eq_true y21 with hb23 | hb23
          · replace h := ite_t hb23 h
            rcases Bool.eq_false_or_eq_true ((y7.2) == (y9.2)) with hb24 | hb24
            · replace h := ite_t hb24 h
              replace h := bind_some h
              obtain ⟨y25, hx26, h⟩ := h
              refine awp_any [OD.mk [(2, (V.ptr 0 4 0 0))] [(0, (Ob.arr 52 4 [[(sV a1.Product), (V.lst 3 (a1.Releases.map encTRelease)), (V.lst 3 (a1.Known.map encTPublished)), (iV a1.Until)]]))] [(41, (V.agg [(sV a1.Product), (V.lst 3 (a1.Releases.map encTRelease)), (V.lst 3 (a1.Known.map encTPublished)), (iV a1.Until)]))] [],
                    OD.mk [(41, (V.agg [(sV a1.Product), (V.lst 3 (a1.Releases.map encTRelease)), (V.lst 3 (a1.Known.map encTPublished)), (iV a1.Until)]))] [] [(42, (iV y11))] [],
                    OD.mk [(2, (V.ptr 0 4 0 0))] [(0, (Ob.arr 52 4 [[(sV a1.Product), (V.lst 3 (a1.Releases.map encTRelease)), (V.lst 3 (a1.Known.map encTPublished)), (iV a1.Until)]]))] [(43, (V.agg [(sV a1.Product), (V.lst 3 (a1.Releases.map encTRelease)), (V.lst 3 (a1.Known.map encTPublished)), (iV a1.Until)]))] [],
                    OD.mk [(43, (V.agg [(sV a1.Product), (V.lst 3 (a1.Releases.map encTRelease)), (V.lst 3 (a1.Known.map encTPublished)), (iV a1.Until)]))] [] [(44, (iV y13))] [],
                    OD.mk [(42, (iV y11)), (44, (iV y13))] [] [(45, (bV (y11 == y13)))] [],
                    OD.mk [(45, (bV (y11 == y13)))] [] [(46, (bV (y11 == y13)))] [],
                    OD.mk [(46, (bV (y11 == y13))), (5, (V.ptr 1 3 0 0))] [(1, (Ob.arr 42 3 [[(sV (y3.1).Version), (iV (y3.1).Day), (V.lst 3 ((y3.1).Exposures.map encTExposure))]]))] [(47, (V.agg [(sV (y3.1).Version), (iV (y3.1).Day), (V.lst 3 ((y3.1).Exposures.map encTExposure))]))] [],
                    OD.mk [(46, (bV (y11 == y13))), (8, (V.ptr 2 3 0 0))] [(2, (Ob.arr 42 3 [[(sV (y5.1).Version), (iV (y5.1).Day), (V.lst 3 ((y5.1).Exposures.map encTExposure))]]))] [(48, (V.agg [(sV (y5.1).Version), (iV (y5.1).Day), (V.lst 3 ((y5.1).Exposures.map encTExposure))]))] [],
                    OD.mk [(46, (bV (y11 == y13))), (47, (V.agg [(sV (y3.1).Version), (iV (y3.1).Day), (V.lst 3 ((y3.1).Exposures.map encTExposure))])), (48, (V.agg [(sV (y5.1).Version), (iV (y5.1).Day), (V.lst 3 ((y5.1).Exposures.map encTExposure))]))] [] [(49, (bV y16))] [],
                    OD.mk [(46, (bV (y11 == y13))), (49, (bV y16))] [] [(50, (bV y16))] [],
                    OD.mk [(50, (bV y16))] [] [(51, (bV y16))] [],
                    OD.mk [(51, (bV y16)), (6, (bV (y3.2.1)))] [] [(52, (bV (y3.2.1)))] [],
                    OD.mk [(51, (bV y16)), (9, (bV (y5.2.1)))] [] [(53, (bV (y5.2.1)))] [],
                    OD.mk [(51, (bV y16)), (52, (bV (y3.2.1))), (53, (bV (y5.2.1)))] [] [(54, (bV ((y3.2.1) == (y5.2.1))))] [],
                    OD.mk [(51, (bV y16)), (54, (bV ((y3.2.1) == (y5.2.1))))] [] [(55, (bV ((y3.2.1) == (y5.2.1))))] [],
                    OD.mk [(55, (bV ((y3.2.1) == (y5.2.1))))] [] [(56, (bV ((y3.2.1) == (y5.2.1))))] [],
                    OD.mk [(56, (bV ((y3.2.1) == (y5.2.1)))), (7, (iV (y3.2.2)))] [] [(57, (iV (y3.2.2)))] [],
                    OD.mk [(56, (bV ((y3.2.1) == (y5.2.1)))), (10, (iV (y5.2.2)))] [] [(58, (iV (y5.2.2)))] [],
                    OD.mk [(56, (bV ((y3.2.1) == (y5.2.1)))), (57, (iV (y3.2.2))), (58, (iV (y5.2.2)))] [] [(59, (bV ((y3.2.2) == (y5.2.2))))] [],
                    OD.mk [(56, (bV ((y3.2.1) == (y5.2.1)))), (59, (bV ((y3.2.2) == (y5.2.2))))] [] [(60, (bV ((y3.2.2) == (y5.2.2))))] [],
                    OD.mk [(60, (bV ((y3.2.2) == (y5.2.2))))] [] [(61, (bV ((y3.2.2) == (y5.2.2))))] [],
                    OD.mk [(61, (bV ((y3.2.2) == (y5.2.2)))), (11, (V.lst 3 ((y7.1).map encTExposure)))] [] [(62, (V.lst 3 ((y7.1).map encTExposure)))] [],
                    OD.mk [(61, (bV ((y3.2.2) == (y5.2.2)))), (13, (V.lst 3 ((y9.1).map encTExposure)))] [] [(63, (V.lst 3 ((y9.1).map encTExposure)))] [],
                    OD.mk [(61, (bV ((y3.2.2) == (y5.2.2)))), (62, (V.lst 3 ((y7.1).map encTExposure))), (63, (V.lst 3 ((y9.1).map encTExposure)))] [] [(64, (bV y21))] [],
                    OD.mk [(61, (bV ((y3.2.2) == (y5.2.2)))), (64, (bV y21))] [] [(65, (bV y21))] [],
                    OD.mk [(65, (bV y21))] [] [(66, (bV y21))] [],
                    OD.mk [(66, (bV y21)), (12, (iV (y7.2)))] [] [(67, (iV (y7.2)))] [],
                    OD.mk [(66, (bV y21)), (14, (iV (y9.2)))] [] [(68, (iV (y9.2)))] [],
                    OD.mk [(66, (bV y21)), (67, (iV (y7.2))), (68, (iV (y9.2)))] [] [(69, (bV ((y7.2) == (y9.2))))] [],
                    OD.mk [(66, (bV y21)), (69, (bV ((y7.2) == (y9.2))))] [] [(70, (bV ((y7.2) == (y9.2))))] [],
                    OD.mk [(70, (bV ((y7.2) == (y9.2))))] [] [(71, (bV ((y7.2) == (y9.2))))] [],
                    OD.mk [(71, (bV ((y7.2) == (y9.2))))] [] [(72, (bV y25))] [],
                    OD.mk [(71, (bV ((y7.2) == (y9.2)))), (72, (bV y25))] [] [(73, (bV y25))] [],
                    OD.mk [(73, (bV y25))] [] [(4, (bV y25))] []] mixed ⟨⟨rfl, trivial⟩, ⟨rfl, trivial⟩, ⟨⟨rfl, trivial⟩, trivial, ⟨⟨rfl, trivial⟩, ⟨rfl, trivial⟩, ⟨⟨rfl, trivial⟩, trivial, ⟨⟨rfl, rfl, trivial⟩, trivial, ⟨⟨rfl, trivial⟩, trivial, ⟨⟨rfl, rfl, trivial⟩, ⟨rfl, trivial⟩, ⟨⟨rfl, rfl, trivial⟩, ⟨rfl, trivial⟩, ⟨⟨rfl, rfl, rfl, trivial⟩, trivial, ⟨⟨rfl, rfl, trivial⟩, trivial, ⟨⟨rfl, trivial⟩, trivial, ⟨⟨rfl, rfl, trivial⟩, trivial, ⟨⟨rfl, rfl, trivial⟩, trivial, ⟨⟨rfl, rfl, rfl, trivial⟩, trivial, ⟨⟨rfl, rfl, trivial⟩, trivial, ⟨⟨rfl, trivial⟩, trivial, ⟨⟨rfl, rfl, trivial⟩, trivial, ⟨⟨rfl, rfl, trivial⟩, trivial, ⟨⟨rfl, rfl, rfl, trivial⟩, trivial, ⟨⟨rfl, rfl, trivial⟩, trivial, ⟨⟨rfl, trivial⟩, trivial, ⟨⟨rfl, rfl, trivial⟩, trivial, ⟨⟨rfl, rfl, trivial⟩, trivial, ⟨⟨rfl, rfl, rfl, trivial⟩, trivial, ⟨⟨rfl, rfl, trivial⟩, trivial, ⟨⟨rfl, trivial⟩, trivial, ⟨⟨rfl, rfl, trivial⟩, trivial, ⟨⟨rfl, rfl, trivial⟩, trivial, ⟨⟨rfl, rfl, rfl, trivial⟩, trivial, ⟨⟨rfl, rfl, trivial⟩, trivial, ⟨⟨rfl, trivial⟩, trivial, ⟨⟨rfl, trivial⟩, trivial, ⟨⟨rfl, rfl, trivial⟩, trivial, ⟨⟨rfl, trivial⟩, trivial, trivial⟩⟩⟩⟩⟩⟩⟩⟩⟩⟩⟩⟩⟩⟩⟩⟩⟩⟩⟩⟩⟩⟩⟩⟩⟩⟩⟩⟩⟩⟩⟩⟩⟩⟩ (by kernel_rfl) (.cons (fun S hn h hh => aops_load_agg (cs := [(sV a1.Product), (V.lst 3 (a1.Releases.map encTRelease)), (V.lst 3 (a1.Known.map encTPublished)), (iV a1.Until)]) tA52 wants_none h.1 hh.1 rfl rfl rfl rfl (aops_nil ⟨rfl, rfl⟩)) (.cons (fun S hn h hh => aops_call (iV y11) [(V.agg [(sV a1.Product), (V.lst 3 (a1.Releases.map encTRelease)), (V.lst 3 (a1.Known.map encTPublished)), (iV a1.Until)])] fOk35 wants_none (evm_cons h.1 evm_nil) (.cons (Imm.agg (.cons (Imm.con _) (.cons (Imm.lst _ _) (.cons (Imm.lst _ _) (.cons (Imm.con _) .nil))))) .nil) (W35 F a1 y11 hx12) rfl (aops_nil ⟨rfl, rfl⟩)) (.cons (fun S hn h hh => aops_load_agg (cs := [(sV a1.Product), (V.lst 3 (a1.Releases.map encTRelease)), (V.lst 3 (a1.Known.map encTPublished)), (iV a1.Until)]) tA52 wants_none h.1 hh.1 rfl rfl rfl rfl (aops_nil ⟨rfl, rfl⟩)) (.cons (fun S hn h hh => aops_call (iV y13) [(V.agg [(sV a1.Product), (V.lst 3 (a1.Releases.map encTRelease)), (V.lst 3 (a1.Known.map encTPublished)), (iV a1.Until)])] fOk36 wants_none (evm_cons h.1 evm_nil) (.cons (Imm.agg (.cons (Imm.con _) (.cons (Imm.lst _ _) (.cons (Imm.lst _ _) (.cons (Imm.con _) .nil))))) .nil) (W36 F a1 y13 hx14) rfl (aops_nil ⟨rfl, rfl⟩)) (.cons (fun S hn h hh => aops_bin (.bool (y11 == y13)) wants_none h.1 h.2.1 rfl rfl (aops_nil ⟨rfl, rfl⟩)) (.cons (fun S hn h hh => aops_move (bV (y11 == y13)) wants_none h.1 rfl (aops_nil ⟨rfl, rfl⟩)) (.cons (fun S hn h hh => aops_load_agg (cs := [(sV (y3.1).Version), (iV (y3.1).Day), (V.lst 3 ((y3.1).Exposures.map encTExposure))]) tA42 (wants_some (c := (y11 == y13)) (b := true) 46 rfl h.1 hb15) h.2.1 hh.1 rfl rfl rfl rfl (aops_nil ⟨rfl, rfl⟩)) (.cons (fun S hn h hh => aops_load_agg (cs := [(sV (y5.1).Version), (iV (y5.1).Day), (V.lst 3 ((y5.1).Exposures.map encTExposure))]) tA42 (wants_some (c := (y11 == y13)) (b := true) 46 rfl h.1 hb15) h.2.1 hh.1 rfl rfl rfl rfl (aops_nil ⟨rfl, rfl⟩)) (.cons (fun S hn h hh => aops_call (bV y16) [(V.agg [(sV (y3.1).Version), (iV (y3.1).Day), (V.lst 3 ((y3.1).Exposures.map encTExposure))]), (V.agg [(sV (y5.1).Version), (iV (y5.1).Day), (V.lst 3 ((y5.1).Exposures.map encTExposure))])] fOk37 (wants_some (c := (y11 == y13)) (b := true) 46 rfl h.1 hb15) (evm_cons h.2.1 (evm_cons h.2.2.1 evm_nil)) (.cons (Imm.agg (.cons (Imm.con _) (.cons (Imm.con _) (.cons (Imm.lst _ _) .nil)))) (.cons (Imm.agg (.cons (Imm.con _) (.cons (Imm.con _) (.cons (Imm.lst _ _) .nil)))) .nil)) (W37 F (y3.1) (y5.1) y16 hx17) rfl (aops_nil ⟨rfl, rfl⟩)) (.cons (fun S hn h hh => aops_pick true (cb := (y11 == y13)) (bV y16) wants_none h.1 hb15 h.2.1 rfl (aops_nil ⟨rfl, rfl⟩)) (.cons (fun S hn h hh => aops_move (bV y16) wants_none h.1 rfl (aops_nil ⟨rfl, rfl⟩)) (.cons (fun S hn h hh => aops_move (bV (y3.2.1)) (wants_some (c := y16) (b := true) 51 rfl h.1 hb18) h.2.1 rfl (aops_nil ⟨rfl, rfl⟩)) (.cons (fun S hn h hh => aops_move (bV (y5.2.1)) (wants_some (c := y16) (b := true) 51 rfl h.1 hb18) h.2.1 rfl (aops_nil ⟨rfl, rfl⟩)) (.cons (fun S hn h hh => aops_beq false (wants_some (c := y16) (b := true) 51 rfl h.1 hb18) tU4 h.2.1 h.2.2.1 rfl (aops_nil ⟨rfl, rfl⟩)) (.cons (fun S hn h hh => aops_pick true (cb := y16) (bV ((y3.2.1) == (y5.2.1))) wants_none h.1 hb18 h.2.1 rfl (aops_nil ⟨rfl, rfl⟩)) (.cons (fun S hn h hh => aops_move (bV ((y3.2.1) == (y5.2.1))) wants_none h.1 rfl (aops_nil ⟨rfl, rfl⟩)) (.cons (fun S hn h hh => aops_move (iV (y3.2.2)) (wants_some (c := ((y3.2.1) == (y5.2.1))) (b := true) 56 rfl h.1 hb19) h.2.1 rfl (aops_nil ⟨rfl, rfl⟩)) (.cons (fun S hn h hh => aops_move (iV (y5.2.2)) (wants_some (c := ((y3.2.1) == (y5.2.1))) (b := true) 56 rfl h.1 hb19) h.2.1 rfl (aops_nil ⟨rfl, rfl⟩)) (.cons (fun S hn h hh => aops_bin (.bool ((y3.2.2) == (y5.2.2))) (wants_some (c := ((y3.2.1) == (y5.2.1))) (b := true) 56 rfl h.1 hb19) h.2.1 h.2.2.1 rfl rfl (aops_nil ⟨rfl, rfl⟩)) (.cons (fun S hn h hh => aops_pick true (cb := ((y3.2.1) == (y5.2.1))) (bV ((y3.2.2) == (y5.2.2))) wants_none h.1 hb19 h.2.1 rfl (aops_nil ⟨rfl, rfl⟩)) (.cons (fun S hn h hh => aops_move (bV ((y3.2.2) == (y5.2.2))) wants_none h.1 rfl (aops_nil ⟨rfl, rfl⟩)) (.cons (fun S hn h hh => aops_move (V.lst 3 ((y7.1).map encTExposure)) (wants_some (c := ((y3.2.2) == (y5.2.2))) (b := true) 61 rfl h.1 hb20) h.2.1 rfl (aops_nil ⟨rfl, rfl⟩)) (.cons (fun S hn h hh => aops_move (V.lst 3 ((y9.1).map encTExposure)) (wants_some (c := ((y3.2.2) == (y5.2.2))) (b := true) 61 rfl h.1 hb20) h.2.1 rfl (aops_nil ⟨rfl, rfl⟩)) (.cons (fun S hn h hh => aops_call (bV y21) [(V.lst 3 ((y7.1).map encTExposure)), (V.lst 3 ((y9.1).map encTExposure))] fOk30 (wants_some (c := ((y3.2.2) == (y5.2.2))) (b := true) 61 rfl h.1 hb20) (evm_cons h.2.1 (evm_cons h.2.2.1 evm_nil)) (.cons (Imm.lst _ _) (.cons (Imm.lst _ _) .nil)) (W30 F (y7.1) (y9.1) y21 hx22) rfl (aops_nil ⟨rfl, rfl⟩)) (.cons (fun S hn h hh => aops_pick true (cb := ((y3.2.2) == (y5.2.2))) (bV y21) wants_none h.1 hb20 h.2.1 rfl (aops_nil ⟨rfl, rfl⟩)) (.cons (fun S hn h hh => aops_move (bV y21) wants_none h.1 rfl (aops_nil ⟨rfl, rfl⟩)) (.cons (fun S hn h hh => aops_move (iV (y7.2)) (wants_some (c := y21) (b := true) 66 rfl h.1 hb23) h.2.1 rfl (aops_nil ⟨rfl, rfl⟩)) (.cons (fun S hn h hh => aops_move (iV (y9.2)) (wants_some (c := y21) (b := true) 66 rfl h.1 hb23) h.2.1 rfl (aops_nil ⟨rfl, rfl⟩)) (.cons (fun S hn h hh => aops_bin (.bool ((y7.2) == (y9.2))) (wants_some (c := y21) (b := true) 66 rfl h.1 hb23) h.2.1 h.2.2.1 rfl rfl (aops_nil ⟨rfl, rfl⟩)) (.cons (fun S hn h hh => aops_pick true (cb := y21) (bV ((y7.2) == (y9.2))) wants_none h.1 hb23 h.2.1 rfl (aops_nil ⟨rfl, rfl⟩)) (.cons (fun S hn h hh => aops_move (bV ((y7.2) == (y9.2))) wants_none h.1 rfl (aops_nil ⟨rfl, rfl⟩)) (.cons (fun S hn h hh => aops_call (bV y25) [] fOk23 (wants_some (c := ((y7.2) == (y9.2))) (b := true) 71 rfl h.1 hb24) evm_nil .nil (W23 F  y25 hx26) rfl (aops_nil ⟨rfl, rfl⟩)) (.cons (fun S hn h hh => aops_pick true (cb := ((y7.2) == (y9.2))) (bV y25) wants_none h.1 hb24 h.2.1 rfl (aops_nil ⟨rfl, rfl⟩)) (.cons (fun S hn h hh => aops_assign (bV y25) wants_none h.1 rfl (aops_nil ⟨rfl, rfl⟩)) .nil)))))))))))))))))))))))))))))))))) ?_
              refine awp_ret ?_
              obtain rfl := Option.some.inj h
              exact ⟨.inl rfl, .one (.tmp rfl (Imm.con _))⟩
            · replace h := ite_f hb24 h
              refine awp_any [OD.mk [(2, (V.ptr 0 4 0 0))] [(0, (Ob.arr 52 4 [[(sV a1.Product), (V.lst 3 (a1.Releases.map encTRelease)), (V.lst 3 (a1.Known.map encTPublished)), (iV a1.Until)]]))] [(41, (V.agg [(sV a1.Product), (V.lst 3 (a1.Releases.map encTRelease)), (V.lst 3 (a1.Known.map encTPublished)), (iV a1.Until)]))] [],
                    OD.mk [(41, (V.agg [(sV a1.Product), (V.lst 3 (a1.Releases.map encTRelease)), (V.lst 3 (a1.Known.map encTPublished)), (iV a1.Until)]))] [] [(42, (iV y11))] [],
                    OD.mk [(2, (V.ptr 0 4 0 0))] [(0, (Ob.arr 52 4 [[(sV a1.Product), (V.lst 3 (a1.Releases.map encTRelease)), (V.lst 3 (a1.Known.map encTPublished)), (iV a1.Until)]]))] [(43, (V.agg [(sV a1.Product), (V.lst 3 (a1.Releases.map encTRelease)), (V.lst 3 (a1.Known.map encTPublished)), (iV a1.Until)]))] [],
                    OD.mk [(43, (V.agg [(sV a1.Product), (V.lst 3 (a1.Releases.map encTRelease)), (V.lst 3 (a1.Known.map encTPublished)), (iV a1.Until)]))] [] [(44, (iV y13))] [],
                    OD.mk [(42, (iV y11)), (44, (iV y13))] [] [(45, (bV (y11 == y13)))] [],
                    OD.mk [(45, (bV (y11 == y13)))] [] [(46, (bV (y11 == y13)))] [],
                    OD.mk [(46, (bV (y11 == y13))), (5, (V.ptr 1 3 0 0))] [(1, (Ob.arr 42 3 [[(sV (y3.1).Version), (iV (y3.1).Day), (V.lst 3 ((y3.1).Exposures.map encTExposure))]]))] [(47, (V.agg [(sV (y3.1).Version), (iV (y3.1).Day), (V.lst 3 ((y3.1).Exposures.map encTExposure))]))] [],
                    OD.mk [(46, (bV (y11 == y13))), (8, (V.ptr 2 3 0 0))] [(2, (Ob.arr 42 3 [[(sV (y5.1).Version), (iV (y5.1).Day), (V.lst 3 ((y5.1).Exposures.map encTExposure))]]))] [(48, (V.agg [(sV (y5.1).Version), (iV (y5.1).Day), (V.lst 3 ((y5.1).Exposures.map encTExposure))]))] [],
                    OD.mk [(46, (bV (y11 == y13))), (47, (V.agg [(sV (y3.1).Version), (iV (y3.1).Day), (V.lst 3 ((y3.1).Exposures.map encTExposure))])), (48, (V.agg [(sV (y5.1).Version), (iV (y5.1).Day), (V.lst 3 ((y5.1).Exposures.map encTExposure))]))] [] [(49, (bV y16))] [],
                    OD.mk [(46, (bV (y11 == y13))), (49, (bV y16))] [] [(50, (bV y16))] [],
                    OD.mk [(50, (bV y16))] [] [(51, (bV y16))] [],
                    OD.mk [(51, (bV y16)), (6, (bV (y3.2.1)))] [] [(52, (bV (y3.2.1)))] [],
                    OD.mk [(51, (bV y16)), (9, (bV (y5.2.1)))] [] [(53, (bV (y5.2.1)))] [],
                    OD.mk [(51, (bV y16)), (52, (bV (y3.2.1))), (53, (bV (y5.2.1)))] [] [(54, (bV ((y3.2.1) == (y5.2.1))))] [],
                    OD.mk [(51, (bV y16)), (54, (bV ((y3.2.1) == (y5.2.1))))] [] [(55, (bV ((y3.2.1) == (y5.2.1))))] [],
                    OD.mk [(55, (bV ((y3.2.1) == (y5.2.1))))] [] [(56, (bV ((y3.2.1) == (y5.2.1))))] [],
                    OD.mk [(56, (bV ((y3.2.1) == (y5.2.1)))), (7, (iV (y3.2.2)))] [] [(57, (iV (y3.2.2)))] [],
                    OD.mk [(56, (bV ((y3.2.1) == (y5.2.1)))), (10, (iV (y5.2.2)))] [] [(58, (iV (y5.2.2)))] [],
                    OD.mk [(56, (bV ((y3.2.1) == (y5.2.1)))), (57, (iV (y3.2.2))), (58, (iV (y5.2.2)))] [] [(59, (bV ((y3.2.2) == (y5.2.2))))] [],
                    OD.mk [(56, (bV ((y3.2.1) == (y5.2.1)))), (59, (bV ((y3.2.2) == (y5.2.2))))] [] [(60, (bV ((y3.2.2) == (y5.2.2))))] [],
                    OD.mk [(60, (bV ((y3.2.2) == (y5.2.2))))] [] [(61, (bV ((y3.2.2) == (y5.2.2))))] [],
                    OD.mk [(61, (bV ((y3.2.2) == (y5.2.2)))), (11, (V.lst 3 ((y7.1).map encTExposure)))] [] [(62, (V.lst 3 ((y7.1).map encTExposure)))] [],
                    OD.mk [(61, (bV ((y3.2.2) == (y5.2.2)))), (13, (V.lst 3 ((y9.1).map encTExposure)))] [] [(63, (V.lst 3 ((y9.1).map encTExposure)))] [],
                    OD.mk [(61, (bV ((y3.2.2) == (y5.2.2)))), (62, (V.lst 3 ((y7.1).map encTExposure))), (63, (V.lst 3 ((y9.1).map encTExposure)))] [] [(64, (bV y21))] [],
                    OD.mk [(61, (bV ((y3.2.2) == (y5.2.2)))), (64, (bV y21))] [] [(65, (bV y21))] [],
                    OD.mk [(65, (bV y21))] [] [(66, (bV y21))] [],
                    OD.mk [(66, (bV y21)), (12, (iV (y7.2)))] [] [(67, (iV (y7.2)))] [],
                    OD.mk [(66, (bV y21)), (14, (iV (y9.2)))] [] [(68, (iV (y9.2)))] [],
                    OD.mk [(66, (bV y21)), (67, (iV (y7.2))), (68, (iV (y9.2)))] [] [(69, (bV ((y7.2) == (y9.2))))] [],
                    OD.mk [(66, (bV y21)), (69, (bV ((y7.2) == (y9.2))))] [] [(70, (bV ((y7.2) == (y9.2))))] [],
                    OD.mk [(70, (bV ((y7.2) == (y9.2))))] [] [(71, (bV ((y7.2) == (y9.2))))] [],
                    OD.mk [(71, (bV ((y7.2) == (y9.2))))] [] [(72, (V.con undef))] [],
                    OD.mk [(71, (bV ((y7.2) == (y9.2))))] [] [(73, (bV false))] [],
                    OD.mk [(73, (bV false))] [] [(4, (bV false))] []] mixed ⟨⟨rfl, trivial⟩, ⟨rfl, trivial⟩, ⟨⟨rfl, trivial⟩, trivial, ⟨⟨rfl, trivial⟩, ⟨rfl, trivial⟩, ⟨⟨rfl, trivial⟩, trivial, ⟨⟨rfl, rfl, trivial⟩, trivial, ⟨⟨rfl, trivial⟩, trivial, ⟨⟨rfl, rfl, trivial⟩, ⟨rfl, trivial⟩, ⟨⟨rfl, rfl, trivial⟩, ⟨rfl, trivial⟩, ⟨⟨rfl, rfl, rfl, trivial⟩, trivial, ⟨⟨rfl, rfl, trivial⟩, trivial, ⟨⟨rfl, trivial⟩, trivial, ⟨⟨rfl, rfl, trivial⟩, trivial, ⟨⟨rfl, rfl, trivial⟩, trivial, ⟨⟨rfl, rfl, rfl, trivial⟩, trivial, ⟨⟨rfl, rfl, trivial⟩, trivial, ⟨⟨rfl, trivial⟩, trivial, ⟨⟨rfl, rfl, trivial⟩, trivial, ⟨⟨rfl, rfl, trivial⟩, trivial, ⟨⟨rfl, rfl, rfl, trivial⟩, trivial, ⟨⟨rfl, rfl, trivial⟩, trivial, ⟨⟨rfl, trivial⟩, trivial, ⟨⟨rfl, rfl, trivial⟩, trivial, ⟨⟨rfl, rfl, trivial⟩, trivial, ⟨⟨rfl, rfl, rfl, trivial⟩, trivial, ⟨⟨rfl, rfl, trivial⟩, trivial, ⟨⟨rfl, trivial⟩, trivial, ⟨⟨rfl, rfl, trivial⟩, trivial, ⟨⟨rfl, rfl, trivial⟩, trivial, ⟨⟨rfl, rfl, rfl, trivial⟩, trivial, ⟨⟨rfl, rfl, trivial⟩, trivial, ⟨⟨rfl, trivial⟩, trivial, ⟨⟨rfl, trivial⟩, trivial, ⟨⟨rfl, trivial⟩, trivial, ⟨⟨rfl, trivial⟩, trivial, trivial⟩⟩⟩⟩⟩⟩⟩⟩⟩⟩⟩⟩⟩⟩⟩⟩⟩⟩⟩⟩⟩⟩⟩⟩⟩⟩⟩⟩⟩⟩⟩⟩⟩⟩ (by kernel_rfl) (.cons (fun S hn h hh => aops_load_agg (cs := [(sV a1.Product), (V.lst 3 (a1.Releases.map encTRelease)), (V.lst 3 (a1.Known.map encTPublished)), (iV a1.Until)]) tA52 wants_none h.1 hh.1 rfl rfl rfl rfl (aops_nil ⟨rfl, rfl⟩)) (.cons (fun S hn h hh => aops_call (iV y11) [(V.agg [(sV a1.Product), (V.lst 3 (a1.Releases.map encTRelease)), (V.lst 3 (a1.Known.map encTPublished)), (iV a1.Until)])] fOk35 wants_none (evm_cons h.1 evm_nil) (.cons (Imm.agg (.cons (Imm.con _) (.cons (Imm.lst _ _) (.cons (Imm.lst _ _) (.cons (Imm.con _) .nil))))) .nil) (W35 F a1 y11 hx12) rfl (aops_nil ⟨rfl, rfl⟩)) (.cons (fun S hn h hh => aops_load_agg (cs := [(sV a1.Product), (V.lst 3 (a1.Releases.map encTRelease)), (V.lst 3 (a1.Known.map encTPublished)), (iV a1.Until)]) tA52 wants_none h.1 hh.1 rfl rfl rfl rfl (aops_nil ⟨rfl, rfl⟩)) (.cons (fun S hn h hh => aops_call (iV y13) [(V.agg [(sV a1.Product), (V.lst 3 (a1.Releases.map encTRelease)), (V.lst 3 (a1.Known.map encTPublished)), (iV a1.Until)])] fOk36 wants_none (evm_cons h.1 evm_nil) (.cons (Imm.agg (.cons (Imm.con _) (.cons (Imm.lst _ _) (.cons (Imm.lst _ _) (.cons (Imm.con _) .nil))))) .nil) (W36 F a1 y13 hx14) rfl (aops_nil ⟨rfl, rfl⟩)) (.cons (fun S hn h hh => aops_bin (.bool (y11 == y13)) wants_none h.1 h.2.1 rfl rfl (aops_nil ⟨rfl, rfl⟩)) (.cons (fun S hn h hh => aops_move (bV (y11 == y13)) wants_none h.1 rfl (aops_nil ⟨rfl, rfl⟩)) (.cons (fun S hn h hh => aops_load_agg (cs := [(sV (y3.1).Version), (iV (y3.1).Day), (V.lst 3 ((y3.1).Exposures.map encTExposure))]) tA42 (wants_some (c := (y11 == y13)) (b := true) 46 rfl h.1 hb15) h.2.1 hh.1 rfl rfl rfl rfl (aops_nil ⟨rfl, rfl⟩)) (.cons (fun S hn h hh => aops_load_agg (cs := [(sV (y5.1).Version), (iV (y5.1).Day), (V.lst 3 ((y5.1).Exposures.map encTExposure))]) tA42 (wants_some (c := (y11 == y13)) (b := true) 46 rfl h.1 hb15) h.2.1 hh.1 rfl rfl rfl rfl (aops_nil ⟨rfl, rfl⟩)) (.cons (fun S hn h hh => aops_call (bV y16) [(V.agg [(sV (y3.1).Version), (iV (y3.1).Day), (V.lst 3 ((y3.1).Exposures.map encTExposure))]), (V.agg [(sV (y5.1).Version), (iV (y5.1).Day), (V.lst 3 ((y5.1).Exposures.map encTExposure))])] fOk37 (wants_some (c := (y11 == y13)) (b := true) 46 rfl h.1 hb15) (evm_cons h.2.1 (evm_cons h.2.2.1 evm_nil)) (.cons (Imm.agg (.cons (Imm.con _) (.cons (Imm.con _) (.cons (Imm.lst _ _) .nil)))) (.cons (Imm.agg (.cons (Imm.con _) (.cons (Imm.con _) (.cons (Imm.lst _ _) .nil)))) .nil)) (W37 F (y3.1) (y5.1) y16 hx17) rfl (aops_nil ⟨rfl, rfl⟩)) (.cons (fun S hn h hh => aops_pick true (cb := (y11 == y13)) (bV y16) wants_none h.1 hb15 h.2.1 rfl (aops_nil ⟨rfl, rfl⟩)) (.cons (fun S hn h hh => aops_move (bV y16) wants_none h.1 rfl (aops_nil ⟨rfl, rfl⟩)) (.cons (fun S hn h hh => aops_move (bV (y3.2.1)) (wants_some (c := y16) (b := true) 51 rfl h.1 hb18) h.2.1 rfl (aops_nil ⟨rfl, rfl⟩)) (.cons (fun S hn h hh => aops_move (bV (y5.2.1)) (wants_some (c := y16) (b := true) 51 rfl h.1 hb18) h.2.1 rfl (aops_nil ⟨rfl, rfl⟩)) (.cons (fun S hn h hh => aops_beq false (wants_some (c := y16) (b := true) 51 rfl h.1 hb18) tU4 h.2.1 h.2.2.1 rfl (aops_nil ⟨rfl, rfl⟩)) (.cons (fun S hn h hh => aops_pick true (cb := y16) (bV ((y3.2.1) == (y5.2.1))) wants_none h.1 hb18 h.2.1 rfl (aops_nil ⟨rfl, rfl⟩)) (.cons (fun S hn h hh => aops_move (bV ((y3.2.1) == (y5.2.1))) wants_none h.1 rfl (aops_nil ⟨rfl, rfl⟩)) (.cons (fun S hn h hh => aops_move (iV (y3.2.2)) (wants_some (c := ((y3.2.1) == (y5.2.1))) (b := true) 56 rfl h.1 hb19) h.2.1 rfl (aops_nil ⟨rfl, rfl⟩)) (.cons (fun S hn h hh => aops_move (iV (y5.2.2)) (wants_some (c := ((y3.2.1) == (y5.2.1))) (b := true) 56 rfl h.1 hb19) h.2.1 rfl (aops_nil ⟨rfl, rfl⟩)) (.cons (fun S hn h hh => aops_bin (.bool ((y3.2.2) == (y5.2.2))) (wants_some (c := ((y3.2.1) == (y5.2.1))) (b := true) 56 rfl h.1 hb19) h.2.1 h.2.2.1 rfl rfl (aops_nil ⟨rfl, rfl⟩)) (.cons (fun S hn h hh => aops_pick true (cb := ((y3.2.1) == (y5.2.1))) (bV ((y3.2.2) == (y5.2.2))) wants_none h.1 hb19 h.2.1 rfl (aops_nil ⟨rfl, rfl⟩)) (.cons (fun S hn h hh => aops_move (bV ((y3.2.2) == (y5.2.2))) wants_none h.1 rfl (aops_nil ⟨rfl, rfl⟩)) (.cons (fun S hn h hh => aops_move (V.lst 3 ((y7.1).map encTExposure)) (wants_some (c := ((y3.2.2) == (y5.2.2))) (b := true) 61 rfl h.1 hb20) h.2.1 rfl (aops_nil ⟨rfl, rfl⟩)) (.cons (fun S hn h hh => aops_move (V.lst 3 ((y9.1).map encTExposure)) (wants_some (c := ((y3.2.2) == (y5.2.2))) (b := true) 61 rfl h.1 hb20) h.2.1 rfl (aops_nil ⟨rfl, rfl⟩)) (.cons (fun S hn h hh => aops_call (bV y21) [(V.lst 3 ((y7.1).map encTExposure)), (V.lst 3 ((y9.1).map encTExposure))] fOk30 (wants_some (c := ((y3.2.2) == (y5.2.2))) (b := true) 61 rfl h.1 hb20) (evm_cons h.2.1 (evm_cons h.2.2.1 evm_nil)) (.cons (Imm.lst _ _) (.cons (Imm.lst _ _) .nil)) (W30 F (y7.1) (y9.1) y21 hx22) rfl (aops_nil ⟨rfl, rfl⟩)) (.cons (fun S hn h hh => aops_pick true (cb := ((y3.2.2) == (y5.2.2))) (bV y21) wants_none h.1 hb20 h.2.1 rfl (aops_nil ⟨rfl, rfl⟩)) (.cons (fun S hn h hh => aops_move (bV y21) wants_none h.1 rfl (aops_nil ⟨rfl, rfl⟩)) (.cons (fun S hn h hh => aops_move (iV (y7.2)) (wants_some (c := y21) (b := true) 66 rfl h.1 hb23) h.2.1 rfl (aops_nil ⟨rfl, rfl⟩)) (.cons (fun S hn h hh => aops_move (iV (y9.2)) (wants_some (c := y21) (b := true) 66 rfl h.1 hb23) h.2.1 rfl (aops_nil ⟨rfl, rfl⟩)) (.cons (fun S hn h hh => aops_bin (.bool ((y7.2) == (y9.2))) (wants_some (c := y21) (b := true) 66 rfl h.1 hb23) h.2.1 h.2.2.1 rfl rfl (aops_nil ⟨rfl, rfl⟩)) (.cons (fun S hn h hh => aops_pick true (cb := y21) (bV ((y7.2) == (y9.2))) wants_none h.1 hb23 h.2.1 rfl (aops_nil ⟨rfl, rfl⟩)) (.cons (fun S hn h hh => aops_move (bV ((y7.2) == (y9.2))) wants_none h.1 rfl (aops_nil ⟨rfl, rfl⟩)) (.cons (fun S hn h hh => aops_skip (wants_some (c := ((y7.2) == (y9.2))) (b := false) 71 rfl h.1 hb24) rfl rfl (aops_nil ⟨rfl, rfl⟩)) (.cons (fun S hn h hh => aops_pick false (cb := ((y7.2) == (y9.2))) (bV false) wants_none h.1 hb24 rfl rfl (aops_nil ⟨rfl, rfl⟩)) (.cons (fun S hn h hh => aops_assign (bV false) wants_none h.1 rfl (aops_nil ⟨rfl, rfl⟩)) .nil)))))))))))))))))))))))))))))))))) ?_
              refine awp_ret ?_
              obtain rfl := Option.some.inj h
              exact ⟨.inl rfl, .one (.tmp rfl (Imm.con _))⟩
          · replace h := ite_f hb23 h
            refine awp_any [OD.mk [(2, (V.ptr 0 4 0 0))] [(0, (Ob.arr 52 4 [[(sV a1.Product), (V.lst 3 (a1.Releases.map encTRelease)), (V.lst 3 (a1.Known.map encTPublished)), (iV a1.Until)]]))] [(41, (V.agg [(sV a1.Product), (V.lst 3 (a1.Releases.map encTRelease)), (V.lst 3 (a1.Known.map encTPublished)), (iV a1.Until)]))] [],
                  OD.mk [(41, (V.agg [(sV a1.Product), (V.lst 3 (a1.Releases.map encTRelease)), (V.lst 3 (a1.Known.map encTPublished)), (iV a1.Until)]))] [] [(42, (iV y11))] [],
                  OD.mk [(2, (V.ptr 0 4 0 0))] [(0, (Ob.arr 52 4 [[(sV a1.Product), (V.lst 3 (a1.Releases.map encTRelease)), (V.lst 3 (a1.Known.map encTPublished)), (iV a1.Until)]]))] [(43, (V.agg [(sV a1.Product), (V.lst 3 (a1.Releases.map encTRelease)), (V.lst 3 (a1.Known.map encTPublished)), (iV a1.Until)]))] [],
                  OD.mk [(43, (V.agg [(sV a1.Product), (V.lst 3 (a1.Releases.map encTRelease)), (V.lst 3 (a1.Known.map encTPublished)), (iV a1.Until)]))] [] [(44, (iV y13))] [],
                  OD.mk [(42, (iV y11)), (44, (iV y13))] [] [(45, (bV (y11 == y13)))] [],
                  OD.mk [(45, (bV (y11 == y13)))] [] [(46, (bV (y11 == y13)))] [],
                  OD.mk [(46, (bV (y11 == y13))), (5, (V.ptr 1 3 0 0))] [(1, (Ob.arr 42 3 [[(sV (y3.1).Version), (iV (y3.1).Day), (V.lst 3 ((y3.1).Exposures.map encTExposure))]]))] [(47, (V.agg [(sV (y3.1).Version), (iV (y3.1).Day), (V.lst 3 ((y3.1).Exposures.map encTExposure))]))] [],
                  OD.mk [(46, (bV (y11 == y13))), (8, (V.ptr 2 3 0 0))] [(2, (Ob.arr 42 3 [[(sV (y5.1).Version), (iV (y5.1).Day), (V.lst 3 ((y5.1).Exposures.map encTExposure))]]))] [(48, (V.agg [(sV (y5.1).Version), (iV (y5.1).Day), (V.lst 3 ((y5.1).Exposures.map encTExposure))]))] [],
                  OD.mk [(46, (bV (y11 == y13))), (47, (V.agg [(sV (y3.1).Version), (iV (y3.1).Day), (V.lst 3 ((y3.1).Exposures.map encTExposure))])), (48, (V.agg [(sV (y5.1).Version), (iV (y5.1).Day), (V.lst 3 ((y5.1).Exposures.map encTExposure))]))] [] [(49, (bV y16))] [],
                  OD.mk [(46, (bV (y11 == y13))), (49, (bV y16))] [] [(50, (bV y16))] [],
                  OD.mk [(50, (bV y16))] [] [(51, (bV y16))] [],
                  OD.mk [(51, (bV y16)), (6, (bV (y3.2.1)))] [] [(52, (bV (y3.2.1)))] [],
                  OD.mk [(51, (bV y16)), (9, (bV (y5.2.1)))] [] [(53, (bV (y5.2.1)))] [],
                  OD.mk [(51, (bV y16)), (52, (bV (y3.2.1))), (53, (bV (y5.2.1)))] [] [(54, (bV ((y3.2.1) == (y5.2.1))))] [],
                  OD.mk [(51, (bV y16)), (54, (bV ((y3.2.1) == (y5.2.1))))] [] [(55, (bV ((y3.2.1) == (y5.2.1))))] [],
                  OD.mk [(55, (bV ((y3.2.1) == (y5.2.1))))] [] [(56, (bV ((y3.2.1) == (y5.2.1))))] [],
                  OD.mk [(56, (bV ((y3.2.1) == (y5.2.1)))), (7, (iV (y3.2.2)))] [] [(57, (iV (y3.2.2)))] [],
                  OD.mk [(56, (bV ((y3.2.1) == (y5.2.1)))), (10, (iV (y5.2.2)))] [] [(58, (iV (y5.2.2)))] [],
                  OD.mk [(56, (bV ((y3.2.1) == (y5.2.1)))), (57, (iV (y3.2.2))), (58, (iV (y5.2.2)))] [] [(59, (bV ((y3.2.2) == (y5.2.2))))] [],
                  OD.mk [(56, (bV ((y3.2.1) == (y5.2.1)))), (59, (bV ((y3.2.2) == (y5.2.2))))] [] [(60, (bV ((y3.2.2) == (y5.2.2))))] [],
                  OD.mk [(60, (bV ((y3.2.2) == (y5.2.2))))] [] [(61, (bV ((y3.2.2) == (y5.2.2))))] [],
                  OD.mk [(61, (bV ((y3.2.2) == (y5.2.2)))), (11, (V.lst 3 ((y7.1).map encTExposure)))] [] [(62, (V.lst 3 ((y7.1).map encTExposure)))] [],
                  OD.mk [(61, (bV ((y3.2.2) == (y5.2.2)))), (13, (V.lst 3 ((y9.1).map encTExposure)))] [] [(63, (V.lst 3 ((y9.1).map encTExposure)))] [],
                  OD.mk [(61, (bV ((y3.2.2) == (y5.2.2)))), (62, (V.lst 3 ((y7.1).map encTExposure))), (63, (V.lst 3 ((y9.1).map encTExposure)))] [] [(64, (bV y21))] [],
                  OD.mk [(61, (bV ((y3.2.2) == (y5.2.2)))), (64, (bV y21))] [] [(65, (bV y21))] [],
                  OD.mk [(65, (bV y21))] [] [(66, (bV y21))] [],
                  OD.mk [(66, (bV y21))] [] [(67, (V.con undef))] [],
                  OD.mk [(66, (bV y21))] [] [(68, (V.con undef))] [],
                  OD.mk [(66, (bV y21))] [] [(69, (V.con undef))] [],
                  OD.mk [(66, (bV y21))] [] [(70, (bV false))] [],
                  OD.mk [(70, (bV false))] [] [(71, (bV false))] [],
                  OD.mk [(71, (bV false))] [] [(72, (V.con undef))] [],
                  OD.mk [(71, (bV false))] [] [(73, (bV false))] [],
                  OD.mk [(73, (bV false))] [] [(4, (bV false))] []] mixed ⟨⟨rfl, trivial⟩, ⟨rfl, trivial⟩, ⟨⟨rfl, trivial⟩, trivial, ⟨⟨rfl, trivial⟩, ⟨rfl, trivial⟩, ⟨⟨rfl, trivial⟩, trivial, ⟨⟨rfl, rfl, trivial⟩, trivial, ⟨⟨rfl, trivial⟩, trivial, ⟨⟨rfl, rfl, trivial⟩, ⟨rfl, trivial⟩, ⟨⟨rfl, rfl, trivial⟩, ⟨rfl, trivial⟩, ⟨⟨rfl, rfl, rfl, trivial⟩, trivial, ⟨⟨rfl, rfl, trivial⟩, trivial, ⟨⟨rfl, trivial⟩, trivial, ⟨⟨rfl, rfl, trivial⟩, trivial, ⟨⟨rfl, rfl, trivial⟩, trivial, ⟨⟨rfl, rfl, rfl, trivial⟩, trivial, ⟨⟨rfl, rfl, trivial⟩, trivial, ⟨⟨rfl, trivial⟩, trivial, ⟨⟨rfl, rfl, trivial⟩, trivial, ⟨⟨rfl, rfl, trivial⟩, trivial, ⟨⟨rfl, rfl, rfl, trivial⟩, trivial, ⟨⟨rfl, rfl, trivial⟩, trivial, ⟨⟨rfl, trivial⟩, trivial, ⟨⟨rfl, rfl, trivial⟩, trivial, ⟨⟨rfl, rfl, trivial⟩, trivial, ⟨⟨rfl, rfl, rfl, trivial⟩, trivial, ⟨⟨rfl, rfl, trivial⟩, trivial, ⟨⟨rfl, trivial⟩, trivial, ⟨⟨rfl, trivial⟩, trivial, ⟨⟨rfl, trivial⟩, trivial, ⟨⟨rfl, trivial⟩, trivial, ⟨⟨rfl, trivial⟩, trivial, ⟨⟨rfl, trivial⟩, trivial, ⟨⟨rfl, trivial⟩, trivial, ⟨⟨rfl, trivial⟩, trivial, ⟨⟨rfl, trivial⟩, trivial, trivial⟩⟩⟩⟩⟩⟩⟩⟩⟩⟩⟩⟩⟩⟩⟩⟩⟩⟩⟩⟩⟩⟩⟩⟩⟩⟩⟩⟩⟩⟩⟩⟩⟩⟩ (by kernel_rfl) (.cons (fun S hn h hh => aops_load_agg (cs := [(sV a1.Product), (V.lst 3 (a1.Releases.map encTRelease)), (V.lst 3 (a1.Known.map encTPublished)), (iV a1.Until)]) tA52 wants_none h.1 hh.1 rfl rfl rfl rfl (aops_nil ⟨rfl, rfl⟩)) (.cons (fun S hn h hh => aops_call (iV y11) [(V.agg [(sV a1.Product), (V.lst 3 (a1.Releases.map encTRelease)), (V.lst 3 (a1.Known.map encTPublished)), (iV a1.Until)])] fOk35 wants_none (evm_cons h.1 evm_nil) (.cons (Imm.agg (.cons (Imm.con _) (.cons (Imm.lst _ _) (.cons (Imm.lst _ _) (.cons (Imm.con _) .nil))))) .nil) (W35 F a1 y11 hx12) rfl (aops_nil ⟨rfl, rfl⟩)) (.cons (fun S hn h hh => aops_load_agg (cs := [(sV a1.Product), (V.lst 3 (a1.Releases.map encTRelease)), (V.lst 3 (a1.Known.map encTPublished)), (iV a1.Until)]) tA52 wants_none h.1 hh.1 rfl rfl rfl rfl (aops_nil ⟨rfl, rfl⟩)) (.cons (fun S hn h hh => aops_call (iV y13) [(V.agg [(sV a1.Product), (V.lst 3 (a1.Releases.map encTRelease)), (V.lst 3 (a1.Known.map encTPublished)), (iV a1.Until)])] fOk36 wants_none (evm_cons h.1 evm_nil) (.cons (Imm.agg (.cons (Imm.con _) (.cons (Imm.lst _ _) (.cons (Imm.lst _ _) (.cons (Imm.con _) .nil))))) .nil) (W36 F a1 y13 hx14) rfl (aops_nil ⟨rfl, rfl⟩)) (.cons (fun S hn h hh => aops_bin (.bool (y11 == y13)) wants_none h.1 h.2.1 rfl rfl (aops_nil ⟨rfl, rfl⟩)) (.cons (fun S hn h hh => aops_move (bV (y11 == y13)) wants_none h.1 rfl (aops_nil ⟨rfl, rfl⟩)) (.cons (fun S hn h hh => aops_load_agg (cs := [(sV (y3.1).Version), (iV (y3.1).Day), (V.lst 3 ((y3.1).Exposures.map encTExposure))]) tA42 (wants_some (c := (y11 == y13)) (b := true) 46 rfl h.1 hb15) h.2.1 hh.1 rfl rfl rfl rfl (aops_nil ⟨rfl, rfl⟩)) (.cons (fun S hn h hh => aops_load_agg (cs := [(sV (y5.1).Version), (iV (y5.1).Day), (V.lst 3 ((y5.1).Exposures.map encTExposure))]) tA42 (wants_some (c := (y11 == y13)) (b := true) 46 rfl h.1 hb15) h.2.1 hh.1 rfl rfl rfl rfl (aops_nil ⟨rfl, rfl⟩)) (.cons (fun S hn h hh => aops_call (bV y16) [(V.agg [(sV (y3.1).Version), (iV (y3.1).Day), (V.lst 3 ((y3.1).Exposures.map encTExposure))]), (V.agg [(sV (y5.1).Version), (iV (y5.1).Day), (V.lst 3 ((y5.1).Exposures.map encTExposure))])] fOk37 (wants_some (c := (y11 == y13)) (b := true) 46 rfl h.1 hb15) (evm_cons h.2.1 (evm_cons h.2.2.1 evm_nil)) (.cons (Imm.agg (.cons (Imm.con _) (.cons (Imm.con _) (.cons (Imm.lst _ _) .nil)))) (.cons (Imm.agg (.cons (Imm.con _) (.cons (Imm.con _) (.cons (Imm.lst _ _) .nil)))) .nil)) (W37 F (y3.1) (y5.1) y16 hx17) rfl (aops_nil ⟨rfl, rfl⟩)) (.cons (fun S hn h hh => aops_pick true (cb := (y11 == y13)) (bV y16) wants_none h.1 hb15 h.2.1 rfl (aops_nil ⟨rfl, rfl⟩)) (.cons (fun S hn h hh => aops_move (bV y16) wants_none h.1 rfl (aops_nil ⟨rfl, rfl⟩)) (.cons (fun S hn h hh => aops_move (bV (y3.2.1)) (wants_some (c := y16) (b := true) 51 rfl h.1 hb18) h.2.1 rfl (aops_nil ⟨rfl, rfl⟩)) (.cons (fun S hn h hh => aops_move (bV (y5.2.1)) (wants_some (c := y16) (b := true) 51 rfl h.1 hb18) h.2.1 rfl (aops_nil ⟨rfl, rfl⟩)) (.cons (fun S hn h hh => aops_beq false (wants_some (c := y16) (b := true) 51 rfl h.1 hb18) tU4 h.2.1 h.2.2.1 rfl (aops_nil ⟨rfl, rfl⟩)) (.cons (fun S hn h hh => aops_pick true (cb := y16) (bV ((y3.2.1) == (y5.2.1))) wants_none h.1 hb18 h.2.1 rfl (aops_nil ⟨rfl, rfl⟩)) (.cons (fun S hn h hh => aops_move (bV ((y3.2.1) == (y5.2.1))) wants_none h.1 rfl (aops_nil ⟨rfl, rfl⟩)) (.cons (fun S hn h hh => aops_move (iV (y3.2.2)) (wants_some (c := ((y3.2.1) == (y5.2.1))) (b := true) 56 rfl h.1 hb19) h.2.1 rfl (aops_nil ⟨rfl, rfl⟩)) (.cons (fun S hn h hh => aops_move (iV (y5.2.2)) (wants_some (c := ((y3.2.1) == (y5.2.1))) (b := true) 56 rfl h.1 hb19) h.2.1 rfl (aops_nil ⟨rfl, rfl⟩)) (.cons (fun S hn h hh => aops_bin (.bool ((y3.2.2) == (y5.2.2))) (wants_some (c := ((y3.2.1) == (y5.2.1))) (b := true) 56 rfl h.1 hb19) h.2.1 h.2.2.1 rfl rfl (aops_nil ⟨rfl, rfl⟩)) (.cons (fun S hn h hh => aops_pick true (cb := ((y3.2.1) == (y5.2.1))) (bV ((y3.2.2) == (y5.2.2))) wants_none h.1 hb19 h.2.1 rfl (aops_nil ⟨rfl, rfl⟩)) (.cons (fun S hn h hh => aops_move (bV ((y3.2.2) == (y5.2.2))) wants_none h.1 rfl (aops_nil ⟨rfl, rfl⟩)) (.cons (fun S hn h hh => aops_move (V.lst 3 ((y7.1).map encTExposure)) (wants_some (c := ((y3.2.2) == (y5.2.2))) (b := true) 61 rfl h.1 hb20) h.2.1 rfl (aops_nil ⟨rfl, rfl⟩)) (.cons (fun S hn h hh => aops_move (V.lst 3 ((y9.1).map encTExposure)) (wants_some (c := ((y3.2.2) == (y5.2.2))) (b := true) 61 rfl h.1 hb20) h.2.1 rfl (aops_nil ⟨rfl, rfl⟩)) (.cons (fun S hn h hh => aops_call (bV y21) [(V.lst 3 ((y7.1).map encTExposure)), (V.lst 3 ((y9.1).map encTExposure))] fOk30 (wants_some (c := ((y3.2.2) == (y5.2.2))) (b := true) 61 rfl h.1 hb20) (evm_cons h.2.1 (evm_cons h.2.2.1 evm_nil)) (.cons (Imm.lst _ _) (.cons (Imm.lst _ _) .nil)) (W30 F (y7.1) (y9.1) y21 hx22) rfl (aops_nil ⟨rfl, rfl⟩)) (.cons (fun S hn h hh => aops_pick true (cb := ((y3.2.2) == (y5.2.2))) (bV y21) wants_none h.1 hb20 h.2.1 rfl (aops_nil ⟨rfl, rfl⟩)) (.cons (fun S hn h hh => aops_move (bV y21) wants_none h.1 rfl (aops_nil ⟨rfl, rfl⟩)) (.cons (fun S hn h hh => aops_skip (wants_some (c := y21) (b := false) 66 rfl h.1 hb23) rfl rfl (aops_nil ⟨rfl, rfl⟩)) (.cons (fun S hn h hh => aops_skip (wants_some (c := y21) (b := false) 66 rfl h.1 hb23) rfl rfl (aops_nil ⟨rfl, rfl⟩)) (.cons (fun S hn h hh => aops_skip (wants_some (c := y21) (b := false) 66 rfl h.1 hb23) rfl rfl (aops_nil ⟨rfl, rfl⟩)) (.cons (fun S hn h hh => aops_pick false (cb := y21) (bV false) wants_none h.1 hb23 rfl rfl (aops_nil ⟨rfl, rfl⟩)) (.cons (fun S hn h hh => aops_move (bV false) wants_none h.1 rfl (aops_nil ⟨rfl, rfl⟩)) (.cons (fun S hn h hh => aops_skip (wants_some (c := false) (b := false) 71 rfl h.1 rfl) rfl rfl (aops_nil ⟨rfl, rfl⟩)) (.cons (fun S hn h hh => aops_pick false (cb := false) (bV false) wants_none h.1 rfl rfl rfl (aops_nil ⟨rfl, rfl⟩)) (.cons (fun S hn h hh => aops_assign (bV false) wants_none h.1 rfl (aops_nil ⟨rfl, rfl⟩)) .nil)))))))))))))))))))))))))))))))))) ?_
            refine awp_ret ?_
            obtain rfl := Option.some.inj h
            exact ⟨.inl rfl, .one (.tmp rfl (Imm.con _))⟩
        · replace h := ite_f hb20 h
          refine awp_any [OD.mk [(2, (V.ptr 0 4 0 0))] [(0, (Ob.arr 52 4 [[(sV a1.Product), (V.lst 3 (a1.Releases.map encTRelease)), (V.lst 3 (a1.Known.map encTPublished)), (iV a1.Until)]]))] [(41, (V.agg [(sV a1.Product), (V.lst 3 (a1.Releases.map encTRelease)), (V.lst 3 (a1.Known.map encTPublished)), (iV a1.Until)]))] [],
                OD.mk [(41, (V.agg [(sV a1.Product), (V.lst 3 (a1.Releases.map encTRelease)), (V.lst 3 (a1.Known.map encTPublished)), (iV a1.Until)]))] [] [(42, (iV y11))] [],
                OD.mk [(2, (V.ptr 0 4 0 0))] [(0, (Ob.arr 52 4 [[(sV a1.Product), (V.lst 3 (a1.Releases.map encTRelease)), (V.lst 3 (a1.Known.map encTPublished)), (iV a1.Until)]]))] [(43, (V.agg [(sV a1.Product), (V.lst 3 (a1.Releases.map encTRelease)), (V.lst 3 (a1.Known.map encTPublished)), (iV a1.Until)]))] [],
                OD.mk [(43, (V.agg [(sV a1.Product), (V.lst 3 (a1.Releases.map encTRelease)), (V.lst 3 (a1.Known.map encTPublished)), (iV a1.Until)]))] [] [(44, (iV y13))] [],
                OD.mk [(42, (iV y11)), (44, (iV y13))] [] [(45, (bV (y11 == y13)))] [],
                OD.mk [(45, (bV (y11 == y13)))] [] [(46, (bV (y11 == y13)))] [],
                OD.mk [(46, (bV (y11 == y13))), (5, (V.ptr 1 3 0 0))] [(1, (Ob.arr 42 3 [[(sV (y3.1).Version), (iV (y3.1).Day), (V.lst 3 ((y3.1).Exposures.map encTExposure))]]))] [(47, (V.agg [(sV (y3.1).Version), (iV (y3.1).Day), (V.lst 3 ((y3.1).Exposures.map encTExposure))]))] [],
                OD.mk [(46, (bV (y11 == y13))), (8, (V.ptr 2 3 0 0))] [(2, (Ob.arr 42 3 [[(sV (y5.1).Version), (iV (y5.1).Day), (V.lst 3 ((y5.1).Exposures.map encTExposure))]]))] [(48, (V.agg [(sV (y5.1).Version), (iV (y5.1).Day), (V.lst 3 ((y5.1).Exposures.map encTExposure))]))] [],
                OD.mk [(46, (bV (y11 == y13))), (47, (V.agg [(sV (y3.1).Version), (iV (y3.1).Day), (V.lst 3 ((y3.1).Exposures.map encTExposure))])), (48, (V.agg [(sV (y5.1).Version), (iV (y5.1).Day), (V.lst 3 ((y5.1).Exposures.map encTExposure))]))] [] [(49, (bV y16))] [],
                OD.mk [(46, (bV (y11 == y13))), (49, (bV y16))] [] [(50, (bV y16))] [],
                OD.mk [(50, (bV y16))] [] [(51, (bV y16))] [],
                OD.mk [(51, (bV y16)), (6, (bV (y3.2.1)))] [] [(52, (bV (y3.2.1)))] [],
                OD.mk [(51, (bV y16)), (9, (bV (y5.2.1)))] [] [(53, (bV (y5.2.1)))] [],
                OD.mk [(51, (bV y16)), (52, (bV (y3.2.1))), (53, (bV (y5.2.1)))] [] [(54, (bV ((y3.2.1) == (y5.2.1))))] [],
                OD.mk [(51, (bV y16)), (54, (bV ((y3.2.1) == (y5.2.1))))] [] [(55, (bV ((y3.2.1) == (y5.2.1))))] [],
                OD.mk [(55, (bV ((y3.2.1) == (y5.2.1))))] [] [(56, (bV ((y3.2.1) == (y5.2.1))))] [],
                OD.mk [(56, (bV ((y3.2.1) == (y5.2.1)))), (7, (iV (y3.2.2)))] [] [(57, (iV (y3.2.2)))] [],
                OD.mk [(56, (bV ((y3.2.1) == (y5.2.1)))), (10, (iV (y5.2.2)))] [] [(58, (iV (y5.2.2)))] [],
                OD.mk [(56, (bV ((y3.2.1) == (y5.2.1)))), (57, (iV (y3.2.2))), (58, (iV (y5.2.2)))] [] [(59, (bV ((y3.2.2) == (y5.2.2))))] [],
                OD.mk [(56, (bV ((y3.2.1) == (y5.2.1)))), (59, (bV ((y3.2.2) == (y5.2.2))))] [] [(60, (bV ((y3.2.2) == (y5.2.2))))] [],
                OD.mk [(60, (bV ((y3.2.2) == (y5.2.2))))] [] [(61, (bV ((y3.2.2) == (y5.2.2))))] [],
                OD.mk [(61, (bV ((y3.2.2) == (y5.2.2))))] [] [(62, (V.con undef))] [],
                OD.mk [(61, (bV ((y3.2.2) == (y5.2.2))))] [] [(63, (V.con undef))] [],
                OD.mk [(61, (bV ((y3.2.2) == (y5.2.2))))] [] [(64, (V.con undef))] [],
                OD.mk [(61, (bV ((y3.2.2) == (y5.2.2))))] [] [(65, (bV false))] [],
                OD.mk [(65, (bV false))] [] [(66, (bV false))] [],
                OD.mk [(66, (bV false))] [] [(67, (V.con undef))] [],
                OD.mk [(66, (bV false))] [] [(68, (V.con undef))] [],
                OD.mk [(66, (bV false))] [] [(69, (V.con undef))] [],
                OD.mk [(66, (bV false))] [] [(70, (bV false))] [],
                OD.mk [(70, (bV false))] [] [(71, (bV false))] [],
                OD.mk [(71, (bV false))] [] [(72, (V.con undef))] [],
                OD.mk [(71, (bV false))] [] [(73, (bV false))] [],
                OD.mk [(73, (bV false))] [] [(4, (bV false))] []] mixed ⟨⟨rfl, trivial⟩, ⟨rfl, trivial⟩, ⟨⟨rfl, trivial⟩, trivial, ⟨⟨rfl, trivial⟩, ⟨rfl, trivial⟩, ⟨⟨rfl, trivial⟩, trivial, ⟨⟨rfl, rfl, trivial⟩, trivial, ⟨⟨rfl, trivial⟩, trivial, ⟨⟨rfl, rfl, trivial⟩, ⟨rfl, trivial⟩, ⟨⟨rfl, rfl, trivial⟩, ⟨rfl, trivial⟩, ⟨⟨rfl, rfl, rfl, trivial⟩, trivial, ⟨⟨rfl, rfl, trivial⟩, trivial, ⟨⟨rfl, trivial⟩, trivial, ⟨⟨rfl, rfl, trivial⟩, trivial, ⟨⟨rfl, rfl, trivial⟩, trivial, ⟨⟨rfl, rfl, rfl, trivial⟩, trivial, ⟨⟨rfl, rfl, trivial⟩, trivial, ⟨⟨rfl, trivial⟩, trivial, ⟨⟨rfl, rfl, trivial⟩, trivial, ⟨⟨rfl, rfl, trivial⟩, trivial, ⟨⟨rfl, rfl, rfl, trivial⟩, trivial, ⟨⟨rfl, rfl, trivial⟩, trivial, ⟨⟨rfl, trivial⟩, trivial, ⟨⟨rfl, trivial⟩, trivial, ⟨⟨rfl, trivial⟩, trivial, ⟨⟨rfl, trivial⟩, trivial, ⟨⟨rfl, trivial⟩, trivial, ⟨⟨rfl, trivial⟩, trivial, ⟨⟨rfl, trivial⟩, trivial, ⟨⟨rfl, trivial⟩, trivial, ⟨⟨rfl, trivial⟩, trivial, ⟨⟨rfl, trivial⟩, trivial, ⟨⟨rfl, trivial⟩, trivial, ⟨⟨rfl, trivial⟩, trivial, ⟨⟨rfl, trivial⟩, trivial, ⟨⟨rfl, trivial⟩, trivial, trivial⟩⟩⟩⟩⟩⟩⟩⟩⟩⟩⟩⟩⟩⟩⟩⟩⟩⟩⟩⟩⟩⟩⟩⟩⟩⟩⟩⟩⟩⟩⟩⟩⟩⟩ (by kernel_rfl) (.cons (fun S hn h hh => aops_load_agg (cs := [(sV a1.Product), (V.lst 3 (a1.Releases.map encTRelease)), (V.lst 3 (a1.Known.map encTPublished)), (iV a1.Until)]) tA52 wants_none h.1 hh.1 rfl rfl rfl rfl (aops_nil ⟨rfl, rfl⟩)) (.cons (fun S hn h hh => aops_call (iV y11) [(V.agg [(sV a1.Product), (V.lst 3 (a1.Releases.map encTRelease)), (V.lst 3 (a1.Known.map encTPublished)), (iV a1.Until)])] fOk35 wants_none (evm_cons h.1 evm_nil) (.cons (Imm.agg (.cons (Imm.con _) (.cons (Imm.lst _ _) (.cons (Imm.lst _ _) (.cons (Imm.con _) .nil))))) .nil) (W35 F a1 y11 hx12) rfl (aops_nil ⟨rfl, rfl⟩)) (.cons (fun S hn h hh => aops_load_agg (cs := [(sV a1.Product), (V.lst 3 (a1.Releases.map encTRelease)), (V.lst 3 (a1.Known.map encTPublished)), (iV a1.Until)]) tA52 wants_none h.1 hh.1 rfl rfl rfl rfl (aops_nil ⟨rfl, rfl⟩)) (.cons (fun S hn h hh => aops_call (iV y13) [(V.agg [(sV a1.Product), (V.lst 3 (a1.Releases.map encTRelease)), (V.lst 3 (a1.Known.map encTPublished)), (iV a1.Until)])] fOk36 wants_none (evm_cons h.1 evm_nil) (.cons (Imm.agg (.cons (Imm.con _) (.cons (Imm.lst _ _) (.cons (Imm.lst _ _) (.cons (Imm.con _) .nil))))) .nil) (W36 F a1 y13 hx14) rfl (aops_nil ⟨rfl, rfl⟩)) (.cons (fun S hn h hh => aops_bin (.bool (y11 == y13)) wants_none h.1 h.2.1 rfl rfl (aops_nil ⟨rfl, rfl⟩)) (.cons (fun S hn h hh => aops_move (bV (y11 == y13)) wants_none h.1 rfl (aops_nil ⟨rfl, rfl⟩)) (.cons (fun S hn h hh => aops_load_agg (cs := [(sV (y3.1).Version), (iV (y3.1).Day), (V.lst 3 ((y3.1).Exposures.map encTExposure))]) tA42 (wants_some (c := (y11 == y13)) (b := true) 46 rfl h.1 hb15) h.2.1 hh.1 rfl rfl rfl rfl (aops_nil ⟨rfl, rfl⟩)) (.cons (fun S hn h hh => aops_load_agg (cs := [(sV (y5.1).Version), (iV (y5.1).Day), (V.lst 3 ((y5.1).Exposures.map encTExposure))]) tA42 (wants_some (c := (y11 == y13)) (b := true) 46 rfl h.1 hb15) h.2.1 hh.1 rfl rfl rfl rfl (aops_nil ⟨rfl, rfl⟩)) (.cons (fun S hn h hh => aops_call (bV y16) [(V.agg [(sV (y3.1).Version), (iV (y3.1).Day), (V.lst 3 ((y3.1).Exposures.map encTExposure))]), (V.agg [(sV (y5.1).Version), (iV (y5.1).Day), (V.lst 3 ((y5.1).Exposures.map encTExposure))])] fOk37 (wants_some (c := (y11 == y13)) (b := true) 46 rfl h.1 hb15) (evm_cons h.2.1 (evm_cons h.2.2.1 evm_nil)) (.cons (Imm.agg (.cons (Imm.con _) (.cons (Imm.con _) (.cons (Imm.lst _ _) .nil)))) (.cons (Imm.agg (.cons (Imm.con _) (.cons (Imm.con _) (.cons (Imm.lst _ _) .nil)))) .nil)) (W37 F (y3.1) (y5.1) y16 hx17) rfl (aops_nil ⟨rfl, rfl⟩)) (.cons (fun S hn h hh => aops_pick true (cb := (y11 == y13)) (bV y16) wants_none h.1 hb15 h.2.1 rfl (aops_nil ⟨rfl, rfl⟩)) (.cons (fun S hn h hh => aops_move (bV y16) wants_none h.1 rfl (aops_nil ⟨rfl, rfl⟩)) (.cons (fun S hn h hh => aops_move (bV (y3.2.1)) (wants_some (c := y16) (b := true) 51 rfl h.1 hb18) h.2.1 rfl (aops_nil ⟨rfl, rfl⟩)) (.cons (fun S hn h hh => aops_move (bV (y5.2.1)) (wants_some (c := y16) (b := true) 51 rfl h.1 hb18) h.2.1 rfl (aops_nil ⟨rfl, rfl⟩)) (.cons (fun S hn h hh => aops_beq false (wants_some (c := y16) (b := true) 51 rfl h.1 hb18) tU4 h.2.1 h.2.2.1 rfl (aops_nil ⟨rfl, rfl⟩)) (.cons (fun S hn h hh => aops_pick true (cb := y16) (bV ((y3.2.1) == (y5.2.1))) wants_none h.1 hb18 h.2.1 rfl (aops_nil ⟨rfl, rfl⟩)) (.cons (fun S hn h hh => aops_move (bV ((y3.2.1) == (y5.2.1))) wants_none h.1 rfl (aops_nil ⟨rfl, rfl⟩)) (.cons (fun S hn h hh => aops_move (iV (y3.2.2)) (wants_some (c := ((y3.2.1) == (y5.2.1))) (b := true) 56 rfl h.1 hb19) h.2.1 rfl (aops_nil ⟨rfl, rfl⟩)) (.cons (fun S hn h hh => aops_move (iV (y5.2.2)) (wants_some (c := ((y3.2.1) == (y5.2.1))) (b := true) 56 rfl h.1 hb19) h.2.1 rfl (aops_nil ⟨rfl, rfl⟩)) (.cons (fun S hn h hh => aops_bin (.bool ((y3.2.2) == (y5.2.2))) (wants_some (c := ((y3.2.1) == (y5.2.1))) (b := true) 56 rfl h.1 hb19) h.2.1 h.2.2.1 rfl rfl (aops_nil ⟨rfl, rfl⟩)) (.cons (fun S hn h hh => aops_pick true (cb := ((y3.2.1) == (y5.2.1))) (bV ((y3.2.2) == (y5.2.2))) wants_none h.1 hb19 h.2.1 rfl (aops_nil ⟨rfl, rfl⟩)) (.cons (fun S hn h hh => aops_move (bV ((y3.2.2) == (y5.2.2))) wants_none h.1 rfl (aops_nil ⟨rfl, rfl⟩)) (.cons (fun S hn h hh => aops_skip (wants_some (c := ((y3.2.2) == (y5.2.2))) (b := false) 61 rfl h.1 hb20) rfl rfl (aops_nil ⟨rfl, rfl⟩)) (.cons (fun S hn h hh => aops_skip (wants_some (c := ((y3.2.2) == (y5.2.2))) (b := false) 61 rfl h.1 hb20) rfl rfl (aops_nil ⟨rfl, rfl⟩)) (.cons (fun S hn h hh => aops_skip (wants_some (c := ((y3.2.2) == (y5.2.2))) (b := false) 61 rfl h.1 hb20) rfl rfl (aops_nil ⟨rfl, rfl⟩)) (.cons (fun S hn h hh => aops_pick false (cb := ((y3.2.2) == (y5.2.2))) (bV false) wants_none h.1 hb20 rfl rfl (aops_nil ⟨rfl, rfl⟩)) (.cons (fun S hn h hh => aops_move (bV false) wants_none h.1 rfl (aops_nil ⟨rfl, rfl⟩)) (.cons (fun S hn h hh => aops_skip (wants_some (c := false) (b := false) 66 rfl h.1 rfl) rfl rfl (aops_nil ⟨rfl, rfl⟩)) (.cons (fun S hn h hh => aops_skip (wants_some (c := false) (b := false) 66 rfl h.1 rfl) rfl rfl (aops_nil ⟨rfl, rfl⟩)) (.cons (fun S hn h hh => aops_skip (wants_some (c := false) (b := false) 66 rfl h.1 rfl) rfl rfl (aops_nil ⟨rfl, rfl⟩)) (.cons (fun S hn h hh => aops_pick false (cb := false) (bV false) wants_none h.1 rfl rfl rfl (aops_nil ⟨rfl, rfl⟩)) (.cons (fun S hn h hh => aops_move (bV false) wants_none h.1 rfl (aops_nil ⟨rfl, rfl⟩)) (.cons (fun S hn h hh => aops_skip (wants_some (c := false) (b := false) 71 rfl h.1 rfl) rfl rfl (aops_nil ⟨rfl, rfl⟩)) (.cons (fun S hn h hh => aops_pick false (cb := false) (bV false) wants_none h.1 rfl rfl rfl (aops_nil ⟨rfl, rfl⟩)) (.cons (fun S hn h hh => aops_assign (bV false) wants_none h.1 rfl (aops_nil ⟨rfl, rfl⟩)) .nil)))))))))))))))))))))))))))))))))) ?_
          refine awp_ret ?_
          obtain rfl := Option.some.inj h
          exact ⟨.inl rfl, .one (.tmp rfl (Imm.con _))⟩
      · replace h := ite_f hb19 h
        refine awp_any [OD.mk [(2, (V.ptr 0 4 0 0))] [(0, (Ob.arr 52 4 [[(sV a1.Product), (V.lst 3 (a1.Releases.map encTRelease)), (V.lst 3 (a1.Known.map encTPublished)), (iV a1.Until)]]))] [(41, (V.agg [(sV a1.Product), (V.lst 3 (a1.Releases.map encTRelease)), (V.lst 3 (a1.Known.map encTPublished)), (iV a1.Until)]))] [],
              OD.mk [(41, (V.agg [(sV a1.Product), (V.lst 3 (a1.Releases.map encTRelease)), (V.lst 3 (a1.Known.map encTPublished)), (iV a1.Until)]))] [] [(42, (iV y11))] [],
              OD.mk [(2, (V.ptr 0 4 0 0))] [(0, (Ob.arr 52 4 [[(sV a1.Product), (V.lst 3 (a1.Releases.map encTRelease)), (V.lst 3 (a1.Known.map encTPublished)), (iV a1.Until)]]))] [(43, (V.agg [(sV a1.Product), (V.lst 3 (a1.Releases.map encTRelease)), (V.lst 3 (a1.Known.map encTPublished)), (iV a1.Until)]))] [],
              OD.mk [(43, (V.agg [(sV a1.Product), (V.lst 3 (a1.Releases.map encTRelease)), (V.lst 3 (a1.Known.map encTPublished)), (iV a1.Until)]))] [] [(44, (iV y13))] [],
              OD.mk [(42, (iV y11)), (44, (iV y13))] [] [(45, (bV (y11 == y13)))] [],
              OD.mk [(45, (bV (y11 == y13)))] [] [(46, (bV (y11 == y13)))] [],
              OD.mk [(46, (bV (y11 == y13))), (5, (V.ptr 1 3 0 0))] [(1, (Ob.arr 42 3 [[(sV (y3.1).Version), (iV (y3.1).Day), (V.lst 3 ((y3.1).Exposures.map encTExposure))]]))] [(47, (V.agg [(sV (y3.1).Version), (iV (y3.1).Day), (V.lst 3 ((y3.1).Exposures.map encTExposure))]))] [],
              OD.mk [(46, (bV (y11 == y13))), (8, (V.ptr 2 3 0 0))] [(2, (Ob.arr 42 3 [[(sV (y5.1).Version), (iV (y5.1).Day), (V.lst 3 ((y5.1).Exposures.map encTExposure))]]))] [(48, (V.agg [(sV (y5.1).Version), (iV (y5.1).Day), (V.lst 3 ((y5.1).Exposures.map encTExposure))]))] [],
              OD.mk [(46, (bV (y11 == y13))), (47, (V.agg [(sV (y3.1).Version), (iV (y3.1).Day), (V.lst 3 ((y3.1).Exposures.map encTExposure))])), (48, (V.agg [(sV (y5.1).Version), (iV (y5.1).Day), (V.lst 3 ((y5.1).Exposures.map encTExposure))]))] [] [(49, (bV y16))] [],
              OD.mk [(46, (bV (y11 == y13))), (49, (bV y16))] [] [(50, (bV y16))] [],
              OD.mk [(50, (bV y16))] [] [(51, (bV y16))] [],
              OD.mk [(51, (bV y16)), (6, (bV (y3.2.1)))] [] [(52, (bV (y3.2.1)))] [],
              OD.mk [(51, (bV y16)), (9, (bV (y5.2.1)))] [] [(53, (bV (y5.2.1)))] [],
              OD.mk [(51, (bV y16)), (52, (bV (y3.2.1))), (53, (bV (y5.2.1)))] [] [(54, (bV ((y3.2.1) == (y5.2.1))))] [],
              OD.mk [(51, (bV y16)), (54, (bV ((y3.2.1) == (y5.2.1))))] [] [(55, (bV ((y3.2.1) == (y5.2.1))))] [],
              OD.mk [(55, (bV ((y3.2.1) == (y5.2.1))))] [] [(56, (bV ((y3.2.1) == (y5.2.1))))] [],
              OD.mk [(56, (bV ((y3.2.1) == (y5.2.1))))] [] [(57, (V.con undef))] [],
              OD.mk [(56, (bV ((y3.2.1) == (y5.2.1))))] [] [(58, (V.con undef))] [],
              OD.mk [(56, (bV ((y3.2.1) == (y5.2.1))))] [] [(59, (V.con undef))] [],
              OD.mk [(56, (bV ((y3.2.1) == (y5.2.1))))] [] [(60, (bV false))] [],
              OD.mk [(60, (bV false))] [] [(61, (bV false))] [],
              OD.mk [(61, (bV false))] [] [(62, (V.con undef))] [],
              OD.mk [(61, (bV false))] [] [(63, (V.con undef))] [],
              OD.mk [(61, (bV false))] [] [(64, (V.con undef))] [],
              OD.mk [(61, (bV false))] [] [(65, (bV false))] [],
              OD.mk [(65, (bV false))] [] [(66, (bV false))] [],
              OD.mk [(66, (bV false))] [] [(67, (V.con undef))] [],
              OD.mk [(66, (bV false))] [] [(68, (V.con undef))] [],
              OD.mk [(66, (bV false))] [] [(69, (V.con undef))] [],
              OD.mk [(66, (bV false))] [] [(70, (bV false))] [],
              OD.mk [(70, (bV false))] [] [(71, (bV false))] [],
              OD.mk [(71, (bV false))] [] [(72, (V.con undef))] [],
              OD.mk [(71, (bV false))] [] [(73, (bV false))] [],
              OD.mk [(73, (bV false))] [] [(4, (bV false))] []] mixed ⟨⟨rfl, trivial⟩, ⟨rfl, trivial⟩, ⟨⟨rfl, trivial⟩, trivial, ⟨⟨rfl, trivial⟩, ⟨rfl, trivial⟩, ⟨⟨rfl, trivial⟩, trivial, ⟨⟨rfl, rfl, trivial⟩, trivial, ⟨⟨rfl, trivial⟩, trivial, ⟨⟨rfl, rfl, trivial⟩, ⟨rfl, trivial⟩, ⟨⟨rfl, rfl, trivial⟩, ⟨rfl, trivial⟩, ⟨⟨rfl, rfl, rfl, trivial⟩, trivial, ⟨⟨rfl, rfl, trivial⟩, trivial, ⟨⟨rfl, trivial⟩, trivial, ⟨⟨rfl, rfl, trivial⟩, trivial, ⟨⟨rfl, rfl, trivial⟩, trivial, ⟨⟨rfl, rfl, rfl, trivial⟩, trivial, ⟨⟨rfl, rfl, trivial⟩, trivial, ⟨⟨rfl, trivial⟩, trivial, ⟨⟨rfl, trivial⟩, trivial, ⟨⟨rfl, trivial⟩, trivial, ⟨⟨rfl, trivial⟩, trivial, ⟨⟨rfl, trivial⟩, trivial, ⟨⟨rfl, trivial⟩, trivial, ⟨⟨rfl, trivial⟩, trivial, ⟨⟨rfl, trivial⟩, trivial, ⟨⟨rfl, trivial⟩, trivial, ⟨⟨rfl, trivial⟩, trivial, ⟨⟨rfl, trivial⟩, trivial, ⟨⟨rfl, trivial⟩, trivial, ⟨⟨rfl, trivial⟩, trivial, ⟨⟨rfl, trivial⟩, trivial, ⟨⟨rfl, trivial⟩, trivial, ⟨⟨rfl, trivial⟩, trivial, ⟨⟨rfl, trivial⟩, trivial, ⟨⟨rfl, trivial⟩, trivial, ⟨⟨rfl, trivial⟩, trivial, trivial⟩⟩⟩⟩⟩⟩⟩⟩⟩⟩⟩⟩⟩⟩⟩⟩⟩⟩⟩⟩⟩⟩⟩⟩⟩⟩⟩⟩⟩⟩⟩⟩⟩⟩ (by kernel_rfl) (.cons (fun S hn h hh => aops_load_agg (cs := [(sV a1.Product), (V.lst 3 (a1.Releases.map encTRelease)), (V.lst 3 (a1.Known.map encTPublished)), (iV a1.Until)]) tA52 wants_none h.1 hh.1 rfl rfl rfl rfl (aops_nil ⟨rfl, rfl⟩)) (.cons (fun S hn h hh => aops_call (iV y11) [(V.agg [(sV a1.Product), (V.lst 3 (a1.Releases.map encTRelease)), (V.lst 3 (a1.Known.map encTPublished)), (iV a1.Until)])] fOk35 wants_none (evm_cons h.1 evm_nil) (.cons (Imm.agg (.cons (Imm.con _) (.cons (Imm.lst _ _) (.cons (Imm.lst _ _) (.cons (Imm.con _) .nil))))) .nil) (W35 F a1 y11 hx12) rfl (aops_nil ⟨rfl, rfl⟩)) (.cons (fun S hn h hh => aops_load_agg (cs := [(sV a1.Product), (V.lst 3 (a1.Releases.map encTRelease)), (V.lst 3 (a1.Known.map encTPublished)), (iV a1.Until)]) tA52 wants_none h.1 hh.1 rfl rfl rfl rfl (aops_nil ⟨rfl, rfl⟩)) (.cons (fun S hn h hh => aops_call (iV y13) [(V.agg [(sV a1.Product), (V.lst 3 (a1.Releases.map encTRelease)), (V.lst 3 (a1.Known.map encTPublished)), (iV a1.Until)])] fOk36 wants_none (evm_cons h.1 evm_nil) (.cons (Imm.agg (.cons (Imm.con _) (.cons (Imm.lst _ _) (.cons (Imm.lst _ _) (.cons (Imm.con _) .nil))))) .nil) (W36 F a1 y13 hx14) rfl (aops_nil ⟨rfl, rfl⟩)) (.cons (fun S hn h hh => aops_bin (.bool (y11 == y13)) wants_none h.1 h.2.1 rfl rfl (aops_nil ⟨rfl, rfl⟩)) (.cons (fun S hn h hh => aops_move (bV (y11 == y13)) wants_none h.1 rfl (aops_nil ⟨rfl, rfl⟩)) (.cons (fun S hn h hh => aops_load_agg (cs := [(sV (y3.1).Version), (iV (y3.1).Day), (V.lst 3 ((y3.1).Exposures.map encTExposure))]) tA42 (wants_some (c := (y11 == y13)) (b := true) 46 rfl h.1 hb15) h.2.1 hh.1 rfl rfl rfl rfl (aops_nil ⟨rfl, rfl⟩)) (.cons (fun S hn h hh => aops_load_agg (cs := [(sV (y5.1).Version), (iV (y5.1).Day), (V.lst 3 ((y5.1).Exposures.map encTExposure))]) tA42 (wants_some (c := (y11 == y13)) (b := true) 46 rfl h.1 hb15) h.2.1 hh.1 rfl rfl rfl rfl (aops_nil ⟨rfl, rfl⟩)) (.cons (fun S hn h hh => aops_call (bV y16) [(V.agg [(sV (y3.1).Version), (iV (y3.1).Day), (V.lst 3 ((y3.1).Exposures.map encTExposure))]), (V.agg [(sV (y5.1).Version), (iV (y5.1).Day), (V.lst 3 ((y5.1).Exposures.map encTExposure))])] fOk37 (wants_some (c := (y11 == y13)) (b := true) 46 rfl h.1 hb15) (evm_cons h.2.1 (evm_cons h.2.2.1 evm_nil)) (.cons (Imm.agg (.cons (Imm.con _) (.cons (Imm.con _) (.cons (Imm.lst _ _) .nil)))) (.cons (Imm.agg (.cons (Imm.con _) (.cons (Imm.con _) (.cons (Imm.lst _ _) .nil)))) .nil)) (W37 F (y3.1) (y5.1) y16 hx17) rfl (aops_nil ⟨rfl, rfl⟩)) (.cons (fun S hn h hh => aops_pick true (cb := (y11 == y13)) (bV y16) wants_none h.1 hb15 h.2.1 rfl (aops_nil ⟨rfl, rfl⟩)) (.cons (fun S hn h hh => aops_move (bV y16) wants_none h.1 rfl (aops_nil ⟨rfl, rfl⟩)) (.cons (fun S hn h hh => aops_move (bV (y3.2.1)) (wants_some (c := y16) (b := true) 51 rfl h.1 hb18) h.2.1 rfl (aops_nil ⟨rfl, rfl⟩)) (.cons (fun S hn h hh => aops_move (bV (y5.2.1)) (wants_some (c := y16) (b := true) 51 rfl h.1 hb18) h.2.1 rfl (aops_nil ⟨rfl, rfl⟩)) (.cons (fun S hn h hh => aops_beq false (wants_some (c := y16) (b := true) 51 rfl h.1 hb18) tU4 h.2.1 h.2.2.1 rfl (aops_nil ⟨rfl, rfl⟩)) (.cons (fun S hn h hh => aops_pick true (cb := y16) (bV ((y3.2.1) == (y5.2.1))) wants_none h.1 hb18 h.2.1 rfl (aops_nil ⟨rfl, rfl⟩)) (.cons (fun S hn h hh => aops_move (bV ((y3.2.1) == (y5.2.1))) wants_none h.1 rfl (aops_nil ⟨rfl, rfl⟩)) (.cons (fun S hn h hh => aops_skip (wants_some (c := ((y3.2.1) == (y5.2.1))) (b := false) 56 rfl h.1 hb19) rfl rfl (aops_nil ⟨rfl, rfl⟩)) (.cons (fun S hn h hh => aops_skip (wants_some (c := ((y3.2.1) == (y5.2.1))) (b := false) 56 rfl h.1 hb19) rfl rfl (aops_nil ⟨rfl, rfl⟩)) (.cons (fun S hn h hh => aops_skip (wants_some (c := ((y3.2.1) == (y5.2.1))) (b := false) 56 rfl h.1 hb19) rfl rfl (aops_nil ⟨rfl, rfl⟩)) (.cons (fun S hn h hh => aops_pick false (cb := ((y3.2.1) == (y5.2.1))) (bV false) wants_none h.1 hb19 rfl rfl (aops_nil ⟨rfl, rfl⟩)) (.cons (fun S hn h hh => aops_move (bV false) wants_none h.1 rfl (aops_nil ⟨rfl, rfl⟩)) (.cons (fun S hn h hh => aops_skip (wants_some (c := false) (b := false) 61 rfl h.1 rfl) rfl rfl (aops_nil ⟨rfl, rfl⟩)) (.cons (fun S hn h hh => aops_skip (wants_some (c := false) (b := false) 61 rfl h.1 rfl) rfl rfl (aops_nil ⟨rfl, rfl⟩)) (.cons (fun S hn h hh => aops_skip (wants_some (c := false) (b := false) 61 rfl h.1 rfl) rfl rfl (aops_nil ⟨rfl, rfl⟩)) (.cons (fun S hn h hh => aops_pick false (cb := false) (bV false) wants_none h.1 rfl rfl rfl (aops_nil ⟨rfl, rfl⟩)) (.cons (fun S hn h hh => aops_move (bV false) wants_none h.1 rfl (aops_nil ⟨rfl, rfl⟩)) (.cons (fun S hn h hh => aops_skip (wants_some (c := false) (b := false) 66 rfl h.1 rfl) rfl rfl (aops_nil ⟨rfl, rfl⟩)) (.cons (fun S hn h hh => aops_skip (wants_some (c := false) (b := false) 66 rfl h.1 rfl) rfl rfl (aops_nil ⟨rfl, rfl⟩)) (.cons (fun S hn h hh => aops_skip (wants_some (c := false) (b := false) 66 rfl h.1 rfl) rfl rfl (aops_nil ⟨rfl, rfl⟩)) (.cons (fun S hn h hh => aops_pick false (cb := false) (bV false) wants_none h.1 rfl rfl rfl (aops_nil ⟨rfl, rfl⟩)) (.cons (fun S hn h hh => aops_move (bV false) wants_none h.1 rfl (aops_nil ⟨rfl, rfl⟩)) (.cons (fun S hn h hh => aops_skip (wants_some (c := false) (b := false) 71 rfl h.1 rfl) rfl rfl (aops_nil ⟨rfl, rfl⟩)) (.cons (fun S hn h hh => aops_pick false (cb := false) (bV false) wants_none h.1 rfl rfl rfl (aops_nil ⟨rfl, rfl⟩)) (.cons (fun S hn h hh => aops_assign (bV false) wants_none h.1 rfl (aops_nil ⟨rfl, rfl⟩)) .nil)))))))))))))))))))))))))))))))))) ?_
        refine awp_ret ?_
        obtain rfl := Option.some.inj h
        exact ⟨.inl rfl, .one (.tmp rfl (Imm.con _))⟩
    · replace h := ite_f hb18 h
      refine awp_any [OD.mk [(2, (V.ptr 0 4 0 0))] [(0, (Ob.arr 52 4 [[(sV a1.Product), (V.lst 3 (a1.Releases.map encTRelease)), (V.lst 3 (a1.Known.map encTPublished)), (iV a1.Until)]]))] [(41, (V.agg [(sV a1.Product), (V.lst 3 (a1.Releases.map encTRelease)), (V.lst 3 (a1.Known.map encTPublished)), (iV a1.Until)]))] [],
            OD.mk [(41, (V.agg [(sV a1.Product), (V.lst 3 (a1.Releases.map encTRelease)), (V.lst 3 (a1.Known.map encTPublished)), (iV a1.Until)]))] [] [(42, (iV y11))] [],
            OD.mk [(2, (V.ptr 0 4 0 0))] [(0, (Ob.arr 52 4 [[(sV a1.Product), (V.lst 3 (a1.Releases.map encTRelease)), (V.lst 3 (a1.Known.map encTPublished)), (iV a1.Until)]]))] [(43, (V.agg [(sV a1.Product), (V.lst 3 (a1.Releases.map encTRelease)), (V.lst 3 (a1.Known.map encTPublished)), (iV a1.Until)]))] [],
            OD.mk [(43, (V.agg [(sV a1.Product), (V.lst 3 (a1.Releases.map encTRelease)), (V.lst 3 (a1.Known.map encTPublished)), (iV a1.Until)]))] [] [(44, (iV y13))] [],
            OD.mk [(42, (iV y11)), (44, (iV y13))] [] [(45, (bV (y11 == y13)))] [],
            OD.mk [(45, (bV (y11 == y13)))] [] [(46, (bV (y11 == y13)))] [],
            OD.mk [(46, (bV (y11 == y13))), (5, (V.ptr 1 3 0 0))] [(1, (Ob.arr 42 3 [[(sV (y3.1).Version), (iV (y3.1).Day), (V.lst 3 ((y3.1).Exposures.map encTExposure))]]))] [(47, (V.agg [(sV (y3.1).Version), (iV (y3.1).Day), (V.lst 3 ((y3.1).Exposures.map encTExposure))]))] [],
            OD.mk [(46, (bV (y11 == y13))), (8, (V.ptr 2 3 0 0))] [(2, (Ob.arr 42 3 [[(sV (y5.1).Version), (iV (y5.1).Day), (V.lst 3 ((y5.1).Exposures.map encTExposure))]]))] [(48, (V.agg [(sV (y5.1).Version), (iV (y5.1).Day), (V.lst 3 ((y5.1).Exposures.map encTExposure))]))] [],
            OD.mk [(46, (bV (y11 == y13))), (47, (V.agg [(sV (y3.1).Version), (iV (y3.1).Day), (V.lst 3 ((y3.1).Exposures.map encTExposure))])), (48, (V.agg [(sV (y5.1).Version), (iV (y5.1).Day), (V.lst 3 ((y5.1).Exposures.map encTExposure))]))] [] [(49, (bV y16))] [],
            OD.mk [(46, (bV (y11 == y13))), (49, (bV y16))] [] [(50, (bV y16))] [],
            OD.mk [(50, (bV y16))] [] [(51, (bV y16))] [],
            OD.mk [(51, (bV y16))] [] [(52, (V.con undef))] [],
            OD.mk [(51, (bV y16))] [] [(53, (V.con undef))] [],
            OD.mk [(51, (bV y16))] [] [(54, (V.con undef))] [],
            OD.mk [(51, (bV y16))] [] [(55, (bV false))] [],
            OD.mk [(55, (bV false))] [] [(56, (bV false))] [],
            OD.mk [(56, (bV false))] [] [(57, (V.con undef))] [],
            OD.mk [(56, (bV false))] [] [(58, (V.con undef))] [],
            OD.mk [(56, (bV false))] [] [(59, (V.con undef))] [],
            OD.mk [(56, (bV false))] [] [(60, (bV false))] [],
            OD.mk [(60, (bV false))] [] [(61, (bV false))] [],
            OD.mk [(61, (bV false))] [] [(62, (V.con undef))] [],
            OD.mk [(61, (bV false))] [] [(63, (V.con undef))] [],
            OD.mk [(61, (bV false))] [] [(64, (V.con undef))] [],
            OD.mk [(61, (bV false))] [] [(65, (bV false))] [],
            OD.mk [(65, (bV false))] [] [(66, (bV false))] [],
            OD.mk [(66, (bV false))] [] [(67, (V.con undef))] [],
            OD.mk [(66, (bV false))] [] [(68, (V.con undef))] [],
            OD.mk [(66, (bV false))] [] [(69, (V.con undef))] [],
            OD.mk [(66, (bV false))] [] [(70, (bV false))] [],
            OD.mk [(70, (bV false))] [] [(71, (bV false))] [],
            OD.mk [(71, (bV false))] [] [(72, (V.con undef))] [],
            OD.mk [(71, (bV false))] [] [(73, (bV false))] [],
            OD.mk [(73, (bV false))] [] [(4, (bV false))] []] mixed ⟨⟨rfl, trivial⟩, ⟨rfl, trivial⟩, ⟨⟨rfl, trivial⟩, trivial, ⟨⟨rfl, trivial⟩, ⟨rfl, trivial⟩, ⟨⟨rfl, trivial⟩, trivial, ⟨⟨rfl, rfl, trivial⟩, trivial, ⟨⟨rfl, trivial⟩, trivial, ⟨⟨rfl, rfl, trivial⟩, ⟨rfl, trivial⟩, ⟨⟨rfl, rfl, trivial⟩, ⟨rfl, trivial⟩, ⟨⟨rfl, rfl, rfl, trivial⟩, trivial, ⟨⟨rfl, rfl, trivial⟩, trivial, ⟨⟨rfl, trivial⟩, trivial, ⟨⟨rfl, trivial⟩, trivial, ⟨⟨rfl, trivial⟩, trivial, ⟨⟨rfl, trivial⟩, trivial, ⟨⟨rfl, trivial⟩, trivial, ⟨⟨rfl, trivial⟩, trivial, ⟨⟨rfl, trivial⟩, trivial, ⟨⟨rfl, trivial⟩, trivial, ⟨⟨rfl, trivial⟩, trivial, ⟨⟨rfl, trivial⟩, trivial, ⟨⟨rfl, trivial⟩, trivial, ⟨⟨rfl, trivial⟩, trivial, ⟨⟨rfl, trivial⟩, trivial, ⟨⟨rfl, trivial⟩, trivial, ⟨⟨rfl, trivial⟩, trivial, ⟨⟨rfl, trivial⟩, trivial, ⟨⟨rfl, trivial⟩, trivial, ⟨⟨rfl, trivial⟩, trivial, ⟨⟨rfl, trivial⟩, trivial, ⟨⟨rfl, trivial⟩, trivial, ⟨⟨rfl, trivial⟩, trivial, ⟨⟨rfl, trivial⟩, trivial, ⟨⟨rfl, trivial⟩, trivial, ⟨⟨rfl, trivial⟩, trivial, trivial⟩⟩⟩⟩⟩⟩⟩⟩⟩⟩⟩⟩⟩⟩⟩⟩⟩⟩⟩⟩⟩⟩⟩⟩⟩⟩⟩⟩⟩⟩⟩⟩⟩⟩ (by kernel_rfl) (.cons (fun S hn h hh => aops_load_agg (cs := [(sV a1.Product), (V.lst 3 (a1.Releases.map encTRelease)), (V.lst 3 (a1.Known.map encTPublished)), (iV a1.Until)]) tA52 wants_none h.1 hh.1 rfl rfl rfl rfl (aops_nil ⟨rfl, rfl⟩)) (.cons (fun S hn h hh => aops_call (iV y11) [(V.agg [(sV a1.Product), (V.lst 3 (a1.Releases.map encTRelease)), (V.lst 3 (a1.Known.map encTPublished)), (iV a1.Until)])] fOk35 wants_none (evm_cons h.1 evm_nil) (.cons (Imm.agg (.cons (Imm.con _) (.cons (Imm.lst _ _) (.cons (Imm.lst _ _) (.cons (Imm.con _) .nil))))) .nil) (W35 F a1 y11 hx12) rfl (aops_nil ⟨rfl, rfl⟩)) (.cons (fun S hn h hh => aops_load_agg (cs := [(sV a1.Product), (V.lst 3 (a1.Releases.map encTRelease)), (V.lst 3 (a1.Known.map encTPublished)), (iV a1.Until)]) tA52 wants_none h.1 hh.1 rfl rfl rfl rfl (aops_nil ⟨rfl, rfl⟩)) (.cons (fun S hn h hh => aops_call (iV y13) [(V.agg [(sV a1.Product), (V.lst 3 (a1.Releases.map encTRelease)), (V.lst 3 (a1.Known.map encTPublished)), (iV a1.Until)])] fOk36 wants_none (evm_cons h.1 evm_nil) (.cons (Imm.agg (.cons (Imm.con _) (.cons (Imm.lst _ _) (.cons (Imm.lst _ _) (.cons (Imm.con _) .nil))))) .nil) (W36 F a1 y13 hx14) rfl (aops_nil ⟨rfl, rfl⟩)) (.cons (fun S hn h hh => aops_bin (.bool (y11 == y13)) wants_none h.1 h.2.1 rfl rfl (aops_nil ⟨rfl, rfl⟩)) (.cons (fun S hn h hh => aops_move (bV (y11 == y13)) wants_none h.1 rfl (aops_nil ⟨rfl, rfl⟩)) (.cons (fun S hn h hh => aops_load_agg (cs := [(sV (y3.1).Version), (iV (y3.1).Day), (V.lst 3 ((y3.1).Exposures.map encTExposure))]) tA42 (wants_some (c := (y11 == y13)) (b := true) 46 rfl h.1 hb15) h.2.1 hh.1 rfl rfl rfl rfl (aops_nil ⟨rfl, rfl⟩)) (.cons (fun S hn h hh => aops_load_agg (cs := [(sV (y5.1).Version), (iV (y5.1).Day), (V.lst 3 ((y5.1).Exposures.map encTExposure))]) tA42 (wants_some (c := (y11 == y13)) (b := true) 46 rfl h.1 hb15) h.2.1 hh.1 rfl rfl rfl rfl (aops_nil ⟨rfl, rfl⟩)) (.cons (fun S hn h hh => aops_call (bV y16) [(V.agg [(sV (y3.1).Version), (iV (y3.1).Day), (V.lst 3 ((y3.1).Exposures.map encTExposure))]), (V.agg [(sV (y5.1).Version), (iV (y5.1).Day), (V.lst 3 ((y5.1).Exposures.map encTExposure))])] fOk37 (wants_some (c := (y11 == y13)) (b := true) 46 rfl h.1 hb15) (evm_cons h.2.1 (evm_cons h.2.2.1 evm_nil)) (.cons (Imm.agg (.cons (Imm.con _) (.cons (Imm.con _) (.cons (Imm.lst _ _) .nil)))) (.cons (Imm.agg (.cons (Imm.con _) (.cons (Imm.con _) (.cons (Imm.lst _ _) .nil)))) .nil)) (W37 F (y3.1) (y5.1) y16 hx17) rfl (aops_nil ⟨rfl, rfl⟩)) (.cons (fun S hn h hh => aops_pick true (cb := (y11 == y13)) (bV y16) wants_none h.1 hb15 h.2.1 rfl (aops_nil ⟨rfl, rfl⟩)) (.cons (fun S hn h hh => aops_move (bV y16) wants_none h.1 rfl (aops_nil ⟨rfl, rfl⟩)) (.cons (fun S hn h hh => aops_skip (wants_some (c := y16) (b := false) 51 rfl h.1 hb18) rfl rfl (aops_nil ⟨rfl, rfl⟩)) (.cons (fun S hn h hh => aops_skip (wants_some (c := y16) (b := false) 51 rfl h.1 hb18) rfl rfl (aops_nil ⟨rfl, rfl⟩)) (.cons (fun S hn h hh => aops_skip (wants_some (c := y16) (b := false) 51 rfl h.1 hb18) rfl rfl (aops_nil ⟨rfl, rfl⟩)) (.cons (fun S hn h hh => aops_pick false (cb := y16) (bV false) wants_none h.1 hb18 rfl rfl (aops_nil ⟨rfl, rfl⟩)) (.cons (fun S hn h hh => aops_move (bV false) wants_none h.1 rfl (aops_nil ⟨rfl, rfl⟩)) (.cons (fun S hn h hh => aops_skip (wants_some (c := false) (b := false) 56 rfl h.1 rfl) rfl rfl (aops_nil ⟨rfl, rfl⟩)) (.cons (fun S hn h hh => aops_skip (wants_some (c := false) (b := false) 56 rfl h.1 rfl) rfl rfl (aops_nil ⟨rfl, rfl⟩)) (.cons (fun S hn h hh => aops_skip (wants_some (c := false) (b := false) 56 rfl h.1 rfl) rfl rfl (aops_nil ⟨rfl, rfl⟩)) (.cons (fun S hn h hh => aops_pick false (cb := false) (bV false) wants_none h.1 rfl rfl rfl (aops_nil ⟨rfl, rfl⟩)) (.cons (fun S hn h hh => aops_move (bV false) wants_none h.1 rfl (aops_nil ⟨rfl, rfl⟩)) (.cons (fun S hn h hh => aops_skip (wants_some (c := false) (b := false) 61 rfl h.1 rfl) rfl rfl (aops_nil ⟨rfl, rfl⟩)) (.cons (fun S hn h hh => aops_skip (wants_some (c := false) (b := false) 61 rfl h.1 rfl) rfl rfl (aops_nil ⟨rfl, rfl⟩)) (.cons (fun S hn h hh => aops_skip (wants_some (c := false) (b := false) 61 rfl h.1 rfl) rfl rfl (aops_nil ⟨rfl, rfl⟩)) (.cons (fun S hn h hh => aops_pick false (cb := false) (bV false) wants_none h.1 rfl rfl rfl (aops_nil ⟨rfl, rfl⟩)) (.cons (fun S hn h hh => aops_move (bV false) wants_none h.1 rfl (aops_nil ⟨rfl, rfl⟩)) (.cons (fun S hn h hh => aops_skip (wants_some (c := false) (b := false) 66 rfl h.1 rfl) rfl rfl (aops_nil ⟨rfl, rfl⟩)) (.cons (fun S hn h hh => aops_skip (wants_some (c := false) (b := false) 66 rfl h.1 rfl) rfl rfl (aops_nil ⟨rfl, rfl⟩)) (.cons (fun S hn h hh => aops_skip (wants_some (c := false) (b := false) 66 rfl h.1 rfl) rfl rfl (aops_nil ⟨rfl, rfl⟩)) (.cons (fun S hn h hh => aops_pick false (cb := false) (bV false) wants_none h.1 rfl rfl rfl (aops_nil ⟨rfl, rfl⟩)) (.cons (fun S hn h hh => aops_move (bV false) wants_none h.1 rfl (aops_nil ⟨rfl, rfl⟩)) (.cons (fun S hn h hh => aops_skip (wants_some (c := false) (b := false) 71 rfl h.1 rfl) rfl rfl (aops_nil ⟨rfl, rfl⟩)) (.cons (fun S hn h hh => aops_pick false (cb := false) (bV false) wants_none h.1 rfl rfl rfl (aops_nil ⟨rfl, rfl⟩)) (.cons (fun S hn h hh => aops_assign (bV false) wants_none h.1 rfl (aops_nil ⟨rfl, rfl⟩)) .nil)))))))))))))))))))))))))))))))))) ?_
      refine awp_ret ?_
      obtain rfl := Option.some.inj h
      exact ⟨.inl rfl, .one (.tmp rfl (Imm.con _))⟩
  · replace h := ite_f hb15 h
    refine awp_any [OD.mk [(2, (V.ptr 0 4 0 0))] [(0, (Ob.arr 52 4 [[(sV a1.Product), (V.lst 3 (a1.Releases.map encTRelease)), (V.lst 3 (a1.Known.map encTPublished)), (iV a1.Until)]]))] [(41, (V.agg [(sV a1.Product), (V.lst 3 (a1.Releases.map encTRelease)), (V.lst 3 (a1.Known.map encTPublished)), (iV a1.Until)]))] [],
          OD.mk [(41, (V.agg [(sV a1.Product), (V.lst 3 (a1.Releases.map encTRelease)), (V.lst 3 (a1.Known.map encTPublished)), (iV a1.Until)]))] [] [(42, (iV y11))] [],
          OD.mk [(2, (V.ptr 0 4 0 0))] [(0, (Ob.arr 52 4 [[(sV a1.Product), (V.lst 3 (a1.Releases.map encTRelease)), (V.lst 3 (a1.Known.map encTPublished)), (iV a1.Until)]]))] [(43, (V.agg [(sV a1.Product), (V.lst 3 (a1.Releases.map encTRelease)), (V.lst 3 (a1.Known.map encTPublished)), (iV a1.Until)]))] [],
          OD.mk [(43, (V.agg [(sV a1.Product), (V.lst 3 (a1.Releases.map encTRelease)), (V.lst 3 (a1.Known.map encTPublished)), (iV a1.Until)]))] [] [(44, (iV y13))] [],
          OD.mk [(42, (iV y11)), (44, (iV y13))] [] [(45, (bV (y11 == y13)))] [],
          OD.mk [(45, (bV (y11 == y13)))] [] [(46, (bV (y11 == y13)))] [],
          OD.mk [(46, (bV (y11 == y13)))] [] [(47, (V.con undef))] [],
          OD.mk [(46, (bV (y11 == y13)))] [] [(48, (V.con undef))] [],
          OD.mk [(46, (bV (y11 == y13)))] [] [(49, (V.con undef))] [],
          OD.mk [(46, (bV (y11 == y13)))] [] [(50, (bV false))] [],
          OD.mk [(50, (bV false))] [] [(51, (bV false))] [],
          OD.mk [(51, (bV false))] [] [(52, (V.con undef))] [],
          OD.mk [(51, (bV false))] [] [(53, (V.con undef))] [],
          OD.mk [(51, (bV false))] [] [(54, (V.con undef))] [],
          OD.mk [(51, (bV false))] [] [(55, (bV false))] [],
          OD.mk [(55, (bV false))] [] [(56, (bV false))] [],
          OD.mk [(56, (bV false))] [] [(57, (V.con undef))] [],
          OD.mk [(56, (bV false))] [] [(58, (V.con undef))] [],
          OD.mk [(56, (bV false))] [] [(59, (V.con undef))] [],
          OD.mk [(56, (bV false))] [] [(60, (bV false))] [],
          OD.mk [(60, (bV false))] [] [(61, (bV false))] [],
          OD.mk [(61, (bV false))] [] [(62, (V.con undef))] [],
          OD.mk [(61, (bV false))] [] [(63, (V.con undef))] [],
          OD.mk [(61, (bV false))] [] [(64, (V.con undef))] [],
          OD.mk [(61, (bV false))] [] [(65, (bV false))] [],
          OD.mk [(65, (bV false))] [] [(66, (bV false))] [],
          OD.mk [(66, (bV false))] [] [(67, (V.con undef))] [],
          OD.mk [(66, (bV false))] [] [(68, (V.con undef))] [],
          OD.mk [(66, (bV false))] [] [(69, (V.con undef))] [],
          OD.mk [(66, (bV false))] [] [(70, (bV false))] [],
          OD.mk [(70, (bV false))] [] [(71, (bV false))] [],
          OD.mk [(71, (bV false))] [] [(72, (V.con undef))] [],
          OD.mk [(71, (bV false))] [] [(73, (bV false))] [],
          OD.mk [(73, (bV false))] [] [(4, (bV false))] []] mixed ⟨⟨rfl, trivial⟩, ⟨rfl, trivial⟩, ⟨⟨rfl, trivial⟩, trivial, ⟨⟨rfl, trivial⟩, ⟨rfl, trivial⟩, ⟨⟨rfl, trivial⟩, trivial, ⟨⟨rfl, rfl, trivial⟩, trivial, ⟨⟨rfl, trivial⟩, trivial, ⟨⟨rfl, trivial⟩, trivial, ⟨⟨rfl, trivial⟩, trivial, ⟨⟨rfl, trivial⟩, trivial, ⟨⟨rfl, trivial⟩, trivial, ⟨⟨rfl, trivial⟩, trivial, ⟨⟨rfl, trivial⟩, trivial, ⟨⟨rfl, trivial⟩, trivial, ⟨⟨rfl, trivial⟩, trivial, ⟨⟨rfl, trivial⟩, trivial, ⟨⟨rfl, trivial⟩, trivial, ⟨⟨rfl, trivial⟩, trivial, ⟨⟨rfl, trivial⟩, trivial, ⟨⟨rfl, trivial⟩, trivial, ⟨⟨rfl, trivial⟩, trivial, ⟨⟨rfl, trivial⟩, trivial, ⟨⟨rfl, trivial⟩, trivial, ⟨⟨rfl, trivial⟩, trivial, ⟨⟨rfl, trivial⟩, trivial, ⟨⟨rfl, trivial⟩, trivial, ⟨⟨rfl, trivial⟩, trivial, ⟨⟨rfl, trivial⟩, trivial, ⟨⟨rfl, trivial⟩, trivial, ⟨⟨rfl, trivial⟩, trivial, ⟨⟨rfl, trivial⟩, trivial, ⟨⟨rfl, trivial⟩, trivial, ⟨⟨rfl, trivial⟩, trivial, ⟨⟨rfl, trivial⟩, trivial, ⟨⟨rfl, trivial⟩, trivial, trivial⟩⟩⟩⟩⟩⟩⟩⟩⟩⟩⟩⟩⟩⟩⟩⟩⟩⟩⟩⟩⟩⟩⟩⟩⟩⟩⟩⟩⟩⟩⟩⟩⟩⟩ (by kernel_rfl) (.cons (fun S hn h hh => aops_load_agg (cs := [(sV a1.Product), (V.lst 3 (a1.Releases.map encTRelease)), (V.lst 3 (a1.Known.map encTPublished)), (iV a1.Until)]) tA52 wants_none h.1 hh.1 rfl rfl rfl rfl (aops_nil ⟨rfl, rfl⟩)) (.cons (fun S hn h hh => aops_call (iV y11) [(V.agg [(sV a1.Product), (V.lst 3 (a1.Releases.map encTRelease)), (V.lst 3 (a1.Known.map encTPublished)), (iV a1.Until)])] fOk35 wants_none (evm_cons h.1 evm_nil) (.cons (Imm.agg (.cons (Imm.con _) (.cons (Imm.lst _ _) (.cons (Imm.lst _ _) (.cons (Imm.con _) .nil))))) .nil) (W35 F a1 y11 hx12) rfl (aops_nil ⟨rfl, rfl⟩)) (.cons (fun S hn h hh => aops_load_agg (cs := [(sV a1.Product), (V.lst 3 (a1.Releases.map encTRelease)), (V.lst 3 (a1.Known.map encTPublished)), (iV a1.Until)]) tA52 wants_none h.1 hh.1 rfl rfl rfl rfl (aops_nil ⟨rfl, rfl⟩)) (.cons (fun S hn h hh => aops_call (iV y13) [(V.agg [(sV a1.Product), (V.lst 3 (a1.Releases.map encTRelease)), (V.lst 3 (a1.Known.map encTPublished)), (iV a1.Until)])] fOk36 wants_none (evm_cons h.1 evm_nil) (.cons (Imm.agg (.cons (Imm.con _) (.cons (Imm.lst _ _) (.cons (Imm.lst _ _) (.cons (Imm.con _) .nil))))) .nil) (W36 F a1 y13 hx14) rfl (aops_nil ⟨rfl, rfl⟩)) (.cons (fun S hn h hh => aops_bin (.bool (y11 == y13)) wants_none h.1 h.2.1 rfl rfl (aops_nil ⟨rfl, rfl⟩)) (.cons (fun S hn h hh => aops_move (bV (y11 == y13)) wants_none h.1 rfl (aops_nil ⟨rfl, rfl⟩)) (.cons (fun S hn h hh => aops_skip (wants_some (c := (y11 == y13)) (b := false) 46 rfl h.1 hb15) rfl rfl (aops_nil ⟨rfl, rfl⟩)) (.cons (fun S hn h hh => aops_skip (wants_some (c := (y11 == y13)) (b := false) 46 rfl h.1 hb15) rfl rfl (aops_nil ⟨rfl, rfl⟩)) (.cons (fun S hn h hh => aops_skip (wants_some (c := (y11 == y13)) (b := false) 46 rfl h.1 hb15) rfl rfl (aops_nil ⟨rfl, rfl⟩)) (.cons (fun S hn h hh => aops_pick false (cb := (y11 == y13)) (bV false) wants_none h.1 hb15 rfl rfl (aops_nil ⟨rfl, rfl⟩)) (.cons (fun S hn h hh => aops_move (bV false) wants_none h.1 rfl (aops_nil ⟨rfl, rfl⟩)) (.cons (fun S hn h hh => aops_skip (wants_some (c := false) (b := false) 51 rfl h.1 rfl) rfl rfl (aops_nil ⟨rfl, rfl⟩)) (.cons (fun S hn h hh => aops_skip (wants_some (c := false) (b := false) 51 rfl h.1 rfl) rfl rfl (aops_nil ⟨rfl, rfl⟩)) (.cons (fun S hn h hh => aops_skip (wants_some (c := false) (b := false) 51 rfl h.1 rfl) rfl rfl (aops_nil ⟨rfl, rfl⟩)) (.cons (fun S hn h hh => aops_pick false (cb := false) (bV false) wants_none h.1 rfl rfl rfl (aops_nil ⟨rfl, rfl⟩)) (.cons (fun S hn h hh => aops_move (bV false) wants_none h.1 rfl (aops_nil ⟨rfl, rfl⟩)) (.cons (fun S hn h hh => aops_skip (wants_some (c := false) (b := false) 56 rfl h.1 rfl) rfl rfl (aops_nil ⟨rfl, rfl⟩)) (.cons (fun S hn h hh => aops_skip (wants_some (c := false) (b := false) 56 rfl h.1 rfl) rfl rfl (aops_nil ⟨rfl, rfl⟩)) (.cons (fun S hn h hh => aops_skip (wants_some (c := false) (b := false) 56 rfl h.1 rfl) rfl rfl (aops_nil ⟨rfl, rfl⟩)) (.cons (fun S hn h hh => aops_pick false (cb := false) (bV false) wants_none h.1 rfl rfl rfl (aops_nil ⟨rfl, rfl⟩)) (.cons (fun S hn h hh => aops_move (bV false) wants_none h.1 rfl (aops_nil ⟨rfl, rfl⟩)) (.cons (fun S hn h hh => aops_skip (wants_some (c := false) (b := false) 61 rfl h.1 rfl) rfl rfl (aops_nil ⟨rfl, rfl⟩)) (.cons (fun S hn h hh => aops_skip (wants_some (c := false) (b := false) 61 rfl h.1 rfl) rfl rfl (aops_nil ⟨rfl, rfl⟩)) (.cons (fun S hn h hh => aops_skip (wants_some (c := false) (b := false) 61 rfl h.1 rfl) rfl rfl (aops_nil ⟨rfl, rfl⟩)) (.cons (fun S hn h hh => aops_pick false (cb := false) (bV false) wants_none h.1 rfl rfl rfl (aops_nil ⟨rfl, rfl⟩)) (.cons (fun S hn h hh => aops_move (bV false) wants_none h.1 rfl (aops_nil ⟨rfl, rfl⟩)) (.cons (fun S hn h hh => aops_skip (wants_some (c := false) (b := false) 66 rfl h.1 rfl) rfl rfl (aops_nil ⟨rfl, rfl⟩)) (.cons (fun S hn h hh => aops_skip (wants_some (c := false) (b := false) 66 rfl h.1 rfl) rfl rfl (aops_nil ⟨rfl, rfl⟩)) (.cons (fun S hn h hh => aops_skip (wants_some (c := false) (b := false) 66 rfl h.1 rfl) rfl rfl (aops_nil ⟨rfl, rfl⟩)) (.cons (fun S hn h hh => aops_pick false (cb := false) (bV false) wants_none h.1 rfl rfl rfl (aops_nil ⟨rfl, rfl⟩)) (.cons (fun S hn h hh => aops_move (bV false) wants_none h.1 rfl (aops_nil ⟨rfl, rfl⟩)) (.cons (fun S hn h hh => aops_skip (wants_some (c := false) (b := false) 71 rfl h.1 rfl) rfl rfl (aops_nil ⟨rfl, rfl⟩)) (.cons (fun S hn h hh => aops_pick false (cb := false) (bV false) wants_none h.1 rfl rfl rfl (aops_nil ⟨rfl, rfl⟩)) (.cons (fun S hn h hh => aops_assign (bV false) wants_none h.1 rfl (aops_nil ⟨rfl, rfl⟩)) .nil)))))))))))))))))))))))))))))))))) ?_
    refine awp_ret ?_
    obtain rfl := Option.some.inj h
    exact ⟨.inl rfl, .one (.tmp rfl (Imm.con _))⟩

end Go.Proofs.Ytkciogeafbbggaa
