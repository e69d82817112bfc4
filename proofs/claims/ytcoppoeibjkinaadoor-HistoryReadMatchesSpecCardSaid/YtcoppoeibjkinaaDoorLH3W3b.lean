/- Part of the proof: H3W3b. -/
import Derived.Test.YtcoppoeibjkinaaDoorLPvX
import Derived.Test.YtcoppoeibjkinaaDoorLH3W3a
import Derived.KernelRfl
namespace Go.Proofs.YtcoppoeibjkinaaDoor
open Go Go.Pv
set_option linter.unusedVariables false
set_option maxRecDepth 100000
variable {mx : Int}
set_option maxHeartbeats 4000000 in
theorem W15 (F : Nat) (a1 : (List (List UInt8))) (a2 : Bool) (a3 : (List UInt8)) (a4 : Int) (a5 : List TRelease) (a6 : List TPublished) (r : (Bool × (List UInt8) × Int × (List TRelease) × (List TPublished))) (h : M15 F a1 a2 a3 a4 a5 a6 = some r) : MutG (gl mx) Tryd.prog 15 [(V.ptr 0 4 0 0), (V.lst 1 (a1.map encS)), (bV a2)] 3 [(0, (Ob.arr 25 4 [[(sV a3), (V.own 1 a5.length), (V.own 2 a6.length), (iV a4)]])), (1, (Ob.arr 47 3 (a5.map dencTRelease))), (2, (Ob.arr 51 3 (a6.map encTPublished)))] (resV [(bV (r.1))]) 5 [(0, (Ob.arr 25 4 [[(sV (r.2.1)), (V.own 3 (r.2.2.2.1).length), (V.own 4 (r.2.2.2.2).length), (iV (r.2.2.1))]])), (1, Ob.dead), (2, Ob.dead), (3, (Ob.arr 47 3 ((r.2.2.2.1).map dencTRelease))), (4, (Ob.arr 51 3 ((r.2.2.2.2).map encTPublished)))] := by
 refine mut_enter Tryd.func15 rfl rfl (l := [.tmp 6]) rfl rfl [(0, (V.ptr 0 4 0 0)), (1, (V.lst 1 (a1.map encS))), (2, (bV a2))] rfl (fun w0 m0 β0 hg => en ?_)
 unfold M15 at h
 refine rn 8 rfl ?_
 refine ln rfl rfl ?_
 refine rn 2 rfl ?_
 refine jK h (fun _ : Unit => (⟨[(0, (V.ptr 0 4 0 0)), (1, (V.lst 1 (a1.map encS))), (2, (bV a2))], [(0, (Ob.arr 25 4 [[(sV a3), (V.own 1 a5.length), (V.own 2 a6.length), (iV a4)]])), (1, (Ob.arr 47 3 (a5.map dencTRelease))), (2, (Ob.arr 51 3 (a6.map encTPublished)))], 3⟩ : St)) (fun k513 (_ : Unit) => k513 = some r) (fun k513 h => ?_) ?_
 ·refine rn 1 rfl ?_
  refine wl (A := a1) 1 rfl (fun hA522 => ?_)
  refine lC (fun (p : Int) => (⟨[(0, (V.ptr 0 4 0 0)), (1, (V.lst 1 (a1.map encS))), (2, (bV a2)), (14, (V.lst 1 (a1.map encS))), (15, (iV ((a1.length : Nat) : Int))), (16, (iV p))], [(0, (Ob.arr 25 4 [[(sV a3), (V.own 1 a5.length), (V.own 2 a6.length), (iV a4)]])), (1, (Ob.arr 47 3 (a5.map dencTRelease))), (2, (Ob.arr 51 3 (a6.map encTPublished)))], 3⟩ : St)) (fun n p => RG a1 (fun tl nn => M15_L1 F a3 a4 a5 a6 k513 tl = some r) n p) (fun p h => RG.zero h) (a1.length + 1) 0 (RG.start h) (gr [0, 1, 2] rfl (hB rfl rfl rfl (hR rfl rfl (hR rfl rfl .nil))) rfl) (fun n n515 h => ?_)
  refine rn 5 rfl ?_
  refine spL rfl (fun hb516 => ?_) (fun hb516 => ?_)
  ·obtain ⟨x517, tl, hx518, h, hk1⟩ := RG.t hA522 h hb516
   unfold M15_L1 at h
   refine rn 5 rfl ?_
   refine ixh hx518 rfl rfl ?_
   refine rn 6 rfl ?_
   refine cl h rfl rfl rfl (W33 _ _) rfl (fun y519 hx520 h => ?_)
   refine rn 2 rfl ?_
   refine spC h rfl (fun hb521 h => ?_) (fun hb521 h => ?_)
   ·refine rn 4 rfl ?_
    replace h := Option.some.inj h
    subst h
    exact wR ⟨.inl rfl, [(6, (bV false))], (Ghost.trans (ghost_mvC 1 0 3 47 3 (Ob.arr 25 4 [[(sV a3), (V.own 3 a5.length), (V.own 2 a6.length), (iV a4)]]) rfl rfl rfl (ObSub.box (.cons Sub.keepMv (.cons Sub.mv (.cons Sub.keepMv (.cons Sub.keepMv .nil))))) rfl rfl) (Ghost.trans (ghost_mvC 2 0 4 51 3 (Ob.arr 25 4 [[(sV a3), (V.own 3 a5.length), (V.own 4 a6.length), (iV a4)]]) rfl rfl rfl (ObSub.box (.cons Sub.keepMv (.cons Sub.keepMv (.cons Sub.mv (.cons Sub.keepMv .nil))))) rfl rfl) (gr [0, 1, 2, 3, 4] rfl (hB rfl rfl rfl (hD rfl (hD rfl (hR rfl rfl (hR rfl rfl .nil))))) rfl))), (.cons (.tmp rfl) .nil)⟩
   refine rn 6 rfl ?_
   exact jX (w64 (n515 + 1)) (hk1 _ h) (gr [0, 1, 2] rfl (hB rfl rfl rfl (hR rfl rfl (hR rfl rfl .nil))) rfl)
  replace h := RG.f h hb516
  unfold M15_L1 at h
  refine rn 1 rfl ?_
  exact jX () h (gr [0, 1, 2] rfl (hB rfl rfl rfl (hR rfl rfl (hR rfl rfl .nil))) rfl)
 intro _ h
 refine rn 4 rfl ?_
 refine ln rfl rfl ?_
 refine rn 1 rfl ?_
 refine ixl h rfl rfl (fun x523 hx524 h => ?_)
 refine rn 1 rfl ?_
 refine cl h rfl rfl rfl (W34 _ _) rfl (fun y525 hx526 h => ?_)
 refine rn 12 rfl ?_
 refine spO 36 h rfl (fun hb527 h => ?_) (fun hb527 h => ?_)
 ·refine rn 13 rfl ?_
  replace h := Option.some.inj h
  subst h
  exact wR ⟨.inl rfl, [(6, (bV false))], (Ghost.trans (ghost_mvC 1 0 3 47 3 (Ob.arr 25 4 [[(sV a3), (V.own 3 a5.length), (V.own 2 a6.length), (iV a4)]]) rfl rfl rfl (ObSub.box (.cons Sub.keepMv (.cons Sub.mv (.cons Sub.keepMv (.cons Sub.keepMv .nil))))) rfl rfl) (Ghost.trans (ghost_mvC 2 0 4 51 3 (Ob.arr 25 4 [[(sV a3), (V.own 3 a5.length), (V.own 4 a6.length), (iV a4)]]) rfl rfl rfl (ObSub.box (.cons Sub.keepMv (.cons Sub.keepMv (.cons Sub.mv (.cons Sub.keepMv .nil))))) rfl rfl) (gr [0, 1, 2, 3, 4] rfl (hB rfl rfl rfl (hD rfl (hD rfl (hR rfl rfl (hR rfl rfl .nil))))) rfl))), (.cons (.tmp rfl) .nil)⟩
 refine rn 2 rfl ?_
 refine ixl h rfl rfl (fun x528 hx529 h => ?_)
 refine rn 5 rfl ?_
 refine spC h rfl (fun hb530 h => ?_) (fun hb530 h => ?_)
 ·refine rn 4 rfl ?_
  replace h := Option.some.inj h
  subst h
  exact wR ⟨.inl rfl, [(6, (bV false))], (Ghost.trans (ghost_mvC 1 0 3 47 3 (Ob.arr 25 4 [[(sV a3), (V.own 3 a5.length), (V.own 2 a6.length), (iV a4)]]) rfl rfl rfl (ObSub.box (.cons Sub.keepMv (.cons Sub.mv (.cons Sub.keepMv (.cons Sub.keepMv .nil))))) rfl rfl) (Ghost.trans (ghost_mvC 2 0 4 51 3 (Ob.arr 25 4 [[(sV a3), (V.own 3 a5.length), (V.own 4 a6.length), (iV a4)]]) rfl rfl rfl (ObSub.box (.cons Sub.keepMv (.cons Sub.keepMv (.cons Sub.mv (.cons Sub.keepMv .nil))))) rfl rfl) (gr [0, 1, 2, 3, 4] rfl (hB rfl rfl rfl (hD rfl (hD rfl (hR rfl rfl (hR rfl rfl .nil))))) rfl))), (.cons (.tmp rfl) .nil)⟩
 refine rn 2 rfl ?_
 refine jK h (fun (p : (List UInt8) × Int × (List TRelease) × (List TPublished)) => (⟨[], [(0, (Ob.arr 25 4 [[(sV (p.1)), (V.own 3 (p.2.2.1).length), (V.own 4 (p.2.2.2).length), (iV (p.2.1))]])), (1, Ob.dead), (2, Ob.dead), (3, (Ob.arr 47 3 ((p.2.2.1).map dencTRelease))), (4, (Ob.arr 51 3 ((p.2.2.2).map encTPublished)))], 5⟩ : St)) (fun k531 p => k531 p.1 p.2.1 p.2.2.1 p.2.2.2 = some r) (fun k531 h => ?_) ?_
 ·refine rn 4 rfl ?_
  refine ixl h rfl rfl (fun x536 hx537 h => ?_)
  refine rn 3 rfl ?_
  refine spO 49 h rfl (fun hb538 h => ?_) (fun hb538 h => ?_)
  ·refine rn 1 rfl ?_
   refine ln rfl rfl ?_
   refine rn 4 rfl ?_
   refine jK h (fun (p : (List UInt8) × Int × (List TRelease)) => (⟨[], [(0, (Ob.arr 25 4 [[(sV (p.1)), (V.own 1 (p.2.2).length), (V.own 2 a6.length), (iV (p.2.1))]])), (1, (Ob.arr 47 3 ((p.2.2).map dencTRelease))), (2, (Ob.arr 51 3 (a6.map encTPublished)))], 3⟩ : St)) (fun k539 p => k539 p.1 p.2.1 p.2.2 = some r) (fun k539 h => ?_) ?_
   ·refine spC h rfl (fun hb543 h => ?_) (fun hb543 h => ?_)
    ·refine rn 4 rfl ?_
     refine ixl h rfl rfl (fun x544 hx545 h => ?_)
     refine rn 9 rfl ?_
     exact jX (x544, (y525.1), a5) h (gr [0, 1, 2] rfl (hB rfl rfl rfl (hR rfl rfl (hR rfl rfl .nil))) rfl)
    refine rn 3 rfl ?_
    refine ixl h rfl rfl (fun x546 hx547 h => ?_)
    refine rn 3 rfl ?_
    refine spO 69 h rfl (fun hb548 h => ?_) (fun hb548 h => ?_)
    ·refine rn 1 rfl ?_
     refine ln rfl rfl ?_
     refine rn 3 rfl ?_
     refine fxO 74 hb543 rfl ?_
     refine rn 13 rfl ?_
     refine ixl h rfl rfl (fun x549 hx550 h => ?_)
     refine rn 3 rfl ?_
     refine spO 101 h rfl (fun hb551 h => ?_) (fun hb551 h => ?_)
     ·refine rn 1 rfl ?_
      refine ln rfl rfl ?_
      refine rn 3 rfl ?_
      refine spO 106 h rfl (fun hb552 h => ?_) (fun hb552 h => ?_)
      ·refine rn 8 rfl ?_
       refine spO 114 h rfl (fun hb553 h => ?_) (fun hb553 h => ?_)
       ·refine rn 9 rfl ?_
        refine spC h rfl (fun hb554 h => ?_) (fun hb554 h => ?_)
        ·obtain ⟨x555, hx556, h⟩ := bind_some h
         refine rn 1 rfl ?_
         refine dr mixed (vs 10 rfl (oD (a := a5) hx556 rfl rfl rfl rfl (vs 1 rfl .nil))) (by kernel_rfl) ?_
         obtain ⟨x557, hx558, h⟩ := bind_some h
         obtain ⟨x559, hx560, h⟩ := bind_some h
         refine ck h (fun hc561 h => ?_)
         refine awp_ghost ghost_res ?_
         refine awp_ghost ghost_res ?_
         refine fa ?_
         refine dr mixed (vs 4 rfl (xD (OD.mk [(136, (V.ptr 1 3 (w64 (((a5.length : Nat) : Int) - 1)).toNat 2))] [(1, (Ob.arr 47 3 (a5.map dencTRelease))), (3, Ob.res)] [(137, (V.own 3 x555.Exposures.length))] [(1, (Ob.arr 47 3 (setC (a5.map dencTRelease) ((w64 (((a5.length : Nat) : Int) - 1)).toNat) (dencTRelease x555) 2 (V.own 3 x555.Exposures.length)))), (3, (Ob.arr 66 3 (x555.Exposures.map encTExposure)))]) ⟨⟨rfl, trivial⟩, ⟨rfl, rfl, trivial⟩⟩ (by exact fun S hn h hh => aops_load_takeS_at 3 rfl hn hh.2.1 dencTRelease encTExposure rfl tC45 wants_none h.1 hh.1 (idx_some hx556).2 rfl rfl (aops_nil ⟨rfl, rfl⟩)) rfl (vs 1 rfl (iD hx558 rfl rfl rfl (vs 2 rfl (iD hx560 rfl rfl rfl (vs 3 rfl (xD (OD.mk [(145, (V.agg [(sV x557), (sV x559), (iV (y525.1))]))] [] [(146, (V.lst 3 (([(TExposure.mk x557 x559 (y525.1))] : List TExposure).map encTExposure)))] []) ⟨⟨rfl, trivial⟩, trivial⟩ (by exact fun S hn h hh => aops_buildSlice_imm [(0, (V.agg [(sV x557), (sV x559), (iV (y525.1))]))] [[(sV x557), (sV x559), (iV (y525.1))]] tEl45 tZ66 wants_none rfl rfl rfl rfl (evp_cons h.1 evp_nil) rfl rfl (by simp) (imms_rows (.cons (.cons (Imm.con _) (.cons (Imm.con _) (.cons (Imm.con _) .nil))) .nil)) rfl (aops_nil ⟨rfl, rfl⟩)) rfl (xD (OD.mk [(137, (V.own 3 x555.Exposures.length)), (146, (V.lst 3 (([(TExposure.mk x557 x559 (y525.1))] : List TExposure).map encTExposure)))] [(3, (Ob.arr 66 3 (x555.Exposures.map encTExposure))), (4, Ob.res)] [(147, (V.own 4 (x555.Exposures ++ ([(TExposure.mk x557 x559 (y525.1))] : List TExposure)).length))] [(4, (Ob.arr 66 3 ((x555.Exposures ++ ([(TExposure.mk x557 x559 (y525.1))] : List TExposure)).map encTExposure))), (3, Ob.dead)]) ⟨⟨rfl, rfl, trivial⟩, ⟨rfl, rfl, trivial⟩⟩ (by exact fun S hn h hh => aops_append_at 4 rfl hn hh.2.1 (([(TExposure.mk x557 x559 (y525.1))] : List TExposure).map encTExposure) ((x555.Exposures ++ ([(TExposure.mk x557 x559 (y525.1))] : List TExposure)).map encTExposure) tEl45 tIsSl45 rfl rfl wants_none h.1 hh.1 (by simp) h.2.1 (.lst (rows_one one_encTExposure)) (map_snoc encTExposure x555.Exposures ([(TExposure.mk x557 x559 (y525.1))] : List TExposure)) (List.length_map ..) hc561 rfl (aops_nil ⟨rfl, rfl⟩)) rfl (vs 2 rfl (xD (OD.mk [(149, (V.ptr 1 3 (w64 (((a5.length : Nat) : Int) - 1)).toNat 2)), (147, (V.own 4 (x555.Exposures ++ ([(TExposure.mk x557 x559 (y525.1))] : List TExposure)).length))] [(1, (Ob.arr 47 3 (setC (a5.map dencTRelease) ((w64 (((a5.length : Nat) : Int) - 1)).toNat) (dencTRelease x555) 2 (V.own 3 x555.Exposures.length)))), (4, (Ob.arr 66 3 ((x555.Exposures ++ ([(TExposure.mk x557 x559 (y525.1))] : List TExposure)).map encTExposure)))] [] [(1, (Ob.arr 47 3 ((a5.set ((w64 (((a5.length : Nat) : Int) - 1)).toNat) ({ x555 with Exposures := (x555.Exposures ++ ([(TExposure.mk x557 x559 (y525.1))] : List TExposure)) } : TRelease)).map dencTRelease))), (4, Ob.dead)]) ⟨⟨rfl, rfl, trivial⟩, ⟨rfl, rfl, trivial⟩⟩ (by exact fun S hn h hh => aops_store_untakeS dencTRelease encTExposure (fun z => (imms_encTExposure z).keep) (a5.set ((w64 (((a5.length : Nat) : Int) - 1)).toNat) ({ x555 with Exposures := (x555.Exposures ++ ([(TExposure.mk x557 x559 (y525.1))] : List TExposure)) } : TRelease)) tS45 wants_none h.1 h.2.1 hh.1 (Nat.le_of_ble_eq_true rfl) (by simpa using idx_lt hx556) hh.2.1 (by simp) rfl (by rw [List.map_set]; rfl) (aops_nil ⟨rfl, rfl⟩)) rfl .nil))))))))))) (by kernel_rfl) ?_
         exact jX (a3, a4, (a5.set ((w64 (((a5.length : Nat) : Int) - 1)).toNat) ({ x555 with Exposures := (x555.Exposures ++ ([(TExposure.mk x557 x559 (y525.1))] : List TExposure)) } : TRelease))) h (ghost_ren 3 (fun i => ([0, 1, 2] : List Nat).getD i 0) _ _ (by decide) (EnvSub.get .nil) (HpSub.get (.cons rfl (ObSub.box (.cons (Sub.imm (Imm.con _)) (.cons (Sub.ownE rfl rfl (by simp)) (.cons (Sub.own rfl rfl) (.cons (Sub.imm (Imm.con _)) .nil))))) (.cons rfl (ObSub.rowsK RK.h) (.cons rfl (ObSub.rows (rows_imm imms_encTPublished)) .nil)))) rfl)
        refine rn 3 rfl ?_
        refine ixl h rfl rfl (fun x562 hx563 h => ?_)
        refine rn 3 rfl ?_
        refine spO 155 h rfl (fun hb564 h => ?_) (fun hb564 h => ?_)
        ·refine rn 1 rfl ?_
         refine ln rfl rfl ?_
         refine rn 4 rfl ?_
         refine fxC 150 hb543 rfl ?_
         refine rn 4 rfl ?_
         refine ixl h rfl rfl (fun x565 hx566 h => ?_)
         refine rn 3 rfl ?_
         refine spO 179 h rfl (fun hb567 h => ?_) (fun hb567 h => ?_)
         ·refine rn 1 rfl ?_
          refine ln rfl rfl ?_
          refine rn 4 rfl ?_
          refine fxC 174 hb552 rfl ?_
          refine rn 4 rfl ?_
          refine ixl h rfl rfl (fun x568 hx569 h => ?_)
          refine rn 1 rfl ?_
          refine cl h rfl rfl rfl (W34 _ _) rfl (fun y570 hx571 h => ?_)
          obtain ⟨x572, hx573, h⟩ := bind_some h
          refine rn 7 rfl ?_
          refine ck h (fun hc574 h => ?_)
          refine awp_ghost ghost_res ?_
          refine fa ?_
          refine dr mixed (vs 6 rfl (iD hx573 rfl rfl rfl (vs 4 rfl (xD (OD.mk [(201, (V.agg [(sV x572), (iV (y570.1)), (iV (y525.1))]))] [] [(202, (V.lst 3 (([(TPublished.mk x572 (y570.1) (y525.1))] : List TPublished).map encTPublished)))] []) ⟨⟨rfl, trivial⟩, trivial⟩ (by exact fun S hn h hh => aops_buildSlice_imm [(0, (V.agg [(sV x572), (iV (y570.1)), (iV (y525.1))]))] [[(sV x572), (iV (y570.1)), (iV (y525.1))]] tEl23 tZ51 wants_none rfl rfl rfl rfl (evp_cons h.1 evp_nil) rfl rfl (by simp) (imms_rows (.cons (.cons (Imm.con _) (.cons (Imm.con _) (.cons (Imm.con _) .nil))) .nil)) rfl (aops_nil ⟨rfl, rfl⟩)) rfl (xD (OD.mk [(195, (V.own 2 a6.length)), (202, (V.lst 3 (([(TPublished.mk x572 (y570.1) (y525.1))] : List TPublished).map encTPublished)))] [(2, (Ob.arr 51 3 (a6.map encTPublished))), (3, Ob.res)] [(203, (V.own 3 (a6 ++ ([(TPublished.mk x572 (y570.1) (y525.1))] : List TPublished)).length))] [(3, (Ob.arr 51 3 ((a6 ++ ([(TPublished.mk x572 (y570.1) (y525.1))] : List TPublished)).map encTPublished))), (2, Ob.dead)]) ⟨⟨rfl, rfl, trivial⟩, ⟨rfl, rfl, trivial⟩⟩ (by exact fun S hn h hh => aops_append_at 3 rfl hn hh.2.1 (([(TPublished.mk x572 (y570.1) (y525.1))] : List TPublished).map encTPublished) ((a6 ++ ([(TPublished.mk x572 (y570.1) (y525.1))] : List TPublished)).map encTPublished) tEl23 tIsSl23 rfl rfl wants_none h.1 hh.1 (by simp) h.2.1 (.lst (rows_one one_encTPublished)) (map_snoc encTPublished a6 ([(TPublished.mk x572 (y570.1) (y525.1))] : List TPublished)) (List.length_map ..) hc574 rfl (aops_nil ⟨rfl, rfl⟩)) rfl (vs 3 rfl .nil)))))) (by kernel_rfl) ?_
          refine rn 5 rfl ?_
          replace h := Option.some.inj h
          subst h
          exact wR ⟨.inl rfl, [(6, (bV (y570.2)))], (Ghost.trans (ghost_mvC 1 0 4 47 3 (Ob.arr 25 4 [[(sV a3), (V.own 4 a5.length), (V.own 3 (a6 ++ ([(TPublished.mk x572 (y570.1) (y525.1))] : List TPublished)).length), (iV a4)]]) rfl rfl rfl (ObSub.box (.cons Sub.keepMv (.cons Sub.mv (.cons Sub.keepMv (.cons Sub.keepMv .nil))))) rfl rfl) (gr [0, 1, 2, 4, 3] rfl (hB rfl rfl rfl (hD rfl (hD rfl (hR rfl rfl (hR rfl rfl .nil))))) rfl)), (.cons (.tmp rfl) .nil)⟩
         refine rn 11 rfl ?_
         replace h := Option.some.inj h
         subst h
         exact wR ⟨.inl rfl, [(6, (bV false))], (Ghost.trans (ghost_mvC 1 0 3 47 3 (Ob.arr 25 4 [[(sV a3), (V.own 3 a5.length), (V.own 2 a6.length), (iV a4)]]) rfl rfl rfl (ObSub.box (.cons Sub.keepMv (.cons Sub.mv (.cons Sub.keepMv (.cons Sub.keepMv .nil))))) rfl rfl) (Ghost.trans (ghost_mvC 2 0 4 51 3 (Ob.arr 25 4 [[(sV a3), (V.own 3 a5.length), (V.own 4 a6.length), (iV a4)]]) rfl rfl rfl (ObSub.box (.cons Sub.keepMv (.cons Sub.keepMv (.cons Sub.mv (.cons Sub.keepMv .nil))))) rfl rfl) (gr [0, 1, 2, 3, 4] rfl (hB rfl rfl rfl (hD rfl (hD rfl (hR rfl rfl (hR rfl rfl .nil))))) rfl))), (.cons (.tmp rfl) .nil)⟩
        refine rn 10 rfl ?_
        refine ixl h rfl rfl (fun x575 hx576 h => ?_)
        refine rn 3 rfl ?_
        refine spO 179 h rfl (fun hb577 h => ?_) (fun hb577 h => ?_)
        ·refine rn 1 rfl ?_
         refine ln rfl rfl ?_
         refine rn 4 rfl ?_
         refine fxC 174 hb552 rfl ?_
         refine rn 4 rfl ?_
         refine ixl h rfl rfl (fun x578 hx579 h => ?_)
         refine rn 1 rfl ?_
         refine cl h rfl rfl rfl (W34 _ _) rfl (fun y580 hx581 h => ?_)
         obtain ⟨x582, hx583, h⟩ := bind_some h
         refine rn 7 rfl ?_
         refine ck h (fun hc584 h => ?_)
         refine awp_ghost ghost_res ?_
         refine fa ?_
         refine dr mixed (vs 6 rfl (iD hx583 rfl rfl rfl (vs 4 rfl (xD (OD.mk [(201, (V.agg [(sV x582), (iV (y580.1)), (iV (y525.1))]))] [] [(202, (V.lst 3 (([(TPublished.mk x582 (y580.1) (y525.1))] : List TPublished).map encTPublished)))] []) ⟨⟨rfl, trivial⟩, trivial⟩ (by exact fun S hn h hh => aops_buildSlice_imm [(0, (V.agg [(sV x582), (iV (y580.1)), (iV (y525.1))]))] [[(sV x582), (iV (y580.1)), (iV (y525.1))]] tEl23 tZ51 wants_none rfl rfl rfl rfl (evp_cons h.1 evp_nil) rfl rfl (by simp) (imms_rows (.cons (.cons (Imm.con _) (.cons (Imm.con _) (.cons (Imm.con _) .nil))) .nil)) rfl (aops_nil ⟨rfl, rfl⟩)) rfl (xD (OD.mk [(195, (V.own 2 a6.length)), (202, (V.lst 3 (([(TPublished.mk x582 (y580.1) (y525.1))] : List TPublished).map encTPublished)))] [(2, (Ob.arr 51 3 (a6.map encTPublished))), (3, Ob.res)] [(203, (V.own 3 (a6 ++ ([(TPublished.mk x582 (y580.1) (y525.1))] : List TPublished)).length))] [(3, (Ob.arr 51 3 ((a6 ++ ([(TPublished.mk x582 (y580.1) (y525.1))] : List TPublished)).map encTPublished))), (2, Ob.dead)]) ⟨⟨rfl, rfl, trivial⟩, ⟨rfl, rfl, trivial⟩⟩ (by exact fun S hn h hh => aops_append_at 3 rfl hn hh.2.1 (([(TPublished.mk x582 (y580.1) (y525.1))] : List TPublished).map encTPublished) ((a6 ++ ([(TPublished.mk x582 (y580.1) (y525.1))] : List TPublished)).map encTPublished) tEl23 tIsSl23 rfl rfl wants_none h.1 hh.1 (by simp) h.2.1 (.lst (rows_one one_encTPublished)) (map_snoc encTPublished a6 ([(TPublished.mk x582 (y580.1) (y525.1))] : List TPublished)) (List.length_map ..) hc584 rfl (aops_nil ⟨rfl, rfl⟩)) rfl (vs 3 rfl .nil)))))) (by kernel_rfl) ?_
         refine rn 5 rfl ?_
         replace h := Option.some.inj h
         subst h
         exact wR ⟨.inl rfl, [(6, (bV (y580.2)))], (Ghost.trans (ghost_mvC 1 0 4 47 3 (Ob.arr 25 4 [[(sV a3), (V.own 4 a5.length), (V.own 3 (a6 ++ ([(TPublished.mk x582 (y580.1) (y525.1))] : List TPublished)).length), (iV a4)]]) rfl rfl rfl (ObSub.box (.cons Sub.keepMv (.cons Sub.mv (.cons Sub.keepMv (.cons Sub.keepMv .nil))))) rfl rfl) (gr [0, 1, 2, 4, 3] rfl (hB rfl rfl rfl (hD rfl (hD rfl (hR rfl rfl (hR rfl rfl .nil))))) rfl)), (.cons (.tmp rfl) .nil)⟩
        refine rn 11 rfl ?_
        replace h := Option.some.inj h
        subst h
        exact wR ⟨.inl rfl, [(6, (bV false))], (Ghost.trans (ghost_mvC 1 0 3 47 3 (Ob.arr 25 4 [[(sV a3), (V.own 3 a5.length), (V.own 2 a6.length), (iV a4)]]) rfl rfl rfl (ObSub.box (.cons Sub.keepMv (.cons Sub.mv (.cons Sub.keepMv (.cons Sub.keepMv .nil))))) rfl rfl) (Ghost.trans (ghost_mvC 2 0 4 51 3 (Ob.arr 25 4 [[(sV a3), (V.own 3 a5.length), (V.own 4 a6.length), (iV a4)]]) rfl rfl rfl (ObSub.box (.cons Sub.keepMv (.cons Sub.keepMv (.cons Sub.mv (.cons Sub.keepMv .nil))))) rfl rfl) (gr [0, 1, 2, 3, 4] rfl (hB rfl rfl rfl (hD rfl (hD rfl (hR rfl rfl (hR rfl rfl .nil))))) rfl))), (.cons (.tmp rfl) .nil)⟩
       refine rn 13 rfl ?_
       refine ixl h rfl rfl (fun x585 hx586 h => ?_)
       refine rn 3 rfl ?_
       refine spO 155 h rfl (fun hb587 h => ?_) (fun hb587 h => ?_)
       ·refine rn 1 rfl ?_
        refine ln rfl rfl ?_
        refine rn 4 rfl ?_
        refine fxC 150 hb543 rfl ?_
        refine rn 4 rfl ?_
        refine ixl h rfl rfl (fun x588 hx589 h => ?_)
        refine rn 3 rfl ?_
        refine spO 179 h rfl (fun hb590 h => ?_) (fun hb590 h => ?_)
        ·refine rn 1 rfl ?_
         refine ln rfl rfl ?_
         refine rn 4 rfl ?_
         refine fxC 174 hb552 rfl ?_
         refine rn 4 rfl ?_
         refine ixl h rfl rfl (fun x591 hx592 h => ?_)
         refine rn 1 rfl ?_
         refine cl h rfl rfl rfl (W34 _ _) rfl (fun y593 hx594 h => ?_)
         obtain ⟨x595, hx596, h⟩ := bind_some h
         refine rn 7 rfl ?_
         refine ck h (fun hc597 h => ?_)
         refine awp_ghost ghost_res ?_
         refine fa ?_
         refine dr mixed (vs 6 rfl (iD hx596 rfl rfl rfl (vs 4 rfl (xD (OD.mk [(201, (V.agg [(sV x595), (iV (y593.1)), (iV (y525.1))]))] [] [(202, (V.lst 3 (([(TPublished.mk x595 (y593.1) (y525.1))] : List TPublished).map encTPublished)))] []) ⟨⟨rfl, trivial⟩, trivial⟩ (by exact fun S hn h hh => aops_buildSlice_imm [(0, (V.agg [(sV x595), (iV (y593.1)), (iV (y525.1))]))] [[(sV x595), (iV (y593.1)), (iV (y525.1))]] tEl23 tZ51 wants_none rfl rfl rfl rfl (evp_cons h.1 evp_nil) rfl rfl (by simp) (imms_rows (.cons (.cons (Imm.con _) (.cons (Imm.con _) (.cons (Imm.con _) .nil))) .nil)) rfl (aops_nil ⟨rfl, rfl⟩)) rfl (xD (OD.mk [(195, (V.own 2 a6.length)), (202, (V.lst 3 (([(TPublished.mk x595 (y593.1) (y525.1))] : List TPublished).map encTPublished)))] [(2, (Ob.arr 51 3 (a6.map encTPublished))), (3, Ob.res)] [(203, (V.own 3 (a6 ++ ([(TPublished.mk x595 (y593.1) (y525.1))] : List TPublished)).length))] [(3, (Ob.arr 51 3 ((a6 ++ ([(TPublished.mk x595 (y593.1) (y525.1))] : List TPublished)).map encTPublished))), (2, Ob.dead)]) ⟨⟨rfl, rfl, trivial⟩, ⟨rfl, rfl, trivial⟩⟩ (by exact fun S hn h hh => aops_append_at 3 rfl hn hh.2.1 (([(TPublished.mk x595 (y593.1) (y525.1))] : List TPublished).map encTPublished) ((a6 ++ ([(TPublished.mk x595 (y593.1) (y525.1))] : List TPublished)).map encTPublished) tEl23 tIsSl23 rfl rfl wants_none h.1 hh.1 (by simp) h.2.1 (.lst (rows_one one_encTPublished)) (map_snoc encTPublished a6 ([(TPublished.mk x595 (y593.1) (y525.1))] : List TPublished)) (List.length_map ..) hc597 rfl (aops_nil ⟨rfl, rfl⟩)) rfl (vs 3 rfl .nil)))))) (by kernel_rfl) ?_
         refine rn 5 rfl ?_
         replace h := Option.some.inj h
         subst h
         exact wR ⟨.inl rfl, [(6, (bV (y593.2)))], (Ghost.trans (ghost_mvC 1 0 4 47 3 (Ob.arr 25 4 [[(sV a3), (V.own 4 a5.length), (V.own 3 (a6 ++ ([(TPublished.mk x595 (y593.1) (y525.1))] : List TPublished)).length), (iV a4)]]) rfl rfl rfl (ObSub.box (.cons Sub.keepMv (.cons Sub.mv (.cons Sub.keepMv (.cons Sub.keepMv .nil))))) rfl rfl) (gr [0, 1, 2, 4, 3] rfl (hB rfl rfl rfl (hD rfl (hD rfl (hR rfl rfl (hR rfl rfl .nil))))) rfl)), (.cons (.tmp rfl) .nil)⟩
        refine rn 11 rfl ?_
        replace h := Option.some.inj h
        subst h
        exact wR ⟨.inl rfl, [(6, (bV false))], (Ghost.trans (ghost_mvC 1 0 3 47 3 (Ob.arr 25 4 [[(sV a3), (V.own 3 a5.length), (V.own 2 a6.length), (iV a4)]]) rfl rfl rfl (ObSub.box (.cons Sub.keepMv (.cons Sub.mv (.cons Sub.keepMv (.cons Sub.keepMv .nil))))) rfl rfl) (Ghost.trans (ghost_mvC 2 0 4 51 3 (Ob.arr 25 4 [[(sV a3), (V.own 3 a5.length), (V.own 4 a6.length), (iV a4)]]) rfl rfl rfl (ObSub.box (.cons Sub.keepMv (.cons Sub.keepMv (.cons Sub.mv (.cons Sub.keepMv .nil))))) rfl rfl) (gr [0, 1, 2, 3, 4] rfl (hB rfl rfl rfl (hD rfl (hD rfl (hR rfl rfl (hR rfl rfl .nil))))) rfl))), (.cons (.tmp rfl) .nil)⟩
       refine rn 10 rfl ?_
       refine ixl h rfl rfl (fun x598 hx599 h => ?_)
       refine rn 3 rfl ?_
       refine spO 179 h rfl (fun hb600 h => ?_) (fun hb600 h => ?_)
       ·refine rn 1 rfl ?_
        refine ln rfl rfl ?_
        refine rn 4 rfl ?_
        refine fxC 174 hb552 rfl ?_
        refine rn 4 rfl ?_
        refine ixl h rfl rfl (fun x601 hx602 h => ?_)
        refine rn 1 rfl ?_
        refine cl h rfl rfl rfl (W34 _ _) rfl (fun y603 hx604 h => ?_)
        obtain ⟨x605, hx606, h⟩ := bind_some h
        refine rn 7 rfl ?_
        refine ck h (fun hc607 h => ?_)
        refine awp_ghost ghost_res ?_
        refine fa ?_
        refine dr mixed (vs 6 rfl (iD hx606 rfl rfl rfl (vs 4 rfl (xD (OD.mk [(201, (V.agg [(sV x605), (iV (y603.1)), (iV (y525.1))]))] [] [(202, (V.lst 3 (([(TPublished.mk x605 (y603.1) (y525.1))] : List TPublished).map encTPublished)))] []) ⟨⟨rfl, trivial⟩, trivial⟩ (by exact fun S hn h hh => aops_buildSlice_imm [(0, (V.agg [(sV x605), (iV (y603.1)), (iV (y525.1))]))] [[(sV x605), (iV (y603.1)), (iV (y525.1))]] tEl23 tZ51 wants_none rfl rfl rfl rfl (evp_cons h.1 evp_nil) rfl rfl (by simp) (imms_rows (.cons (.cons (Imm.con _) (.cons (Imm.con _) (.cons (Imm.con _) .nil))) .nil)) rfl (aops_nil ⟨rfl, rfl⟩)) rfl (xD (OD.mk [(195, (V.own 2 a6.length)), (202, (V.lst 3 (([(TPublished.mk x605 (y603.1) (y525.1))] : List TPublished).map encTPublished)))] [(2, (Ob.arr 51 3 (a6.map encTPublished))), (3, Ob.res)] [(203, (V.own 3 (a6 ++ ([(TPublished.mk x605 (y603.1) (y525.1))] : List TPublished)).length))] [(3, (Ob.arr 51 3 ((a6 ++ ([(TPublished.mk x605 (y603.1) (y525.1))] : List TPublished)).map encTPublished))), (2, Ob.dead)]) ⟨⟨rfl, rfl, trivial⟩, ⟨rfl, rfl, trivial⟩⟩ (by exact fun S hn h hh => aops_append_at 3 rfl hn hh.2.1 (([(TPublished.mk x605 (y603.1) (y525.1))] : List TPublished).map encTPublished) ((a6 ++ ([(TPublished.mk x605 (y603.1) (y525.1))] : List TPublished)).map encTPublished) tEl23 tIsSl23 rfl rfl wants_none h.1 hh.1 (by simp) h.2.1 (.lst (rows_one one_encTPublished)) (map_snoc encTPublished a6 ([(TPublished.mk x605 (y603.1) (y525.1))] : List TPublished)) (List.length_map ..) hc607 rfl (aops_nil ⟨rfl, rfl⟩)) rfl (vs 3 rfl .nil)))))) (by kernel_rfl) ?_
        refine rn 5 rfl ?_
        replace h := Option.some.inj h
        subst h
        exact wR ⟨.inl rfl, [(6, (bV (y603.2)))], (Ghost.trans (ghost_mvC 1 0 4 47 3 (Ob.arr 25 4 [[(sV a3), (V.own 4 a5.length), (V.own 3 (a6 ++ ([(TPublished.mk x605 (y603.1) (y525.1))] : List TPublished)).length), (iV a4)]]) rfl rfl rfl (ObSub.box (.cons Sub.keepMv (.cons Sub.mv (.cons Sub.keepMv (.cons Sub.keepMv .nil))))) rfl rfl) (gr [0, 1, 2, 4, 3] rfl (hB rfl rfl rfl (hD rfl (hD rfl (hR rfl rfl (hR rfl rfl .nil))))) rfl)), (.cons (.tmp rfl) .nil)⟩
       refine rn 11 rfl ?_
       replace h := Option.some.inj h
       subst h
       exact wR ⟨.inl rfl, [(6, (bV false))], (Ghost.trans (ghost_mvC 1 0 3 47 3 (Ob.arr 25 4 [[(sV a3), (V.own 3 a5.length), (V.own 2 a6.length), (iV a4)]]) rfl rfl rfl (ObSub.box (.cons Sub.keepMv (.cons Sub.mv (.cons Sub.keepMv (.cons Sub.keepMv .nil))))) rfl rfl) (Ghost.trans (ghost_mvC 2 0 4 51 3 (Ob.arr 25 4 [[(sV a3), (V.own 3 a5.length), (V.own 4 a6.length), (iV a4)]]) rfl rfl rfl (ObSub.box (.cons Sub.keepMv (.cons Sub.keepMv (.cons Sub.mv (.cons Sub.keepMv .nil))))) rfl rfl) (gr [0, 1, 2, 3, 4] rfl (hB rfl rfl rfl (hD rfl (hD rfl (hR rfl rfl (hR rfl rfl .nil))))) rfl))), (.cons (.tmp rfl) .nil)⟩
      refine rn 21 rfl ?_
      refine ixl h rfl rfl (fun x608 hx609 h => ?_)
      refine rn 3 rfl ?_
      refine spO 155 h rfl (fun hb610 h => ?_) (fun hb610 h => ?_)
      ·refine rn 1 rfl ?_
       refine ln rfl rfl ?_
       refine rn 4 rfl ?_
       refine fxC 150 hb543 rfl ?_
       refine rn 4 rfl ?_
       refine ixl h rfl rfl (fun x611 hx612 h => ?_)
       refine rn 3 rfl ?_
       refine spO 179 h rfl (fun hb613 h => ?_) (fun hb613 h => ?_)
       ·refine rn 1 rfl ?_
        refine ln rfl rfl ?_
        refine rn 4 rfl ?_
        refine fxC 174 hb552 rfl ?_
        refine rn 5 rfl ?_
        replace h := Option.some.inj h
        subst h
        exact wR ⟨.inl rfl, [(6, (bV false))], (Ghost.trans (ghost_mvC 1 0 3 47 3 (Ob.arr 25 4 [[(sV a3), (V.own 3 a5.length), (V.own 2 a6.length), (iV a4)]]) rfl rfl rfl (ObSub.box (.cons Sub.keepMv (.cons Sub.mv (.cons Sub.keepMv (.cons Sub.keepMv .nil))))) rfl rfl) (Ghost.trans (ghost_mvC 2 0 4 51 3 (Ob.arr 25 4 [[(sV a3), (V.own 3 a5.length), (V.own 4 a6.length), (iV a4)]]) rfl rfl rfl (ObSub.box (.cons Sub.keepMv (.cons Sub.keepMv (.cons Sub.mv (.cons Sub.keepMv .nil))))) rfl rfl) (gr [0, 1, 2, 3, 4] rfl (hB rfl rfl rfl (hD rfl (hD rfl (hR rfl rfl (hR rfl rfl .nil))))) rfl))), (.cons (.tmp rfl) .nil)⟩
       refine rn 11 rfl ?_
       replace h := Option.some.inj h
       subst h
       exact wR ⟨.inl rfl, [(6, (bV false))], (Ghost.trans (ghost_mvC 1 0 3 47 3 (Ob.arr 25 4 [[(sV a3), (V.own 3 a5.length), (V.own 2 a6.length), (iV a4)]]) rfl rfl rfl (ObSub.box (.cons Sub.keepMv (.cons Sub.mv (.cons Sub.keepMv (.cons Sub.keepMv .nil))))) rfl rfl) (Ghost.trans (ghost_mvC 2 0 4 51 3 (Ob.arr 25 4 [[(sV a3), (V.own 3 a5.length), (V.own 4 a6.length), (iV a4)]]) rfl rfl rfl (ObSub.box (.cons Sub.keepMv (.cons Sub.keepMv (.cons Sub.mv (.cons Sub.keepMv .nil))))) rfl rfl) (gr [0, 1, 2, 3, 4] rfl (hB rfl rfl rfl (hD rfl (hD rfl (hR rfl rfl (hR rfl rfl .nil))))) rfl))), (.cons (.tmp rfl) .nil)⟩
      refine rn 10 rfl ?_
      refine ixl h rfl rfl (fun x614 hx615 h => ?_)
      refine rn 3 rfl ?_
      refine spO 179 h rfl (fun hb616 h => ?_) (fun hb616 h => ?_)
      ·refine rn 1 rfl ?_
       refine ln rfl rfl ?_
       refine rn 4 rfl ?_
       refine fxC 174 hb552 rfl ?_
       refine rn 5 rfl ?_
       replace h := Option.some.inj h
       subst h
       exact wR ⟨.inl rfl, [(6, (bV false))], (Ghost.trans (ghost_mvC 1 0 3 47 3 (Ob.arr 25 4 [[(sV a3), (V.own 3 a5.length), (V.own 2 a6.length), (iV a4)]]) rfl rfl rfl (ObSub.box (.cons Sub.keepMv (.cons Sub.mv (.cons Sub.keepMv (.cons Sub.keepMv .nil))))) rfl rfl) (Ghost.trans (ghost_mvC 2 0 4 51 3 (Ob.arr 25 4 [[(sV a3), (V.own 3 a5.length), (V.own 4 a6.length), (iV a4)]]) rfl rfl rfl (ObSub.box (.cons Sub.keepMv (.cons Sub.keepMv (.cons Sub.mv (.cons Sub.keepMv .nil))))) rfl rfl) (gr [0, 1, 2, 3, 4] rfl (hB rfl rfl rfl (hD rfl (hD rfl (hR rfl rfl (hR rfl rfl .nil))))) rfl))), (.cons (.tmp rfl) .nil)⟩
      refine rn 11 rfl ?_
      replace h := Option.some.inj h
      subst h
      exact wR ⟨.inl rfl, [(6, (bV false))], (Ghost.trans (ghost_mvC 1 0 3 47 3 (Ob.arr 25 4 [[(sV a3), (V.own 3 a5.length), (V.own 2 a6.length), (iV a4)]]) rfl rfl rfl (ObSub.box (.cons Sub.keepMv (.cons Sub.mv (.cons Sub.keepMv (.cons Sub.keepMv .nil))))) rfl rfl) (Ghost.trans (ghost_mvC 2 0 4 51 3 (Ob.arr 25 4 [[(sV a3), (V.own 3 a5.length), (V.own 4 a6.length), (iV a4)]]) rfl rfl rfl (ObSub.box (.cons Sub.keepMv (.cons Sub.keepMv (.cons Sub.mv (.cons Sub.keepMv .nil))))) rfl rfl) (gr [0, 1, 2, 3, 4] rfl (hB rfl rfl rfl (hD rfl (hD rfl (hR rfl rfl (hR rfl rfl .nil))))) rfl))), (.cons (.tmp rfl) .nil)⟩
     refine rn 26 rfl ?_
     refine ixl h rfl rfl (fun x617 hx618 h => ?_)
     refine rn 3 rfl ?_
     refine spO 155 h rfl (fun hb619 h => ?_) (fun hb619 h => ?_)
     ·refine rn 1 rfl ?_
      refine ln rfl rfl ?_
      refine rn 4 rfl ?_
      refine fxC 150 hb543 rfl ?_
      refine rn 4 rfl ?_
      refine ixl h rfl rfl (fun x620 hx621 h => ?_)
      refine rn 3 rfl ?_
      refine spO 179 h rfl (fun hb622 h => ?_) (fun hb622 h => ?_)
      ·refine rn 1 rfl ?_
       refine ln rfl rfl ?_
       refine rn 4 rfl ?_
       refine spC h rfl (fun hb623 h => ?_) (fun hb623 h => ?_)
       ·refine rn 3 rfl ?_
        refine ixl h rfl rfl (fun x624 hx625 h => ?_)
        refine rn 1 rfl ?_
        refine cl h rfl rfl rfl (W34 _ _) rfl (fun y626 hx627 h => ?_)
        obtain ⟨x628, hx629, h⟩ := bind_some h
        refine rn 7 rfl ?_
        refine ck h (fun hc630 h => ?_)
        refine awp_ghost ghost_res ?_
        refine fa ?_
        refine dr mixed (vs 6 rfl (iD hx629 rfl rfl rfl (vs 4 rfl (xD (OD.mk [(201, (V.agg [(sV x628), (iV (y626.1)), (iV (y525.1))]))] [] [(202, (V.lst 3 (([(TPublished.mk x628 (y626.1) (y525.1))] : List TPublished).map encTPublished)))] []) ⟨⟨rfl, trivial⟩, trivial⟩ (by exact fun S hn h hh => aops_buildSlice_imm [(0, (V.agg [(sV x628), (iV (y626.1)), (iV (y525.1))]))] [[(sV x628), (iV (y626.1)), (iV (y525.1))]] tEl23 tZ51 wants_none rfl rfl rfl rfl (evp_cons h.1 evp_nil) rfl rfl (by simp) (imms_rows (.cons (.cons (Imm.con _) (.cons (Imm.con _) (.cons (Imm.con _) .nil))) .nil)) rfl (aops_nil ⟨rfl, rfl⟩)) rfl (xD (OD.mk [(195, (V.own 2 a6.length)), (202, (V.lst 3 (([(TPublished.mk x628 (y626.1) (y525.1))] : List TPublished).map encTPublished)))] [(2, (Ob.arr 51 3 (a6.map encTPublished))), (3, Ob.res)] [(203, (V.own 3 (a6 ++ ([(TPublished.mk x628 (y626.1) (y525.1))] : List TPublished)).length))] [(3, (Ob.arr 51 3 ((a6 ++ ([(TPublished.mk x628 (y626.1) (y525.1))] : List TPublished)).map encTPublished))), (2, Ob.dead)]) ⟨⟨rfl, rfl, trivial⟩, ⟨rfl, rfl, trivial⟩⟩ (by exact fun S hn h hh => aops_append_at 3 rfl hn hh.2.1 (([(TPublished.mk x628 (y626.1) (y525.1))] : List TPublished).map encTPublished) ((a6 ++ ([(TPublished.mk x628 (y626.1) (y525.1))] : List TPublished)).map encTPublished) tEl23 tIsSl23 rfl rfl wants_none h.1 hh.1 (by simp) h.2.1 (.lst (rows_one one_encTPublished)) (map_snoc encTPublished a6 ([(TPublished.mk x628 (y626.1) (y525.1))] : List TPublished)) (List.length_map ..) hc630 rfl (aops_nil ⟨rfl, rfl⟩)) rfl (vs 3 rfl .nil)))))) (by kernel_rfl) ?_
        refine rn 5 rfl ?_
        replace h := Option.some.inj h
        subst h
        exact wR ⟨.inl rfl, [(6, (bV (y626.2)))], (Ghost.trans (ghost_mvC 1 0 4 47 3 (Ob.arr 25 4 [[(sV a3), (V.own 4 a5.length), (V.own 3 (a6 ++ ([(TPublished.mk x628 (y626.1) (y525.1))] : List TPublished)).length), (iV a4)]]) rfl rfl rfl (ObSub.box (.cons Sub.keepMv (.cons Sub.mv (.cons Sub.keepMv (.cons Sub.keepMv .nil))))) rfl rfl) (gr [0, 1, 2, 4, 3] rfl (hB rfl rfl rfl (hD rfl (hD rfl (hR rfl rfl (hR rfl rfl .nil))))) rfl)), (.cons (.tmp rfl) .nil)⟩
       refine rn 4 rfl ?_
       replace h := Option.some.inj h
       subst h
       exact wR ⟨.inl rfl, [(6, (bV false))], (Ghost.trans (ghost_mvC 1 0 3 47 3 (Ob.arr 25 4 [[(sV a3), (V.own 3 a5.length), (V.own 2 a6.length), (iV a4)]]) rfl rfl rfl (ObSub.box (.cons Sub.keepMv (.cons Sub.mv (.cons Sub.keepMv (.cons Sub.keepMv .nil))))) rfl rfl) (Ghost.trans (ghost_mvC 2 0 4 51 3 (Ob.arr 25 4 [[(sV a3), (V.own 3 a5.length), (V.own 4 a6.length), (iV a4)]]) rfl rfl rfl (ObSub.box (.cons Sub.keepMv (.cons Sub.keepMv (.cons Sub.mv (.cons Sub.keepMv .nil))))) rfl rfl) (gr [0, 1, 2, 3, 4] rfl (hB rfl rfl rfl (hD rfl (hD rfl (hR rfl rfl (hR rfl rfl .nil))))) rfl))), (.cons (.tmp rfl) .nil)⟩
      refine rn 11 rfl ?_
      replace h := Option.some.inj h
      subst h
      exact wR ⟨.inl rfl, [(6, (bV false))], (Ghost.trans (ghost_mvC 1 0 3 47 3 (Ob.arr 25 4 [[(sV a3), (V.own 3 a5.length), (V.own 2 a6.length), (iV a4)]]) rfl rfl rfl (ObSub.box (.cons Sub.keepMv (.cons Sub.mv (.cons Sub.keepMv (.cons Sub.keepMv .nil))))) rfl rfl) (Ghost.trans (ghost_mvC 2 0 4 51 3 (Ob.arr 25 4 [[(sV a3), (V.own 3 a5.length), (V.own 4 a6.length), (iV a4)]]) rfl rfl rfl (ObSub.box (.cons Sub.keepMv (.cons Sub.keepMv (.cons Sub.mv (.cons Sub.keepMv .nil))))) rfl rfl) (gr [0, 1, 2, 3, 4] rfl (hB rfl rfl rfl (hD rfl (hD rfl (hR rfl rfl (hR rfl rfl .nil))))) rfl))), (.cons (.tmp rfl) .nil)⟩
     refine rn 10 rfl ?_
     refine ixl h rfl rfl (fun x631 hx632 h => ?_)
     refine rn 3 rfl ?_
     refine spO 179 h rfl (fun hb633 h => ?_) (fun hb633 h => ?_)
     ·refine rn 1 rfl ?_
      refine ln rfl rfl ?_
      refine rn 4 rfl ?_
      refine spC h rfl (fun hb634 h => ?_) (fun hb634 h => ?_)
      ·refine rn 3 rfl ?_
       refine ixl h rfl rfl (fun x635 hx636 h => ?_)
       refine rn 1 rfl ?_
       refine cl h rfl rfl rfl (W34 _ _) rfl (fun y637 hx638 h => ?_)
       obtain ⟨x639, hx640, h⟩ := bind_some h
       refine rn 7 rfl ?_
       refine ck h (fun hc641 h => ?_)
       refine awp_ghost ghost_res ?_
       refine fa ?_
       refine dr mixed (vs 6 rfl (iD hx640 rfl rfl rfl (vs 4 rfl (xD (OD.mk [(201, (V.agg [(sV x639), (iV (y637.1)), (iV (y525.1))]))] [] [(202, (V.lst 3 (([(TPublished.mk x639 (y637.1) (y525.1))] : List TPublished).map encTPublished)))] []) ⟨⟨rfl, trivial⟩, trivial⟩ (by exact fun S hn h hh => aops_buildSlice_imm [(0, (V.agg [(sV x639), (iV (y637.1)), (iV (y525.1))]))] [[(sV x639), (iV (y637.1)), (iV (y525.1))]] tEl23 tZ51 wants_none rfl rfl rfl rfl (evp_cons h.1 evp_nil) rfl rfl (by simp) (imms_rows (.cons (.cons (Imm.con _) (.cons (Imm.con _) (.cons (Imm.con _) .nil))) .nil)) rfl (aops_nil ⟨rfl, rfl⟩)) rfl (xD (OD.mk [(195, (V.own 2 a6.length)), (202, (V.lst 3 (([(TPublished.mk x639 (y637.1) (y525.1))] : List TPublished).map encTPublished)))] [(2, (Ob.arr 51 3 (a6.map encTPublished))), (3, Ob.res)] [(203, (V.own 3 (a6 ++ ([(TPublished.mk x639 (y637.1) (y525.1))] : List TPublished)).length))] [(3, (Ob.arr 51 3 ((a6 ++ ([(TPublished.mk x639 (y637.1) (y525.1))] : List TPublished)).map encTPublished))), (2, Ob.dead)]) ⟨⟨rfl, rfl, trivial⟩, ⟨rfl, rfl, trivial⟩⟩ (by exact fun S hn h hh => aops_append_at 3 rfl hn hh.2.1 (([(TPublished.mk x639 (y637.1) (y525.1))] : List TPublished).map encTPublished) ((a6 ++ ([(TPublished.mk x639 (y637.1) (y525.1))] : List TPublished)).map encTPublished) tEl23 tIsSl23 rfl rfl wants_none h.1 hh.1 (by simp) h.2.1 (.lst (rows_one one_encTPublished)) (map_snoc encTPublished a6 ([(TPublished.mk x639 (y637.1) (y525.1))] : List TPublished)) (List.length_map ..) hc641 rfl (aops_nil ⟨rfl, rfl⟩)) rfl (vs 3 rfl .nil)))))) (by kernel_rfl) ?_
       refine rn 5 rfl ?_
       replace h := Option.some.inj h
       subst h
       exact wR ⟨.inl rfl, [(6, (bV (y637.2)))], (Ghost.trans (ghost_mvC 1 0 4 47 3 (Ob.arr 25 4 [[(sV a3), (V.own 4 a5.length), (V.own 3 (a6 ++ ([(TPublished.mk x639 (y637.1) (y525.1))] : List TPublished)).length), (iV a4)]]) rfl rfl rfl (ObSub.box (.cons Sub.keepMv (.cons Sub.mv (.cons Sub.keepMv (.cons Sub.keepMv .nil))))) rfl rfl) (gr [0, 1, 2, 4, 3] rfl (hB rfl rfl rfl (hD rfl (hD rfl (hR rfl rfl (hR rfl rfl .nil))))) rfl)), (.cons (.tmp rfl) .nil)⟩
      refine rn 4 rfl ?_
      replace h := Option.some.inj h
      subst h
      exact wR ⟨.inl rfl, [(6, (bV false))], (Ghost.trans (ghost_mvC 1 0 3 47 3 (Ob.arr 25 4 [[(sV a3), (V.own 3 a5.length), (V.own 2 a6.length), (iV a4)]]) rfl rfl rfl (ObSub.box (.cons Sub.keepMv (.cons Sub.mv (.cons Sub.keepMv (.cons Sub.keepMv .nil))))) rfl rfl) (Ghost.trans (ghost_mvC 2 0 4 51 3 (Ob.arr 25 4 [[(sV a3), (V.own 3 a5.length), (V.own 4 a6.length), (iV a4)]]) rfl rfl rfl (ObSub.box (.cons Sub.keepMv (.cons Sub.keepMv (.cons Sub.mv (.cons Sub.keepMv .nil))))) rfl rfl) (gr [0, 1, 2, 3, 4] rfl (hB rfl rfl rfl (hD rfl (hD rfl (hR rfl rfl (hR rfl rfl .nil))))) rfl))), (.cons (.tmp rfl) .nil)⟩
     refine rn 11 rfl ?_
     replace h := Option.some.inj h
     subst h
     exact wR ⟨.inl rfl, [(6, (bV false))], (Ghost.trans (ghost_mvC 1 0 3 47 3 (Ob.arr 25 4 [[(sV a3), (V.own 3 a5.length), (V.own 2 a6.length), (iV a4)]]) rfl rfl rfl (ObSub.box (.cons Sub.keepMv (.cons Sub.mv (.cons Sub.keepMv (.cons Sub.keepMv .nil))))) rfl rfl) (Ghost.trans (ghost_mvC 2 0 4 51 3 (Ob.arr 25 4 [[(sV a3), (V.own 3 a5.length), (V.own 4 a6.length), (iV a4)]]) rfl rfl rfl (ObSub.box (.cons Sub.keepMv (.cons Sub.keepMv (.cons Sub.mv (.cons Sub.keepMv .nil))))) rfl rfl) (gr [0, 1, 2, 3, 4] rfl (hB rfl rfl rfl (hD rfl (hD rfl (hR rfl rfl (hR rfl rfl .nil))))) rfl))), (.cons (.tmp rfl) .nil)⟩
    refine rn 18 rfl ?_
    refine ixl h rfl rfl (fun x642 hx643 h => ?_)
    refine rn 3 rfl ?_
    refine spO 101 h rfl (fun hb644 h => ?_) (fun hb644 h => ?_)
    ·refine rn 1 rfl ?_
     refine ln rfl rfl ?_
     refine rn 3 rfl ?_
     refine spO 106 h rfl (fun hb645 h => ?_) (fun hb645 h => ?_)
     ·refine rn 8 rfl ?_
      refine spO 114 h rfl (fun hb646 h => ?_) (fun hb646 h => ?_)
      ·refine rn 9 rfl ?_
       refine spC h rfl (fun hb647 h => ?_) (fun hb647 h => ?_)
       ·obtain ⟨x648, hx649, h⟩ := bind_some h
        refine rn 1 rfl ?_
        refine dr mixed (vs 10 rfl (oD (a := a5) hx649 rfl rfl rfl rfl (vs 1 rfl .nil))) (by kernel_rfl) ?_
        obtain ⟨x650, hx651, h⟩ := bind_some h
        obtain ⟨x652, hx653, h⟩ := bind_some h
        refine ck h (fun hc654 h => ?_)
        refine awp_ghost ghost_res ?_
        refine awp_ghost ghost_res ?_
        refine fa ?_
        refine dr mixed (vs 4 rfl (xD (OD.mk [(136, (V.ptr 1 3 (w64 (((a5.length : Nat) : Int) - 1)).toNat 2))] [(1, (Ob.arr 47 3 (a5.map dencTRelease))), (3, Ob.res)] [(137, (V.own 3 x648.Exposures.length))] [(1, (Ob.arr 47 3 (setC (a5.map dencTRelease) ((w64 (((a5.length : Nat) : Int) - 1)).toNat) (dencTRelease x648) 2 (V.own 3 x648.Exposures.length)))), (3, (Ob.arr 66 3 (x648.Exposures.map encTExposure)))]) ⟨⟨rfl, trivial⟩, ⟨rfl, rfl, trivial⟩⟩ (by exact fun S hn h hh => aops_load_takeS_at 3 rfl hn hh.2.1 dencTRelease encTExposure rfl tC45 wants_none h.1 hh.1 (idx_some hx649).2 rfl rfl (aops_nil ⟨rfl, rfl⟩)) rfl (vs 1 rfl (iD hx651 rfl rfl rfl (vs 2 rfl (iD hx653 rfl rfl rfl (vs 3 rfl (xD (OD.mk [(145, (V.agg [(sV x650), (sV x652), (iV (y525.1))]))] [] [(146, (V.lst 3 (([(TExposure.mk x650 x652 (y525.1))] : List TExposure).map encTExposure)))] []) ⟨⟨rfl, trivial⟩, trivial⟩ (by exact fun S hn h hh => aops_buildSlice_imm [(0, (V.agg [(sV x650), (sV x652), (iV (y525.1))]))] [[(sV x650), (sV x652), (iV (y525.1))]] tEl45 tZ66 wants_none rfl rfl rfl rfl (evp_cons h.1 evp_nil) rfl rfl (by simp) (imms_rows (.cons (.cons (Imm.con _) (.cons (Imm.con _) (.cons (Imm.con _) .nil))) .nil)) rfl (aops_nil ⟨rfl, rfl⟩)) rfl (xD (OD.mk [(137, (V.own 3 x648.Exposures.length)), (146, (V.lst 3 (([(TExposure.mk x650 x652 (y525.1))] : List TExposure).map encTExposure)))] [(3, (Ob.arr 66 3 (x648.Exposures.map encTExposure))), (4, Ob.res)] [(147, (V.own 4 (x648.Exposures ++ ([(TExposure.mk x650 x652 (y525.1))] : List TExposure)).length))] [(4, (Ob.arr 66 3 ((x648.Exposures ++ ([(TExposure.mk x650 x652 (y525.1))] : List TExposure)).map encTExposure))), (3, Ob.dead)]) ⟨⟨rfl, rfl, trivial⟩, ⟨rfl, rfl, trivial⟩⟩ (by exact fun S hn h hh => aops_append_at 4 rfl hn hh.2.1 (([(TExposure.mk x650 x652 (y525.1))] : List TExposure).map encTExposure) ((x648.Exposures ++ ([(TExposure.mk x650 x652 (y525.1))] : List TExposure)).map encTExposure) tEl45 tIsSl45 rfl rfl wants_none h.1 hh.1 (by simp) h.2.1 (.lst (rows_one one_encTExposure)) (map_snoc encTExposure x648.Exposures ([(TExposure.mk x650 x652 (y525.1))] : List TExposure)) (List.length_map ..) hc654 rfl (aops_nil ⟨rfl, rfl⟩)) rfl (vs 2 rfl (xD (OD.mk [(149, (V.ptr 1 3 (w64 (((a5.length : Nat) : Int) - 1)).toNat 2)), (147, (V.own 4 (x648.Exposures ++ ([(TExposure.mk x650 x652 (y525.1))] : List TExposure)).length))] [(1, (Ob.arr 47 3 (setC (a5.map dencTRelease) ((w64 (((a5.length : Nat) : Int) - 1)).toNat) (dencTRelease x648) 2 (V.own 3 x648.Exposures.length)))), (4, (Ob.arr 66 3 ((x648.Exposures ++ ([(TExposure.mk x650 x652 (y525.1))] : List TExposure)).map encTExposure)))] [] [(1, (Ob.arr 47 3 ((a5.set ((w64 (((a5.length : Nat) : Int) - 1)).toNat) ({ x648 with Exposures := (x648.Exposures ++ ([(TExposure.mk x650 x652 (y525.1))] : List TExposure)) } : TRelease)).map dencTRelease))), (4, Ob.dead)]) ⟨⟨rfl, rfl, trivial⟩, ⟨rfl, rfl, trivial⟩⟩ (by exact fun S hn h hh => aops_store_untakeS dencTRelease encTExposure (fun z => (imms_encTExposure z).keep) (a5.set ((w64 (((a5.length : Nat) : Int) - 1)).toNat) ({ x648 with Exposures := (x648.Exposures ++ ([(TExposure.mk x650 x652 (y525.1))] : List TExposure)) } : TRelease)) tS45 wants_none h.1 h.2.1 hh.1 (Nat.le_of_ble_eq_true rfl) (by simpa using idx_lt hx649) hh.2.1 (by simp) rfl (by rw [List.map_set]; rfl) (aops_nil ⟨rfl, rfl⟩)) rfl .nil))))))))))) (by kernel_rfl) ?_
        exact jX (a3, a4, (a5.set ((w64 (((a5.length : Nat) : Int) - 1)).toNat) ({ x648 with Exposures := (x648.Exposures ++ ([(TExposure.mk x650 x652 (y525.1))] : List TExposure)) } : TRelease))) h (ghost_ren 3 (fun i => ([0, 1, 2] : List Nat).getD i 0) _ _ (by decide) (EnvSub.get .nil) (HpSub.get (.cons rfl (ObSub.box (.cons (Sub.imm (Imm.con _)) (.cons (Sub.ownE rfl rfl (by simp)) (.cons (Sub.own rfl rfl) (.cons (Sub.imm (Imm.con _)) .nil))))) (.cons rfl (ObSub.rowsK RK.h) (.cons rfl (ObSub.rows (rows_imm imms_encTPublished)) .nil)))) rfl)
       refine rn 3 rfl ?_
       refine ixl h rfl rfl (fun x655 hx656 h => ?_)
       refine rn 3 rfl ?_
       refine spO 155 h rfl (fun hb657 h => ?_) (fun hb657 h => ?_)
       ·refine rn 1 rfl ?_
        refine ln rfl rfl ?_
        refine rn 4 rfl ?_
        refine fxC 150 hb543 rfl ?_
        refine rn 4 rfl ?_
        refine ixl h rfl rfl (fun x658 hx659 h => ?_)
        refine rn 3 rfl ?_
        refine spO 179 h rfl (fun hb660 h => ?_) (fun hb660 h => ?_)
        ·refine rn 1 rfl ?_
         refine ln rfl rfl ?_
         refine rn 4 rfl ?_
         refine fxC 174 hb645 rfl ?_
         refine rn 4 rfl ?_
         refine ixl h rfl rfl (fun x661 hx662 h => ?_)
         refine rn 1 rfl ?_
         refine cl h rfl rfl rfl (W34 _ _) rfl (fun y663 hx664 h => ?_)
         obtain ⟨x665, hx666, h⟩ := bind_some h
         refine rn 7 rfl ?_
         refine ck h (fun hc667 h => ?_)
         refine awp_ghost ghost_res ?_
         refine fa ?_
         refine dr mixed (vs 6 rfl (iD hx666 rfl rfl rfl (vs 4 rfl (xD (OD.mk [(201, (V.agg [(sV x665), (iV (y663.1)), (iV (y525.1))]))] [] [(202, (V.lst 3 (([(TPublished.mk x665 (y663.1) (y525.1))] : List TPublished).map encTPublished)))] []) ⟨⟨rfl, trivial⟩, trivial⟩ (by exact fun S hn h hh => aops_buildSlice_imm [(0, (V.agg [(sV x665), (iV (y663.1)), (iV (y525.1))]))] [[(sV x665), (iV (y663.1)), (iV (y525.1))]] tEl23 tZ51 wants_none rfl rfl rfl rfl (evp_cons h.1 evp_nil) rfl rfl (by simp) (imms_rows (.cons (.cons (Imm.con _) (.cons (Imm.con _) (.cons (Imm.con _) .nil))) .nil)) rfl (aops_nil ⟨rfl, rfl⟩)) rfl (xD (OD.mk [(195, (V.own 2 a6.length)), (202, (V.lst 3 (([(TPublished.mk x665 (y663.1) (y525.1))] : List TPublished).map encTPublished)))] [(2, (Ob.arr 51 3 (a6.map encTPublished))), (3, Ob.res)] [(203, (V.own 3 (a6 ++ ([(TPublished.mk x665 (y663.1) (y525.1))] : List TPublished)).length))] [(3, (Ob.arr 51 3 ((a6 ++ ([(TPublished.mk x665 (y663.1) (y525.1))] : List TPublished)).map encTPublished))), (2, Ob.dead)]) ⟨⟨rfl, rfl, trivial⟩, ⟨rfl, rfl, trivial⟩⟩ (by exact fun S hn h hh => aops_append_at 3 rfl hn hh.2.1 (([(TPublished.mk x665 (y663.1) (y525.1))] : List TPublished).map encTPublished) ((a6 ++ ([(TPublished.mk x665 (y663.1) (y525.1))] : List TPublished)).map encTPublished) tEl23 tIsSl23 rfl rfl wants_none h.1 hh.1 (by simp) h.2.1 (.lst (rows_one one_encTPublished)) (map_snoc encTPublished a6 ([(TPublished.mk x665 (y663.1) (y525.1))] : List TPublished)) (List.length_map ..) hc667 rfl (aops_nil ⟨rfl, rfl⟩)) rfl (vs 3 rfl .nil)))))) (by kernel_rfl) ?_
         refine rn 5 rfl ?_
         replace h := Option.some.inj h
         subst h
         exact wR ⟨.inl rfl, [(6, (bV (y663.2)))], (Ghost.trans (ghost_mvC 1 0 4 47 3 (Ob.arr 25 4 [[(sV a3), (V.own 4 a5.length), (V.own 3 (a6 ++ ([(TPublished.mk x665 (y663.1) (y525.1))] : List TPublished)).length), (iV a4)]]) rfl rfl rfl (ObSub.box (.cons Sub.keepMv (.cons Sub.mv (.cons Sub.keepMv (.cons Sub.keepMv .nil))))) rfl rfl) (gr [0, 1, 2, 4, 3] rfl (hB rfl rfl rfl (hD rfl (hD rfl (hR rfl rfl (hR rfl rfl .nil))))) rfl)), (.cons (.tmp rfl) .nil)⟩
        refine rn 11 rfl ?_
        replace h := Option.some.inj h
        subst h
        exact wR ⟨.inl rfl, [(6, (bV false))], (Ghost.trans (ghost_mvC 1 0 3 47 3 (Ob.arr 25 4 [[(sV a3), (V.own 3 a5.length), (V.own 2 a6.length), (iV a4)]]) rfl rfl rfl (ObSub.box (.cons Sub.keepMv (.cons Sub.mv (.cons Sub.keepMv (.cons Sub.keepMv .nil))))) rfl rfl) (Ghost.trans (ghost_mvC 2 0 4 51 3 (Ob.arr 25 4 [[(sV a3), (V.own 3 a5.length), (V.own 4 a6.length), (iV a4)]]) rfl rfl rfl (ObSub.box (.cons Sub.keepMv (.cons Sub.keepMv (.cons Sub.mv (.cons Sub.keepMv .nil))))) rfl rfl) (gr [0, 1, 2, 3, 4] rfl (hB rfl rfl rfl (hD rfl (hD rfl (hR rfl rfl (hR rfl rfl .nil))))) rfl))), (.cons (.tmp rfl) .nil)⟩
       refine rn 10 rfl ?_
       refine ixl h rfl rfl (fun x668 hx669 h => ?_)
       refine rn 3 rfl ?_
       refine spO 179 h rfl (fun hb670 h => ?_) (fun hb670 h => ?_)
       ·refine rn 1 rfl ?_
        refine ln rfl rfl ?_
        refine rn 4 rfl ?_
        refine fxC 174 hb645 rfl ?_
        refine rn 4 rfl ?_
        refine ixl h rfl rfl (fun x671 hx672 h => ?_)
        refine rn 1 rfl ?_
        refine cl h rfl rfl rfl (W34 _ _) rfl (fun y673 hx674 h => ?_)
        obtain ⟨x675, hx676, h⟩ := bind_some h
        refine rn 7 rfl ?_
        refine ck h (fun hc677 h => ?_)
        refine awp_ghost ghost_res ?_
        refine fa ?_
        refine dr mixed (vs 6 rfl (iD hx676 rfl rfl rfl (vs 4 rfl (xD (OD.mk [(201, (V.agg [(sV x675), (iV (y673.1)), (iV (y525.1))]))] [] [(202, (V.lst 3 (([(TPublished.mk x675 (y673.1) (y525.1))] : List TPublished).map encTPublished)))] []) ⟨⟨rfl, trivial⟩, trivial⟩ (by exact fun S hn h hh => aops_buildSlice_imm [(0, (V.agg [(sV x675), (iV (y673.1)), (iV (y525.1))]))] [[(sV x675), (iV (y673.1)), (iV (y525.1))]] tEl23 tZ51 wants_none rfl rfl rfl rfl (evp_cons h.1 evp_nil) rfl rfl (by simp) (imms_rows (.cons (.cons (Imm.con _) (.cons (Imm.con _) (.cons (Imm.con _) .nil))) .nil)) rfl (aops_nil ⟨rfl, rfl⟩)) rfl (xD (OD.mk [(195, (V.own 2 a6.length)), (202, (V.lst 3 (([(TPublished.mk x675 (y673.1) (y525.1))] : List TPublished).map encTPublished)))] [(2, (Ob.arr 51 3 (a6.map encTPublished))), (3, Ob.res)] [(203, (V.own 3 (a6 ++ ([(TPublished.mk x675 (y673.1) (y525.1))] : List TPublished)).length))] [(3, (Ob.arr 51 3 ((a6 ++ ([(TPublished.mk x675 (y673.1) (y525.1))] : List TPublished)).map encTPublished))), (2, Ob.dead)]) ⟨⟨rfl, rfl, trivial⟩, ⟨rfl, rfl, trivial⟩⟩ (by exact fun S hn h hh => aops_append_at 3 rfl hn hh.2.1 (([(TPublished.mk x675 (y673.1) (y525.1))] : List TPublished).map encTPublished) ((a6 ++ ([(TPublished.mk x675 (y673.1) (y525.1))] : List TPublished)).map encTPublished) tEl23 tIsSl23 rfl rfl wants_none h.1 hh.1 (by simp) h.2.1 (.lst (rows_one one_encTPublished)) (map_snoc encTPublished a6 ([(TPublished.mk x675 (y673.1) (y525.1))] : List TPublished)) (List.length_map ..) hc677 rfl (aops_nil ⟨rfl, rfl⟩)) rfl (vs 3 rfl .nil)))))) (by kernel_rfl) ?_
        refine rn 5 rfl ?_
        replace h := Option.some.inj h
        subst h
        exact wR ⟨.inl rfl, [(6, (bV (y673.2)))], (Ghost.trans (ghost_mvC 1 0 4 47 3 (Ob.arr 25 4 [[(sV a3), (V.own 4 a5.length), (V.own 3 (a6 ++ ([(TPublished.mk x675 (y673.1) (y525.1))] : List TPublished)).length), (iV a4)]]) rfl rfl rfl (ObSub.box (.cons Sub.keepMv (.cons Sub.mv (.cons Sub.keepMv (.cons Sub.keepMv .nil))))) rfl rfl) (gr [0, 1, 2, 4, 3] rfl (hB rfl rfl rfl (hD rfl (hD rfl (hR rfl rfl (hR rfl rfl .nil))))) rfl)), (.cons (.tmp rfl) .nil)⟩
       refine rn 11 rfl ?_
       replace h := Option.some.inj h
       subst h
       exact wR ⟨.inl rfl, [(6, (bV false))], (Ghost.trans (ghost_mvC 1 0 3 47 3 (Ob.arr 25 4 [[(sV a3), (V.own 3 a5.length), (V.own 2 a6.length), (iV a4)]]) rfl rfl rfl (ObSub.box (.cons Sub.keepMv (.cons Sub.mv (.cons Sub.keepMv (.cons Sub.keepMv .nil))))) rfl rfl) (Ghost.trans (ghost_mvC 2 0 4 51 3 (Ob.arr 25 4 [[(sV a3), (V.own 3 a5.length), (V.own 4 a6.length), (iV a4)]]) rfl rfl rfl (ObSub.box (.cons Sub.keepMv (.cons Sub.keepMv (.cons Sub.mv (.cons Sub.keepMv .nil))))) rfl rfl) (gr [0, 1, 2, 3, 4] rfl (hB rfl rfl rfl (hD rfl (hD rfl (hR rfl rfl (hR rfl rfl .nil))))) rfl))), (.cons (.tmp rfl) .nil)⟩
      refine rn 13 rfl ?_
      refine ixl h rfl rfl (fun x678 hx679 h => ?_)
      refine rn 3 rfl ?_
      refine spO 155 h rfl (fun hb680 h => ?_) (fun hb680 h => ?_)
      ·refine rn 1 rfl ?_
       refine ln rfl rfl ?_
       refine rn 4 rfl ?_
       refine fxC 150 hb543 rfl ?_
       refine rn 4 rfl ?_
       refine ixl h rfl rfl (fun x681 hx682 h => ?_)
       refine rn 3 rfl ?_
       refine spO 179 h rfl (fun hb683 h => ?_) (fun hb683 h => ?_)
       ·refine rn 1 rfl ?_
        refine ln rfl rfl ?_
        refine rn 4 rfl ?_
        refine fxC 174 hb645 rfl ?_
        refine rn 4 rfl ?_
        refine ixl h rfl rfl (fun x684 hx685 h => ?_)
        refine rn 1 rfl ?_
        refine cl h rfl rfl rfl (W34 _ _) rfl (fun y686 hx687 h => ?_)
        obtain ⟨x688, hx689, h⟩ := bind_some h
        refine rn 7 rfl ?_
        refine ck h (fun hc690 h => ?_)
        refine awp_ghost ghost_res ?_
        refine fa ?_
        refine dr mixed (vs 6 rfl (iD hx689 rfl rfl rfl (vs 4 rfl (xD (OD.mk [(201, (V.agg [(sV x688), (iV (y686.1)), (iV (y525.1))]))] [] [(202, (V.lst 3 (([(TPublished.mk x688 (y686.1) (y525.1))] : List TPublished).map encTPublished)))] []) ⟨⟨rfl, trivial⟩, trivial⟩ (by exact fun S hn h hh => aops_buildSlice_imm [(0, (V.agg [(sV x688), (iV (y686.1)), (iV (y525.1))]))] [[(sV x688), (iV (y686.1)), (iV (y525.1))]] tEl23 tZ51 wants_none rfl rfl rfl rfl (evp_cons h.1 evp_nil) rfl rfl (by simp) (imms_rows (.cons (.cons (Imm.con _) (.cons (Imm.con _) (.cons (Imm.con _) .nil))) .nil)) rfl (aops_nil ⟨rfl, rfl⟩)) rfl (xD (OD.mk [(195, (V.own 2 a6.length)), (202, (V.lst 3 (([(TPublished.mk x688 (y686.1) (y525.1))] : List TPublished).map encTPublished)))] [(2, (Ob.arr 51 3 (a6.map encTPublished))), (3, Ob.res)] [(203, (V.own 3 (a6 ++ ([(TPublished.mk x688 (y686.1) (y525.1))] : List TPublished)).length))] [(3, (Ob.arr 51 3 ((a6 ++ ([(TPublished.mk x688 (y686.1) (y525.1))] : List TPublished)).map encTPublished))), (2, Ob.dead)]) ⟨⟨rfl, rfl, trivial⟩, ⟨rfl, rfl, trivial⟩⟩ (by exact fun S hn h hh => aops_append_at 3 rfl hn hh.2.1 (([(TPublished.mk x688 (y686.1) (y525.1))] : List TPublished).map encTPublished) ((a6 ++ ([(TPublished.mk x688 (y686.1) (y525.1))] : List TPublished)).map encTPublished) tEl23 tIsSl23 rfl rfl wants_none h.1 hh.1 (by simp) h.2.1 (.lst (rows_one one_encTPublished)) (map_snoc encTPublished a6 ([(TPublished.mk x688 (y686.1) (y525.1))] : List TPublished)) (List.length_map ..) hc690 rfl (aops_nil ⟨rfl, rfl⟩)) rfl (vs 3 rfl .nil)))))) (by kernel_rfl) ?_
        refine rn 5 rfl ?_
        replace h := Option.some.inj h
        subst h
        exact wR ⟨.inl rfl, [(6, (bV (y686.2)))], (Ghost.trans (ghost_mvC 1 0 4 47 3 (Ob.arr 25 4 [[(sV a3), (V.own 4 a5.length), (V.own 3 (a6 ++ ([(TPublished.mk x688 (y686.1) (y525.1))] : List TPublished)).length), (iV a4)]]) rfl rfl rfl (ObSub.box (.cons Sub.keepMv (.cons Sub.mv (.cons Sub.keepMv (.cons Sub.keepMv .nil))))) rfl rfl) (gr [0, 1, 2, 4, 3] rfl (hB rfl rfl rfl (hD rfl (hD rfl (hR rfl rfl (hR rfl rfl .nil))))) rfl)), (.cons (.tmp rfl) .nil)⟩
       refine rn 11 rfl ?_
       replace h := Option.some.inj h
       subst h
       exact wR ⟨.inl rfl, [(6, (bV false))], (Ghost.trans (ghost_mvC 1 0 3 47 3 (Ob.arr 25 4 [[(sV a3), (V.own 3 a5.length), (V.own 2 a6.length), (iV a4)]]) rfl rfl rfl (ObSub.box (.cons Sub.keepMv (.cons Sub.mv (.cons Sub.keepMv (.cons Sub.keepMv .nil))))) rfl rfl) (Ghost.trans (ghost_mvC 2 0 4 51 3 (Ob.arr 25 4 [[(sV a3), (V.own 3 a5.length), (V.own 4 a6.length), (iV a4)]]) rfl rfl rfl (ObSub.box (.cons Sub.keepMv (.cons Sub.keepMv (.cons Sub.mv (.cons Sub.keepMv .nil))))) rfl rfl) (gr [0, 1, 2, 3, 4] rfl (hB rfl rfl rfl (hD rfl (hD rfl (hR rfl rfl (hR rfl rfl .nil))))) rfl))), (.cons (.tmp rfl) .nil)⟩
      refine rn 10 rfl ?_
      refine ixl h rfl rfl (fun x691 hx692 h => ?_)
      refine rn 3 rfl ?_
      refine spO 179 h rfl (fun hb693 h => ?_) (fun hb693 h => ?_)
      ·refine rn 1 rfl ?_
       refine ln rfl rfl ?_
       refine rn 4 rfl ?_
       refine fxC 174 hb645 rfl ?_
       refine rn 4 rfl ?_
       refine ixl h rfl rfl (fun x694 hx695 h => ?_)
       refine rn 1 rfl ?_
       refine cl h rfl rfl rfl (W34 _ _) rfl (fun y696 hx697 h => ?_)
       obtain ⟨x698, hx699, h⟩ := bind_some h
       refine rn 7 rfl ?_
       refine ck h (fun hc700 h => ?_)
       refine awp_ghost ghost_res ?_
       refine fa ?_
       refine dr mixed (vs 6 rfl (iD hx699 rfl rfl rfl (vs 4 rfl (xD (OD.mk [(201, (V.agg [(sV x698), (iV (y696.1)), (iV (y525.1))]))] [] [(202, (V.lst 3 (([(TPublished.mk x698 (y696.1) (y525.1))] : List TPublished).map encTPublished)))] []) ⟨⟨rfl, trivial⟩, trivial⟩ (by exact fun S hn h hh => aops_buildSlice_imm [(0, (V.agg [(sV x698), (iV (y696.1)), (iV (y525.1))]))] [[(sV x698), (iV (y696.1)), (iV (y525.1))]] tEl23 tZ51 wants_none rfl rfl rfl rfl (evp_cons h.1 evp_nil) rfl rfl (by simp) (imms_rows (.cons (.cons (Imm.con _) (.cons (Imm.con _) (.cons (Imm.con _) .nil))) .nil)) rfl (aops_nil ⟨rfl, rfl⟩)) rfl (xD (OD.mk [(195, (V.own 2 a6.length)), (202, (V.lst 3 (([(TPublished.mk x698 (y696.1) (y525.1))] : List TPublished).map encTPublished)))] [(2, (Ob.arr 51 3 (a6.map encTPublished))), (3, Ob.res)] [(203, (V.own 3 (a6 ++ ([(TPublished.mk x698 (y696.1) (y525.1))] : List TPublished)).length))] [(3, (Ob.arr 51 3 ((a6 ++ ([(TPublished.mk x698 (y696.1) (y525.1))] : List TPublished)).map encTPublished))), (2, Ob.dead)]) ⟨⟨rfl, rfl, trivial⟩, ⟨rfl, rfl, trivial⟩⟩ (by exact fun S hn h hh => aops_append_at 3 rfl hn hh.2.1 (([(TPublished.mk x698 (y696.1) (y525.1))] : List TPublished).map encTPublished) ((a6 ++ ([(TPublished.mk x698 (y696.1) (y525.1))] : List TPublished)).map encTPublished) tEl23 tIsSl23 rfl rfl wants_none h.1 hh.1 (by simp) h.2.1 (.lst (rows_one one_encTPublished)) (map_snoc encTPublished a6 ([(TPublished.mk x698 (y696.1) (y525.1))] : List TPublished)) (List.length_map ..) hc700 rfl (aops_nil ⟨rfl, rfl⟩)) rfl (vs 3 rfl .nil)))))) (by kernel_rfl) ?_
       refine rn 5 rfl ?_
       replace h := Option.some.inj h
       subst h
       exact wR ⟨.inl rfl, [(6, (bV (y696.2)))], (Ghost.trans (ghost_mvC 1 0 4 47 3 (Ob.arr 25 4 [[(sV a3), (V.own 4 a5.length), (V.own 3 (a6 ++ ([(TPublished.mk x698 (y696.1) (y525.1))] : List TPublished)).length), (iV a4)]]) rfl rfl rfl (ObSub.box (.cons Sub.keepMv (.cons Sub.mv (.cons Sub.keepMv (.cons Sub.keepMv .nil))))) rfl rfl) (gr [0, 1, 2, 4, 3] rfl (hB rfl rfl rfl (hD rfl (hD rfl (hR rfl rfl (hR rfl rfl .nil))))) rfl)), (.cons (.tmp rfl) .nil)⟩
      refine rn 11 rfl ?_
      replace h := Option.some.inj h
      subst h
      exact wR ⟨.inl rfl, [(6, (bV false))], (Ghost.trans (ghost_mvC 1 0 3 47 3 (Ob.arr 25 4 [[(sV a3), (V.own 3 a5.length), (V.own 2 a6.length), (iV a4)]]) rfl rfl rfl (ObSub.box (.cons Sub.keepMv (.cons Sub.mv (.cons Sub.keepMv (.cons Sub.keepMv .nil))))) rfl rfl) (Ghost.trans (ghost_mvC 2 0 4 51 3 (Ob.arr 25 4 [[(sV a3), (V.own 3 a5.length), (V.own 4 a6.length), (iV a4)]]) rfl rfl rfl (ObSub.box (.cons Sub.keepMv (.cons Sub.keepMv (.cons Sub.mv (.cons Sub.keepMv .nil))))) rfl rfl) (gr [0, 1, 2, 3, 4] rfl (hB rfl rfl rfl (hD rfl (hD rfl (hR rfl rfl (hR rfl rfl .nil))))) rfl))), (.cons (.tmp rfl) .nil)⟩
     refine rn 21 rfl ?_
     refine ixl h rfl rfl (fun x701 hx702 h => ?_)
     refine rn 3 rfl ?_
     refine spO 155 h rfl (fun hb703 h => ?_) (fun hb703 h => ?_)
     ·refine rn 1 rfl ?_
      refine ln rfl rfl ?_
      refine rn 4 rfl ?_
      refine fxC 150 hb543 rfl ?_
      refine rn 4 rfl ?_
      refine ixl h rfl rfl (fun x704 hx705 h => ?_)
      refine rn 3 rfl ?_
      refine spO 179 h rfl (fun hb706 h => ?_) (fun hb706 h => ?_)
      ·refine rn 1 rfl ?_
       refine ln rfl rfl ?_
       refine rn 4 rfl ?_
       refine fxC 174 hb645 rfl ?_
       refine rn 5 rfl ?_
       replace h := Option.some.inj h
       subst h
       exact wR ⟨.inl rfl, [(6, (bV false))], (Ghost.trans (ghost_mvC 1 0 3 47 3 (Ob.arr 25 4 [[(sV a3), (V.own 3 a5.length), (V.own 2 a6.length), (iV a4)]]) rfl rfl rfl (ObSub.box (.cons Sub.keepMv (.cons Sub.mv (.cons Sub.keepMv (.cons Sub.keepMv .nil))))) rfl rfl) (Ghost.trans (ghost_mvC 2 0 4 51 3 (Ob.arr 25 4 [[(sV a3), (V.own 3 a5.length), (V.own 4 a6.length), (iV a4)]]) rfl rfl rfl (ObSub.box (.cons Sub.keepMv (.cons Sub.keepMv (.cons Sub.mv (.cons Sub.keepMv .nil))))) rfl rfl) (gr [0, 1, 2, 3, 4] rfl (hB rfl rfl rfl (hD rfl (hD rfl (hR rfl rfl (hR rfl rfl .nil))))) rfl))), (.cons (.tmp rfl) .nil)⟩
      refine rn 11 rfl ?_
      replace h := Option.some.inj h
      subst h
      exact wR ⟨.inl rfl, [(6, (bV false))], (Ghost.trans (ghost_mvC 1 0 3 47 3 (Ob.arr 25 4 [[(sV a3), (V.own 3 a5.length), (V.own 2 a6.length), (iV a4)]]) rfl rfl rfl (ObSub.box (.cons Sub.keepMv (.cons Sub.mv (.cons Sub.keepMv (.cons Sub.keepMv .nil))))) rfl rfl) (Ghost.trans (ghost_mvC 2 0 4 51 3 (Ob.arr 25 4 [[(sV a3), (V.own 3 a5.length), (V.own 4 a6.length), (iV a4)]]) rfl rfl rfl (ObSub.box (.cons Sub.keepMv (.cons Sub.keepMv (.cons Sub.mv (.cons Sub.keepMv .nil))))) rfl rfl) (gr [0, 1, 2, 3, 4] rfl (hB rfl rfl rfl (hD rfl (hD rfl (hR rfl rfl (hR rfl rfl .nil))))) rfl))), (.cons (.tmp rfl) .nil)⟩
     refine rn 10 rfl ?_
     refine ixl h rfl rfl (fun x707 hx708 h => ?_)
     refine rn 3 rfl ?_
     refine spO 179 h rfl (fun hb709 h => ?_) (fun hb709 h => ?_)
     ·refine rn 1 rfl ?_
      refine ln rfl rfl ?_
      refine rn 4 rfl ?_
      refine fxC 174 hb645 rfl ?_
      refine rn 5 rfl ?_
      replace h := Option.some.inj h
      subst h
      exact wR ⟨.inl rfl, [(6, (bV false))], (Ghost.trans (ghost_mvC 1 0 3 47 3 (Ob.arr 25 4 [[(sV a3), (V.own 3 a5.length), (V.own 2 a6.length), (iV a4)]]) rfl rfl rfl (ObSub.box (.cons Sub.keepMv (.cons Sub.mv (.cons Sub.keepMv (.cons Sub.keepMv .nil))))) rfl rfl) (Ghost.trans (ghost_mvC 2 0 4 51 3 (Ob.arr 25 4 [[(sV a3), (V.own 3 a5.length), (V.own 4 a6.length), (iV a4)]]) rfl rfl rfl (ObSub.box (.cons Sub.keepMv (.cons Sub.keepMv (.cons Sub.mv (.cons Sub.keepMv .nil))))) rfl rfl) (gr [0, 1, 2, 3, 4] rfl (hB rfl rfl rfl (hD rfl (hD rfl (hR rfl rfl (hR rfl rfl .nil))))) rfl))), (.cons (.tmp rfl) .nil)⟩
     refine rn 11 rfl ?_
     replace h := Option.some.inj h
     subst h
     exact wR ⟨.inl rfl, [(6, (bV false))], (Ghost.trans (ghost_mvC 1 0 3 47 3 (Ob.arr 25 4 [[(sV a3), (V.own 3 a5.length), (V.own 2 a6.length), (iV a4)]]) rfl rfl rfl (ObSub.box (.cons Sub.keepMv (.cons Sub.mv (.cons Sub.keepMv (.cons Sub.keepMv .nil))))) rfl rfl) (Ghost.trans (ghost_mvC 2 0 4 51 3 (Ob.arr 25 4 [[(sV a3), (V.own 3 a5.length), (V.own 4 a6.length), (iV a4)]]) rfl rfl rfl (ObSub.box (.cons Sub.keepMv (.cons Sub.keepMv (.cons Sub.mv (.cons Sub.keepMv .nil))))) rfl rfl) (gr [0, 1, 2, 3, 4] rfl (hB rfl rfl rfl (hD rfl (hD rfl (hR rfl rfl (hR rfl rfl .nil))))) rfl))), (.cons (.tmp rfl) .nil)⟩
    refine rn 26 rfl ?_
    refine ixl h rfl rfl (fun x710 hx711 h => ?_)
    refine rn 3 rfl ?_
    refine spO 155 h rfl (fun hb712 h => ?_) (fun hb712 h => ?_)
    ·refine rn 1 rfl ?_
     refine ln rfl rfl ?_
     refine rn 4 rfl ?_
     refine fxC 150 hb543 rfl ?_
     refine rn 4 rfl ?_
     refine ixl h rfl rfl (fun x713 hx714 h => ?_)
     refine rn 3 rfl ?_
     refine spO 179 h rfl (fun hb715 h => ?_) (fun hb715 h => ?_)
     ·refine rn 1 rfl ?_
      refine ln rfl rfl ?_
      refine rn 4 rfl ?_
      refine spC h rfl (fun hb716 h => ?_) (fun hb716 h => ?_)
      ·refine rn 3 rfl ?_
       refine ixl h rfl rfl (fun x717 hx718 h => ?_)
       refine rn 1 rfl ?_
       refine cl h rfl rfl rfl (W34 _ _) rfl (fun y719 hx720 h => ?_)
       obtain ⟨x721, hx722, h⟩ := bind_some h
       refine rn 7 rfl ?_
       refine ck h (fun hc723 h => ?_)
       refine awp_ghost ghost_res ?_
       refine fa ?_
       refine dr mixed (vs 6 rfl (iD hx722 rfl rfl rfl (vs 4 rfl (xD (OD.mk [(201, (V.agg [(sV x721), (iV (y719.1)), (iV (y525.1))]))] [] [(202, (V.lst 3 (([(TPublished.mk x721 (y719.1) (y525.1))] : List TPublished).map encTPublished)))] []) ⟨⟨rfl, trivial⟩, trivial⟩ (by exact fun S hn h hh => aops_buildSlice_imm [(0, (V.agg [(sV x721), (iV (y719.1)), (iV (y525.1))]))] [[(sV x721), (iV (y719.1)), (iV (y525.1))]] tEl23 tZ51 wants_none rfl rfl rfl rfl (evp_cons h.1 evp_nil) rfl rfl (by simp) (imms_rows (.cons (.cons (Imm.con _) (.cons (Imm.con _) (.cons (Imm.con _) .nil))) .nil)) rfl (aops_nil ⟨rfl, rfl⟩)) rfl (xD (OD.mk [(195, (V.own 2 a6.length)), (202, (V.lst 3 (([(TPublished.mk x721 (y719.1) (y525.1))] : List TPublished).map encTPublished)))] [(2, (Ob.arr 51 3 (a6.map encTPublished))), (3, Ob.res)] [(203, (V.own 3 (a6 ++ ([(TPublished.mk x721 (y719.1) (y525.1))] : List TPublished)).length))] [(3, (Ob.arr 51 3 ((a6 ++ ([(TPublished.mk x721 (y719.1) (y525.1))] : List TPublished)).map encTPublished))), (2, Ob.dead)]) ⟨⟨rfl, rfl, trivial⟩, ⟨rfl, rfl, trivial⟩⟩ (by exact fun S hn h hh => aops_append_at 3 rfl hn hh.2.1 (([(TPublished.mk x721 (y719.1) (y525.1))] : List TPublished).map encTPublished) ((a6 ++ ([(TPublished.mk x721 (y719.1) (y525.1))] : List TPublished)).map encTPublished) tEl23 tIsSl23 rfl rfl wants_none h.1 hh.1 (by simp) h.2.1 (.lst (rows_one one_encTPublished)) (map_snoc encTPublished a6 ([(TPublished.mk x721 (y719.1) (y525.1))] : List TPublished)) (List.length_map ..) hc723 rfl (aops_nil ⟨rfl, rfl⟩)) rfl (vs 3 rfl .nil)))))) (by kernel_rfl) ?_
       refine rn 5 rfl ?_
       replace h := Option.some.inj h
       subst h
       exact wR ⟨.inl rfl, [(6, (bV (y719.2)))], (Ghost.trans (ghost_mvC 1 0 4 47 3 (Ob.arr 25 4 [[(sV a3), (V.own 4 a5.length), (V.own 3 (a6 ++ ([(TPublished.mk x721 (y719.1) (y525.1))] : List TPublished)).length), (iV a4)]]) rfl rfl rfl (ObSub.box (.cons Sub.keepMv (.cons Sub.mv (.cons Sub.keepMv (.cons Sub.keepMv .nil))))) rfl rfl) (gr [0, 1, 2, 4, 3] rfl (hB rfl rfl rfl (hD rfl (hD rfl (hR rfl rfl (hR rfl rfl .nil))))) rfl)), (.cons (.tmp rfl) .nil)⟩
      refine rn 4 rfl ?_
      replace h := Option.some.inj h
      subst h
      exact wR ⟨.inl rfl, [(6, (bV false))], (Ghost.trans (ghost_mvC 1 0 3 47 3 (Ob.arr 25 4 [[(sV a3), (V.own 3 a5.length), (V.own 2 a6.length), (iV a4)]]) rfl rfl rfl (ObSub.box (.cons Sub.keepMv (.cons Sub.mv (.cons Sub.keepMv (.cons Sub.keepMv .nil))))) rfl rfl) (Ghost.trans (ghost_mvC 2 0 4 51 3 (Ob.arr 25 4 [[(sV a3), (V.own 3 a5.length), (V.own 4 a6.length), (iV a4)]]) rfl rfl rfl (ObSub.box (.cons Sub.keepMv (.cons Sub.keepMv (.cons Sub.mv (.cons Sub.keepMv .nil))))) rfl rfl) (gr [0, 1, 2, 3, 4] rfl (hB rfl rfl rfl (hD rfl (hD rfl (hR rfl rfl (hR rfl rfl .nil))))) rfl))), (.cons (.tmp rfl) .nil)⟩
     refine rn 11 rfl ?_
     replace h := Option.some.inj h
     subst h
     exact wR ⟨.inl rfl, [(6, (bV false))], (Ghost.trans (ghost_mvC 1 0 3 47 3 (Ob.arr 25 4 [[(sV a3), (V.own 3 a5.length), (V.own 2 a6.length), (iV a4)]]) rfl rfl rfl (ObSub.box (.cons Sub.keepMv (.cons Sub.mv (.cons Sub.keepMv (.cons Sub.keepMv .nil))))) rfl rfl) (Ghost.trans (ghost_mvC 2 0 4 51 3 (Ob.arr 25 4 [[(sV a3), (V.own 3 a5.length), (V.own 4 a6.length), (iV a4)]]) rfl rfl rfl (ObSub.box (.cons Sub.keepMv (.cons Sub.keepMv (.cons Sub.mv (.cons Sub.keepMv .nil))))) rfl rfl) (gr [0, 1, 2, 3, 4] rfl (hB rfl rfl rfl (hD rfl (hD rfl (hR rfl rfl (hR rfl rfl .nil))))) rfl))), (.cons (.tmp rfl) .nil)⟩
    refine rn 10 rfl ?_
    refine ixl h rfl rfl (fun x724 hx725 h => ?_)
    refine rn 3 rfl ?_
    refine spO 179 h rfl (fun hb726 h => ?_) (fun hb726 h => ?_)
    ·refine rn 1 rfl ?_
     refine ln rfl rfl ?_
     refine rn 4 rfl ?_
     refine spC h rfl (fun hb727 h => ?_) (fun hb727 h => ?_)
     ·refine rn 3 rfl ?_
      refine ixl h rfl rfl (fun x728 hx729 h => ?_)
      refine rn 1 rfl ?_
      refine cl h rfl rfl rfl (W34 _ _) rfl (fun y730 hx731 h => ?_)
      obtain ⟨x732, hx733, h⟩ := bind_some h
      refine rn 7 rfl ?_
      refine ck h (fun hc734 h => ?_)
      refine awp_ghost ghost_res ?_
      refine fa ?_
      refine dr mixed (vs 6 rfl (iD hx733 rfl rfl rfl (vs 4 rfl (xD (OD.mk [(201, (V.agg [(sV x732), (iV (y730.1)), (iV (y525.1))]))] [] [(202, (V.lst 3 (([(TPublished.mk x732 (y730.1) (y525.1))] : List TPublished).map encTPublished)))] []) ⟨⟨rfl, trivial⟩, trivial⟩ (by exact fun S hn h hh => aops_buildSlice_imm [(0, (V.agg [(sV x732), (iV (y730.1)), (iV (y525.1))]))] [[(sV x732), (iV (y730.1)), (iV (y525.1))]] tEl23 tZ51 wants_none rfl rfl rfl rfl (evp_cons h.1 evp_nil) rfl rfl (by simp) (imms_rows (.cons (.cons (Imm.con _) (.cons (Imm.con _) (.cons (Imm.con _) .nil))) .nil)) rfl (aops_nil ⟨rfl, rfl⟩)) rfl (xD (OD.mk [(195, (V.own 2 a6.length)), (202, (V.lst 3 (([(TPublished.mk x732 (y730.1) (y525.1))] : List TPublished).map encTPublished)))] [(2, (Ob.arr 51 3 (a6.map encTPublished))), (3, Ob.res)] [(203, (V.own 3 (a6 ++ ([(TPublished.mk x732 (y730.1) (y525.1))] : List TPublished)).length))] [(3, (Ob.arr 51 3 ((a6 ++ ([(TPublished.mk x732 (y730.1) (y525.1))] : List TPublished)).map encTPublished))), (2, Ob.dead)]) ⟨⟨rfl, rfl, trivial⟩, ⟨rfl, rfl, trivial⟩⟩ (by exact fun S hn h hh => aops_append_at 3 rfl hn hh.2.1 (([(TPublished.mk x732 (y730.1) (y525.1))] : List TPublished).map encTPublished) ((a6 ++ ([(TPublished.mk x732 (y730.1) (y525.1))] : List TPublished)).map encTPublished) tEl23 tIsSl23 rfl rfl wants_none h.1 hh.1 (by simp) h.2.1 (.lst (rows_one one_encTPublished)) (map_snoc encTPublished a6 ([(TPublished.mk x732 (y730.1) (y525.1))] : List TPublished)) (List.length_map ..) hc734 rfl (aops_nil ⟨rfl, rfl⟩)) rfl (vs 3 rfl .nil)))))) (by kernel_rfl) ?_
      refine rn 5 rfl ?_
      replace h := Option.some.inj h
      subst h
      exact wR ⟨.inl rfl, [(6, (bV (y730.2)))], (Ghost.trans (ghost_mvC 1 0 4 47 3 (Ob.arr 25 4 [[(sV a3), (V.own 4 a5.length), (V.own 3 (a6 ++ ([(TPublished.mk x732 (y730.1) (y525.1))] : List TPublished)).length), (iV a4)]]) rfl rfl rfl (ObSub.box (.cons Sub.keepMv (.cons Sub.mv (.cons Sub.keepMv (.cons Sub.keepMv .nil))))) rfl rfl) (gr [0, 1, 2, 4, 3] rfl (hB rfl rfl rfl (hD rfl (hD rfl (hR rfl rfl (hR rfl rfl .nil))))) rfl)), (.cons (.tmp rfl) .nil)⟩
     refine rn 4 rfl ?_
     replace h := Option.some.inj h
     subst h
     exact wR ⟨.inl rfl, [(6, (bV false))], (Ghost.trans (ghost_mvC 1 0 3 47 3 (Ob.arr 25 4 [[(sV a3), (V.own 3 a5.length), (V.own 2 a6.length), (iV a4)]]) rfl rfl rfl (ObSub.box (.cons Sub.keepMv (.cons Sub.mv (.cons Sub.keepMv (.cons Sub.keepMv .nil))))) rfl rfl) (Ghost.trans (ghost_mvC 2 0 4 51 3 (Ob.arr 25 4 [[(sV a3), (V.own 3 a5.length), (V.own 4 a6.length), (iV a4)]]) rfl rfl rfl (ObSub.box (.cons Sub.keepMv (.cons Sub.keepMv (.cons Sub.mv (.cons Sub.keepMv .nil))))) rfl rfl) (gr [0, 1, 2, 3, 4] rfl (hB rfl rfl rfl (hD rfl (hD rfl (hR rfl rfl (hR rfl rfl .nil))))) rfl))), (.cons (.tmp rfl) .nil)⟩
    refine rn 11 rfl ?_
    replace h := Option.some.inj h
    subst h
    exact wR ⟨.inl rfl, [(6, (bV false))], (Ghost.trans (ghost_mvC 1 0 3 47 3 (Ob.arr 25 4 [[(sV a3), (V.own 3 a5.length), (V.own 2 a6.length), (iV a4)]]) rfl rfl rfl (ObSub.box (.cons Sub.keepMv (.cons Sub.mv (.cons Sub.keepMv (.cons Sub.keepMv .nil))))) rfl rfl) (Ghost.trans (ghost_mvC 2 0 4 51 3 (Ob.arr 25 4 [[(sV a3), (V.own 3 a5.length), (V.own 4 a6.length), (iV a4)]]) rfl rfl rfl (ObSub.box (.cons Sub.keepMv (.cons Sub.keepMv (.cons Sub.mv (.cons Sub.keepMv .nil))))) rfl rfl) (gr [0, 1, 2, 3, 4] rfl (hB rfl rfl rfl (hD rfl (hD rfl (hR rfl rfl (hR rfl rfl .nil))))) rfl))), (.cons (.tmp rfl) .nil)⟩
   rintro ⟨s540, n541, l542⟩ h
   refine rn 1 rfl ?_
   exact jX (s540, n541, l542, a6) h (Ghost.trans (ghost_mvC 1 0 3 47 3 (Ob.arr 25 4 [[(sV s540), (V.own 3 l542.length), (V.own 2 a6.length), (iV n541)]]) rfl rfl rfl (ObSub.box (.cons Sub.keepMv (.cons Sub.mv (.cons Sub.keepMv (.cons Sub.keepMv .nil))))) rfl rfl) (Ghost.trans (ghost_mvC 2 0 4 51 3 (Ob.arr 25 4 [[(sV s540), (V.own 3 l542.length), (V.own 4 a6.length), (iV n541)]]) rfl rfl rfl (ObSub.box (.cons Sub.keepMv (.cons Sub.keepMv (.cons Sub.mv (.cons Sub.keepMv .nil))))) rfl rfl) (gr [0, 1, 2, 3, 4] rfl (hB rfl rfl rfl (hD rfl (hD rfl (hR rfl rfl (hR rfl rfl .nil))))) rfl)))
  refine rn 10 rfl ?_
  refine ixl h rfl rfl (fun x735 hx736 h => ?_)
  refine rn 3 rfl ?_
  refine spO 69 h rfl (fun hb737 h => ?_) (fun hb737 h => ?_)
  ·refine rn 1 rfl ?_
   refine ln rfl rfl ?_
   refine rn 3 rfl ?_
   refine spO 74 h rfl (fun hb738 h => ?_) (fun hb738 h => ?_)
   ·refine rn 9 rfl ?_
    refine jK h (fun (p : (List TRelease) × (List TPublished)) => (⟨[], [(0, (Ob.arr 25 4 [[(sV a3), (V.own 3 (p.1).length), (V.own 4 (p.2).length), (iV a4)]])), (1, Ob.dead), (2, Ob.dead), (3, (Ob.arr 47 3 ((p.1).map dencTRelease))), (4, (Ob.arr 51 3 ((p.2).map encTPublished)))], 5⟩ : St)) (fun k739 p => k739 p.1 p.2 = some r) (fun k739 h => ?_) ?_
    ·refine spC h rfl (fun hb742 h => ?_) (fun hb742 h => ?_)
     ·obtain ⟨x743, hx744, h⟩ := bind_some h
      refine ck h (fun hc745 h => ?_)
      refine awp_ghost ghost_res ?_
      refine awp_ghost ghost_res ?_
      refine fa ?_
      refine dr mixed (vs 6 rfl (iD hx744 rfl rfl rfl (vs 3 rfl (xD (OD.mk [(91, (V.agg [(sV x743), (iV (y525.1)), nV]))] [(3, Ob.res)] [(92, (V.own 3 1))] [(3, (Ob.arr 47 3 [[(sV x743), (iV (y525.1)), nV]]))]) ⟨⟨rfl, trivial⟩, ⟨rfl, trivial⟩⟩ (by exact fun S hn h hh => aops_buildSlice_at 3 rfl hn hh.1 [(0, (V.agg [(sV x743), (iV (y525.1)), nV]))] [[(sV x743), (iV (y525.1)), nV]] tEl22 tZ47 wants_none rfl rfl rfl rfl (evp_cons h.1 evp_nil) rfl rfl (by simp) rfl (aops_nil ⟨rfl, rfl⟩)) rfl (xD (OD.mk [(86, (V.own 1 a5.length)), (92, (V.own 3 1))] [(1, (Ob.arr 47 3 (a5.map dencTRelease))), (3, (Ob.arr 47 3 [[(sV x743), (iV (y525.1)), nV]])), (4, Ob.res)] [(93, (V.own 4 (a5 ++ [(TRelease.mk x743 (y525.1) ([] : List TExposure))]).length))] [(4, (Ob.arr 47 3 ((a5 ++ [(TRelease.mk x743 (y525.1) ([] : List TExposure))]).map dencTRelease))), (1, Ob.dead)]) ⟨⟨rfl, rfl, trivial⟩, ⟨rfl, rfl, rfl, trivial⟩⟩ (by exact fun S hn h hh => aops_appendS_at 4 rfl hn hh.2.2.1 dencTRelease (TRelease.mk x743 (y525.1) ([] : List TExposure)) tEl22 tIsSl22 rfl rfl wants_none h.1 hh.1 (by simp) h.2.1 hh.2.1 rfl (.cons (csub_keep _) (.cons (csub_keep _) (.cons (csub_nil 66 3) .nil))) rfl hc745 rfl (aops_nil ⟨rfl, rfl⟩)) rfl (vs 3 rfl .nil)))))) (by kernel_rfl) ?_
      exact jX ((a5 ++ [(TRelease.mk x743 (y525.1) ([] : List TExposure))]), a6) h (Ghost.trans (ghost_mvC 2 0 5 51 3 (Ob.arr 25 4 [[(sV a3), (V.own 4 (a5 ++ [(TRelease.mk x743 (y525.1) ([] : List TExposure))]).length), (V.own 5 a6.length), (iV a4)]]) rfl rfl rfl (ObSub.box (.cons Sub.keepMv (.cons Sub.keepMv (.cons Sub.mv (.cons Sub.keepMv .nil))))) rfl rfl) (gr [0, 1, 2, 4, 5] rfl (hB rfl rfl rfl (hD rfl (hD rfl (hR rfl rfl (hR rfl rfl .nil))))) rfl))
     refine rn 3 rfl ?_
     refine ixl h rfl rfl (fun x746 hx747 h => ?_)
     refine rn 3 rfl ?_
     refine spO 101 h rfl (fun hb748 h => ?_) (fun hb748 h => ?_)
     ·refine rn 1 rfl ?_
      refine ln rfl rfl ?_
      refine rn 3 rfl ?_
      refine spO 106 h rfl (fun hb749 h => ?_) (fun hb749 h => ?_)
      ·refine rn 8 rfl ?_
       refine spO 114 h rfl (fun hb750 h => ?_) (fun hb750 h => ?_)
       ·refine rn 9 rfl ?_
        refine fxC 96 hb742 rfl ?_
        refine rn 4 rfl ?_
        refine ixl h rfl rfl (fun x751 hx752 h => ?_)
        refine rn 3 rfl ?_
        refine spO 155 h rfl (fun hb753 h => ?_) (fun hb753 h => ?_)
        ·refine rn 1 rfl ?_
         refine ln rfl rfl ?_
         refine rn 4 rfl ?_
         refine fxC 150 hb738 rfl ?_
         obtain ⟨x754, hx755, h⟩ := bind_some h
         refine rn 1 rfl ?_
         refine ck h (fun hc756 h => ?_)
         refine awp_ghost ghost_res ?_
         refine fa ?_
         refine dr mixed (vs 6 rfl (iD hx755 rfl rfl rfl (vs 3 rfl (xD (OD.mk [(169, (V.agg [(sV x754), (iV (y525.1)), (iV (-1))]))] [] [(170, (V.lst 3 (([(TPublished.mk x754 (y525.1) (-1))] : List TPublished).map encTPublished)))] []) ⟨⟨rfl, trivial⟩, trivial⟩ (by exact fun S hn h hh => aops_buildSlice_imm [(0, (V.agg [(sV x754), (iV (y525.1)), (iV (-1))]))] [[(sV x754), (iV (y525.1)), (iV (-1))]] tEl23 tZ51 wants_none rfl rfl rfl rfl (evp_cons h.1 evp_nil) rfl rfl (by simp) (imms_rows (.cons (.cons (Imm.con _) (.cons (Imm.con _) (.cons (Imm.con _) .nil))) .nil)) rfl (aops_nil ⟨rfl, rfl⟩)) rfl (xD (OD.mk [(164, (V.own 2 a6.length)), (170, (V.lst 3 (([(TPublished.mk x754 (y525.1) (-1))] : List TPublished).map encTPublished)))] [(2, (Ob.arr 51 3 (a6.map encTPublished))), (3, Ob.res)] [(171, (V.own 3 (a6 ++ ([(TPublished.mk x754 (y525.1) (-1))] : List TPublished)).length))] [(3, (Ob.arr 51 3 ((a6 ++ ([(TPublished.mk x754 (y525.1) (-1))] : List TPublished)).map encTPublished))), (2, Ob.dead)]) ⟨⟨rfl, rfl, trivial⟩, ⟨rfl, rfl, trivial⟩⟩ (by exact fun S hn h hh => aops_append_at 3 rfl hn hh.2.1 (([(TPublished.mk x754 (y525.1) (-1))] : List TPublished).map encTPublished) ((a6 ++ ([(TPublished.mk x754 (y525.1) (-1))] : List TPublished)).map encTPublished) tEl23 tIsSl23 rfl rfl wants_none h.1 hh.1 (by simp) h.2.1 (.lst (rows_one one_encTPublished)) (map_snoc encTPublished a6 ([(TPublished.mk x754 (y525.1) (-1))] : List TPublished)) (List.length_map ..) hc756 rfl (aops_nil ⟨rfl, rfl⟩)) rfl (vs 3 rfl .nil)))))) (by kernel_rfl) ?_
         exact jX (a5, (a6 ++ ([(TPublished.mk x754 (y525.1) (-1))] : List TPublished))) h (Ghost.trans (ghost_mvC 1 0 4 47 3 (Ob.arr 25 4 [[(sV a3), (V.own 4 a5.length), (V.own 3 (a6 ++ ([(TPublished.mk x754 (y525.1) (-1))] : List TPublished)).length), (iV a4)]]) rfl rfl rfl (ObSub.box (.cons Sub.keepMv (.cons Sub.mv (.cons Sub.keepMv (.cons Sub.keepMv .nil))))) rfl rfl) (gr [0, 1, 2, 4, 3] rfl (hB rfl rfl rfl (hD rfl (hD rfl (hR rfl rfl (hR rfl rfl .nil))))) rfl))
        refine rn 10 rfl ?_
        refine ixl h rfl rfl (fun x757 hx758 h => ?_)
        refine rn 3 rfl ?_
        refine spO 179 h rfl (fun hb759 h => ?_) (fun hb759 h => ?_)
        ·refine rn 1 rfl ?_
         refine ln rfl rfl ?_
         refine rn 4 rfl ?_
         refine fxC 174 hb749 rfl ?_
         refine rn 4 rfl ?_
         refine ixl h rfl rfl (fun x760 hx761 h => ?_)
         refine rn 1 rfl ?_
         refine cl h rfl rfl rfl (W34 _ _) rfl (fun y762 hx763 h => ?_)
         obtain ⟨x764, hx765, h⟩ := bind_some h
         refine rn 7 rfl ?_
         refine ck h (fun hc766 h => ?_)
         refine awp_ghost ghost_res ?_
         refine fa ?_
         refine dr mixed (vs 6 rfl (iD hx765 rfl rfl rfl (vs 4 rfl (xD (OD.mk [(201, (V.agg [(sV x764), (iV (y762.1)), (iV (y525.1))]))] [] [(202, (V.lst 3 (([(TPublished.mk x764 (y762.1) (y525.1))] : List TPublished).map encTPublished)))] []) ⟨⟨rfl, trivial⟩, trivial⟩ (by exact fun S hn h hh => aops_buildSlice_imm [(0, (V.agg [(sV x764), (iV (y762.1)), (iV (y525.1))]))] [[(sV x764), (iV (y762.1)), (iV (y525.1))]] tEl23 tZ51 wants_none rfl rfl rfl rfl (evp_cons h.1 evp_nil) rfl rfl (by simp) (imms_rows (.cons (.cons (Imm.con _) (.cons (Imm.con _) (.cons (Imm.con _) .nil))) .nil)) rfl (aops_nil ⟨rfl, rfl⟩)) rfl (xD (OD.mk [(195, (V.own 2 a6.length)), (202, (V.lst 3 (([(TPublished.mk x764 (y762.1) (y525.1))] : List TPublished).map encTPublished)))] [(2, (Ob.arr 51 3 (a6.map encTPublished))), (3, Ob.res)] [(203, (V.own 3 (a6 ++ ([(TPublished.mk x764 (y762.1) (y525.1))] : List TPublished)).length))] [(3, (Ob.arr 51 3 ((a6 ++ ([(TPublished.mk x764 (y762.1) (y525.1))] : List TPublished)).map encTPublished))), (2, Ob.dead)]) ⟨⟨rfl, rfl, trivial⟩, ⟨rfl, rfl, trivial⟩⟩ (by exact fun S hn h hh => aops_append_at 3 rfl hn hh.2.1 (([(TPublished.mk x764 (y762.1) (y525.1))] : List TPublished).map encTPublished) ((a6 ++ ([(TPublished.mk x764 (y762.1) (y525.1))] : List TPublished)).map encTPublished) tEl23 tIsSl23 rfl rfl wants_none h.1 hh.1 (by simp) h.2.1 (.lst (rows_one one_encTPublished)) (map_snoc encTPublished a6 ([(TPublished.mk x764 (y762.1) (y525.1))] : List TPublished)) (List.length_map ..) hc766 rfl (aops_nil ⟨rfl, rfl⟩)) rfl (vs 3 rfl .nil)))))) (by kernel_rfl) ?_
         refine rn 5 rfl ?_
         replace h := Option.some.inj h
         subst h
         exact wR ⟨.inl rfl, [(6, (bV (y762.2)))], (Ghost.trans (ghost_mvC 1 0 4 47 3 (Ob.arr 25 4 [[(sV a3), (V.own 4 a5.length), (V.own 3 (a6 ++ ([(TPublished.mk x764 (y762.1) (y525.1))] : List TPublished)).length), (iV a4)]]) rfl rfl rfl (ObSub.box (.cons Sub.keepMv (.cons Sub.mv (.cons Sub.keepMv (.cons Sub.keepMv .nil))))) rfl rfl) (gr [0, 1, 2, 4, 3] rfl (hB rfl rfl rfl (hD rfl (hD rfl (hR rfl rfl (hR rfl rfl .nil))))) rfl)), (.cons (.tmp rfl) .nil)⟩
        refine rn 11 rfl ?_
        replace h := Option.some.inj h
        subst h
        exact wR ⟨.inl rfl, [(6, (bV false))], (Ghost.trans (ghost_mvC 1 0 3 47 3 (Ob.arr 25 4 [[(sV a3), (V.own 3 a5.length), (V.own 2 a6.length), (iV a4)]]) rfl rfl rfl (ObSub.box (.cons Sub.keepMv (.cons Sub.mv (.cons Sub.keepMv (.cons Sub.keepMv .nil))))) rfl rfl) (Ghost.trans (ghost_mvC 2 0 4 51 3 (Ob.arr 25 4 [[(sV a3), (V.own 3 a5.length), (V.own 4 a6.length), (iV a4)]]) rfl rfl rfl (ObSub.box (.cons Sub.keepMv (.cons Sub.keepMv (.cons Sub.mv (.cons Sub.keepMv .nil))))) rfl rfl) (gr [0, 1, 2, 3, 4] rfl (hB rfl rfl rfl (hD rfl (hD rfl (hR rfl rfl (hR rfl rfl .nil))))) rfl))), (.cons (.tmp rfl) .nil)⟩
       refine rn 13 rfl ?_
       refine ixl h rfl rfl (fun x767 hx768 h => ?_)
       refine rn 3 rfl ?_
       refine spO 155 h rfl (fun hb769 h => ?_) (fun hb769 h => ?_)
       ·refine rn 1 rfl ?_
        refine ln rfl rfl ?_
        refine rn 4 rfl ?_
        refine fxC 150 hb738 rfl ?_
        obtain ⟨x770, hx771, h⟩ := bind_some h
        refine rn 1 rfl ?_
        refine ck h (fun hc772 h => ?_)
        refine awp_ghost ghost_res ?_
        refine fa ?_
        refine dr mixed (vs 6 rfl (iD hx771 rfl rfl rfl (vs 3 rfl (xD (OD.mk [(169, (V.agg [(sV x770), (iV (y525.1)), (iV (-1))]))] [] [(170, (V.lst 3 (([(TPublished.mk x770 (y525.1) (-1))] : List TPublished).map encTPublished)))] []) ⟨⟨rfl, trivial⟩, trivial⟩ (by exact fun S hn h hh => aops_buildSlice_imm [(0, (V.agg [(sV x770), (iV (y525.1)), (iV (-1))]))] [[(sV x770), (iV (y525.1)), (iV (-1))]] tEl23 tZ51 wants_none rfl rfl rfl rfl (evp_cons h.1 evp_nil) rfl rfl (by simp) (imms_rows (.cons (.cons (Imm.con _) (.cons (Imm.con _) (.cons (Imm.con _) .nil))) .nil)) rfl (aops_nil ⟨rfl, rfl⟩)) rfl (xD (OD.mk [(164, (V.own 2 a6.length)), (170, (V.lst 3 (([(TPublished.mk x770 (y525.1) (-1))] : List TPublished).map encTPublished)))] [(2, (Ob.arr 51 3 (a6.map encTPublished))), (3, Ob.res)] [(171, (V.own 3 (a6 ++ ([(TPublished.mk x770 (y525.1) (-1))] : List TPublished)).length))] [(3, (Ob.arr 51 3 ((a6 ++ ([(TPublished.mk x770 (y525.1) (-1))] : List TPublished)).map encTPublished))), (2, Ob.dead)]) ⟨⟨rfl, rfl, trivial⟩, ⟨rfl, rfl, trivial⟩⟩ (by exact fun S hn h hh => aops_append_at 3 rfl hn hh.2.1 (([(TPublished.mk x770 (y525.1) (-1))] : List TPublished).map encTPublished) ((a6 ++ ([(TPublished.mk x770 (y525.1) (-1))] : List TPublished)).map encTPublished) tEl23 tIsSl23 rfl rfl wants_none h.1 hh.1 (by simp) h.2.1 (.lst (rows_one one_encTPublished)) (map_snoc encTPublished a6 ([(TPublished.mk x770 (y525.1) (-1))] : List TPublished)) (List.length_map ..) hc772 rfl (aops_nil ⟨rfl, rfl⟩)) rfl (vs 3 rfl .nil)))))) (by kernel_rfl) ?_
        exact jX (a5, (a6 ++ ([(TPublished.mk x770 (y525.1) (-1))] : List TPublished))) h (Ghost.trans (ghost_mvC 1 0 4 47 3 (Ob.arr 25 4 [[(sV a3), (V.own 4 a5.length), (V.own 3 (a6 ++ ([(TPublished.mk x770 (y525.1) (-1))] : List TPublished)).length), (iV a4)]]) rfl rfl rfl (ObSub.box (.cons Sub.keepMv (.cons Sub.mv (.cons Sub.keepMv (.cons Sub.keepMv .nil))))) rfl rfl) (gr [0, 1, 2, 4, 3] rfl (hB rfl rfl rfl (hD rfl (hD rfl (hR rfl rfl (hR rfl rfl .nil))))) rfl))
       refine rn 10 rfl ?_
       refine ixl h rfl rfl (fun x773 hx774 h => ?_)
       refine rn 3 rfl ?_
       refine spO 179 h rfl (fun hb775 h => ?_) (fun hb775 h => ?_)
       ·refine rn 1 rfl ?_
        refine ln rfl rfl ?_
        refine rn 4 rfl ?_
        refine fxC 174 hb749 rfl ?_
        refine rn 4 rfl ?_
        refine ixl h rfl rfl (fun x776 hx777 h => ?_)
        refine rn 1 rfl ?_
        refine cl h rfl rfl rfl (W34 _ _) rfl (fun y778 hx779 h => ?_)
        obtain ⟨x780, hx781, h⟩ := bind_some h
        refine rn 7 rfl ?_
        refine ck h (fun hc782 h => ?_)
        refine awp_ghost ghost_res ?_
        refine fa ?_
        refine dr mixed (vs 6 rfl (iD hx781 rfl rfl rfl (vs 4 rfl (xD (OD.mk [(201, (V.agg [(sV x780), (iV (y778.1)), (iV (y525.1))]))] [] [(202, (V.lst 3 (([(TPublished.mk x780 (y778.1) (y525.1))] : List TPublished).map encTPublished)))] []) ⟨⟨rfl, trivial⟩, trivial⟩ (by exact fun S hn h hh => aops_buildSlice_imm [(0, (V.agg [(sV x780), (iV (y778.1)), (iV (y525.1))]))] [[(sV x780), (iV (y778.1)), (iV (y525.1))]] tEl23 tZ51 wants_none rfl rfl rfl rfl (evp_cons h.1 evp_nil) rfl rfl (by simp) (imms_rows (.cons (.cons (Imm.con _) (.cons (Imm.con _) (.cons (Imm.con _) .nil))) .nil)) rfl (aops_nil ⟨rfl, rfl⟩)) rfl (xD (OD.mk [(195, (V.own 2 a6.length)), (202, (V.lst 3 (([(TPublished.mk x780 (y778.1) (y525.1))] : List TPublished).map encTPublished)))] [(2, (Ob.arr 51 3 (a6.map encTPublished))), (3, Ob.res)] [(203, (V.own 3 (a6 ++ ([(TPublished.mk x780 (y778.1) (y525.1))] : List TPublished)).length))] [(3, (Ob.arr 51 3 ((a6 ++ ([(TPublished.mk x780 (y778.1) (y525.1))] : List TPublished)).map encTPublished))), (2, Ob.dead)]) ⟨⟨rfl, rfl, trivial⟩, ⟨rfl, rfl, trivial⟩⟩ (by exact fun S hn h hh => aops_append_at 3 rfl hn hh.2.1 (([(TPublished.mk x780 (y778.1) (y525.1))] : List TPublished).map encTPublished) ((a6 ++ ([(TPublished.mk x780 (y778.1) (y525.1))] : List TPublished)).map encTPublished) tEl23 tIsSl23 rfl rfl wants_none h.1 hh.1 (by simp) h.2.1 (.lst (rows_one one_encTPublished)) (map_snoc encTPublished a6 ([(TPublished.mk x780 (y778.1) (y525.1))] : List TPublished)) (List.length_map ..) hc782 rfl (aops_nil ⟨rfl, rfl⟩)) rfl (vs 3 rfl .nil)))))) (by kernel_rfl) ?_
        refine rn 5 rfl ?_
        replace h := Option.some.inj h
        subst h
        exact wR ⟨.inl rfl, [(6, (bV (y778.2)))], (Ghost.trans (ghost_mvC 1 0 4 47 3 (Ob.arr 25 4 [[(sV a3), (V.own 4 a5.length), (V.own 3 (a6 ++ ([(TPublished.mk x780 (y778.1) (y525.1))] : List TPublished)).length), (iV a4)]]) rfl rfl rfl (ObSub.box (.cons Sub.keepMv (.cons Sub.mv (.cons Sub.keepMv (.cons Sub.keepMv .nil))))) rfl rfl) (gr [0, 1, 2, 4, 3] rfl (hB rfl rfl rfl (hD rfl (hD rfl (hR rfl rfl (hR rfl rfl .nil))))) rfl)), (.cons (.tmp rfl) .nil)⟩
       refine rn 11 rfl ?_
       replace h := Option.some.inj h
       subst h
       exact wR ⟨.inl rfl, [(6, (bV false))], (Ghost.trans (ghost_mvC 1 0 3 47 3 (Ob.arr 25 4 [[(sV a3), (V.own 3 a5.length), (V.own 2 a6.length), (iV a4)]]) rfl rfl rfl (ObSub.box (.cons Sub.keepMv (.cons Sub.mv (.cons Sub.keepMv (.cons Sub.keepMv .nil))))) rfl rfl) (Ghost.trans (ghost_mvC 2 0 4 51 3 (Ob.arr 25 4 [[(sV a3), (V.own 3 a5.length), (V.own 4 a6.length), (iV a4)]]) rfl rfl rfl (ObSub.box (.cons Sub.keepMv (.cons Sub.keepMv (.cons Sub.mv (.cons Sub.keepMv .nil))))) rfl rfl) (gr [0, 1, 2, 3, 4] rfl (hB rfl rfl rfl (hD rfl (hD rfl (hR rfl rfl (hR rfl rfl .nil))))) rfl))), (.cons (.tmp rfl) .nil)⟩
      refine rn 21 rfl ?_
      refine ixl h rfl rfl (fun x783 hx784 h => ?_)
      refine rn 3 rfl ?_
      refine spO 155 h rfl (fun hb785 h => ?_) (fun hb785 h => ?_)
      ·refine rn 1 rfl ?_
       refine ln rfl rfl ?_
       refine rn 4 rfl ?_
       refine fxC 150 hb738 rfl ?_
       obtain ⟨x786, hx787, h⟩ := bind_some h
       refine rn 1 rfl ?_
       refine ck h (fun hc788 h => ?_)
       refine awp_ghost ghost_res ?_
       refine fa ?_
       refine dr mixed (vs 6 rfl (iD hx787 rfl rfl rfl (vs 3 rfl (xD (OD.mk [(169, (V.agg [(sV x786), (iV (y525.1)), (iV (-1))]))] [] [(170, (V.lst 3 (([(TPublished.mk x786 (y525.1) (-1))] : List TPublished).map encTPublished)))] []) ⟨⟨rfl, trivial⟩, trivial⟩ (by exact fun S hn h hh => aops_buildSlice_imm [(0, (V.agg [(sV x786), (iV (y525.1)), (iV (-1))]))] [[(sV x786), (iV (y525.1)), (iV (-1))]] tEl23 tZ51 wants_none rfl rfl rfl rfl (evp_cons h.1 evp_nil) rfl rfl (by simp) (imms_rows (.cons (.cons (Imm.con _) (.cons (Imm.con _) (.cons (Imm.con _) .nil))) .nil)) rfl (aops_nil ⟨rfl, rfl⟩)) rfl (xD (OD.mk [(164, (V.own 2 a6.length)), (170, (V.lst 3 (([(TPublished.mk x786 (y525.1) (-1))] : List TPublished).map encTPublished)))] [(2, (Ob.arr 51 3 (a6.map encTPublished))), (3, Ob.res)] [(171, (V.own 3 (a6 ++ ([(TPublished.mk x786 (y525.1) (-1))] : List TPublished)).length))] [(3, (Ob.arr 51 3 ((a6 ++ ([(TPublished.mk x786 (y525.1) (-1))] : List TPublished)).map encTPublished))), (2, Ob.dead)]) ⟨⟨rfl, rfl, trivial⟩, ⟨rfl, rfl, trivial⟩⟩ (by exact fun S hn h hh => aops_append_at 3 rfl hn hh.2.1 (([(TPublished.mk x786 (y525.1) (-1))] : List TPublished).map encTPublished) ((a6 ++ ([(TPublished.mk x786 (y525.1) (-1))] : List TPublished)).map encTPublished) tEl23 tIsSl23 rfl rfl wants_none h.1 hh.1 (by simp) h.2.1 (.lst (rows_one one_encTPublished)) (map_snoc encTPublished a6 ([(TPublished.mk x786 (y525.1) (-1))] : List TPublished)) (List.length_map ..) hc788 rfl (aops_nil ⟨rfl, rfl⟩)) rfl (vs 3 rfl .nil)))))) (by kernel_rfl) ?_
       exact jX (a5, (a6 ++ ([(TPublished.mk x786 (y525.1) (-1))] : List TPublished))) h (Ghost.trans (ghost_mvC 1 0 4 47 3 (Ob.arr 25 4 [[(sV a3), (V.own 4 a5.length), (V.own 3 (a6 ++ ([(TPublished.mk x786 (y525.1) (-1))] : List TPublished)).length), (iV a4)]]) rfl rfl rfl (ObSub.box (.cons Sub.keepMv (.cons Sub.mv (.cons Sub.keepMv (.cons Sub.keepMv .nil))))) rfl rfl) (gr [0, 1, 2, 4, 3] rfl (hB rfl rfl rfl (hD rfl (hD rfl (hR rfl rfl (hR rfl rfl .nil))))) rfl))
      refine rn 10 rfl ?_
      refine ixl h rfl rfl (fun x789 hx790 h => ?_)
      refine rn 3 rfl ?_
      refine spO 179 h rfl (fun hb791 h => ?_) (fun hb791 h => ?_)
      ·refine rn 1 rfl ?_
       refine ln rfl rfl ?_
       refine rn 4 rfl ?_
       refine fxC 174 hb749 rfl ?_
       refine rn 5 rfl ?_
       replace h := Option.some.inj h
       subst h
       exact wR ⟨.inl rfl, [(6, (bV false))], (Ghost.trans (ghost_mvC 1 0 3 47 3 (Ob.arr 25 4 [[(sV a3), (V.own 3 a5.length), (V.own 2 a6.length), (iV a4)]]) rfl rfl rfl (ObSub.box (.cons Sub.keepMv (.cons Sub.mv (.cons Sub.keepMv (.cons Sub.keepMv .nil))))) rfl rfl) (Ghost.trans (ghost_mvC 2 0 4 51 3 (Ob.arr 25 4 [[(sV a3), (V.own 3 a5.length), (V.own 4 a6.length), (iV a4)]]) rfl rfl rfl (ObSub.box (.cons Sub.keepMv (.cons Sub.keepMv (.cons Sub.mv (.cons Sub.keepMv .nil))))) rfl rfl) (gr [0, 1, 2, 3, 4] rfl (hB rfl rfl rfl (hD rfl (hD rfl (hR rfl rfl (hR rfl rfl .nil))))) rfl))), (.cons (.tmp rfl) .nil)⟩
      refine rn 11 rfl ?_
      replace h := Option.some.inj h
      subst h
      exact wR ⟨.inl rfl, [(6, (bV false))], (Ghost.trans (ghost_mvC 1 0 3 47 3 (Ob.arr 25 4 [[(sV a3), (V.own 3 a5.length), (V.own 2 a6.length), (iV a4)]]) rfl rfl rfl (ObSub.box (.cons Sub.keepMv (.cons Sub.mv (.cons Sub.keepMv (.cons Sub.keepMv .nil))))) rfl rfl) (Ghost.trans (ghost_mvC 2 0 4 51 3 (Ob.arr 25 4 [[(sV a3), (V.own 3 a5.length), (V.own 4 a6.length), (iV a4)]]) rfl rfl rfl (ObSub.box (.cons Sub.keepMv (.cons Sub.keepMv (.cons Sub.mv (.cons Sub.keepMv .nil))))) rfl rfl) (gr [0, 1, 2, 3, 4] rfl (hB rfl rfl rfl (hD rfl (hD rfl (hR rfl rfl (hR rfl rfl .nil))))) rfl))), (.cons (.tmp rfl) .nil)⟩
     refine rn 26 rfl ?_
     refine ixl h rfl rfl (fun x792 hx793 h => ?_)
     refine rn 3 rfl ?_
     refine spO 155 h rfl (fun hb794 h => ?_) (fun hb794 h => ?_)
     ·refine rn 1 rfl ?_
      refine ln rfl rfl ?_
      refine rn 4 rfl ?_
      refine fxC 150 hb738 rfl ?_
      obtain ⟨x795, hx796, h⟩ := bind_some h
      refine rn 1 rfl ?_
      refine ck h (fun hc797 h => ?_)
      refine awp_ghost ghost_res ?_
      refine fa ?_
      refine dr mixed (vs 6 rfl (iD hx796 rfl rfl rfl (vs 3 rfl (xD (OD.mk [(169, (V.agg [(sV x795), (iV (y525.1)), (iV (-1))]))] [] [(170, (V.lst 3 (([(TPublished.mk x795 (y525.1) (-1))] : List TPublished).map encTPublished)))] []) ⟨⟨rfl, trivial⟩, trivial⟩ (by exact fun S hn h hh => aops_buildSlice_imm [(0, (V.agg [(sV x795), (iV (y525.1)), (iV (-1))]))] [[(sV x795), (iV (y525.1)), (iV (-1))]] tEl23 tZ51 wants_none rfl rfl rfl rfl (evp_cons h.1 evp_nil) rfl rfl (by simp) (imms_rows (.cons (.cons (Imm.con _) (.cons (Imm.con _) (.cons (Imm.con _) .nil))) .nil)) rfl (aops_nil ⟨rfl, rfl⟩)) rfl (xD (OD.mk [(164, (V.own 2 a6.length)), (170, (V.lst 3 (([(TPublished.mk x795 (y525.1) (-1))] : List TPublished).map encTPublished)))] [(2, (Ob.arr 51 3 (a6.map encTPublished))), (3, Ob.res)] [(171, (V.own 3 (a6 ++ ([(TPublished.mk x795 (y525.1) (-1))] : List TPublished)).length))] [(3, (Ob.arr 51 3 ((a6 ++ ([(TPublished.mk x795 (y525.1) (-1))] : List TPublished)).map encTPublished))), (2, Ob.dead)]) ⟨⟨rfl, rfl, trivial⟩, ⟨rfl, rfl, trivial⟩⟩ (by exact fun S hn h hh => aops_append_at 3 rfl hn hh.2.1 (([(TPublished.mk x795 (y525.1) (-1))] : List TPublished).map encTPublished) ((a6 ++ ([(TPublished.mk x795 (y525.1) (-1))] : List TPublished)).map encTPublished) tEl23 tIsSl23 rfl rfl wants_none h.1 hh.1 (by simp) h.2.1 (.lst (rows_one one_encTPublished)) (map_snoc encTPublished a6 ([(TPublished.mk x795 (y525.1) (-1))] : List TPublished)) (List.length_map ..) hc797 rfl (aops_nil ⟨rfl, rfl⟩)) rfl (vs 3 rfl .nil)))))) (by kernel_rfl) ?_
      exact jX (a5, (a6 ++ ([(TPublished.mk x795 (y525.1) (-1))] : List TPublished))) h (Ghost.trans (ghost_mvC 1 0 4 47 3 (Ob.arr 25 4 [[(sV a3), (V.own 4 a5.length), (V.own 3 (a6 ++ ([(TPublished.mk x795 (y525.1) (-1))] : List TPublished)).length), (iV a4)]]) rfl rfl rfl (ObSub.box (.cons Sub.keepMv (.cons Sub.mv (.cons Sub.keepMv (.cons Sub.keepMv .nil))))) rfl rfl) (gr [0, 1, 2, 4, 3] rfl (hB rfl rfl rfl (hD rfl (hD rfl (hR rfl rfl (hR rfl rfl .nil))))) rfl))
     refine rn 10 rfl ?_
     refine ixl h rfl rfl (fun x798 hx799 h => ?_)
     refine rn 3 rfl ?_
     refine spO 179 h rfl (fun hb800 h => ?_) (fun hb800 h => ?_)
     ·refine rn 1 rfl ?_
      refine ln rfl rfl ?_
      refine rn 4 rfl ?_
      refine spC h rfl (fun hb801 h => ?_) (fun hb801 h => ?_)
      ·refine rn 3 rfl ?_
       refine ixl h rfl rfl (fun x802 hx803 h => ?_)
       refine rn 1 rfl ?_
       refine cl h rfl rfl rfl (W34 _ _) rfl (fun y804 hx805 h => ?_)
       obtain ⟨x806, hx807, h⟩ := bind_some h
       refine rn 7 rfl ?_
       refine ck h (fun hc808 h => ?_)
       refine awp_ghost ghost_res ?_
       refine fa ?_
       refine dr mixed (vs 6 rfl (iD hx807 rfl rfl rfl (vs 4 rfl (xD (OD.mk [(201, (V.agg [(sV x806), (iV (y804.1)), (iV (y525.1))]))] [] [(202, (V.lst 3 (([(TPublished.mk x806 (y804.1) (y525.1))] : List TPublished).map encTPublished)))] []) ⟨⟨rfl, trivial⟩, trivial⟩ (by exact fun S hn h hh => aops_buildSlice_imm [(0, (V.agg [(sV x806), (iV (y804.1)), (iV (y525.1))]))] [[(sV x806), (iV (y804.1)), (iV (y525.1))]] tEl23 tZ51 wants_none rfl rfl rfl rfl (evp_cons h.1 evp_nil) rfl rfl (by simp) (imms_rows (.cons (.cons (Imm.con _) (.cons (Imm.con _) (.cons (Imm.con _) .nil))) .nil)) rfl (aops_nil ⟨rfl, rfl⟩)) rfl (xD (OD.mk [(195, (V.own 2 a6.length)), (202, (V.lst 3 (([(TPublished.mk x806 (y804.1) (y525.1))] : List TPublished).map encTPublished)))] [(2, (Ob.arr 51 3 (a6.map encTPublished))), (3, Ob.res)] [(203, (V.own 3 (a6 ++ ([(TPublished.mk x806 (y804.1) (y525.1))] : List TPublished)).length))] [(3, (Ob.arr 51 3 ((a6 ++ ([(TPublished.mk x806 (y804.1) (y525.1))] : List TPublished)).map encTPublished))), (2, Ob.dead)]) ⟨⟨rfl, rfl, trivial⟩, ⟨rfl, rfl, trivial⟩⟩ (by exact fun S hn h hh => aops_append_at 3 rfl hn hh.2.1 (([(TPublished.mk x806 (y804.1) (y525.1))] : List TPublished).map encTPublished) ((a6 ++ ([(TPublished.mk x806 (y804.1) (y525.1))] : List TPublished)).map encTPublished) tEl23 tIsSl23 rfl rfl wants_none h.1 hh.1 (by simp) h.2.1 (.lst (rows_one one_encTPublished)) (map_snoc encTPublished a6 ([(TPublished.mk x806 (y804.1) (y525.1))] : List TPublished)) (List.length_map ..) hc808 rfl (aops_nil ⟨rfl, rfl⟩)) rfl (vs 3 rfl .nil)))))) (by kernel_rfl) ?_
       refine rn 5 rfl ?_
       replace h := Option.some.inj h
       subst h
       exact wR ⟨.inl rfl, [(6, (bV (y804.2)))], (Ghost.trans (ghost_mvC 1 0 4 47 3 (Ob.arr 25 4 [[(sV a3), (V.own 4 a5.length), (V.own 3 (a6 ++ ([(TPublished.mk x806 (y804.1) (y525.1))] : List TPublished)).length), (iV a4)]]) rfl rfl rfl (ObSub.box (.cons Sub.keepMv (.cons Sub.mv (.cons Sub.keepMv (.cons Sub.keepMv .nil))))) rfl rfl) (gr [0, 1, 2, 4, 3] rfl (hB rfl rfl rfl (hD rfl (hD rfl (hR rfl rfl (hR rfl rfl .nil))))) rfl)), (.cons (.tmp rfl) .nil)⟩
      refine rn 4 rfl ?_
      replace h := Option.some.inj h
      subst h
      exact wR ⟨.inl rfl, [(6, (bV false))], (Ghost.trans (ghost_mvC 1 0 3 47 3 (Ob.arr 25 4 [[(sV a3), (V.own 3 a5.length), (V.own 2 a6.length), (iV a4)]]) rfl rfl rfl (ObSub.box (.cons Sub.keepMv (.cons Sub.mv (.cons Sub.keepMv (.cons Sub.keepMv .nil))))) rfl rfl) (Ghost.trans (ghost_mvC 2 0 4 51 3 (Ob.arr 25 4 [[(sV a3), (V.own 3 a5.length), (V.own 4 a6.length), (iV a4)]]) rfl rfl rfl (ObSub.box (.cons Sub.keepMv (.cons Sub.keepMv (.cons Sub.mv (.cons Sub.keepMv .nil))))) rfl rfl) (gr [0, 1, 2, 3, 4] rfl (hB rfl rfl rfl (hD rfl (hD rfl (hR rfl rfl (hR rfl rfl .nil))))) rfl))), (.cons (.tmp rfl) .nil)⟩
     refine rn 11 rfl ?_
     replace h := Option.some.inj h
     subst h
     exact wR ⟨.inl rfl, [(6, (bV false))], (Ghost.trans (ghost_mvC 1 0 3 47 3 (Ob.arr 25 4 [[(sV a3), (V.own 3 a5.length), (V.own 2 a6.length), (iV a4)]]) rfl rfl rfl (ObSub.box (.cons Sub.keepMv (.cons Sub.mv (.cons Sub.keepMv (.cons Sub.keepMv .nil))))) rfl rfl) (Ghost.trans (ghost_mvC 2 0 4 51 3 (Ob.arr 25 4 [[(sV a3), (V.own 3 a5.length), (V.own 4 a6.length), (iV a4)]]) rfl rfl rfl (ObSub.box (.cons Sub.keepMv (.cons Sub.keepMv (.cons Sub.mv (.cons Sub.keepMv .nil))))) rfl rfl) (gr [0, 1, 2, 3, 4] rfl (hB rfl rfl rfl (hD rfl (hD rfl (hR rfl rfl (hR rfl rfl .nil))))) rfl))), (.cons (.tmp rfl) .nil)⟩
    rintro ⟨l740, l741⟩ h
    refine rn 1 rfl ?_
    exact jX (a3, a4, l740, l741) h (gr [0, 1, 2, 3, 4] rfl (hB rfl rfl rfl (hD rfl (hD rfl (hR rfl rfl (hR rfl rfl .nil))))) rfl)
   refine rn 13 rfl ?_
   refine ixl h rfl rfl (fun x809 hx810 h => ?_)
   refine rn 3 rfl ?_
   refine spO 101 h rfl (fun hb811 h => ?_) (fun hb811 h => ?_)
   ·refine rn 1 rfl ?_
    refine ln rfl rfl ?_
    refine rn 3 rfl ?_
    refine spO 106 h rfl (fun hb812 h => ?_) (fun hb812 h => ?_)
    ·refine rn 8 rfl ?_
     refine spO 114 h rfl (fun hb813 h => ?_) (fun hb813 h => ?_)
     ·refine rn 9 rfl ?_
      refine spC h rfl (fun hb814 h => ?_) (fun hb814 h => ?_)
      ·obtain ⟨x815, hx816, h⟩ := bind_some h
       refine rn 1 rfl ?_
       refine dr mixed (vs 10 rfl (oD (a := a5) hx816 rfl rfl rfl rfl (vs 1 rfl .nil))) (by kernel_rfl) ?_
       obtain ⟨x817, hx818, h⟩ := bind_some h
       obtain ⟨x819, hx820, h⟩ := bind_some h
       refine ck h (fun hc821 h => ?_)
       refine awp_ghost ghost_res ?_
       refine awp_ghost ghost_res ?_
       refine fa ?_
       refine dr mixed (vs 4 rfl (xD (OD.mk [(136, (V.ptr 1 3 (w64 (((a5.length : Nat) : Int) - 1)).toNat 2))] [(1, (Ob.arr 47 3 (a5.map dencTRelease))), (3, Ob.res)] [(137, (V.own 3 x815.Exposures.length))] [(1, (Ob.arr 47 3 (setC (a5.map dencTRelease) ((w64 (((a5.length : Nat) : Int) - 1)).toNat) (dencTRelease x815) 2 (V.own 3 x815.Exposures.length)))), (3, (Ob.arr 66 3 (x815.Exposures.map encTExposure)))]) ⟨⟨rfl, trivial⟩, ⟨rfl, rfl, trivial⟩⟩ (by exact fun S hn h hh => aops_load_takeS_at 3 rfl hn hh.2.1 dencTRelease encTExposure rfl tC45 wants_none h.1 hh.1 (idx_some hx816).2 rfl rfl (aops_nil ⟨rfl, rfl⟩)) rfl (vs 1 rfl (iD hx818 rfl rfl rfl (vs 2 rfl (iD hx820 rfl rfl rfl (vs 3 rfl (xD (OD.mk [(145, (V.agg [(sV x817), (sV x819), (iV (y525.1))]))] [] [(146, (V.lst 3 (([(TExposure.mk x817 x819 (y525.1))] : List TExposure).map encTExposure)))] []) ⟨⟨rfl, trivial⟩, trivial⟩ (by exact fun S hn h hh => aops_buildSlice_imm [(0, (V.agg [(sV x817), (sV x819), (iV (y525.1))]))] [[(sV x817), (sV x819), (iV (y525.1))]] tEl45 tZ66 wants_none rfl rfl rfl rfl (evp_cons h.1 evp_nil) rfl rfl (by simp) (imms_rows (.cons (.cons (Imm.con _) (.cons (Imm.con _) (.cons (Imm.con _) .nil))) .nil)) rfl (aops_nil ⟨rfl, rfl⟩)) rfl (xD (OD.mk [(137, (V.own 3 x815.Exposures.length)), (146, (V.lst 3 (([(TExposure.mk x817 x819 (y525.1))] : List TExposure).map encTExposure)))] [(3, (Ob.arr 66 3 (x815.Exposures.map encTExposure))), (4, Ob.res)] [(147, (V.own 4 (x815.Exposures ++ ([(TExposure.mk x817 x819 (y525.1))] : List TExposure)).length))] [(4, (Ob.arr 66 3 ((x815.Exposures ++ ([(TExposure.mk x817 x819 (y525.1))] : List TExposure)).map encTExposure))), (3, Ob.dead)]) ⟨⟨rfl, rfl, trivial⟩, ⟨rfl, rfl, trivial⟩⟩ (by exact fun S hn h hh => aops_append_at 4 rfl hn hh.2.1 (([(TExposure.mk x817 x819 (y525.1))] : List TExposure).map encTExposure) ((x815.Exposures ++ ([(TExposure.mk x817 x819 (y525.1))] : List TExposure)).map encTExposure) tEl45 tIsSl45 rfl rfl wants_none h.1 hh.1 (by simp) h.2.1 (.lst (rows_one one_encTExposure)) (map_snoc encTExposure x815.Exposures ([(TExposure.mk x817 x819 (y525.1))] : List TExposure)) (List.length_map ..) hc821 rfl (aops_nil ⟨rfl, rfl⟩)) rfl (vs 2 rfl (xD (OD.mk [(149, (V.ptr 1 3 (w64 (((a5.length : Nat) : Int) - 1)).toNat 2)), (147, (V.own 4 (x815.Exposures ++ ([(TExposure.mk x817 x819 (y525.1))] : List TExposure)).length))] [(1, (Ob.arr 47 3 (setC (a5.map dencTRelease) ((w64 (((a5.length : Nat) : Int) - 1)).toNat) (dencTRelease x815) 2 (V.own 3 x815.Exposures.length)))), (4, (Ob.arr 66 3 ((x815.Exposures ++ ([(TExposure.mk x817 x819 (y525.1))] : List TExposure)).map encTExposure)))] [] [(1, (Ob.arr 47 3 ((a5.set ((w64 (((a5.length : Nat) : Int) - 1)).toNat) ({ x815 with Exposures := (x815.Exposures ++ ([(TExposure.mk x817 x819 (y525.1))] : List TExposure)) } : TRelease)).map dencTRelease))), (4, Ob.dead)]) ⟨⟨rfl, rfl, trivial⟩, ⟨rfl, rfl, trivial⟩⟩ (by exact fun S hn h hh => aops_store_untakeS dencTRelease encTExposure (fun z => (imms_encTExposure z).keep) (a5.set ((w64 (((a5.length : Nat) : Int) - 1)).toNat) ({ x815 with Exposures := (x815.Exposures ++ ([(TExposure.mk x817 x819 (y525.1))] : List TExposure)) } : TRelease)) tS45 wants_none h.1 h.2.1 hh.1 (Nat.le_of_ble_eq_true rfl) (by simpa using idx_lt hx816) hh.2.1 (by simp) rfl (by rw [List.map_set]; rfl) (aops_nil ⟨rfl, rfl⟩)) rfl .nil))))))))))) (by kernel_rfl) ?_
       refine rn 1 rfl ?_
       exact jX (a3, a4, (a5.set ((w64 (((a5.length : Nat) : Int) - 1)).toNat) ({ x815 with Exposures := (x815.Exposures ++ ([(TExposure.mk x817 x819 (y525.1))] : List TExposure)) } : TRelease)), a6) h (Ghost.trans (ghost_mvC 1 0 5 47 3 (Ob.arr 25 4 [[(sV a3), (V.own 5 a5.length), (V.own 2 a6.length), (iV a4)]]) rfl rfl rfl (ObSub.box (.cons Sub.keepMv (.cons Sub.mv (.cons Sub.keepMv (.cons Sub.keepMv .nil))))) rfl rfl) (Ghost.trans (ghost_mvC 2 0 6 51 3 (Ob.arr 25 4 [[(sV a3), (V.own 5 a5.length), (V.own 6 a6.length), (iV a4)]]) rfl rfl rfl (ObSub.box (.cons Sub.keepMv (.cons Sub.keepMv (.cons Sub.mv (.cons Sub.keepMv .nil))))) rfl rfl) (ghost_ren 5 (fun i => ([0, 1, 2, 5, 6] : List Nat).getD i 0) _ _ (by decide) (EnvSub.get .nil) (HpSub.get (.cons rfl (ObSub.box (.cons (Sub.imm (Imm.con _)) (.cons (Sub.ownE rfl rfl (by simp)) (.cons (Sub.own rfl rfl) (.cons (Sub.imm (Imm.con _)) .nil))))) (.cons rfl ObSub.deadT (.cons rfl ObSub.deadT (.cons rfl (ObSub.rowsK RK.h) (.cons rfl (ObSub.rows (rows_imm imms_encTPublished)) .nil)))))) rfl)))
      refine rn 3 rfl ?_
      refine ixl h rfl rfl (fun x822 hx823 h => ?_)
      refine rn 3 rfl ?_
      refine spO 155 h rfl (fun hb824 h => ?_) (fun hb824 h => ?_)
      ·refine rn 1 rfl ?_
       refine ln rfl rfl ?_
       refine rn 4 rfl ?_
       refine fxC 150 hb738 rfl ?_
       refine rn 4 rfl ?_
       refine ixl h rfl rfl (fun x825 hx826 h => ?_)
       refine rn 3 rfl ?_
       refine spO 179 h rfl (fun hb827 h => ?_) (fun hb827 h => ?_)
       ·refine rn 1 rfl ?_
        refine ln rfl rfl ?_
        refine rn 4 rfl ?_
        refine fxC 174 hb812 rfl ?_
        refine rn 4 rfl ?_
        refine ixl h rfl rfl (fun x828 hx829 h => ?_)
        refine rn 1 rfl ?_
        refine cl h rfl rfl rfl (W34 _ _) rfl (fun y830 hx831 h => ?_)
        obtain ⟨x832, hx833, h⟩ := bind_some h
        refine rn 7 rfl ?_
        refine ck h (fun hc834 h => ?_)
        refine awp_ghost ghost_res ?_
        refine fa ?_
        refine dr mixed (vs 6 rfl (iD hx833 rfl rfl rfl (vs 4 rfl (xD (OD.mk [(201, (V.agg [(sV x832), (iV (y830.1)), (iV (y525.1))]))] [] [(202, (V.lst 3 (([(TPublished.mk x832 (y830.1) (y525.1))] : List TPublished).map encTPublished)))] []) ⟨⟨rfl, trivial⟩, trivial⟩ (by exact fun S hn h hh => aops_buildSlice_imm [(0, (V.agg [(sV x832), (iV (y830.1)), (iV (y525.1))]))] [[(sV x832), (iV (y830.1)), (iV (y525.1))]] tEl23 tZ51 wants_none rfl rfl rfl rfl (evp_cons h.1 evp_nil) rfl rfl (by simp) (imms_rows (.cons (.cons (Imm.con _) (.cons (Imm.con _) (.cons (Imm.con _) .nil))) .nil)) rfl (aops_nil ⟨rfl, rfl⟩)) rfl (xD (OD.mk [(195, (V.own 2 a6.length)), (202, (V.lst 3 (([(TPublished.mk x832 (y830.1) (y525.1))] : List TPublished).map encTPublished)))] [(2, (Ob.arr 51 3 (a6.map encTPublished))), (3, Ob.res)] [(203, (V.own 3 (a6 ++ ([(TPublished.mk x832 (y830.1) (y525.1))] : List TPublished)).length))] [(3, (Ob.arr 51 3 ((a6 ++ ([(TPublished.mk x832 (y830.1) (y525.1))] : List TPublished)).map encTPublished))), (2, Ob.dead)]) ⟨⟨rfl, rfl, trivial⟩, ⟨rfl, rfl, trivial⟩⟩ (by exact fun S hn h hh => aops_append_at 3 rfl hn hh.2.1 (([(TPublished.mk x832 (y830.1) (y525.1))] : List TPublished).map encTPublished) ((a6 ++ ([(TPublished.mk x832 (y830.1) (y525.1))] : List TPublished)).map encTPublished) tEl23 tIsSl23 rfl rfl wants_none h.1 hh.1 (by simp) h.2.1 (.lst (rows_one one_encTPublished)) (map_snoc encTPublished a6 ([(TPublished.mk x832 (y830.1) (y525.1))] : List TPublished)) (List.length_map ..) hc834 rfl (aops_nil ⟨rfl, rfl⟩)) rfl (vs 3 rfl .nil)))))) (by kernel_rfl) ?_
        refine rn 5 rfl ?_
        replace h := Option.some.inj h
        subst h
        exact wR ⟨.inl rfl, [(6, (bV (y830.2)))], (Ghost.trans (ghost_mvC 1 0 4 47 3 (Ob.arr 25 4 [[(sV a3), (V.own 4 a5.length), (V.own 3 (a6 ++ ([(TPublished.mk x832 (y830.1) (y525.1))] : List TPublished)).length), (iV a4)]]) rfl rfl rfl (ObSub.box (.cons Sub.keepMv (.cons Sub.mv (.cons Sub.keepMv (.cons Sub.keepMv .nil))))) rfl rfl) (gr [0, 1, 2, 4, 3] rfl (hB rfl rfl rfl (hD rfl (hD rfl (hR rfl rfl (hR rfl rfl .nil))))) rfl)), (.cons (.tmp rfl) .nil)⟩
       refine rn 11 rfl ?_
       replace h := Option.some.inj h
       subst h
       exact wR ⟨.inl rfl, [(6, (bV false))], (Ghost.trans (ghost_mvC 1 0 3 47 3 (Ob.arr 25 4 [[(sV a3), (V.own 3 a5.length), (V.own 2 a6.length), (iV a4)]]) rfl rfl rfl (ObSub.box (.cons Sub.keepMv (.cons Sub.mv (.cons Sub.keepMv (.cons Sub.keepMv .nil))))) rfl rfl) (Ghost.trans (ghost_mvC 2 0 4 51 3 (Ob.arr 25 4 [[(sV a3), (V.own 3 a5.length), (V.own 4 a6.length), (iV a4)]]) rfl rfl rfl (ObSub.box (.cons Sub.keepMv (.cons Sub.keepMv (.cons Sub.mv (.cons Sub.keepMv .nil))))) rfl rfl) (gr [0, 1, 2, 3, 4] rfl (hB rfl rfl rfl (hD rfl (hD rfl (hR rfl rfl (hR rfl rfl .nil))))) rfl))), (.cons (.tmp rfl) .nil)⟩
      refine rn 10 rfl ?_
      refine ixl h rfl rfl (fun x835 hx836 h => ?_)
      refine rn 3 rfl ?_
      refine spO 179 h rfl (fun hb837 h => ?_) (fun hb837 h => ?_)
      ·refine rn 1 rfl ?_
       refine ln rfl rfl ?_
       refine rn 4 rfl ?_
       refine fxC 174 hb812 rfl ?_
       refine rn 4 rfl ?_
       refine ixl h rfl rfl (fun x838 hx839 h => ?_)
       refine rn 1 rfl ?_
       refine cl h rfl rfl rfl (W34 _ _) rfl (fun y840 hx841 h => ?_)
       obtain ⟨x842, hx843, h⟩ := bind_some h
       refine rn 7 rfl ?_
       refine ck h (fun hc844 h => ?_)
       refine awp_ghost ghost_res ?_
       refine fa ?_
       refine dr mixed (vs 6 rfl (iD hx843 rfl rfl rfl (vs 4 rfl (xD (OD.mk [(201, (V.agg [(sV x842), (iV (y840.1)), (iV (y525.1))]))] [] [(202, (V.lst 3 (([(TPublished.mk x842 (y840.1) (y525.1))] : List TPublished).map encTPublished)))] []) ⟨⟨rfl, trivial⟩, trivial⟩ (by exact fun S hn h hh => aops_buildSlice_imm [(0, (V.agg [(sV x842), (iV (y840.1)), (iV (y525.1))]))] [[(sV x842), (iV (y840.1)), (iV (y525.1))]] tEl23 tZ51 wants_none rfl rfl rfl rfl (evp_cons h.1 evp_nil) rfl rfl (by simp) (imms_rows (.cons (.cons (Imm.con _) (.cons (Imm.con _) (.cons (Imm.con _) .nil))) .nil)) rfl (aops_nil ⟨rfl, rfl⟩)) rfl (xD (OD.mk [(195, (V.own 2 a6.length)), (202, (V.lst 3 (([(TPublished.mk x842 (y840.1) (y525.1))] : List TPublished).map encTPublished)))] [(2, (Ob.arr 51 3 (a6.map encTPublished))), (3, Ob.res)] [(203, (V.own 3 (a6 ++ ([(TPublished.mk x842 (y840.1) (y525.1))] : List TPublished)).length))] [(3, (Ob.arr 51 3 ((a6 ++ ([(TPublished.mk x842 (y840.1) (y525.1))] : List TPublished)).map encTPublished))), (2, Ob.dead)]) ⟨⟨rfl, rfl, trivial⟩, ⟨rfl, rfl, trivial⟩⟩ (by exact fun S hn h hh => aops_append_at 3 rfl hn hh.2.1 (([(TPublished.mk x842 (y840.1) (y525.1))] : List TPublished).map encTPublished) ((a6 ++ ([(TPublished.mk x842 (y840.1) (y525.1))] : List TPublished)).map encTPublished) tEl23 tIsSl23 rfl rfl wants_none h.1 hh.1 (by simp) h.2.1 (.lst (rows_one one_encTPublished)) (map_snoc encTPublished a6 ([(TPublished.mk x842 (y840.1) (y525.1))] : List TPublished)) (List.length_map ..) hc844 rfl (aops_nil ⟨rfl, rfl⟩)) rfl (vs 3 rfl .nil)))))) (by kernel_rfl) ?_
       refine rn 5 rfl ?_
       replace h := Option.some.inj h
       subst h
       exact wR ⟨.inl rfl, [(6, (bV (y840.2)))], (Ghost.trans (ghost_mvC 1 0 4 47 3 (Ob.arr 25 4 [[(sV a3), (V.own 4 a5.length), (V.own 3 (a6 ++ ([(TPublished.mk x842 (y840.1) (y525.1))] : List TPublished)).length), (iV a4)]]) rfl rfl rfl (ObSub.box (.cons Sub.keepMv (.cons Sub.mv (.cons Sub.keepMv (.cons Sub.keepMv .nil))))) rfl rfl) (gr [0, 1, 2, 4, 3] rfl (hB rfl rfl rfl (hD rfl (hD rfl (hR rfl rfl (hR rfl rfl .nil))))) rfl)), (.cons (.tmp rfl) .nil)⟩
      refine rn 11 rfl ?_
      replace h := Option.some.inj h
      subst h
      exact wR ⟨.inl rfl, [(6, (bV false))], (Ghost.trans (ghost_mvC 1 0 3 47 3 (Ob.arr 25 4 [[(sV a3), (V.own 3 a5.length), (V.own 2 a6.length), (iV a4)]]) rfl rfl rfl (ObSub.box (.cons Sub.keepMv (.cons Sub.mv (.cons Sub.keepMv (.cons Sub.keepMv .nil))))) rfl rfl) (Ghost.trans (ghost_mvC 2 0 4 51 3 (Ob.arr 25 4 [[(sV a3), (V.own 3 a5.length), (V.own 4 a6.length), (iV a4)]]) rfl rfl rfl (ObSub.box (.cons Sub.keepMv (.cons Sub.keepMv (.cons Sub.mv (.cons Sub.keepMv .nil))))) rfl rfl) (gr [0, 1, 2, 3, 4] rfl (hB rfl rfl rfl (hD rfl (hD rfl (hR rfl rfl (hR rfl rfl .nil))))) rfl))), (.cons (.tmp rfl) .nil)⟩
     refine rn 13 rfl ?_
     refine ixl h rfl rfl (fun x845 hx846 h => ?_)
     refine rn 3 rfl ?_
     refine spO 155 h rfl (fun hb847 h => ?_) (fun hb847 h => ?_)
     ·refine rn 1 rfl ?_
      refine ln rfl rfl ?_
      refine rn 4 rfl ?_
      refine fxC 150 hb738 rfl ?_
      refine rn 4 rfl ?_
      refine ixl h rfl rfl (fun x848 hx849 h => ?_)
      refine rn 3 rfl ?_
      refine spO 179 h rfl (fun hb850 h => ?_) (fun hb850 h => ?_)
      ·refine rn 1 rfl ?_
       refine ln rfl rfl ?_
       refine rn 4 rfl ?_
       refine fxC 174 hb812 rfl ?_
       refine rn 4 rfl ?_
       refine ixl h rfl rfl (fun x851 hx852 h => ?_)
       refine rn 1 rfl ?_
       refine cl h rfl rfl rfl (W34 _ _) rfl (fun y853 hx854 h => ?_)
       obtain ⟨x855, hx856, h⟩ := bind_some h
       refine rn 7 rfl ?_
       refine ck h (fun hc857 h => ?_)
       refine awp_ghost ghost_res ?_
       refine fa ?_
       refine dr mixed (vs 6 rfl (iD hx856 rfl rfl rfl (vs 4 rfl (xD (OD.mk [(201, (V.agg [(sV x855), (iV (y853.1)), (iV (y525.1))]))] [] [(202, (V.lst 3 (([(TPublished.mk x855 (y853.1) (y525.1))] : List TPublished).map encTPublished)))] []) ⟨⟨rfl, trivial⟩, trivial⟩ (by exact fun S hn h hh => aops_buildSlice_imm [(0, (V.agg [(sV x855), (iV (y853.1)), (iV (y525.1))]))] [[(sV x855), (iV (y853.1)), (iV (y525.1))]] tEl23 tZ51 wants_none rfl rfl rfl rfl (evp_cons h.1 evp_nil) rfl rfl (by simp) (imms_rows (.cons (.cons (Imm.con _) (.cons (Imm.con _) (.cons (Imm.con _) .nil))) .nil)) rfl (aops_nil ⟨rfl, rfl⟩)) rfl (xD (OD.mk [(195, (V.own 2 a6.length)), (202, (V.lst 3 (([(TPublished.mk x855 (y853.1) (y525.1))] : List TPublished).map encTPublished)))] [(2, (Ob.arr 51 3 (a6.map encTPublished))), (3, Ob.res)] [(203, (V.own 3 (a6 ++ ([(TPublished.mk x855 (y853.1) (y525.1))] : List TPublished)).length))] [(3, (Ob.arr 51 3 ((a6 ++ ([(TPublished.mk x855 (y853.1) (y525.1))] : List TPublished)).map encTPublished))), (2, Ob.dead)]) ⟨⟨rfl, rfl, trivial⟩, ⟨rfl, rfl, trivial⟩⟩ (by exact fun S hn h hh => aops_append_at 3 rfl hn hh.2.1 (([(TPublished.mk x855 (y853.1) (y525.1))] : List TPublished).map encTPublished) ((a6 ++ ([(TPublished.mk x855 (y853.1) (y525.1))] : List TPublished)).map encTPublished) tEl23 tIsSl23 rfl rfl wants_none h.1 hh.1 (by simp) h.2.1 (.lst (rows_one one_encTPublished)) (map_snoc encTPublished a6 ([(TPublished.mk x855 (y853.1) (y525.1))] : List TPublished)) (List.length_map ..) hc857 rfl (aops_nil ⟨rfl, rfl⟩)) rfl (vs 3 rfl .nil)))))) (by kernel_rfl) ?_
       refine rn 5 rfl ?_
       replace h := Option.some.inj h
       subst h
       exact wR ⟨.inl rfl, [(6, (bV (y853.2)))], (Ghost.trans (ghost_mvC 1 0 4 47 3 (Ob.arr 25 4 [[(sV a3), (V.own 4 a5.length), (V.own 3 (a6 ++ ([(TPublished.mk x855 (y853.1) (y525.1))] : List TPublished)).length), (iV a4)]]) rfl rfl rfl (ObSub.box (.cons Sub.keepMv (.cons Sub.mv (.cons Sub.keepMv (.cons Sub.keepMv .nil))))) rfl rfl) (gr [0, 1, 2, 4, 3] rfl (hB rfl rfl rfl (hD rfl (hD rfl (hR rfl rfl (hR rfl rfl .nil))))) rfl)), (.cons (.tmp rfl) .nil)⟩
      refine rn 11 rfl ?_
      replace h := Option.some.inj h
      subst h
      exact wR ⟨.inl rfl, [(6, (bV false))], (Ghost.trans (ghost_mvC 1 0 3 47 3 (Ob.arr 25 4 [[(sV a3), (V.own 3 a5.length), (V.own 2 a6.length), (iV a4)]]) rfl rfl rfl (ObSub.box (.cons Sub.keepMv (.cons Sub.mv (.cons Sub.keepMv (.cons Sub.keepMv .nil))))) rfl rfl) (Ghost.trans (ghost_mvC 2 0 4 51 3 (Ob.arr 25 4 [[(sV a3), (V.own 3 a5.length), (V.own 4 a6.length), (iV a4)]]) rfl rfl rfl (ObSub.box (.cons Sub.keepMv (.cons Sub.keepMv (.cons Sub.mv (.cons Sub.keepMv .nil))))) rfl rfl) (gr [0, 1, 2, 3, 4] rfl (hB rfl rfl rfl (hD rfl (hD rfl (hR rfl rfl (hR rfl rfl .nil))))) rfl))), (.cons (.tmp rfl) .nil)⟩
     refine rn 10 rfl ?_
     refine ixl h rfl rfl (fun x858 hx859 h => ?_)
     refine rn 3 rfl ?_
     refine spO 179 h rfl (fun hb860 h => ?_) (fun hb860 h => ?_)
     ·refine rn 1 rfl ?_
      refine ln rfl rfl ?_
      refine rn 4 rfl ?_
      refine fxC 174 hb812 rfl ?_
      refine rn 4 rfl ?_
      refine ixl h rfl rfl (fun x861 hx862 h => ?_)
      refine rn 1 rfl ?_
      refine cl h rfl rfl rfl (W34 _ _) rfl (fun y863 hx864 h => ?_)
      obtain ⟨x865, hx866, h⟩ := bind_some h
      refine rn 7 rfl ?_
      refine ck h (fun hc867 h => ?_)
      refine awp_ghost ghost_res ?_
      refine fa ?_
      refine dr mixed (vs 6 rfl (iD hx866 rfl rfl rfl (vs 4 rfl (xD (OD.mk [(201, (V.agg [(sV x865), (iV (y863.1)), (iV (y525.1))]))] [] [(202, (V.lst 3 (([(TPublished.mk x865 (y863.1) (y525.1))] : List TPublished).map encTPublished)))] []) ⟨⟨rfl, trivial⟩, trivial⟩ (by exact fun S hn h hh => aops_buildSlice_imm [(0, (V.agg [(sV x865), (iV (y863.1)), (iV (y525.1))]))] [[(sV x865), (iV (y863.1)), (iV (y525.1))]] tEl23 tZ51 wants_none rfl rfl rfl rfl (evp_cons h.1 evp_nil) rfl rfl (by simp) (imms_rows (.cons (.cons (Imm.con _) (.cons (Imm.con _) (.cons (Imm.con _) .nil))) .nil)) rfl (aops_nil ⟨rfl, rfl⟩)) rfl (xD (OD.mk [(195, (V.own 2 a6.length)), (202, (V.lst 3 (([(TPublished.mk x865 (y863.1) (y525.1))] : List TPublished).map encTPublished)))] [(2, (Ob.arr 51 3 (a6.map encTPublished))), (3, Ob.res)] [(203, (V.own 3 (a6 ++ ([(TPublished.mk x865 (y863.1) (y525.1))] : List TPublished)).length))] [(3, (Ob.arr 51 3 ((a6 ++ ([(TPublished.mk x865 (y863.1) (y525.1))] : List TPublished)).map encTPublished))), (2, Ob.dead)]) ⟨⟨rfl, rfl, trivial⟩, ⟨rfl, rfl, trivial⟩⟩ (by exact fun S hn h hh => aops_append_at 3 rfl hn hh.2.1 (([(TPublished.mk x865 (y863.1) (y525.1))] : List TPublished).map encTPublished) ((a6 ++ ([(TPublished.mk x865 (y863.1) (y525.1))] : List TPublished)).map encTPublished) tEl23 tIsSl23 rfl rfl wants_none h.1 hh.1 (by simp) h.2.1 (.lst (rows_one one_encTPublished)) (map_snoc encTPublished a6 ([(TPublished.mk x865 (y863.1) (y525.1))] : List TPublished)) (List.length_map ..) hc867 rfl (aops_nil ⟨rfl, rfl⟩)) rfl (vs 3 rfl .nil)))))) (by kernel_rfl) ?_
      refine rn 5 rfl ?_
      replace h := Option.some.inj h
      subst h
      exact wR ⟨.inl rfl, [(6, (bV (y863.2)))], (Ghost.trans (ghost_mvC 1 0 4 47 3 (Ob.arr 25 4 [[(sV a3), (V.own 4 a5.length), (V.own 3 (a6 ++ ([(TPublished.mk x865 (y863.1) (y525.1))] : List TPublished)).length), (iV a4)]]) rfl rfl rfl (ObSub.box (.cons Sub.keepMv (.cons Sub.mv (.cons Sub.keepMv (.cons Sub.keepMv .nil))))) rfl rfl) (gr [0, 1, 2, 4, 3] rfl (hB rfl rfl rfl (hD rfl (hD rfl (hR rfl rfl (hR rfl rfl .nil))))) rfl)), (.cons (.tmp rfl) .nil)⟩
     refine rn 11 rfl ?_
     replace h := Option.some.inj h
     subst h
     exact wR ⟨.inl rfl, [(6, (bV false))], (Ghost.trans (ghost_mvC 1 0 3 47 3 (Ob.arr 25 4 [[(sV a3), (V.own 3 a5.length), (V.own 2 a6.length), (iV a4)]]) rfl rfl rfl (ObSub.box (.cons Sub.keepMv (.cons Sub.mv (.cons Sub.keepMv (.cons Sub.keepMv .nil))))) rfl rfl) (Ghost.trans (ghost_mvC 2 0 4 51 3 (Ob.arr 25 4 [[(sV a3), (V.own 3 a5.length), (V.own 4 a6.length), (iV a4)]]) rfl rfl rfl (ObSub.box (.cons Sub.keepMv (.cons Sub.keepMv (.cons Sub.mv (.cons Sub.keepMv .nil))))) rfl rfl) (gr [0, 1, 2, 3, 4] rfl (hB rfl rfl rfl (hD rfl (hD rfl (hR rfl rfl (hR rfl rfl .nil))))) rfl))), (.cons (.tmp rfl) .nil)⟩
    refine rn 21 rfl ?_
    refine ixl h rfl rfl (fun x868 hx869 h => ?_)
    refine rn 3 rfl ?_
    refine spO 155 h rfl (fun hb870 h => ?_) (fun hb870 h => ?_)
    ·refine rn 1 rfl ?_
     refine ln rfl rfl ?_
     refine rn 4 rfl ?_
     refine fxC 150 hb738 rfl ?_
     refine rn 4 rfl ?_
     refine ixl h rfl rfl (fun x871 hx872 h => ?_)
     refine rn 3 rfl ?_
     refine spO 179 h rfl (fun hb873 h => ?_) (fun hb873 h => ?_)
     ·refine rn 1 rfl ?_
      refine ln rfl rfl ?_
      refine rn 4 rfl ?_
      refine fxC 174 hb812 rfl ?_
      refine rn 5 rfl ?_
      replace h := Option.some.inj h
      subst h
      exact wR ⟨.inl rfl, [(6, (bV false))], (Ghost.trans (ghost_mvC 1 0 3 47 3 (Ob.arr 25 4 [[(sV a3), (V.own 3 a5.length), (V.own 2 a6.length), (iV a4)]]) rfl rfl rfl (ObSub.box (.cons Sub.keepMv (.cons Sub.mv (.cons Sub.keepMv (.cons Sub.keepMv .nil))))) rfl rfl) (Ghost.trans (ghost_mvC 2 0 4 51 3 (Ob.arr 25 4 [[(sV a3), (V.own 3 a5.length), (V.own 4 a6.length), (iV a4)]]) rfl rfl rfl (ObSub.box (.cons Sub.keepMv (.cons Sub.keepMv (.cons Sub.mv (.cons Sub.keepMv .nil))))) rfl rfl) (gr [0, 1, 2, 3, 4] rfl (hB rfl rfl rfl (hD rfl (hD rfl (hR rfl rfl (hR rfl rfl .nil))))) rfl))), (.cons (.tmp rfl) .nil)⟩
     refine rn 11 rfl ?_
     replace h := Option.some.inj h
     subst h
     exact wR ⟨.inl rfl, [(6, (bV false))], (Ghost.trans (ghost_mvC 1 0 3 47 3 (Ob.arr 25 4 [[(sV a3), (V.own 3 a5.length), (V.own 2 a6.length), (iV a4)]]) rfl rfl rfl (ObSub.box (.cons Sub.keepMv (.cons Sub.mv (.cons Sub.keepMv (.cons Sub.keepMv .nil))))) rfl rfl) (Ghost.trans (ghost_mvC 2 0 4 51 3 (Ob.arr 25 4 [[(sV a3), (V.own 3 a5.length), (V.own 4 a6.length), (iV a4)]]) rfl rfl rfl (ObSub.box (.cons Sub.keepMv (.cons Sub.keepMv (.cons Sub.mv (.cons Sub.keepMv .nil))))) rfl rfl) (gr [0, 1, 2, 3, 4] rfl (hB rfl rfl rfl (hD rfl (hD rfl (hR rfl rfl (hR rfl rfl .nil))))) rfl))), (.cons (.tmp rfl) .nil)⟩
    refine rn 10 rfl ?_
    refine ixl h rfl rfl (fun x874 hx875 h => ?_)
    refine rn 3 rfl ?_
    refine spO 179 h rfl (fun hb876 h => ?_) (fun hb876 h => ?_)
    ·refine rn 1 rfl ?_
     refine ln rfl rfl ?_
     refine rn 4 rfl ?_
     refine fxC 174 hb812 rfl ?_
     refine rn 5 rfl ?_
     replace h := Option.some.inj h
     subst h
     exact wR ⟨.inl rfl, [(6, (bV false))], (Ghost.trans (ghost_mvC 1 0 3 47 3 (Ob.arr 25 4 [[(sV a3), (V.own 3 a5.length), (V.own 2 a6.length), (iV a4)]]) rfl rfl rfl (ObSub.box (.cons Sub.keepMv (.cons Sub.mv (.cons Sub.keepMv (.cons Sub.keepMv .nil))))) rfl rfl) (Ghost.trans (ghost_mvC 2 0 4 51 3 (Ob.arr 25 4 [[(sV a3), (V.own 3 a5.length), (V.own 4 a6.length), (iV a4)]]) rfl rfl rfl (ObSub.box (.cons Sub.keepMv (.cons Sub.keepMv (.cons Sub.mv (.cons Sub.keepMv .nil))))) rfl rfl) (gr [0, 1, 2, 3, 4] rfl (hB rfl rfl rfl (hD rfl (hD rfl (hR rfl rfl (hR rfl rfl .nil))))) rfl))), (.cons (.tmp rfl) .nil)⟩
    refine rn 11 rfl ?_
    replace h := Option.some.inj h
    subst h
    exact wR ⟨.inl rfl, [(6, (bV false))], (Ghost.trans (ghost_mvC 1 0 3 47 3 (Ob.arr 25 4 [[(sV a3), (V.own 3 a5.length), (V.own 2 a6.length), (iV a4)]]) rfl rfl rfl (ObSub.box (.cons Sub.keepMv (.cons Sub.mv (.cons Sub.keepMv (.cons Sub.keepMv .nil))))) rfl rfl) (Ghost.trans (ghost_mvC 2 0 4 51 3 (Ob.arr 25 4 [[(sV a3), (V.own 3 a5.length), (V.own 4 a6.length), (iV a4)]]) rfl rfl rfl (ObSub.box (.cons Sub.keepMv (.cons Sub.keepMv (.cons Sub.mv (.cons Sub.keepMv .nil))))) rfl rfl) (gr [0, 1, 2, 3, 4] rfl (hB rfl rfl rfl (hD rfl (hD rfl (hR rfl rfl (hR rfl rfl .nil))))) rfl))), (.cons (.tmp rfl) .nil)⟩
   refine rn 26 rfl ?_
   refine ixl h rfl rfl (fun x877 hx878 h => ?_)
   refine rn 3 rfl ?_
   refine spO 155 h rfl (fun hb879 h => ?_) (fun hb879 h => ?_)
   ·refine rn 1 rfl ?_
    refine ln rfl rfl ?_
    refine rn 4 rfl ?_
    refine fxC 150 hb738 rfl ?_
    refine rn 4 rfl ?_
    refine ixl h rfl rfl (fun x880 hx881 h => ?_)
    refine rn 3 rfl ?_
    refine spO 179 h rfl (fun hb882 h => ?_) (fun hb882 h => ?_)
    ·refine rn 1 rfl ?_
     refine ln rfl rfl ?_
     refine rn 4 rfl ?_
     refine spC h rfl (fun hb883 h => ?_) (fun hb883 h => ?_)
     ·refine rn 3 rfl ?_
      refine ixl h rfl rfl (fun x884 hx885 h => ?_)
      refine rn 1 rfl ?_
      refine cl h rfl rfl rfl (W34 _ _) rfl (fun y886 hx887 h => ?_)
      obtain ⟨x888, hx889, h⟩ := bind_some h
      refine rn 7 rfl ?_
      refine ck h (fun hc890 h => ?_)
      refine awp_ghost ghost_res ?_
      refine fa ?_
      refine dr mixed (vs 6 rfl (iD hx889 rfl rfl rfl (vs 4 rfl (xD (OD.mk [(201, (V.agg [(sV x888), (iV (y886.1)), (iV (y525.1))]))] [] [(202, (V.lst 3 (([(TPublished.mk x888 (y886.1) (y525.1))] : List TPublished).map encTPublished)))] []) ⟨⟨rfl, trivial⟩, trivial⟩ (by exact fun S hn h hh => aops_buildSlice_imm [(0, (V.agg [(sV x888), (iV (y886.1)), (iV (y525.1))]))] [[(sV x888), (iV (y886.1)), (iV (y525.1))]] tEl23 tZ51 wants_none rfl rfl rfl rfl (evp_cons h.1 evp_nil) rfl rfl (by simp) (imms_rows (.cons (.cons (Imm.con _) (.cons (Imm.con _) (.cons (Imm.con _) .nil))) .nil)) rfl (aops_nil ⟨rfl, rfl⟩)) rfl (xD (OD.mk [(195, (V.own 2 a6.length)), (202, (V.lst 3 (([(TPublished.mk x888 (y886.1) (y525.1))] : List TPublished).map encTPublished)))] [(2, (Ob.arr 51 3 (a6.map encTPublished))), (3, Ob.res)] [(203, (V.own 3 (a6 ++ ([(TPublished.mk x888 (y886.1) (y525.1))] : List TPublished)).length))] [(3, (Ob.arr 51 3 ((a6 ++ ([(TPublished.mk x888 (y886.1) (y525.1))] : List TPublished)).map encTPublished))), (2, Ob.dead)]) ⟨⟨rfl, rfl, trivial⟩, ⟨rfl, rfl, trivial⟩⟩ (by exact fun S hn h hh => aops_append_at 3 rfl hn hh.2.1 (([(TPublished.mk x888 (y886.1) (y525.1))] : List TPublished).map encTPublished) ((a6 ++ ([(TPublished.mk x888 (y886.1) (y525.1))] : List TPublished)).map encTPublished) tEl23 tIsSl23 rfl rfl wants_none h.1 hh.1 (by simp) h.2.1 (.lst (rows_one one_encTPublished)) (map_snoc encTPublished a6 ([(TPublished.mk x888 (y886.1) (y525.1))] : List TPublished)) (List.length_map ..) hc890 rfl (aops_nil ⟨rfl, rfl⟩)) rfl (vs 3 rfl .nil)))))) (by kernel_rfl) ?_
      refine rn 5 rfl ?_
      replace h := Option.some.inj h
      subst h
      exact wR ⟨.inl rfl, [(6, (bV (y886.2)))], (Ghost.trans (ghost_mvC 1 0 4 47 3 (Ob.arr 25 4 [[(sV a3), (V.own 4 a5.length), (V.own 3 (a6 ++ ([(TPublished.mk x888 (y886.1) (y525.1))] : List TPublished)).length), (iV a4)]]) rfl rfl rfl (ObSub.box (.cons Sub.keepMv (.cons Sub.mv (.cons Sub.keepMv (.cons Sub.keepMv .nil))))) rfl rfl) (gr [0, 1, 2, 4, 3] rfl (hB rfl rfl rfl (hD rfl (hD rfl (hR rfl rfl (hR rfl rfl .nil))))) rfl)), (.cons (.tmp rfl) .nil)⟩
     refine rn 4 rfl ?_
     replace h := Option.some.inj h
     subst h
     exact wR ⟨.inl rfl, [(6, (bV false))], (Ghost.trans (ghost_mvC 1 0 3 47 3 (Ob.arr 25 4 [[(sV a3), (V.own 3 a5.length), (V.own 2 a6.length), (iV a4)]]) rfl rfl rfl (ObSub.box (.cons Sub.keepMv (.cons Sub.mv (.cons Sub.keepMv (.cons Sub.keepMv .nil))))) rfl rfl) (Ghost.trans (ghost_mvC 2 0 4 51 3 (Ob.arr 25 4 [[(sV a3), (V.own 3 a5.length), (V.own 4 a6.length), (iV a4)]]) rfl rfl rfl (ObSub.box (.cons Sub.keepMv (.cons Sub.keepMv (.cons Sub.mv (.cons Sub.keepMv .nil))))) rfl rfl) (gr [0, 1, 2, 3, 4] rfl (hB rfl rfl rfl (hD rfl (hD rfl (hR rfl rfl (hR rfl rfl .nil))))) rfl))), (.cons (.tmp rfl) .nil)⟩
    refine rn 11 rfl ?_
    replace h := Option.some.inj h
    subst h
    exact wR ⟨.inl rfl, [(6, (bV false))], (Ghost.trans (ghost_mvC 1 0 3 47 3 (Ob.arr 25 4 [[(sV a3), (V.own 3 a5.length), (V.own 2 a6.length), (iV a4)]]) rfl rfl rfl (ObSub.box (.cons Sub.keepMv (.cons Sub.mv (.cons Sub.keepMv (.cons Sub.keepMv .nil))))) rfl rfl) (Ghost.trans (ghost_mvC 2 0 4 51 3 (Ob.arr 25 4 [[(sV a3), (V.own 3 a5.length), (V.own 4 a6.length), (iV a4)]]) rfl rfl rfl (ObSub.box (.cons Sub.keepMv (.cons Sub.keepMv (.cons Sub.mv (.cons Sub.keepMv .nil))))) rfl rfl) (gr [0, 1, 2, 3, 4] rfl (hB rfl rfl rfl (hD rfl (hD rfl (hR rfl rfl (hR rfl rfl .nil))))) rfl))), (.cons (.tmp rfl) .nil)⟩
   refine rn 10 rfl ?_
   refine ixl h rfl rfl (fun x891 hx892 h => ?_)
   refine rn 3 rfl ?_
   refine spO 179 h rfl (fun hb893 h => ?_) (fun hb893 h => ?_)
   ·refine rn 1 rfl ?_
    refine ln rfl rfl ?_
    refine rn 4 rfl ?_
    refine spC h rfl (fun hb894 h => ?_) (fun hb894 h => ?_)
    ·refine rn 3 rfl ?_
     refine ixl h rfl rfl (fun x895 hx896 h => ?_)
     refine rn 1 rfl ?_
     refine cl h rfl rfl rfl (W34 _ _) rfl (fun y897 hx898 h => ?_)
     obtain ⟨x899, hx900, h⟩ := bind_some h
     refine rn 7 rfl ?_
     refine ck h (fun hc901 h => ?_)
     refine awp_ghost ghost_res ?_
     refine fa ?_
     refine dr mixed (vs 6 rfl (iD hx900 rfl rfl rfl (vs 4 rfl (xD (OD.mk [(201, (V.agg [(sV x899), (iV (y897.1)), (iV (y525.1))]))] [] [(202, (V.lst 3 (([(TPublished.mk x899 (y897.1) (y525.1))] : List TPublished).map encTPublished)))] []) ⟨⟨rfl, trivial⟩, trivial⟩ (by exact fun S hn h hh => aops_buildSlice_imm [(0, (V.agg [(sV x899), (iV (y897.1)), (iV (y525.1))]))] [[(sV x899), (iV (y897.1)), (iV (y525.1))]] tEl23 tZ51 wants_none rfl rfl rfl rfl (evp_cons h.1 evp_nil) rfl rfl (by simp) (imms_rows (.cons (.cons (Imm.con _) (.cons (Imm.con _) (.cons (Imm.con _) .nil))) .nil)) rfl (aops_nil ⟨rfl, rfl⟩)) rfl (xD (OD.mk [(195, (V.own 2 a6.length)), (202, (V.lst 3 (([(TPublished.mk x899 (y897.1) (y525.1))] : List TPublished).map encTPublished)))] [(2, (Ob.arr 51 3 (a6.map encTPublished))), (3, Ob.res)] [(203, (V.own 3 (a6 ++ ([(TPublished.mk x899 (y897.1) (y525.1))] : List TPublished)).length))] [(3, (Ob.arr 51 3 ((a6 ++ ([(TPublished.mk x899 (y897.1) (y525.1))] : List TPublished)).map encTPublished))), (2, Ob.dead)]) ⟨⟨rfl, rfl, trivial⟩, ⟨rfl, rfl, trivial⟩⟩ (by exact fun S hn h hh => aops_append_at 3 rfl hn hh.2.1 (([(TPublished.mk x899 (y897.1) (y525.1))] : List TPublished).map encTPublished) ((a6 ++ ([(TPublished.mk x899 (y897.1) (y525.1))] : List TPublished)).map encTPublished) tEl23 tIsSl23 rfl rfl wants_none h.1 hh.1 (by simp) h.2.1 (.lst (rows_one one_encTPublished)) (map_snoc encTPublished a6 ([(TPublished.mk x899 (y897.1) (y525.1))] : List TPublished)) (List.length_map ..) hc901 rfl (aops_nil ⟨rfl, rfl⟩)) rfl (vs 3 rfl .nil)))))) (by kernel_rfl) ?_
     refine rn 5 rfl ?_
     replace h := Option.some.inj h
     subst h
     exact wR ⟨.inl rfl, [(6, (bV (y897.2)))], (Ghost.trans (ghost_mvC 1 0 4 47 3 (Ob.arr 25 4 [[(sV a3), (V.own 4 a5.length), (V.own 3 (a6 ++ ([(TPublished.mk x899 (y897.1) (y525.1))] : List TPublished)).length), (iV a4)]]) rfl rfl rfl (ObSub.box (.cons Sub.keepMv (.cons Sub.mv (.cons Sub.keepMv (.cons Sub.keepMv .nil))))) rfl rfl) (gr [0, 1, 2, 4, 3] rfl (hB rfl rfl rfl (hD rfl (hD rfl (hR rfl rfl (hR rfl rfl .nil))))) rfl)), (.cons (.tmp rfl) .nil)⟩
    refine rn 4 rfl ?_
    replace h := Option.some.inj h
    subst h
    exact wR ⟨.inl rfl, [(6, (bV false))], (Ghost.trans (ghost_mvC 1 0 3 47 3 (Ob.arr 25 4 [[(sV a3), (V.own 3 a5.length), (V.own 2 a6.length), (iV a4)]]) rfl rfl rfl (ObSub.box (.cons Sub.keepMv (.cons Sub.mv (.cons Sub.keepMv (.cons Sub.keepMv .nil))))) rfl rfl) (Ghost.trans (ghost_mvC 2 0 4 51 3 (Ob.arr 25 4 [[(sV a3), (V.own 3 a5.length), (V.own 4 a6.length), (iV a4)]]) rfl rfl rfl (ObSub.box (.cons Sub.keepMv (.cons Sub.keepMv (.cons Sub.mv (.cons Sub.keepMv .nil))))) rfl rfl) (gr [0, 1, 2, 3, 4] rfl (hB rfl rfl rfl (hD rfl (hD rfl (hR rfl rfl (hR rfl rfl .nil))))) rfl))), (.cons (.tmp rfl) .nil)⟩
   refine rn 11 rfl ?_
   replace h := Option.some.inj h
   subst h
   exact wR ⟨.inl rfl, [(6, (bV false))], (Ghost.trans (ghost_mvC 1 0 3 47 3 (Ob.arr 25 4 [[(sV a3), (V.own 3 a5.length), (V.own 2 a6.length), (iV a4)]]) rfl rfl rfl (ObSub.box (.cons Sub.keepMv (.cons Sub.mv (.cons Sub.keepMv (.cons Sub.keepMv .nil))))) rfl rfl) (Ghost.trans (ghost_mvC 2 0 4 51 3 (Ob.arr 25 4 [[(sV a3), (V.own 3 a5.length), (V.own 4 a6.length), (iV a4)]]) rfl rfl rfl (ObSub.box (.cons Sub.keepMv (.cons Sub.keepMv (.cons Sub.mv (.cons Sub.keepMv .nil))))) rfl rfl) (gr [0, 1, 2, 3, 4] rfl (hB rfl rfl rfl (hD rfl (hD rfl (hR rfl rfl (hR rfl rfl .nil))))) rfl))), (.cons (.tmp rfl) .nil)⟩
  refine rn 18 rfl ?_
  refine ixl h rfl rfl (fun x902 hx903 h => ?_)
  refine rn 3 rfl ?_
  refine spO 101 h rfl (fun hb904 h => ?_) (fun hb904 h => ?_)
  ·refine rn 1 rfl ?_
   refine ln rfl rfl ?_
   refine rn 3 rfl ?_
   refine spO 106 h rfl (fun hb905 h => ?_) (fun hb905 h => ?_)
   ·refine rn 8 rfl ?_
    refine spO 114 h rfl (fun hb906 h => ?_) (fun hb906 h => ?_)
    ·refine rn 9 rfl ?_
     refine jK h (fun (p : (List TRelease) × (List TPublished)) => (⟨[], [(0, (Ob.arr 25 4 [[(sV a3), (V.own 1 (p.1).length), (V.own 3 (p.2).length), (iV a4)]])), (1, (Ob.arr 47 3 ((p.1).map dencTRelease))), (2, Ob.dead), (3, (Ob.arr 51 3 ((p.2).map encTPublished)))], 4⟩ : St)) (fun k907 p => k907 p.1 p.2 = some r) (fun k907 h => ?_) ?_
     ·refine spC h rfl (fun hb910 h => ?_) (fun hb910 h => ?_)
      ·obtain ⟨x911, hx912, h⟩ := bind_some h
       refine rn 1 rfl ?_
       refine dr mixed (vs 10 rfl (oD (a := a5) hx912 rfl rfl rfl rfl (vs 1 rfl .nil))) (by kernel_rfl) ?_
       obtain ⟨x913, hx914, h⟩ := bind_some h
       obtain ⟨x915, hx916, h⟩ := bind_some h
       refine ck h (fun hc917 h => ?_)
       refine awp_ghost ghost_res ?_
       refine awp_ghost ghost_res ?_
       refine fa ?_
       refine dr mixed (vs 4 rfl (xD (OD.mk [(136, (V.ptr 1 3 (w64 (((a5.length : Nat) : Int) - 1)).toNat 2))] [(1, (Ob.arr 47 3 (a5.map dencTRelease))), (3, Ob.res)] [(137, (V.own 3 x911.Exposures.length))] [(1, (Ob.arr 47 3 (setC (a5.map dencTRelease) ((w64 (((a5.length : Nat) : Int) - 1)).toNat) (dencTRelease x911) 2 (V.own 3 x911.Exposures.length)))), (3, (Ob.arr 66 3 (x911.Exposures.map encTExposure)))]) ⟨⟨rfl, trivial⟩, ⟨rfl, rfl, trivial⟩⟩ (by exact fun S hn h hh => aops_load_takeS_at 3 rfl hn hh.2.1 dencTRelease encTExposure rfl tC45 wants_none h.1 hh.1 (idx_some hx912).2 rfl rfl (aops_nil ⟨rfl, rfl⟩)) rfl (vs 1 rfl (iD hx914 rfl rfl rfl (vs 2 rfl (iD hx916 rfl rfl rfl (vs 3 rfl (xD (OD.mk [(145, (V.agg [(sV x913), (sV x915), (iV (y525.1))]))] [] [(146, (V.lst 3 (([(TExposure.mk x913 x915 (y525.1))] : List TExposure).map encTExposure)))] []) ⟨⟨rfl, trivial⟩, trivial⟩ (by exact fun S hn h hh => aops_buildSlice_imm [(0, (V.agg [(sV x913), (sV x915), (iV (y525.1))]))] [[(sV x913), (sV x915), (iV (y525.1))]] tEl45 tZ66 wants_none rfl rfl rfl rfl (evp_cons h.1 evp_nil) rfl rfl (by simp) (imms_rows (.cons (.cons (Imm.con _) (.cons (Imm.con _) (.cons (Imm.con _) .nil))) .nil)) rfl (aops_nil ⟨rfl, rfl⟩)) rfl (xD (OD.mk [(137, (V.own 3 x911.Exposures.length)), (146, (V.lst 3 (([(TExposure.mk x913 x915 (y525.1))] : List TExposure).map encTExposure)))] [(3, (Ob.arr 66 3 (x911.Exposures.map encTExposure))), (4, Ob.res)] [(147, (V.own 4 (x911.Exposures ++ ([(TExposure.mk x913 x915 (y525.1))] : List TExposure)).length))] [(4, (Ob.arr 66 3 ((x911.Exposures ++ ([(TExposure.mk x913 x915 (y525.1))] : List TExposure)).map encTExposure))), (3, Ob.dead)]) ⟨⟨rfl, rfl, trivial⟩, ⟨rfl, rfl, trivial⟩⟩ (by exact fun S hn h hh => aops_append_at 4 rfl hn hh.2.1 (([(TExposure.mk x913 x915 (y525.1))] : List TExposure).map encTExposure) ((x911.Exposures ++ ([(TExposure.mk x913 x915 (y525.1))] : List TExposure)).map encTExposure) tEl45 tIsSl45 rfl rfl wants_none h.1 hh.1 (by simp) h.2.1 (.lst (rows_one one_encTExposure)) (map_snoc encTExposure x911.Exposures ([(TExposure.mk x913 x915 (y525.1))] : List TExposure)) (List.length_map ..) hc917 rfl (aops_nil ⟨rfl, rfl⟩)) rfl (vs 2 rfl (xD (OD.mk [(149, (V.ptr 1 3 (w64 (((a5.length : Nat) : Int) - 1)).toNat 2)), (147, (V.own 4 (x911.Exposures ++ ([(TExposure.mk x913 x915 (y525.1))] : List TExposure)).length))] [(1, (Ob.arr 47 3 (setC (a5.map dencTRelease) ((w64 (((a5.length : Nat) : Int) - 1)).toNat) (dencTRelease x911) 2 (V.own 3 x911.Exposures.length)))), (4, (Ob.arr 66 3 ((x911.Exposures ++ ([(TExposure.mk x913 x915 (y525.1))] : List TExposure)).map encTExposure)))] [] [(1, (Ob.arr 47 3 ((a5.set ((w64 (((a5.length : Nat) : Int) - 1)).toNat) ({ x911 with Exposures := (x911.Exposures ++ ([(TExposure.mk x913 x915 (y525.1))] : List TExposure)) } : TRelease)).map dencTRelease))), (4, Ob.dead)]) ⟨⟨rfl, rfl, trivial⟩, ⟨rfl, rfl, trivial⟩⟩ (by exact fun S hn h hh => aops_store_untakeS dencTRelease encTExposure (fun z => (imms_encTExposure z).keep) (a5.set ((w64 (((a5.length : Nat) : Int) - 1)).toNat) ({ x911 with Exposures := (x911.Exposures ++ ([(TExposure.mk x913 x915 (y525.1))] : List TExposure)) } : TRelease)) tS45 wants_none h.1 h.2.1 hh.1 (Nat.le_of_ble_eq_true rfl) (by simpa using idx_lt hx912) hh.2.1 (by simp) rfl (by rw [List.map_set]; rfl) (aops_nil ⟨rfl, rfl⟩)) rfl .nil))))))))))) (by kernel_rfl) ?_
       exact jX ((a5.set ((w64 (((a5.length : Nat) : Int) - 1)).toNat) ({ x911 with Exposures := (x911.Exposures ++ ([(TExposure.mk x913 x915 (y525.1))] : List TExposure)) } : TRelease)), a6) h (Ghost.trans (ghost_mvC 2 0 5 51 3 (Ob.arr 25 4 [[(sV a3), (V.own 1 a5.length), (V.own 5 a6.length), (iV a4)]]) rfl rfl rfl (ObSub.box (.cons Sub.keepMv (.cons Sub.keepMv (.cons Sub.mv (.cons Sub.keepMv .nil))))) rfl rfl) (ghost_ren 4 (fun i => ([0, 1, 2, 5] : List Nat).getD i 0) _ _ (by decide) (EnvSub.get .nil) (HpSub.get (.cons rfl (ObSub.box (.cons (Sub.imm (Imm.con _)) (.cons (Sub.ownE rfl rfl (by simp)) (.cons (Sub.own rfl rfl) (.cons (Sub.imm (Imm.con _)) .nil))))) (.cons rfl (ObSub.rowsK RK.h) (.cons rfl ObSub.deadT (.cons rfl (ObSub.rows (rows_imm imms_encTPublished)) .nil))))) rfl))
      refine rn 3 rfl ?_
      refine ixl h rfl rfl (fun x918 hx919 h => ?_)
      refine rn 3 rfl ?_
      refine spO 155 h rfl (fun hb920 h => ?_) (fun hb920 h => ?_)
      ·refine rn 1 rfl ?_
       refine ln rfl rfl ?_
       refine rn 4 rfl ?_
       refine spC h rfl (fun hb921 h => ?_) (fun hb921 h => ?_)
       ·obtain ⟨x922, hx923, h⟩ := bind_some h
        refine ck h (fun hc924 h => ?_)
        refine awp_ghost ghost_res ?_
        refine fa ?_
        refine dr mixed (vs 6 rfl (iD hx923 rfl rfl rfl (vs 3 rfl (xD (OD.mk [(169, (V.agg [(sV x922), (iV (y525.1)), (iV (-1))]))] [] [(170, (V.lst 3 (([(TPublished.mk x922 (y525.1) (-1))] : List TPublished).map encTPublished)))] []) ⟨⟨rfl, trivial⟩, trivial⟩ (by exact fun S hn h hh => aops_buildSlice_imm [(0, (V.agg [(sV x922), (iV (y525.1)), (iV (-1))]))] [[(sV x922), (iV (y525.1)), (iV (-1))]] tEl23 tZ51 wants_none rfl rfl rfl rfl (evp_cons h.1 evp_nil) rfl rfl (by simp) (imms_rows (.cons (.cons (Imm.con _) (.cons (Imm.con _) (.cons (Imm.con _) .nil))) .nil)) rfl (aops_nil ⟨rfl, rfl⟩)) rfl (xD (OD.mk [(164, (V.own 2 a6.length)), (170, (V.lst 3 (([(TPublished.mk x922 (y525.1) (-1))] : List TPublished).map encTPublished)))] [(2, (Ob.arr 51 3 (a6.map encTPublished))), (3, Ob.res)] [(171, (V.own 3 (a6 ++ ([(TPublished.mk x922 (y525.1) (-1))] : List TPublished)).length))] [(3, (Ob.arr 51 3 ((a6 ++ ([(TPublished.mk x922 (y525.1) (-1))] : List TPublished)).map encTPublished))), (2, Ob.dead)]) ⟨⟨rfl, rfl, trivial⟩, ⟨rfl, rfl, trivial⟩⟩ (by exact fun S hn h hh => aops_append_at 3 rfl hn hh.2.1 (([(TPublished.mk x922 (y525.1) (-1))] : List TPublished).map encTPublished) ((a6 ++ ([(TPublished.mk x922 (y525.1) (-1))] : List TPublished)).map encTPublished) tEl23 tIsSl23 rfl rfl wants_none h.1 hh.1 (by simp) h.2.1 (.lst (rows_one one_encTPublished)) (map_snoc encTPublished a6 ([(TPublished.mk x922 (y525.1) (-1))] : List TPublished)) (List.length_map ..) hc924 rfl (aops_nil ⟨rfl, rfl⟩)) rfl (vs 3 rfl .nil)))))) (by kernel_rfl) ?_
        exact jX (a5, (a6 ++ ([(TPublished.mk x922 (y525.1) (-1))] : List TPublished))) h (gr [0, 1, 2, 3] rfl (hB rfl rfl rfl (hR rfl rfl (hD rfl (hR rfl rfl .nil)))) rfl)
       refine rn 3 rfl ?_
       refine ixl h rfl rfl (fun x925 hx926 h => ?_)
       refine rn 3 rfl ?_
       refine spO 179 h rfl (fun hb927 h => ?_) (fun hb927 h => ?_)
       ·refine rn 1 rfl ?_
        refine ln rfl rfl ?_
        refine rn 4 rfl ?_
        refine fxC 174 hb905 rfl ?_
        refine rn 4 rfl ?_
        refine ixl h rfl rfl (fun x928 hx929 h => ?_)
        refine rn 1 rfl ?_
        refine cl h rfl rfl rfl (W34 _ _) rfl (fun y930 hx931 h => ?_)
        obtain ⟨x932, hx933, h⟩ := bind_some h
        refine rn 7 rfl ?_
        refine ck h (fun hc934 h => ?_)
        refine awp_ghost ghost_res ?_
        refine fa ?_
        refine dr mixed (vs 6 rfl (iD hx933 rfl rfl rfl (vs 4 rfl (xD (OD.mk [(201, (V.agg [(sV x932), (iV (y930.1)), (iV (y525.1))]))] [] [(202, (V.lst 3 (([(TPublished.mk x932 (y930.1) (y525.1))] : List TPublished).map encTPublished)))] []) ⟨⟨rfl, trivial⟩, trivial⟩ (by exact fun S hn h hh => aops_buildSlice_imm [(0, (V.agg [(sV x932), (iV (y930.1)), (iV (y525.1))]))] [[(sV x932), (iV (y930.1)), (iV (y525.1))]] tEl23 tZ51 wants_none rfl rfl rfl rfl (evp_cons h.1 evp_nil) rfl rfl (by simp) (imms_rows (.cons (.cons (Imm.con _) (.cons (Imm.con _) (.cons (Imm.con _) .nil))) .nil)) rfl (aops_nil ⟨rfl, rfl⟩)) rfl (xD (OD.mk [(195, (V.own 2 a6.length)), (202, (V.lst 3 (([(TPublished.mk x932 (y930.1) (y525.1))] : List TPublished).map encTPublished)))] [(2, (Ob.arr 51 3 (a6.map encTPublished))), (3, Ob.res)] [(203, (V.own 3 (a6 ++ ([(TPublished.mk x932 (y930.1) (y525.1))] : List TPublished)).length))] [(3, (Ob.arr 51 3 ((a6 ++ ([(TPublished.mk x932 (y930.1) (y525.1))] : List TPublished)).map encTPublished))), (2, Ob.dead)]) ⟨⟨rfl, rfl, trivial⟩, ⟨rfl, rfl, trivial⟩⟩ (by exact fun S hn h hh => aops_append_at 3 rfl hn hh.2.1 (([(TPublished.mk x932 (y930.1) (y525.1))] : List TPublished).map encTPublished) ((a6 ++ ([(TPublished.mk x932 (y930.1) (y525.1))] : List TPublished)).map encTPublished) tEl23 tIsSl23 rfl rfl wants_none h.1 hh.1 (by simp) h.2.1 (.lst (rows_one one_encTPublished)) (map_snoc encTPublished a6 ([(TPublished.mk x932 (y930.1) (y525.1))] : List TPublished)) (List.length_map ..) hc934 rfl (aops_nil ⟨rfl, rfl⟩)) rfl (vs 3 rfl .nil)))))) (by kernel_rfl) ?_
        refine rn 5 rfl ?_
        replace h := Option.some.inj h
        subst h
        exact wR ⟨.inl rfl, [(6, (bV (y930.2)))], (Ghost.trans (ghost_mvC 1 0 4 47 3 (Ob.arr 25 4 [[(sV a3), (V.own 4 a5.length), (V.own 3 (a6 ++ ([(TPublished.mk x932 (y930.1) (y525.1))] : List TPublished)).length), (iV a4)]]) rfl rfl rfl (ObSub.box (.cons Sub.keepMv (.cons Sub.mv (.cons Sub.keepMv (.cons Sub.keepMv .nil))))) rfl rfl) (gr [0, 1, 2, 4, 3] rfl (hB rfl rfl rfl (hD rfl (hD rfl (hR rfl rfl (hR rfl rfl .nil))))) rfl)), (.cons (.tmp rfl) .nil)⟩
       refine rn 11 rfl ?_
       replace h := Option.some.inj h
       subst h
       exact wR ⟨.inl rfl, [(6, (bV false))], (Ghost.trans (ghost_mvC 1 0 3 47 3 (Ob.arr 25 4 [[(sV a3), (V.own 3 a5.length), (V.own 2 a6.length), (iV a4)]]) rfl rfl rfl (ObSub.box (.cons Sub.keepMv (.cons Sub.mv (.cons Sub.keepMv (.cons Sub.keepMv .nil))))) rfl rfl) (Ghost.trans (ghost_mvC 2 0 4 51 3 (Ob.arr 25 4 [[(sV a3), (V.own 3 a5.length), (V.own 4 a6.length), (iV a4)]]) rfl rfl rfl (ObSub.box (.cons Sub.keepMv (.cons Sub.keepMv (.cons Sub.mv (.cons Sub.keepMv .nil))))) rfl rfl) (gr [0, 1, 2, 3, 4] rfl (hB rfl rfl rfl (hD rfl (hD rfl (hR rfl rfl (hR rfl rfl .nil))))) rfl))), (.cons (.tmp rfl) .nil)⟩
      refine rn 10 rfl ?_
      refine ixl h rfl rfl (fun x935 hx936 h => ?_)
      refine rn 3 rfl ?_
      refine spO 179 h rfl (fun hb937 h => ?_) (fun hb937 h => ?_)
      ·refine rn 1 rfl ?_
       refine ln rfl rfl ?_
       refine rn 4 rfl ?_
       refine fxC 174 hb905 rfl ?_
       refine rn 4 rfl ?_
       refine ixl h rfl rfl (fun x938 hx939 h => ?_)
       refine rn 1 rfl ?_
       refine cl h rfl rfl rfl (W34 _ _) rfl (fun y940 hx941 h => ?_)
       obtain ⟨x942, hx943, h⟩ := bind_some h
       refine rn 7 rfl ?_
       refine ck h (fun hc944 h => ?_)
       refine awp_ghost ghost_res ?_
       refine fa ?_
       refine dr mixed (vs 6 rfl (iD hx943 rfl rfl rfl (vs 4 rfl (xD (OD.mk [(201, (V.agg [(sV x942), (iV (y940.1)), (iV (y525.1))]))] [] [(202, (V.lst 3 (([(TPublished.mk x942 (y940.1) (y525.1))] : List TPublished).map encTPublished)))] []) ⟨⟨rfl, trivial⟩, trivial⟩ (by exact fun S hn h hh => aops_buildSlice_imm [(0, (V.agg [(sV x942), (iV (y940.1)), (iV (y525.1))]))] [[(sV x942), (iV (y940.1)), (iV (y525.1))]] tEl23 tZ51 wants_none rfl rfl rfl rfl (evp_cons h.1 evp_nil) rfl rfl (by simp) (imms_rows (.cons (.cons (Imm.con _) (.cons (Imm.con _) (.cons (Imm.con _) .nil))) .nil)) rfl (aops_nil ⟨rfl, rfl⟩)) rfl (xD (OD.mk [(195, (V.own 2 a6.length)), (202, (V.lst 3 (([(TPublished.mk x942 (y940.1) (y525.1))] : List TPublished).map encTPublished)))] [(2, (Ob.arr 51 3 (a6.map encTPublished))), (3, Ob.res)] [(203, (V.own 3 (a6 ++ ([(TPublished.mk x942 (y940.1) (y525.1))] : List TPublished)).length))] [(3, (Ob.arr 51 3 ((a6 ++ ([(TPublished.mk x942 (y940.1) (y525.1))] : List TPublished)).map encTPublished))), (2, Ob.dead)]) ⟨⟨rfl, rfl, trivial⟩, ⟨rfl, rfl, trivial⟩⟩ (by exact fun S hn h hh => aops_append_at 3 rfl hn hh.2.1 (([(TPublished.mk x942 (y940.1) (y525.1))] : List TPublished).map encTPublished) ((a6 ++ ([(TPublished.mk x942 (y940.1) (y525.1))] : List TPublished)).map encTPublished) tEl23 tIsSl23 rfl rfl wants_none h.1 hh.1 (by simp) h.2.1 (.lst (rows_one one_encTPublished)) (map_snoc encTPublished a6 ([(TPublished.mk x942 (y940.1) (y525.1))] : List TPublished)) (List.length_map ..) hc944 rfl (aops_nil ⟨rfl, rfl⟩)) rfl (vs 3 rfl .nil)))))) (by kernel_rfl) ?_
       refine rn 5 rfl ?_
       replace h := Option.some.inj h
       subst h
       exact wR ⟨.inl rfl, [(6, (bV (y940.2)))], (Ghost.trans (ghost_mvC 1 0 4 47 3 (Ob.arr 25 4 [[(sV a3), (V.own 4 a5.length), (V.own 3 (a6 ++ ([(TPublished.mk x942 (y940.1) (y525.1))] : List TPublished)).length), (iV a4)]]) rfl rfl rfl (ObSub.box (.cons Sub.keepMv (.cons Sub.mv (.cons Sub.keepMv (.cons Sub.keepMv .nil))))) rfl rfl) (gr [0, 1, 2, 4, 3] rfl (hB rfl rfl rfl (hD rfl (hD rfl (hR rfl rfl (hR rfl rfl .nil))))) rfl)), (.cons (.tmp rfl) .nil)⟩
      refine rn 11 rfl ?_
      replace h := Option.some.inj h
      subst h
      exact wR ⟨.inl rfl, [(6, (bV false))], (Ghost.trans (ghost_mvC 1 0 3 47 3 (Ob.arr 25 4 [[(sV a3), (V.own 3 a5.length), (V.own 2 a6.length), (iV a4)]]) rfl rfl rfl (ObSub.box (.cons Sub.keepMv (.cons Sub.mv (.cons Sub.keepMv (.cons Sub.keepMv .nil))))) rfl rfl) (Ghost.trans (ghost_mvC 2 0 4 51 3 (Ob.arr 25 4 [[(sV a3), (V.own 3 a5.length), (V.own 4 a6.length), (iV a4)]]) rfl rfl rfl (ObSub.box (.cons Sub.keepMv (.cons Sub.keepMv (.cons Sub.mv (.cons Sub.keepMv .nil))))) rfl rfl) (gr [0, 1, 2, 3, 4] rfl (hB rfl rfl rfl (hD rfl (hD rfl (hR rfl rfl (hR rfl rfl .nil))))) rfl))), (.cons (.tmp rfl) .nil)⟩
     rintro ⟨l908, l909⟩ h
     refine rn 1 rfl ?_
     exact jX (a3, a4, l908, l909) h (Ghost.trans (ghost_mvC 1 0 4 47 3 (Ob.arr 25 4 [[(sV a3), (V.own 4 l908.length), (V.own 3 l909.length), (iV a4)]]) rfl rfl rfl (ObSub.box (.cons Sub.keepMv (.cons Sub.mv (.cons Sub.keepMv (.cons Sub.keepMv .nil))))) rfl rfl) (gr [0, 1, 2, 4, 3] rfl (hB rfl rfl rfl (hD rfl (hD rfl (hR rfl rfl (hR rfl rfl .nil))))) rfl))
    refine rn 13 rfl ?_
    refine ixl h rfl rfl (fun x945 hx946 h => ?_)
    refine rn 3 rfl ?_
    refine spO 155 h rfl (fun hb947 h => ?_) (fun hb947 h => ?_)
    ·refine rn 1 rfl ?_
     refine ln rfl rfl ?_
     refine rn 4 rfl ?_
     refine spC h rfl (fun hb948 h => ?_) (fun hb948 h => ?_)
     ·obtain ⟨x949, hx950, h⟩ := bind_some h
      refine ck h (fun hc951 h => ?_)
      refine awp_ghost ghost_res ?_
      refine fa ?_
      refine dr mixed (vs 6 rfl (iD hx950 rfl rfl rfl (vs 3 rfl (xD (OD.mk [(169, (V.agg [(sV x949), (iV (y525.1)), (iV (-1))]))] [] [(170, (V.lst 3 (([(TPublished.mk x949 (y525.1) (-1))] : List TPublished).map encTPublished)))] []) ⟨⟨rfl, trivial⟩, trivial⟩ (by exact fun S hn h hh => aops_buildSlice_imm [(0, (V.agg [(sV x949), (iV (y525.1)), (iV (-1))]))] [[(sV x949), (iV (y525.1)), (iV (-1))]] tEl23 tZ51 wants_none rfl rfl rfl rfl (evp_cons h.1 evp_nil) rfl rfl (by simp) (imms_rows (.cons (.cons (Imm.con _) (.cons (Imm.con _) (.cons (Imm.con _) .nil))) .nil)) rfl (aops_nil ⟨rfl, rfl⟩)) rfl (xD (OD.mk [(164, (V.own 2 a6.length)), (170, (V.lst 3 (([(TPublished.mk x949 (y525.1) (-1))] : List TPublished).map encTPublished)))] [(2, (Ob.arr 51 3 (a6.map encTPublished))), (3, Ob.res)] [(171, (V.own 3 (a6 ++ ([(TPublished.mk x949 (y525.1) (-1))] : List TPublished)).length))] [(3, (Ob.arr 51 3 ((a6 ++ ([(TPublished.mk x949 (y525.1) (-1))] : List TPublished)).map encTPublished))), (2, Ob.dead)]) ⟨⟨rfl, rfl, trivial⟩, ⟨rfl, rfl, trivial⟩⟩ (by exact fun S hn h hh => aops_append_at 3 rfl hn hh.2.1 (([(TPublished.mk x949 (y525.1) (-1))] : List TPublished).map encTPublished) ((a6 ++ ([(TPublished.mk x949 (y525.1) (-1))] : List TPublished)).map encTPublished) tEl23 tIsSl23 rfl rfl wants_none h.1 hh.1 (by simp) h.2.1 (.lst (rows_one one_encTPublished)) (map_snoc encTPublished a6 ([(TPublished.mk x949 (y525.1) (-1))] : List TPublished)) (List.length_map ..) hc951 rfl (aops_nil ⟨rfl, rfl⟩)) rfl (vs 3 rfl .nil)))))) (by kernel_rfl) ?_
      refine rn 1 rfl ?_
      exact jX (a3, a4, a5, (a6 ++ ([(TPublished.mk x949 (y525.1) (-1))] : List TPublished))) h (Ghost.trans (ghost_mvC 1 0 4 47 3 (Ob.arr 25 4 [[(sV a3), (V.own 4 a5.length), (V.own 3 (a6 ++ ([(TPublished.mk x949 (y525.1) (-1))] : List TPublished)).length), (iV a4)]]) rfl rfl rfl (ObSub.box (.cons Sub.keepMv (.cons Sub.mv (.cons Sub.keepMv (.cons Sub.keepMv .nil))))) rfl rfl) (gr [0, 1, 2, 4, 3] rfl (hB rfl rfl rfl (hD rfl (hD rfl (hR rfl rfl (hR rfl rfl .nil))))) rfl))
     refine rn 3 rfl ?_
     refine ixl h rfl rfl (fun x952 hx953 h => ?_)
     refine rn 3 rfl ?_
     refine spO 179 h rfl (fun hb954 h => ?_) (fun hb954 h => ?_)
     ·refine rn 1 rfl ?_
      refine ln rfl rfl ?_
      refine rn 4 rfl ?_
      refine fxC 174 hb905 rfl ?_
      refine rn 4 rfl ?_
      refine ixl h rfl rfl (fun x955 hx956 h => ?_)
      refine rn 1 rfl ?_
      refine cl h rfl rfl rfl (W34 _ _) rfl (fun y957 hx958 h => ?_)
      obtain ⟨x959, hx960, h⟩ := bind_some h
      refine rn 7 rfl ?_
      refine ck h (fun hc961 h => ?_)
      refine awp_ghost ghost_res ?_
      refine fa ?_
      refine dr mixed (vs 6 rfl (iD hx960 rfl rfl rfl (vs 4 rfl (xD (OD.mk [(201, (V.agg [(sV x959), (iV (y957.1)), (iV (y525.1))]))] [] [(202, (V.lst 3 (([(TPublished.mk x959 (y957.1) (y525.1))] : List TPublished).map encTPublished)))] []) ⟨⟨rfl, trivial⟩, trivial⟩ (by exact fun S hn h hh => aops_buildSlice_imm [(0, (V.agg [(sV x959), (iV (y957.1)), (iV (y525.1))]))] [[(sV x959), (iV (y957.1)), (iV (y525.1))]] tEl23 tZ51 wants_none rfl rfl rfl rfl (evp_cons h.1 evp_nil) rfl rfl (by simp) (imms_rows (.cons (.cons (Imm.con _) (.cons (Imm.con _) (.cons (Imm.con _) .nil))) .nil)) rfl (aops_nil ⟨rfl, rfl⟩)) rfl (xD (OD.mk [(195, (V.own 2 a6.length)), (202, (V.lst 3 (([(TPublished.mk x959 (y957.1) (y525.1))] : List TPublished).map encTPublished)))] [(2, (Ob.arr 51 3 (a6.map encTPublished))), (3, Ob.res)] [(203, (V.own 3 (a6 ++ ([(TPublished.mk x959 (y957.1) (y525.1))] : List TPublished)).length))] [(3, (Ob.arr 51 3 ((a6 ++ ([(TPublished.mk x959 (y957.1) (y525.1))] : List TPublished)).map encTPublished))), (2, Ob.dead)]) ⟨⟨rfl, rfl, trivial⟩, ⟨rfl, rfl, trivial⟩⟩ (by exact fun S hn h hh => aops_append_at 3 rfl hn hh.2.1 (([(TPublished.mk x959 (y957.1) (y525.1))] : List TPublished).map encTPublished) ((a6 ++ ([(TPublished.mk x959 (y957.1) (y525.1))] : List TPublished)).map encTPublished) tEl23 tIsSl23 rfl rfl wants_none h.1 hh.1 (by simp) h.2.1 (.lst (rows_one one_encTPublished)) (map_snoc encTPublished a6 ([(TPublished.mk x959 (y957.1) (y525.1))] : List TPublished)) (List.length_map ..) hc961 rfl (aops_nil ⟨rfl, rfl⟩)) rfl (vs 3 rfl .nil)))))) (by kernel_rfl) ?_
      refine rn 5 rfl ?_
      replace h := Option.some.inj h
      subst h
      exact wR ⟨.inl rfl, [(6, (bV (y957.2)))], (Ghost.trans (ghost_mvC 1 0 4 47 3 (Ob.arr 25 4 [[(sV a3), (V.own 4 a5.length), (V.own 3 (a6 ++ ([(TPublished.mk x959 (y957.1) (y525.1))] : List TPublished)).length), (iV a4)]]) rfl rfl rfl (ObSub.box (.cons Sub.keepMv (.cons Sub.mv (.cons Sub.keepMv (.cons Sub.keepMv .nil))))) rfl rfl) (gr [0, 1, 2, 4, 3] rfl (hB rfl rfl rfl (hD rfl (hD rfl (hR rfl rfl (hR rfl rfl .nil))))) rfl)), (.cons (.tmp rfl) .nil)⟩
     refine rn 11 rfl ?_
     replace h := Option.some.inj h
     subst h
     exact wR ⟨.inl rfl, [(6, (bV false))], (Ghost.trans (ghost_mvC 1 0 3 47 3 (Ob.arr 25 4 [[(sV a3), (V.own 3 a5.length), (V.own 2 a6.length), (iV a4)]]) rfl rfl rfl (ObSub.box (.cons Sub.keepMv (.cons Sub.mv (.cons Sub.keepMv (.cons Sub.keepMv .nil))))) rfl rfl) (Ghost.trans (ghost_mvC 2 0 4 51 3 (Ob.arr 25 4 [[(sV a3), (V.own 3 a5.length), (V.own 4 a6.length), (iV a4)]]) rfl rfl rfl (ObSub.box (.cons Sub.keepMv (.cons Sub.keepMv (.cons Sub.mv (.cons Sub.keepMv .nil))))) rfl rfl) (gr [0, 1, 2, 3, 4] rfl (hB rfl rfl rfl (hD rfl (hD rfl (hR rfl rfl (hR rfl rfl .nil))))) rfl))), (.cons (.tmp rfl) .nil)⟩
    refine rn 10 rfl ?_
    refine ixl h rfl rfl (fun x962 hx963 h => ?_)
    refine rn 3 rfl ?_
    refine spO 179 h rfl (fun hb964 h => ?_) (fun hb964 h => ?_)
    ·refine rn 1 rfl ?_
     refine ln rfl rfl ?_
     refine rn 4 rfl ?_
     refine fxC 174 hb905 rfl ?_
     refine rn 4 rfl ?_
     refine ixl h rfl rfl (fun x965 hx966 h => ?_)
     refine rn 1 rfl ?_
     refine cl h rfl rfl rfl (W34 _ _) rfl (fun y967 hx968 h => ?_)
     obtain ⟨x969, hx970, h⟩ := bind_some h
     refine rn 7 rfl ?_
     refine ck h (fun hc971 h => ?_)
     refine awp_ghost ghost_res ?_
     refine fa ?_
     refine dr mixed (vs 6 rfl (iD hx970 rfl rfl rfl (vs 4 rfl (xD (OD.mk [(201, (V.agg [(sV x969), (iV (y967.1)), (iV (y525.1))]))] [] [(202, (V.lst 3 (([(TPublished.mk x969 (y967.1) (y525.1))] : List TPublished).map encTPublished)))] []) ⟨⟨rfl, trivial⟩, trivial⟩ (by exact fun S hn h hh => aops_buildSlice_imm [(0, (V.agg [(sV x969), (iV (y967.1)), (iV (y525.1))]))] [[(sV x969), (iV (y967.1)), (iV (y525.1))]] tEl23 tZ51 wants_none rfl rfl rfl rfl (evp_cons h.1 evp_nil) rfl rfl (by simp) (imms_rows (.cons (.cons (Imm.con _) (.cons (Imm.con _) (.cons (Imm.con _) .nil))) .nil)) rfl (aops_nil ⟨rfl, rfl⟩)) rfl (xD (OD.mk [(195, (V.own 2 a6.length)), (202, (V.lst 3 (([(TPublished.mk x969 (y967.1) (y525.1))] : List TPublished).map encTPublished)))] [(2, (Ob.arr 51 3 (a6.map encTPublished))), (3, Ob.res)] [(203, (V.own 3 (a6 ++ ([(TPublished.mk x969 (y967.1) (y525.1))] : List TPublished)).length))] [(3, (Ob.arr 51 3 ((a6 ++ ([(TPublished.mk x969 (y967.1) (y525.1))] : List TPublished)).map encTPublished))), (2, Ob.dead)]) ⟨⟨rfl, rfl, trivial⟩, ⟨rfl, rfl, trivial⟩⟩ (by exact fun S hn h hh => aops_append_at 3 rfl hn hh.2.1 (([(TPublished.mk x969 (y967.1) (y525.1))] : List TPublished).map encTPublished) ((a6 ++ ([(TPublished.mk x969 (y967.1) (y525.1))] : List TPublished)).map encTPublished) tEl23 tIsSl23 rfl rfl wants_none h.1 hh.1 (by simp) h.2.1 (.lst (rows_one one_encTPublished)) (map_snoc encTPublished a6 ([(TPublished.mk x969 (y967.1) (y525.1))] : List TPublished)) (List.length_map ..) hc971 rfl (aops_nil ⟨rfl, rfl⟩)) rfl (vs 3 rfl .nil)))))) (by kernel_rfl) ?_
     refine rn 5 rfl ?_
     replace h := Option.some.inj h
     subst h
     exact wR ⟨.inl rfl, [(6, (bV (y967.2)))], (Ghost.trans (ghost_mvC 1 0 4 47 3 (Ob.arr 25 4 [[(sV a3), (V.own 4 a5.length), (V.own 3 (a6 ++ ([(TPublished.mk x969 (y967.1) (y525.1))] : List TPublished)).length), (iV a4)]]) rfl rfl rfl (ObSub.box (.cons Sub.keepMv (.cons Sub.mv (.cons Sub.keepMv (.cons Sub.keepMv .nil))))) rfl rfl) (gr [0, 1, 2, 4, 3] rfl (hB rfl rfl rfl (hD rfl (hD rfl (hR rfl rfl (hR rfl rfl .nil))))) rfl)), (.cons (.tmp rfl) .nil)⟩
    refine rn 11 rfl ?_
    replace h := Option.some.inj h
    subst h
    exact wR ⟨.inl rfl, [(6, (bV false))], (Ghost.trans (ghost_mvC 1 0 3 47 3 (Ob.arr 25 4 [[(sV a3), (V.own 3 a5.length), (V.own 2 a6.length), (iV a4)]]) rfl rfl rfl (ObSub.box (.cons Sub.keepMv (.cons Sub.mv (.cons Sub.keepMv (.cons Sub.keepMv .nil))))) rfl rfl) (Ghost.trans (ghost_mvC 2 0 4 51 3 (Ob.arr 25 4 [[(sV a3), (V.own 3 a5.length), (V.own 4 a6.length), (iV a4)]]) rfl rfl rfl (ObSub.box (.cons Sub.keepMv (.cons Sub.keepMv (.cons Sub.mv (.cons Sub.keepMv .nil))))) rfl rfl) (gr [0, 1, 2, 3, 4] rfl (hB rfl rfl rfl (hD rfl (hD rfl (hR rfl rfl (hR rfl rfl .nil))))) rfl))), (.cons (.tmp rfl) .nil)⟩
   refine rn 21 rfl ?_
   refine ixl h rfl rfl (fun x972 hx973 h => ?_)
   refine rn 3 rfl ?_
   refine spO 155 h rfl (fun hb974 h => ?_) (fun hb974 h => ?_)
   ·refine rn 1 rfl ?_
    refine ln rfl rfl ?_
    refine rn 4 rfl ?_
    refine spC h rfl (fun hb975 h => ?_) (fun hb975 h => ?_)
    ·obtain ⟨x976, hx977, h⟩ := bind_some h
     refine ck h (fun hc978 h => ?_)
     refine awp_ghost ghost_res ?_
     refine fa ?_
     refine dr mixed (vs 6 rfl (iD hx977 rfl rfl rfl (vs 3 rfl (xD (OD.mk [(169, (V.agg [(sV x976), (iV (y525.1)), (iV (-1))]))] [] [(170, (V.lst 3 (([(TPublished.mk x976 (y525.1) (-1))] : List TPublished).map encTPublished)))] []) ⟨⟨rfl, trivial⟩, trivial⟩ (by exact fun S hn h hh => aops_buildSlice_imm [(0, (V.agg [(sV x976), (iV (y525.1)), (iV (-1))]))] [[(sV x976), (iV (y525.1)), (iV (-1))]] tEl23 tZ51 wants_none rfl rfl rfl rfl (evp_cons h.1 evp_nil) rfl rfl (by simp) (imms_rows (.cons (.cons (Imm.con _) (.cons (Imm.con _) (.cons (Imm.con _) .nil))) .nil)) rfl (aops_nil ⟨rfl, rfl⟩)) rfl (xD (OD.mk [(164, (V.own 2 a6.length)), (170, (V.lst 3 (([(TPublished.mk x976 (y525.1) (-1))] : List TPublished).map encTPublished)))] [(2, (Ob.arr 51 3 (a6.map encTPublished))), (3, Ob.res)] [(171, (V.own 3 (a6 ++ ([(TPublished.mk x976 (y525.1) (-1))] : List TPublished)).length))] [(3, (Ob.arr 51 3 ((a6 ++ ([(TPublished.mk x976 (y525.1) (-1))] : List TPublished)).map encTPublished))), (2, Ob.dead)]) ⟨⟨rfl, rfl, trivial⟩, ⟨rfl, rfl, trivial⟩⟩ (by exact fun S hn h hh => aops_append_at 3 rfl hn hh.2.1 (([(TPublished.mk x976 (y525.1) (-1))] : List TPublished).map encTPublished) ((a6 ++ ([(TPublished.mk x976 (y525.1) (-1))] : List TPublished)).map encTPublished) tEl23 tIsSl23 rfl rfl wants_none h.1 hh.1 (by simp) h.2.1 (.lst (rows_one one_encTPublished)) (map_snoc encTPublished a6 ([(TPublished.mk x976 (y525.1) (-1))] : List TPublished)) (List.length_map ..) hc978 rfl (aops_nil ⟨rfl, rfl⟩)) rfl (vs 3 rfl .nil)))))) (by kernel_rfl) ?_
     refine rn 1 rfl ?_
     exact jX (a3, a4, a5, (a6 ++ ([(TPublished.mk x976 (y525.1) (-1))] : List TPublished))) h (Ghost.trans (ghost_mvC 1 0 4 47 3 (Ob.arr 25 4 [[(sV a3), (V.own 4 a5.length), (V.own 3 (a6 ++ ([(TPublished.mk x976 (y525.1) (-1))] : List TPublished)).length), (iV a4)]]) rfl rfl rfl (ObSub.box (.cons Sub.keepMv (.cons Sub.mv (.cons Sub.keepMv (.cons Sub.keepMv .nil))))) rfl rfl) (gr [0, 1, 2, 4, 3] rfl (hB rfl rfl rfl (hD rfl (hD rfl (hR rfl rfl (hR rfl rfl .nil))))) rfl))
    refine rn 3 rfl ?_
    refine ixl h rfl rfl (fun x979 hx980 h => ?_)
    refine rn 3 rfl ?_
    refine spO 179 h rfl (fun hb981 h => ?_) (fun hb981 h => ?_)
    ·refine rn 1 rfl ?_
     refine ln rfl rfl ?_
     refine rn 4 rfl ?_
     refine fxC 174 hb905 rfl ?_
     refine rn 5 rfl ?_
     replace h := Option.some.inj h
     subst h
     exact wR ⟨.inl rfl, [(6, (bV false))], (Ghost.trans (ghost_mvC 1 0 3 47 3 (Ob.arr 25 4 [[(sV a3), (V.own 3 a5.length), (V.own 2 a6.length), (iV a4)]]) rfl rfl rfl (ObSub.box (.cons Sub.keepMv (.cons Sub.mv (.cons Sub.keepMv (.cons Sub.keepMv .nil))))) rfl rfl) (Ghost.trans (ghost_mvC 2 0 4 51 3 (Ob.arr 25 4 [[(sV a3), (V.own 3 a5.length), (V.own 4 a6.length), (iV a4)]]) rfl rfl rfl (ObSub.box (.cons Sub.keepMv (.cons Sub.keepMv (.cons Sub.mv (.cons Sub.keepMv .nil))))) rfl rfl) (gr [0, 1, 2, 3, 4] rfl (hB rfl rfl rfl (hD rfl (hD rfl (hR rfl rfl (hR rfl rfl .nil))))) rfl))), (.cons (.tmp rfl) .nil)⟩
    refine rn 11 rfl ?_
    replace h := Option.some.inj h
    subst h
    exact wR ⟨.inl rfl, [(6, (bV false))], (Ghost.trans (ghost_mvC 1 0 3 47 3 (Ob.arr 25 4 [[(sV a3), (V.own 3 a5.length), (V.own 2 a6.length), (iV a4)]]) rfl rfl rfl (ObSub.box (.cons Sub.keepMv (.cons Sub.mv (.cons Sub.keepMv (.cons Sub.keepMv .nil))))) rfl rfl) (Ghost.trans (ghost_mvC 2 0 4 51 3 (Ob.arr 25 4 [[(sV a3), (V.own 3 a5.length), (V.own 4 a6.length), (iV a4)]]) rfl rfl rfl (ObSub.box (.cons Sub.keepMv (.cons Sub.keepMv (.cons Sub.mv (.cons Sub.keepMv .nil))))) rfl rfl) (gr [0, 1, 2, 3, 4] rfl (hB rfl rfl rfl (hD rfl (hD rfl (hR rfl rfl (hR rfl rfl .nil))))) rfl))), (.cons (.tmp rfl) .nil)⟩
   refine rn 10 rfl ?_
   refine ixl h rfl rfl (fun x982 hx983 h => ?_)
   refine rn 3 rfl ?_
   refine spO 179 h rfl (fun hb984 h => ?_) (fun hb984 h => ?_)
   ·refine rn 1 rfl ?_
    refine ln rfl rfl ?_
    refine rn 4 rfl ?_
    refine fxC 174 hb905 rfl ?_
    refine rn 5 rfl ?_
    replace h := Option.some.inj h
    subst h
    exact wR ⟨.inl rfl, [(6, (bV false))], (Ghost.trans (ghost_mvC 1 0 3 47 3 (Ob.arr 25 4 [[(sV a3), (V.own 3 a5.length), (V.own 2 a6.length), (iV a4)]]) rfl rfl rfl (ObSub.box (.cons Sub.keepMv (.cons Sub.mv (.cons Sub.keepMv (.cons Sub.keepMv .nil))))) rfl rfl) (Ghost.trans (ghost_mvC 2 0 4 51 3 (Ob.arr 25 4 [[(sV a3), (V.own 3 a5.length), (V.own 4 a6.length), (iV a4)]]) rfl rfl rfl (ObSub.box (.cons Sub.keepMv (.cons Sub.keepMv (.cons Sub.mv (.cons Sub.keepMv .nil))))) rfl rfl) (gr [0, 1, 2, 3, 4] rfl (hB rfl rfl rfl (hD rfl (hD rfl (hR rfl rfl (hR rfl rfl .nil))))) rfl))), (.cons (.tmp rfl) .nil)⟩
   refine rn 11 rfl ?_
   replace h := Option.some.inj h
   subst h
   exact wR ⟨.inl rfl, [(6, (bV false))], (Ghost.trans (ghost_mvC 1 0 3 47 3 (Ob.arr 25 4 [[(sV a3), (V.own 3 a5.length), (V.own 2 a6.length), (iV a4)]]) rfl rfl rfl (ObSub.box (.cons Sub.keepMv (.cons Sub.mv (.cons Sub.keepMv (.cons Sub.keepMv .nil))))) rfl rfl) (Ghost.trans (ghost_mvC 2 0 4 51 3 (Ob.arr 25 4 [[(sV a3), (V.own 3 a5.length), (V.own 4 a6.length), (iV a4)]]) rfl rfl rfl (ObSub.box (.cons Sub.keepMv (.cons Sub.keepMv (.cons Sub.mv (.cons Sub.keepMv .nil))))) rfl rfl) (gr [0, 1, 2, 3, 4] rfl (hB rfl rfl rfl (hD rfl (hD rfl (hR rfl rfl (hR rfl rfl .nil))))) rfl))), (.cons (.tmp rfl) .nil)⟩
  refine rn 26 rfl ?_
  refine ixl h rfl rfl (fun x985 hx986 h => ?_)
  refine rn 3 rfl ?_
  refine spO 155 h rfl (fun hb987 h => ?_) (fun hb987 h => ?_)
  ·refine rn 1 rfl ?_
   refine ln rfl rfl ?_
   refine rn 4 rfl ?_
   refine spC h rfl (fun hb988 h => ?_) (fun hb988 h => ?_)
   ·obtain ⟨x989, hx990, h⟩ := bind_some h
    refine ck h (fun hc991 h => ?_)
    refine awp_ghost ghost_res ?_
    refine fa ?_
    refine dr mixed (vs 6 rfl (iD hx990 rfl rfl rfl (vs 3 rfl (xD (OD.mk [(169, (V.agg [(sV x989), (iV (y525.1)), (iV (-1))]))] [] [(170, (V.lst 3 (([(TPublished.mk x989 (y525.1) (-1))] : List TPublished).map encTPublished)))] []) ⟨⟨rfl, trivial⟩, trivial⟩ (by exact fun S hn h hh => aops_buildSlice_imm [(0, (V.agg [(sV x989), (iV (y525.1)), (iV (-1))]))] [[(sV x989), (iV (y525.1)), (iV (-1))]] tEl23 tZ51 wants_none rfl rfl rfl rfl (evp_cons h.1 evp_nil) rfl rfl (by simp) (imms_rows (.cons (.cons (Imm.con _) (.cons (Imm.con _) (.cons (Imm.con _) .nil))) .nil)) rfl (aops_nil ⟨rfl, rfl⟩)) rfl (xD (OD.mk [(164, (V.own 2 a6.length)), (170, (V.lst 3 (([(TPublished.mk x989 (y525.1) (-1))] : List TPublished).map encTPublished)))] [(2, (Ob.arr 51 3 (a6.map encTPublished))), (3, Ob.res)] [(171, (V.own 3 (a6 ++ ([(TPublished.mk x989 (y525.1) (-1))] : List TPublished)).length))] [(3, (Ob.arr 51 3 ((a6 ++ ([(TPublished.mk x989 (y525.1) (-1))] : List TPublished)).map encTPublished))), (2, Ob.dead)]) ⟨⟨rfl, rfl, trivial⟩, ⟨rfl, rfl, trivial⟩⟩ (by exact fun S hn h hh => aops_append_at 3 rfl hn hh.2.1 (([(TPublished.mk x989 (y525.1) (-1))] : List TPublished).map encTPublished) ((a6 ++ ([(TPublished.mk x989 (y525.1) (-1))] : List TPublished)).map encTPublished) tEl23 tIsSl23 rfl rfl wants_none h.1 hh.1 (by simp) h.2.1 (.lst (rows_one one_encTPublished)) (map_snoc encTPublished a6 ([(TPublished.mk x989 (y525.1) (-1))] : List TPublished)) (List.length_map ..) hc991 rfl (aops_nil ⟨rfl, rfl⟩)) rfl (vs 3 rfl .nil)))))) (by kernel_rfl) ?_
    refine rn 1 rfl ?_
    exact jX (a3, a4, a5, (a6 ++ ([(TPublished.mk x989 (y525.1) (-1))] : List TPublished))) h (Ghost.trans (ghost_mvC 1 0 4 47 3 (Ob.arr 25 4 [[(sV a3), (V.own 4 a5.length), (V.own 3 (a6 ++ ([(TPublished.mk x989 (y525.1) (-1))] : List TPublished)).length), (iV a4)]]) rfl rfl rfl (ObSub.box (.cons Sub.keepMv (.cons Sub.mv (.cons Sub.keepMv (.cons Sub.keepMv .nil))))) rfl rfl) (gr [0, 1, 2, 4, 3] rfl (hB rfl rfl rfl (hD rfl (hD rfl (hR rfl rfl (hR rfl rfl .nil))))) rfl))
   refine rn 3 rfl ?_
   refine ixl h rfl rfl (fun x992 hx993 h => ?_)
   refine rn 3 rfl ?_
   refine spO 179 h rfl (fun hb994 h => ?_) (fun hb994 h => ?_)
   ·refine rn 1 rfl ?_
    refine ln rfl rfl ?_
    refine rn 4 rfl ?_
    refine spC h rfl (fun hb995 h => ?_) (fun hb995 h => ?_)
    ·refine rn 3 rfl ?_
     refine ixl h rfl rfl (fun x996 hx997 h => ?_)
     refine rn 1 rfl ?_
     refine cl h rfl rfl rfl (W34 _ _) rfl (fun y998 hx999 h => ?_)
     obtain ⟨x1000, hx1001, h⟩ := bind_some h
     refine rn 7 rfl ?_
     refine ck h (fun hc1002 h => ?_)
     refine awp_ghost ghost_res ?_
     refine fa ?_
     refine dr mixed (vs 6 rfl (iD hx1001 rfl rfl rfl (vs 4 rfl (xD (OD.mk [(201, (V.agg [(sV x1000), (iV (y998.1)), (iV (y525.1))]))] [] [(202, (V.lst 3 (([(TPublished.mk x1000 (y998.1) (y525.1))] : List TPublished).map encTPublished)))] []) ⟨⟨rfl, trivial⟩, trivial⟩ (by exact fun S hn h hh => aops_buildSlice_imm [(0, (V.agg [(sV x1000), (iV (y998.1)), (iV (y525.1))]))] [[(sV x1000), (iV (y998.1)), (iV (y525.1))]] tEl23 tZ51 wants_none rfl rfl rfl rfl (evp_cons h.1 evp_nil) rfl rfl (by simp) (imms_rows (.cons (.cons (Imm.con _) (.cons (Imm.con _) (.cons (Imm.con _) .nil))) .nil)) rfl (aops_nil ⟨rfl, rfl⟩)) rfl (xD (OD.mk [(195, (V.own 2 a6.length)), (202, (V.lst 3 (([(TPublished.mk x1000 (y998.1) (y525.1))] : List TPublished).map encTPublished)))] [(2, (Ob.arr 51 3 (a6.map encTPublished))), (3, Ob.res)] [(203, (V.own 3 (a6 ++ ([(TPublished.mk x1000 (y998.1) (y525.1))] : List TPublished)).length))] [(3, (Ob.arr 51 3 ((a6 ++ ([(TPublished.mk x1000 (y998.1) (y525.1))] : List TPublished)).map encTPublished))), (2, Ob.dead)]) ⟨⟨rfl, rfl, trivial⟩, ⟨rfl, rfl, trivial⟩⟩ (by exact fun S hn h hh => aops_append_at 3 rfl hn hh.2.1 (([(TPublished.mk x1000 (y998.1) (y525.1))] : List TPublished).map encTPublished) ((a6 ++ ([(TPublished.mk x1000 (y998.1) (y525.1))] : List TPublished)).map encTPublished) tEl23 tIsSl23 rfl rfl wants_none h.1 hh.1 (by simp) h.2.1 (.lst (rows_one one_encTPublished)) (map_snoc encTPublished a6 ([(TPublished.mk x1000 (y998.1) (y525.1))] : List TPublished)) (List.length_map ..) hc1002 rfl (aops_nil ⟨rfl, rfl⟩)) rfl (vs 3 rfl .nil)))))) (by kernel_rfl) ?_
     refine rn 5 rfl ?_
     replace h := Option.some.inj h
     subst h
     exact wR ⟨.inl rfl, [(6, (bV (y998.2)))], (Ghost.trans (ghost_mvC 1 0 4 47 3 (Ob.arr 25 4 [[(sV a3), (V.own 4 a5.length), (V.own 3 (a6 ++ ([(TPublished.mk x1000 (y998.1) (y525.1))] : List TPublished)).length), (iV a4)]]) rfl rfl rfl (ObSub.box (.cons Sub.keepMv (.cons Sub.mv (.cons Sub.keepMv (.cons Sub.keepMv .nil))))) rfl rfl) (gr [0, 1, 2, 4, 3] rfl (hB rfl rfl rfl (hD rfl (hD rfl (hR rfl rfl (hR rfl rfl .nil))))) rfl)), (.cons (.tmp rfl) .nil)⟩
    refine rn 4 rfl ?_
    replace h := Option.some.inj h
    subst h
    exact wR ⟨.inl rfl, [(6, (bV false))], (Ghost.trans (ghost_mvC 1 0 3 47 3 (Ob.arr 25 4 [[(sV a3), (V.own 3 a5.length), (V.own 2 a6.length), (iV a4)]]) rfl rfl rfl (ObSub.box (.cons Sub.keepMv (.cons Sub.mv (.cons Sub.keepMv (.cons Sub.keepMv .nil))))) rfl rfl) (Ghost.trans (ghost_mvC 2 0 4 51 3 (Ob.arr 25 4 [[(sV a3), (V.own 3 a5.length), (V.own 4 a6.length), (iV a4)]]) rfl rfl rfl (ObSub.box (.cons Sub.keepMv (.cons Sub.keepMv (.cons Sub.mv (.cons Sub.keepMv .nil))))) rfl rfl) (gr [0, 1, 2, 3, 4] rfl (hB rfl rfl rfl (hD rfl (hD rfl (hR rfl rfl (hR rfl rfl .nil))))) rfl))), (.cons (.tmp rfl) .nil)⟩
   refine rn 11 rfl ?_
   replace h := Option.some.inj h
   subst h
   exact wR ⟨.inl rfl, [(6, (bV false))], (Ghost.trans (ghost_mvC 1 0 3 47 3 (Ob.arr 25 4 [[(sV a3), (V.own 3 a5.length), (V.own 2 a6.length), (iV a4)]]) rfl rfl rfl (ObSub.box (.cons Sub.keepMv (.cons Sub.mv (.cons Sub.keepMv (.cons Sub.keepMv .nil))))) rfl rfl) (Ghost.trans (ghost_mvC 2 0 4 51 3 (Ob.arr 25 4 [[(sV a3), (V.own 3 a5.length), (V.own 4 a6.length), (iV a4)]]) rfl rfl rfl (ObSub.box (.cons Sub.keepMv (.cons Sub.keepMv (.cons Sub.mv (.cons Sub.keepMv .nil))))) rfl rfl) (gr [0, 1, 2, 3, 4] rfl (hB rfl rfl rfl (hD rfl (hD rfl (hR rfl rfl (hR rfl rfl .nil))))) rfl))), (.cons (.tmp rfl) .nil)⟩
  refine rn 10 rfl ?_
  refine ixl h rfl rfl (fun x1003 hx1004 h => ?_)
  refine rn 3 rfl ?_
  refine spO 179 h rfl (fun hb1005 h => ?_) (fun hb1005 h => ?_)
  ·refine rn 1 rfl ?_
   refine ln rfl rfl ?_
   refine rn 4 rfl ?_
   refine spC h rfl (fun hb1006 h => ?_) (fun hb1006 h => ?_)
   ·refine rn 3 rfl ?_
    refine ixl h rfl rfl (fun x1007 hx1008 h => ?_)
    refine rn 1 rfl ?_
    refine cl h rfl rfl rfl (W34 _ _) rfl (fun y1009 hx1010 h => ?_)
    obtain ⟨x1011, hx1012, h⟩ := bind_some h
    refine rn 7 rfl ?_
    refine ck h (fun hc1013 h => ?_)
    refine awp_ghost ghost_res ?_
    refine fa ?_
    refine dr mixed (vs 6 rfl (iD hx1012 rfl rfl rfl (vs 4 rfl (xD (OD.mk [(201, (V.agg [(sV x1011), (iV (y1009.1)), (iV (y525.1))]))] [] [(202, (V.lst 3 (([(TPublished.mk x1011 (y1009.1) (y525.1))] : List TPublished).map encTPublished)))] []) ⟨⟨rfl, trivial⟩, trivial⟩ (by exact fun S hn h hh => aops_buildSlice_imm [(0, (V.agg [(sV x1011), (iV (y1009.1)), (iV (y525.1))]))] [[(sV x1011), (iV (y1009.1)), (iV (y525.1))]] tEl23 tZ51 wants_none rfl rfl rfl rfl (evp_cons h.1 evp_nil) rfl rfl (by simp) (imms_rows (.cons (.cons (Imm.con _) (.cons (Imm.con _) (.cons (Imm.con _) .nil))) .nil)) rfl (aops_nil ⟨rfl, rfl⟩)) rfl (xD (OD.mk [(195, (V.own 2 a6.length)), (202, (V.lst 3 (([(TPublished.mk x1011 (y1009.1) (y525.1))] : List TPublished).map encTPublished)))] [(2, (Ob.arr 51 3 (a6.map encTPublished))), (3, Ob.res)] [(203, (V.own 3 (a6 ++ ([(TPublished.mk x1011 (y1009.1) (y525.1))] : List TPublished)).length))] [(3, (Ob.arr 51 3 ((a6 ++ ([(TPublished.mk x1011 (y1009.1) (y525.1))] : List TPublished)).map encTPublished))), (2, Ob.dead)]) ⟨⟨rfl, rfl, trivial⟩, ⟨rfl, rfl, trivial⟩⟩ (by exact fun S hn h hh => aops_append_at 3 rfl hn hh.2.1 (([(TPublished.mk x1011 (y1009.1) (y525.1))] : List TPublished).map encTPublished) ((a6 ++ ([(TPublished.mk x1011 (y1009.1) (y525.1))] : List TPublished)).map encTPublished) tEl23 tIsSl23 rfl rfl wants_none h.1 hh.1 (by simp) h.2.1 (.lst (rows_one one_encTPublished)) (map_snoc encTPublished a6 ([(TPublished.mk x1011 (y1009.1) (y525.1))] : List TPublished)) (List.length_map ..) hc1013 rfl (aops_nil ⟨rfl, rfl⟩)) rfl (vs 3 rfl .nil)))))) (by kernel_rfl) ?_
    refine rn 5 rfl ?_
    replace h := Option.some.inj h
    subst h
    exact wR ⟨.inl rfl, [(6, (bV (y1009.2)))], (Ghost.trans (ghost_mvC 1 0 4 47 3 (Ob.arr 25 4 [[(sV a3), (V.own 4 a5.length), (V.own 3 (a6 ++ ([(TPublished.mk x1011 (y1009.1) (y525.1))] : List TPublished)).length), (iV a4)]]) rfl rfl rfl (ObSub.box (.cons Sub.keepMv (.cons Sub.mv (.cons Sub.keepMv (.cons Sub.keepMv .nil))))) rfl rfl) (gr [0, 1, 2, 4, 3] rfl (hB rfl rfl rfl (hD rfl (hD rfl (hR rfl rfl (hR rfl rfl .nil))))) rfl)), (.cons (.tmp rfl) .nil)⟩
   refine rn 4 rfl ?_
   replace h := Option.some.inj h
   subst h
   exact wR ⟨.inl rfl, [(6, (bV false))], (Ghost.trans (ghost_mvC 1 0 3 47 3 (Ob.arr 25 4 [[(sV a3), (V.own 3 a5.length), (V.own 2 a6.length), (iV a4)]]) rfl rfl rfl (ObSub.box (.cons Sub.keepMv (.cons Sub.mv (.cons Sub.keepMv (.cons Sub.keepMv .nil))))) rfl rfl) (Ghost.trans (ghost_mvC 2 0 4 51 3 (Ob.arr 25 4 [[(sV a3), (V.own 3 a5.length), (V.own 4 a6.length), (iV a4)]]) rfl rfl rfl (ObSub.box (.cons Sub.keepMv (.cons Sub.keepMv (.cons Sub.mv (.cons Sub.keepMv .nil))))) rfl rfl) (gr [0, 1, 2, 3, 4] rfl (hB rfl rfl rfl (hD rfl (hD rfl (hR rfl rfl (hR rfl rfl .nil))))) rfl))), (.cons (.tmp rfl) .nil)⟩
  refine rn 11 rfl ?_
  replace h := Option.some.inj h
  subst h
  exact wR ⟨.inl rfl, [(6, (bV false))], (Ghost.trans (ghost_mvC 1 0 3 47 3 (Ob.arr 25 4 [[(sV a3), (V.own 3 a5.length), (V.own 2 a6.length), (iV a4)]]) rfl rfl rfl (ObSub.box (.cons Sub.keepMv (.cons Sub.mv (.cons Sub.keepMv (.cons Sub.keepMv .nil))))) rfl rfl) (Ghost.trans (ghost_mvC 2 0 4 51 3 (Ob.arr 25 4 [[(sV a3), (V.own 3 a5.length), (V.own 4 a6.length), (iV a4)]]) rfl rfl rfl (ObSub.box (.cons Sub.keepMv (.cons Sub.keepMv (.cons Sub.mv (.cons Sub.keepMv .nil))))) rfl rfl) (gr [0, 1, 2, 3, 4] rfl (hB rfl rfl rfl (hD rfl (hD rfl (hR rfl rfl (hR rfl rfl .nil))))) rfl))), (.cons (.tmp rfl) .nil)⟩
 rintro ⟨s532, n533, l534, l535⟩ h
 refine rn 4 rfl ?_
 replace h := Option.some.inj h
 subst h
 exact wR ⟨.inl rfl, [(6, (bV true))], (gr [0, 1, 2, 3, 4] rfl (hB rfl rfl rfl (hD rfl (hD rfl (hR rfl rfl (hR rfl rfl .nil))))) rfl), (.cons (.tmp rfl) .nil)⟩
theorem W35 (F : Nat) (a1 : (List UInt8)) (r : Bool) (h : M35 F a1 = some r) : PureG (gl mx) Tryd.prog 35 [(sV a1)] (bV r) := by
 refine pin (fun r => (bV r)) r rfl Tryd.func35 rfl rfl rfl rfl rfl (fun w0 m0 hg => ?_)
 unfold M35 at h
 refine rn 9 rfl ?_
 refine jK h (fun _ : Unit => (⟨[(0, (sV a1))], [], 0⟩ : St)) (fun k2 (_ : Unit) => k2 = some r) (fun k2 h => ?_) ?_
 ·refine rn 1 rfl ?_
  refine ck h (fun hA12 h => ?_)
  refine lC (fun (p : Int) => (⟨[(0, (sV a1)), (3, (iV p))], [], 0⟩ : St)) (fun n p => RC (a1.length : Int) (fun tl nn => M35_L1 F a1 k2 tl nn = some r) n p) (fun p h => RC.zero h) (Int.toNat (a1.length : Int) + 1) 0 (RC.start h) (g0 rfl rfl) (fun n n4 h => ?_)
  refine rn 8 rfl ?_
  refine spL rfl (fun hb5 => ?_) (fun hb5 => ?_)
  ·obtain ⟨tl, h, hk1⟩ := RC.t hA12 h hb5
   unfold M35_L1 at h
   refine rn 7 rfl ?_
   refine ixs h rfl rfl (fun c6 hx7 h => ?_)
   refine rn 2 rfl ?_
   refine spO 14 h rfl (fun hb8 h => ?_) (fun hb8 h => ?_)
   ·refine rn 11 rfl ?_
    exact rt h rfl
   refine rn 2 rfl ?_
   refine ixs h rfl rfl (fun c9 hx10 h => ?_)
   refine rn 3 rfl ?_
   refine spC h rfl (fun hb11 h => ?_) (fun hb11 h => ?_)
   ·refine rn 4 rfl ?_
    exact rt h rfl
   refine rn 7 rfl ?_
   exact jX (w64 (n4 + 1)) (hk1 _ h) (g0 rfl rfl)
  replace h := RC.f h hb5
  unfold M35_L1 at h
  refine rn 1 rfl ?_
  exact jX () h (g0 rfl rfl)
 intro _ h
 refine rn 6 rfl ?_
 refine spO 23 h rfl (fun hb13 h => ?_) (fun hb13 h => ?_)
 ·refine rn 6 rfl ?_
  exact rt h rfl
 refine rn 6 rfl ?_
 exact rt h rfl
theorem W36 (F : Nat) (a1 : Int) (r : Bool) (h : M36 F a1 = some r) : PureG (gl mx) Tryd.prog 36 [(iV a1)] (bV r) := by
 refine pin (fun r => (bV r)) r rfl Tryd.func36 rfl rfl rfl rfl rfl (fun w0 m0 hg => ?_)
 unfold M36 at h
 refine rn 9 rfl ?_
 refine spO 5 h rfl (fun hb2 h => ?_) (fun hb2 h => ?_)
 ·refine rn 5 rfl ?_
  exact rt h rfl
 refine rn 5 rfl ?_
 exact rt h rfl
theorem W51 (F : Nat) (a1 : TExposure) (a2 : TExposure) (r : Bool) (h : M51 F a1 a2 = some r) : PureG (gl mx) Tryd.prog 51 [(V.agg (encTExposure a1)), (V.agg (encTExposure a2))] (bV r) := by
 refine pin (fun r => (bV r)) r rfl Tryd.func51 rfl rfl rfl rfl rfl (fun w0 m0 hg => ?_)
 unfold M51 at h
 refine rn 14 rfl ?_
 refine spO 10 h rfl (fun hb3 h => ?_) (fun hb3 h => ?_)
 ·refine rn 15 rfl ?_
  exact rt h rfl
 refine rn 6 rfl ?_
 refine spO 16 h rfl (fun hb4 h => ?_) (fun hb4 h => ?_)
 ·refine rn 9 rfl ?_
  exact rt h rfl
 refine rn 9 rfl ?_
 exact rt h rfl
theorem W37 (F : Nat) (a1 : (List TExposure)) (r : Int) (h : M37 F a1 = some r) : PureG (gl mx) Tryd.prog 37 [(V.lst 3 (a1.map encTExposure))] (iV r) := by
 refine pin (fun r => (iV r)) r rfl Tryd.func37 rfl rfl rfl rfl rfl (fun w0 m0 hg => ?_)
 unfold M37 at h
 refine rn 8 rfl ?_
 refine ln rfl rfl ?_
 refine rn 2 rfl ?_
 refine spC h rfl (fun hb2 h => ?_) (fun hb2 h => ?_)
 ·refine rn 4 rfl ?_
  exact rt h rfl
 refine rn 5 rfl ?_
 refine ln rfl rfl ?_
 refine rn 2 rfl ?_
 refine jK h (fun _ : Unit => (⟨[], [], 0⟩ : St)) (fun k3 (_ : Unit) => k3 = some r) (fun k3 h => ?_) ?_
 ·refine rn 1 rfl ?_
  refine wl (A := a1) 0 rfl (fun hA24 => ?_)
  refine lC (fun (p : Int) => (⟨[(0, (V.lst 3 (a1.map encTExposure))), (8, (V.lst 3 (a1.map encTExposure))), (9, (iV ((a1.length : Nat) : Int))), (10, (iV p))], [], 0⟩ : St)) (fun n p => RG a1 (fun tl nn => M37_L1 F a1 k3 tl nn = some r) n p) (fun p h => RG.zero h) (a1.length + 1) 0 (RG.start h) (g0 rfl rfl) (fun n n5 h => ?_)
  refine rn 5 rfl ?_
  refine spL rfl (fun hb6 => ?_) (fun hb6 => ?_)
  ·obtain ⟨x7, tl, hx8, h, hk1⟩ := RG.t hA24 h hb6
   unfold M37_L1 at h
   refine rn 6 rfl ?_
   refine ixh hx8 rfl rfl ?_
   refine rn 10 rfl ?_
   refine cl h rfl rfl rfl (W35 _ _) rfl (fun y9 hx10 h => ?_)
   refine rn 2 rfl ?_
   refine spO 20 h rfl (fun hb11 h => ?_) (fun hb11 h => ?_)
   ·refine rn 12 rfl ?_
    exact rt h rfl
   refine rn 2 rfl ?_
   refine cl h rfl rfl rfl (W35 _ _) rfl (fun y12 hx13 h => ?_)
   refine rn 4 rfl ?_
   refine jK h (fun _ : Unit => (⟨[(0, (V.lst 3 (a1.map encTExposure))), (8, (V.lst 3 (a1.map encTExposure))), (9, (iV ((a1.length : Nat) : Int))), (10, (iV n5)), (24, (bV (!y12))), (33, (bV (decide (x7.Severity > 100))))], [], 0⟩ : St)) (fun k14 (_ : Unit) => k14 = some r) (fun k14 h => ?_) ?_
   ·refine spC h rfl (fun hb15 h => ?_) (fun hb15 h => ?_)
    ·refine rn 4 rfl ?_
     exact rt h rfl
    refine rn 6 rfl ?_
    refine spO 30 h rfl (fun hb16 h => ?_) (fun hb16 h => ?_)
    ·refine rn 11 rfl ?_
     exact rt h rfl
    refine rn 6 rfl ?_
    refine spC h rfl (fun hb17 h => ?_) (fun hb17 h => ?_)
    ·refine rn 4 rfl ?_
     exact rt h rfl
    refine rn 1 rfl ?_
    refine bs h (fun hb18 h => ?_) (fun hb18 h => ?_)
    ·obtain ⟨x19, hx20, h⟩ := bind_some h
     obtain ⟨y21, hx22, h⟩ := bind_some h
     refine dr mixed (vs 2 rfl (vb hb18 rfl (vs 3 rfl (iD hx20 rfl rfl rfl (vs 2 rfl (cD rfl rfl rfl rfl (W51 _ _ _ _ hx22) rfl (vs 3 rfl .nil))))))) (by kernel_rfl) ?_
     refine spC h rfl (fun hb23 h => ?_) (fun hb23 h => ?_)
     ·refine rn 4 rfl ?_
      exact rt h rfl
     refine rn 1 rfl ?_
     exact jX () h (g0 rfl rfl)
    refine dr mixed (vs 2 rfl (vb hb18 rfl (vs 10 rfl .nil))) (by kernel_rfl) ?_
    refine rn 2 rfl ?_
    exact jX () h (g0 rfl rfl)
   intro _ h
   refine rn 6 rfl ?_
   exact jX (w64 (n5 + 1)) (hk1 _ h) (g0 rfl rfl)
  replace h := RG.f h hb6
  unfold M37_L1 at h
  refine rn 1 rfl ?_
  exact jX () h (g0 rfl rfl)
 intro _ h
 refine rn 4 rfl ?_
 exact rt h rfl
theorem W38 (F : Nat) (a1 : (List TPublished)) (r : Int) (h : M38 F a1 = some r) : PureG (gl mx) Tryd.prog 38 [(V.lst 3 (a1.map encTPublished))] (iV r) := by
 refine pin (fun r => (iV r)) r rfl Tryd.func38 rfl rfl rfl rfl rfl (fun w0 m0 hg => ?_)
 unfold M38 at h
 refine rn 8 rfl ?_
 refine ln rfl rfl ?_
 refine rn 2 rfl ?_
 refine jK h (fun _ : Unit => (⟨[], [], 0⟩ : St)) (fun k2 (_ : Unit) => k2 = some r) (fun k2 h => ?_) ?_
 ·refine rn 1 rfl ?_
  refine wl (A := a1) 0 rfl (fun hA29 => ?_)
  refine lC (fun (p : Int) => (⟨[(0, (V.lst 3 (a1.map encTPublished))), (5, (V.lst 3 (a1.map encTPublished))), (6, (iV ((a1.length : Nat) : Int))), (7, (iV p))], [], 0⟩ : St)) (fun n p => RG a1 (fun tl nn => M38_L1 F a1 k2 tl nn = some r) n p) (fun p h => RG.zero h) (a1.length + 1) 0 (RG.start h) (g0 rfl rfl) (fun n n4 h => ?_)
  refine rn 5 rfl ?_
  refine spL rfl (fun hb5 => ?_) (fun hb5 => ?_)
  ·obtain ⟨x6, tl, hx7, h, hk1⟩ := RG.t hA29 h hb5
   unfold M38_L1 at h
   refine rn 6 rfl ?_
   refine ixh hx7 rfl rfl ?_
   refine rn 10 rfl ?_
   refine cl h rfl rfl rfl (W35 _ _) rfl (fun y8 hx9 h => ?_)
   refine rn 3 rfl ?_
   refine jK h (fun (p : Bool) => (⟨[(0, (V.lst 3 (a1.map encTPublished))), (5, (V.lst 3 (a1.map encTPublished))), (6, (iV ((a1.length : Nat) : Int))), (7, (iV n4)), (51, (bV p))], [], 0⟩ : St)) (fun k10 p => k10 p = some r) (fun k10 h => ?_) ?_
   ·refine spC h rfl (fun hb12 h => ?_) (fun hb12 h => ?_)
    ·refine rn 4 rfl ?_
     exact rt h rfl
    refine rn 1 rfl ?_
    refine bs h (fun hb13 h => ?_) (fun hb13 h => ?_)
    ·obtain ⟨x14, hx15, h⟩ := bind_some h
     refine dr mixed (vs 2 rfl (vb hb13 rfl (vs 5 rfl (iD hx15 rfl rfl rfl (vs 5 rfl .nil))))) (by kernel_rfl) ?_
     refine spC h rfl (fun hb16 h => ?_) (fun hb16 h => ?_)
     ·refine rn 4 rfl ?_
      exact rt h rfl
     refine rn 4 rfl ?_
     refine cl h rfl rfl rfl (W36 _ _) rfl (fun y17 hx18 h => ?_)
     refine rn 2 rfl ?_
     refine spO 36 h rfl (fun hb19 h => ?_) (fun hb19 h => ?_)
     ·refine rn 23 rfl ?_
      exact rt h rfl
     refine rn 4 rfl ?_
     refine spO 40 h rfl (fun hb20 h => ?_) (fun hb20 h => ?_)
     ·refine rn 6 rfl ?_
      refine spO 46 h rfl (fun hb21 h => ?_) (fun hb21 h => ?_)
      ·refine rn 13 rfl ?_
       exact rt h rfl
      refine rn 8 rfl ?_
      refine spC h rfl (fun hb22 h => ?_) (fun hb22 h => ?_)
      ·refine rn 4 rfl ?_
       exact rt h rfl
      refine rn 1 rfl ?_
      exact jX (decide (x6.Ended > 1000000)) h (g0 rfl rfl)
     refine rn 16 rfl ?_
     exact jX false h (g0 rfl rfl)
    refine dr mixed (vs 2 rfl (vb hb13 rfl (vs 11 rfl .nil))) (by kernel_rfl) ?_
    refine rn 5 rfl ?_
    refine cl h rfl rfl rfl (W36 _ _) rfl (fun y23 hx24 h => ?_)
    refine rn 2 rfl ?_
    refine spO 36 h rfl (fun hb25 h => ?_) (fun hb25 h => ?_)
    ·refine rn 23 rfl ?_
     exact rt h rfl
    refine rn 4 rfl ?_
    refine spO 40 h rfl (fun hb26 h => ?_) (fun hb26 h => ?_)
    ·refine rn 6 rfl ?_
     refine spO 46 h rfl (fun hb27 h => ?_) (fun hb27 h => ?_)
     ·refine rn 13 rfl ?_
      exact rt h rfl
     refine rn 8 rfl ?_
     refine spC h rfl (fun hb28 h => ?_) (fun hb28 h => ?_)
     ·refine rn 4 rfl ?_
      exact rt h rfl
     refine rn 1 rfl ?_
     exact jX (decide (x6.Ended > 1000000)) h (g0 rfl rfl)
    refine rn 16 rfl ?_
    exact jX false h (g0 rfl rfl)
   intro b11 h
   refine rn 6 rfl ?_
   exact jX (w64 (n4 + 1)) (hk1 _ h) (g0 rfl rfl)
  replace h := RG.f h hb5
  unfold M38_L1 at h
  refine rn 1 rfl ?_
  exact jX () h (g0 rfl rfl)
 intro _ h
 refine rn 4 rfl ?_
 exact rt h rfl
theorem W16 (F : Nat) (a1 : TStory) (r : Int) (h : M16 F a1 = some r) : PureG (gl mx) Tryd.prog 16 [(V.agg (encTStory a1))] (iV r) := by
 refine pin (fun r => (iV r)) r rfl Tryd.func16 rfl rfl rfl rfl rfl (fun w0 m0 hg => ?_)
 unfold M16 at h
 refine rn 11 rfl ?_
 refine cl h rfl rfl rfl (W35 _ _) rfl (fun y2 hx3 h => ?_)
 refine rn 3 rfl ?_
 refine spC h rfl (fun hb4 h => ?_) (fun hb4 h => ?_)
 ·refine rn 4 rfl ?_
  exact rt h rfl
 refine rn 4 rfl ?_
 refine cl h rfl rfl rfl (W36 _ _) rfl (fun y5 hx6 h => ?_)
 refine rn 3 rfl ?_
 refine spC h rfl (fun hb7 h => ?_) (fun hb7 h => ?_)
 ·refine rn 4 rfl ?_
  exact rt h rfl
 refine rn 4 rfl ?_
 refine ln rfl rfl ?_
 refine rn 2 rfl ?_
 refine spO 30 h rfl (fun hb8 h => ?_) (fun hb8 h => ?_)
 ·refine rn 12 rfl ?_
  exact rt h rfl
 refine rn 2 rfl ?_
 refine ln rfl rfl ?_
 refine rn 4 rfl ?_
 refine spC h rfl (fun hb9 h => ?_) (fun hb9 h => ?_)
 ·refine rn 4 rfl ?_
  exact rt h rfl
 refine rn 12 rfl ?_
 refine ln rfl rfl ?_
 refine rn 2 rfl ?_
 refine jK h (fun _ : Unit => (⟨[(1, (V.ptr 0 4 0 0))], [(0, (Ob.arr 25 4 [(encTStory a1)]))], 1⟩ : St)) (fun k10 (_ : Unit) => k10 = some r) (fun k10 h => ?_) ?_
 ·refine rn 1 rfl ?_
  refine wl (A := a1.Releases) 27 rfl (fun hA32 => ?_)
  refine lC (fun (p : Int × (List ((List UInt8) × Bool))) => (⟨[(1, (V.ptr 0 4 0 0)), (3, (V.map 1)), (38, (V.lst 3 (a1.Releases.map encTRelease))), (39, (iV ((a1.Releases.length : Nat) : Int))), (40, (iV (p.1)))], [(0, (Ob.arr 25 4 [(encTStory a1)])), (1, (Ob.map ((p.2).map encM9_4)))], 2⟩ : St)) (fun n p => RG a1.Releases (fun tl nn => M16_L1 F a1 k10 tl nn p.2 = some r) n p.1) (fun p h => RG.zero h) (a1.Releases.length + 1) (0, ([] : List ((List UInt8) × Bool))) (RG.start h) (gr [0, 1] rfl (hB rfl rfl rfl (hM rfl rfl .nil)) rfl) (fun n p h => ?_)
  obtain ⟨n13, m14⟩ := p
  refine rn 5 rfl ?_
  refine spL rfl (fun hb15 => ?_) (fun hb15 => ?_)
  ·obtain ⟨x16, tl, hx17, h, hk1⟩ := RG.t hA32 h hb15
   unfold M16_L1 at h
   refine rn 6 rfl ?_
   refine ixh hx17 rfl rfl ?_
   refine rn 11 rfl ?_
   refine cl h rfl rfl rfl (W35 _ _) rfl (fun y18 hx19 h => ?_)
   refine rn 3 rfl ?_
   refine jK h (fun _ : Unit => (⟨[(1, (V.ptr 0 4 0 0)), (3, (V.map 1)), (5, (V.ptr 2 3 0 0)), (38, (V.lst 3 (a1.Releases.map encTRelease))), (39, (iV ((a1.Releases.length : Nat) : Int))), (40, (iV n13)), (64, (bV (decide (x16.Day > a1.Until))))], [(0, (Ob.arr 25 4 [(encTStory a1)])), (1, (Ob.map (m14.map encM9_4))), (2, (Ob.arr 47 3 [(encTRelease x16)]))], 3⟩ : St)) (fun k20 (_ : Unit) => k20 = some r) (fun k20 h => ?_) ?_
   ·refine spC h rfl (fun hb21 h => ?_) (fun hb21 h => ?_)
    ·refine rn 4 rfl ?_
     exact rt h rfl
    refine rn 5 rfl ?_
    refine aops_lookup _ (bV false) (bV ((mget m14 x16.Version).getD false)) tMap78 tKey9 tZo4 (irel_con _) wants_none rfl (.own rfl) (.con rfl) ⟨_, rfl⟩ encM9_4_good (encM9_4_look m14 x16.Version) (getD_map (encM9_4_val) (mget m14 x16.Version) false) rfl ?_
    refine fo (rn 2 rfl ?_)
    refine spC h rfl (fun hb22 h => ?_) (fun hb22 h => ?_)
    ·refine rn 4 rfl ?_
     exact rt h rfl
    refine rn 6 rfl ?_
    refine spO 59 h rfl (fun hb23 h => ?_) (fun hb23 h => ?_)
    ·refine rn 13 rfl ?_
     exact rt h rfl
    refine rn 8 rfl ?_
    refine spC h rfl (fun hb24 h => ?_) (fun hb24 h => ?_)
    ·refine rn 4 rfl ?_
     exact rt h rfl
    refine rn 1 rfl ?_
    refine bs h (fun hb25 h => ?_) (fun hb25 h => ?_)
    ·obtain ⟨x26, hx27, h⟩ := bind_some h
     refine dr mixed (vs 2 rfl (vb hb25 rfl (vs 6 rfl (iD hx27 rfl rfl rfl (vs 5 rfl .nil))))) (by kernel_rfl) ?_
     refine spC h rfl (fun hb28 h => ?_) (fun hb28 h => ?_)
     ·refine rn 4 rfl ?_
      exact rt h rfl
     refine rn 1 rfl ?_
     exact jX () h (gr [0, 1, 2] rfl (hB rfl rfl rfl (hM rfl rfl (hB rfl rfl rfl .nil))) rfl)
    refine dr mixed (vs 2 rfl (vb hb25 rfl (vs 12 rfl .nil))) (by kernel_rfl) ?_
    refine rn 2 rfl ?_
    exact jX () h (gr [0, 1, 2] rfl (hB rfl rfl rfl (hM rfl rfl (hB rfl rfl rfl .nil))) rfl)
   intro _ h
   refine rn 6 rfl ?_
   refine aops_mapUpdate (es := m14.map encM9_4) ((mput m14 x16.Version true).map encM9_4) tMap78 tKey9 wants_none rfl rfl (.con rfl) ⟨_, rfl⟩ encM9_4_good rfl (encM9_4_puts m14 x16.Version true) ?_
   refine fo (rn 5 rfl ?_)
   refine cl h rfl rfl rfl (W37 _ _) rfl (fun y29 hx30 h => ?_)
   refine rn 7 rfl ?_
   refine spC h rfl (fun hb31 h => ?_) (fun hb31 h => ?_)
   ·refine rn 5 rfl ?_
    exact rt h rfl
   refine rn 6 rfl ?_
   exact jX ((w64 (n13 + 1)), (mput m14 x16.Version true)) (hk1 _ h) (gr [0, 1] rfl (hB rfl rfl rfl (hM rfl rfl .nil)) rfl)
  replace h := RG.f h hb15
  unfold M16_L1 at h
  refine rn 1 rfl ?_
  exact jX () h (gr [0] rfl (hB rfl rfl rfl .nil) rfl)
 intro _ h
 refine rn 5 rfl ?_
 refine cl h rfl rfl rfl (W38 _ _) rfl (fun y33 hx34 h => ?_)
 refine rn 7 rfl ?_
 refine spC h rfl (fun hb35 h => ?_) (fun hb35 h => ?_)
 ·refine rn 5 rfl ?_
  exact rt h rfl
 refine rn 11 rfl ?_
 refine ln rfl rfl ?_
 refine rn 2 rfl ?_
 refine jK h (fun (p : (List ((List UInt8) × Bool))) => (⟨[(1, (V.ptr 0 4 0 0)), (8, (V.map 1))], [(0, (Ob.arr 25 4 [(encTStory a1)])), (1, (Ob.map (p.map encM9_4)))], 2⟩ : St)) (fun k36 p => k36 p = some r) (fun k36 h => ?_) ?_
 ·refine rn 1 rfl ?_
  refine wl (A := a1.Known) 92 rfl (fun hA45 => ?_)
  refine lC (fun (p : Int × (List ((List UInt8) × Bool))) => (⟨[(1, (V.ptr 0 4 0 0)), (8, (V.map 1)), (99, (V.lst 3 (a1.Known.map encTPublished))), (100, (iV ((a1.Known.length : Nat) : Int))), (101, (iV (p.1)))], [(0, (Ob.arr 25 4 [(encTStory a1)])), (1, (Ob.map ((p.2).map encM9_4)))], 2⟩ : St)) (fun n p => RG a1.Known (fun tl nn => M16_L2 F k36 tl p.2 = some r) n p.1) (fun p h => RG.zero h) (a1.Known.length + 1) (0, ([] : List ((List UInt8) × Bool))) (RG.start h) (gr [0, 1] rfl (hB rfl rfl rfl (hM rfl rfl .nil)) rfl) (fun n p h => ?_)
  obtain ⟨n40, m41⟩ := p
  refine rn 5 rfl ?_
  refine spL rfl (fun hb42 => ?_) (fun hb42 => ?_)
  ·obtain ⟨x43, tl, hx44, h, hk2⟩ := RG.t hA45 h hb42
   unfold M16_L2 at h
   refine rn 5 rfl ?_
   refine ixh hx44 rfl rfl ?_
   refine rn 8 rfl ?_
   refine aops_mapUpdate (es := m41.map encM9_4) ((mput m41 x43.Advisory true).map encM9_4) tMap78 tKey9 wants_none rfl rfl (.con rfl) ⟨_, rfl⟩ encM9_4_good rfl (encM9_4_puts m41 x43.Advisory true) ?_
   refine fo (rn 6 rfl ?_)
   exact jX ((w64 (n40 + 1)), (mput m41 x43.Advisory true)) (hk2 _ h) (gr [0, 1] rfl (hB rfl rfl rfl (hM rfl rfl .nil)) rfl)
  replace h := RG.f h hb42
  unfold M16_L2 at h
  refine rn 1 rfl ?_
  exact jX m41 h (gr [0, 1] rfl (hB rfl rfl rfl (hM rfl rfl .nil)) rfl)
 intro m37 h
 refine rn 5 rfl ?_
 refine ln rfl rfl ?_
 refine rn 2 rfl ?_
 refine jK h (fun _ : Unit => (⟨[], [], 0⟩ : St)) (fun k46 (_ : Unit) => k46 = some r) (fun k46 h => ?_) ?_
 ·refine rn 1 rfl ?_
  refine wl (A := a1.Releases) 110 rfl (fun hA61 => ?_)
  refine lC (fun (p : Int) => (⟨[(8, (V.map 0)), (110, (V.lst 3 (a1.Releases.map encTRelease))), (111, (iV ((a1.Releases.length : Nat) : Int))), (112, (iV p))], [(0, (Ob.map (m37.map encM9_4)))], 1⟩ : St)) (fun n p => RG a1.Releases (fun tl nn => M16_L3 F m37 k46 tl = some r) n p) (fun p h => RG.zero h) (a1.Releases.length + 1) 0 (RG.start h) (gr [1] rfl (hM rfl rfl .nil) rfl) (fun n n48 h => ?_)
  refine rn 5 rfl ?_
  refine spL rfl (fun hb49 => ?_) (fun hb49 => ?_)
  ·obtain ⟨x51, tl, hx52, h, hk3⟩ := RG.t hA61 h hb49
   unfold M16_L3 at h
   refine rn 2 rfl ?_
   refine jK h (fun _ : Unit => (⟨[(8, (V.map 0)), (110, (V.lst 3 (a1.Releases.map encTRelease))), (111, (iV ((a1.Releases.length : Nat) : Int))), (112, (iV n48))], [(0, (Ob.map (m37.map encM9_4)))], 1⟩ : St)) (fun k50 (_ : Unit) => k50 = some r) (fun k50 h => ?_) ?_
   ·refine rn 3 rfl ?_
    refine ixh hx52 rfl rfl ?_
    refine rn 8 rfl ?_
    refine ln rfl rfl ?_
    refine rn 2 rfl ?_
    refine jK h (fun _ : Unit => (⟨[(8, (V.map 0)), (110, (V.lst 3 (a1.Releases.map encTRelease))), (111, (iV ((a1.Releases.length : Nat) : Int))), (112, (iV n48))], [(0, (Ob.map (m37.map encM9_4)))], 1⟩ : St)) (fun k53 (_ : Unit) => k53 = some r) (fun k53 h => ?_) ?_
    ·refine rn 1 rfl ?_
     refine wl (A := x51.Exposures) 117 rfl (fun hA60 => ?_)
     refine lC (fun (p : Int) => (⟨[(8, (V.map 0)), (110, (V.lst 3 (a1.Releases.map encTRelease))), (111, (iV ((a1.Releases.length : Nat) : Int))), (112, (iV n48)), (117, (V.lst 3 (x51.Exposures.map encTExposure))), (118, (iV ((x51.Exposures.length : Nat) : Int))), (119, (iV p))], [(0, (Ob.map (m37.map encM9_4)))], 1⟩ : St)) (fun n p => RG x51.Exposures (fun tl nn => M16_L4 F m37 k53 tl = some r) n p) (fun p h => RG.zero h) (x51.Exposures.length + 1) 0 (RG.start h) (gr [0] rfl (hM rfl rfl .nil) rfl) (fun n n55 h => ?_)
     refine rn 5 rfl ?_
     refine spL rfl (fun hb56 => ?_) (fun hb56 => ?_)
     ·obtain ⟨x57, tl, hx58, h, hk4⟩ := RG.t hA60 h hb56
      unfold M16_L4 at h
      refine rn 5 rfl ?_
      refine ixh hx58 rfl rfl ?_
      refine rn 9 rfl ?_
      refine aops_lookup _ (bV false) (bV ((mget m37 x57.Advisory).getD false)) tMap78 tKey9 tZo4 (irel_con _) wants_none rfl (.own rfl) (.con rfl) ⟨_, rfl⟩ encM9_4_good (encM9_4_look m37 x57.Advisory) (getD_map (encM9_4_val) (mget m37 x57.Advisory) false) rfl ?_
      refine fo (rn 2 rfl ?_)
      refine spC h rfl (fun hb59 h => ?_) (fun hb59 h => ?_)
      ·refine rn 4 rfl ?_
       exact rt h rfl
      refine rn 6 rfl ?_
      exact jX (w64 (n55 + 1)) (hk4 _ h) (gr [0] rfl (hM rfl rfl .nil) rfl)
     replace h := RG.f h hb56
     unfold M16_L4 at h
     refine rn 1 rfl ?_
     exact jX () h (gr [0] rfl (hM rfl rfl .nil) rfl)
    intro _ h
    refine rn 1 rfl ?_
    exact jX () h (gr [0] rfl (hM rfl rfl .nil) rfl)
   intro _ h
   refine rn 4 rfl ?_
   exact jX (w64 (n48 + 1)) (hk3 _ h) (gr [0] rfl (hM rfl rfl .nil) rfl)
  replace h := RG.f h hb49
  unfold M16_L3 at h
  refine rn 1 rfl ?_
  exact jX () h (g0 rfl rfl)
 intro _ h
 refine rn 4 rfl ?_
 exact rt h rfl
theorem W6 (F : Nat) (a1 : (List UInt8)) (r : (TStory × Int × Int)) (h : M6 F a1 = some r) : PureG (gl mx) Tryd.prog 6 [(sV a1)] (V.tup [(V.agg (encTStory (r.1))), (iV (r.2.1)), (iV (r.2.2))]) := by
 refine pin (fun r => (V.tup [(V.agg (encTStory (r.1))), (iV (r.2.1)), (iV (r.2.2))])) r rfl Tryd.func6 rfl rfl rfl rfl rfl (fun w0 m0 hg => ?_)
 unfold M6 at h
 refine rn 13 rfl ?_
 refine spC h rfl (fun hb2 h => ?_) (fun hb2 h => ?_)
 ·refine rn 7 rfl ?_
  exact rt h rfl
 refine rn 4 rfl ?_
 refine cl h rfl rfl rfl (W11 _ _ _) rfl (fun y3 hx4 h => ?_)
 refine rn 6 rfl ?_
 refine ln rfl rfl ?_
 refine rn 1 rfl ?_
 refine ixl h rfl rfl (fun x5 hx6 h => ?_)
 refine rn 7 rfl ?_
 refine ln rfl rfl ?_
 refine rn 1 rfl ?_
 refine ck h (fun hc7 h => ?_)
 refine aops_slice_lst (0) ((w64 (((y3.length : Nat) : Int) - 1)).toNat) ((y3.take (w64 (((y3.length : Nat) : Int) - 1)).toNat).map encS) tSl35 wants_none rfl rfl ⟨_, (by rw [Int.toNat_of_nonneg hc7.1]; exact rfl)⟩ (Nat.zero_le _) (by simpa using hc7.2) slL_lo rfl ?_
 refine fo (rn 12 rfl ?_)
 refine ln rfl rfl ?_
 refine rn 2 rfl ?_
 refine jK h (fun (p : (List UInt8) × Int × (List TRelease) × (List TPublished)) => (⟨[(2, (V.ptr 0 4 0 0)), (5, (V.lst 1 ((y3.take (w64 (((y3.length : Nat) : Int) - 1)).toNat).map encS))), (6, (sV x5)), (7, (V.ptr 1 4 0 0))], [(0, (Ob.arr 25 4 [[(sV ([] : List UInt8)), nV, nV, (iV 0)]])), (1, (Ob.arr 25 4 [[(sV (p.1)), (V.own 2 (p.2.2.1).length), (V.own 3 (p.2.2.2).length), (iV (p.2.1))]])), (2, (Ob.arr 47 3 ((p.2.2.1).map dencTRelease))), (3, (Ob.arr 51 3 ((p.2.2.2).map encTPublished)))], 4⟩ : St)) (fun k8 p => k8 p.1 p.2.1 p.2.2.1 p.2.2.2 = some r) (fun k8 h => ?_) ?_
 ·refine rn 1 rfl ?_
  refine wl (A := (y3.take (w64 (((y3.length : Nat) : Int) - 1)).toNat)) 5 rfl (fun hA31 => ?_)
  refine lC (fun (p : Int × (List UInt8) × Int × (List TRelease) × (List TPublished)) => (⟨[(2, (V.ptr 0 4 0 0)), (5, (V.lst 1 ((y3.take (w64 (((y3.length : Nat) : Int) - 1)).toNat).map encS))), (6, (sV x5)), (7, (V.ptr 1 4 0 0)), (30, (V.lst 1 ((y3.take (w64 (((y3.length : Nat) : Int) - 1)).toNat).map encS))), (31, (iV (((y3.take (w64 (((y3.length : Nat) : Int) - 1)).toNat).length : Nat) : Int))), (32, (iV (p.1)))], [(0, (Ob.arr 25 4 [[(sV ([] : List UInt8)), nV, nV, (iV 0)]])), (1, (Ob.arr 25 4 [[(sV (p.2.1)), (V.own 2 (p.2.2.2.1).length), (V.own 3 (p.2.2.2.2).length), (iV (p.2.2.1))]])), (2, (Ob.arr 47 3 ((p.2.2.2.1).map dencTRelease))), (3, (Ob.arr 51 3 ((p.2.2.2.2).map encTPublished)))], 4⟩ : St)) (fun n p => RG (y3.take (w64 (((y3.length : Nat) : Int) - 1)).toNat) (fun tl nn => M6_L1 F k8 tl nn p.2.1 p.2.2.1 p.2.2.2.1 p.2.2.2.2 = some r) n p.1) (fun p h => RG.zero h) ((y3.take (w64 (((y3.length : Nat) : Int) - 1)).toNat).length + 1) (0, ([] : List UInt8), 0, ([] : List TRelease), ([] : List TPublished)) (RG.start h) (Ghost.trans (ghost_nilC 1 47 3 (Ob.arr 25 4 [[(sV ([] : List UInt8)), (V.own 2 0), nV, (iV 0)]]) (ObSub.box (.cons Sub.keepNil (.cons Sub.mkNil (.cons Sub.keepNil (.cons Sub.keepNil .nil)))))) (Ghost.trans (ghost_nilC 1 51 3 (Ob.arr 25 4 [[(sV ([] : List UInt8)), (V.own 2 0), (V.own 3 0), (iV 0)]]) (ObSub.box (.cons Sub.keepNil (.cons Sub.keepNil (.cons Sub.mkNil (.cons Sub.keepNil .nil)))))) (ghost_ren 4 (fun i => ([0, 1, 2, 3] : List Nat).getD i 0) _ _ (by decide) (EnvSub.get (.cons (Sub.ptr rfl rfl) (.cons (Sub.imm (Imm.lst _ _)) (.cons (Sub.imm (Imm.con _)) (.cons (Sub.ptr rfl rfl) (.cons (Sub.imm (Imm.lst _ _)) (.cons (Sub.imm (Imm.con _)) (.cons (Sub.imm (Imm.con _)) .nil)))))))) (HpSub.get (.cons rfl (ObSub.box (.cons (Sub.imm (Imm.con _)) (.cons (Sub.imm (Imm.con _)) (.cons (Sub.imm (Imm.con _)) (.cons (Sub.imm (Imm.con _)) .nil))))) (.cons rfl (ObSub.box (.cons (Sub.imm (Imm.con _)) (.cons (Sub.ownE rfl rfl (by simp)) (.cons (Sub.ownE rfl rfl (by simp)) (.cons (Sub.imm (Imm.con _)) .nil))))) (.cons rfl (ObSub.rowsK RK.h) (.cons rfl (ObSub.rows (rows_imm imms_encTPublished)) .nil))))) rfl))) (fun n p h => ?_)
  obtain ⟨n18, s19, n20, l21, l22⟩ := p
  refine rn 5 rfl ?_
  refine spL rfl (fun hb23 => ?_) (fun hb23 => ?_)
  ·obtain ⟨x24, tl, hx25, h, hk1⟩ := RG.t hA31 h hb23
   unfold M6_L1 at h
   refine rn 6 rfl ?_
   refine ixh hx25 rfl rfl ?_
   refine rn 7 rfl ?_
   refine cl h rfl rfl rfl (W11 _ _ _) rfl (fun y26 hx27 h => ?_)
   obtain ⟨y28, hx29, h⟩ := bind_some h
   refine rn 2 rfl ?_
   refine aops_mcallS (bV (y28.1)) [(V.ptr 1 4 0 0), (V.lst 1 (y26.map encS)), (bV (n18 == 0))] (fun i => ([1, 2, 3] : List Nat).getD i 0) (fun i => ([1, 2, 3, 4, 5] : List Nat).getD i 0) 4 6 [(1, (Ob.arr 25 4 [[(sV (y28.2.1)), (V.own 4 (y28.2.2.2.1).length), (V.own 5 (y28.2.2.2.2).length), (iV (y28.2.2.1))]])), (2, Ob.dead), (3, Ob.dead), (4, (Ob.arr 47 3 ((y28.2.2.2.1).map dencTRelease))), (5, (Ob.arr 51 3 ((y28.2.2.2.2).map encTPublished)))] fOk15 wants_none rfl (evm_cons rfl (evm_cons rfl (evm_cons rfl evm_nil))) (.cons (Sub.ptr rfl rfl) (.cons (Sub.imm (Imm.lst _ _)) (.cons (Sub.imm (Imm.con _)) .nil))) (.cons rfl (ObSub.box (.cons (Sub.imm (Imm.con _)) (.cons (Sub.own rfl rfl) (.cons (Sub.own rfl rfl) (.cons (Sub.imm (Imm.con _)) .nil))))) (.cons rfl (ObSub.rowsK RK.h) (.cons rfl (ObSub.rows (rows_imm imms_encTPublished)) .nil))) (W15 F y26 (n18 == 0) s19 n20 l21 l22 y28 hx29) rfl rfl rfl rfl (Sub.immT (Imm.con _)) (.cons rfl (ObSub.box (.cons (Sub.immT (Imm.con _)) (.cons (Sub.ownT rfl rfl) (.cons (Sub.ownT rfl rfl) (.cons (Sub.immT (Imm.con _)) .nil))))) (.cons rfl ObSub.deadT (.cons rfl ObSub.deadT (.cons rfl (ObSub.rowsTK RK.h) (.cons rfl (ObSub.rowsT (rows_imm imms_encTPublished)) .nil))))) _ rfl ?_
   refine fo (rn 2 rfl ?_)
   refine spC h rfl (fun hb30 h => ?_) (fun hb30 h => ?_)
   ·refine rn 8 rfl ?_
    exact rt h rfl
   refine rn 6 rfl ?_
   exact jX ((w64 (n18 + 1)), (y28.2.1), (y28.2.2.1), (y28.2.2.2.1), (y28.2.2.2.2)) (hk1 _ h) (gr [0, 1, 4, 5] rfl (hB rfl rfl rfl (hB rfl rfl rfl (hR rfl rfl (hR rfl rfl .nil)))) rfl)
  replace h := RG.f h hb23
  unfold M6_L1 at h
  refine rn 1 rfl ?_
  exact jX (s19, n20, l21, l22) h (gr [0, 1, 2, 3] rfl (hB rfl rfl rfl (hB rfl rfl rfl (hR rfl rfl (hR rfl rfl .nil)))) rfl)
 rintro ⟨s9, n10, l11, l12⟩ h
 refine rn 6 rfl ?_
 refine spC h rfl (fun hb32 h => ?_) (fun hb32 h => ?_)
 ·refine rn 10 rfl ?_
  refine cl h rfl rfl rfl (W11 _ _ _) rfl (fun y33 hx34 h => ?_)
  refine rn 1 rfl ?_
  refine ln rfl rfl ?_
  obtain ⟨y35, hx36, h⟩ := bind_some h
  refine rn 1 rfl ?_
  refine aops_mcallS (bV (y35.1)) [(V.ptr 4 4 0 0), (V.lst 1 (y33.map encS)), (bV ((((y3.take (w64 (((y3.length : Nat) : Int) - 1)).toNat).length : Nat) : Int) == 0))] (fun i => ([4, 2, 3] : List Nat).getD i 0) (fun i => ([4, 2, 3, 5, 6] : List Nat).getD i 0) 5 7 [(4, (Ob.arr 25 4 [[(sV (y35.2.1)), (V.own 5 (y35.2.2.2.1).length), (V.own 6 (y35.2.2.2.2).length), (iV (y35.2.2.1))]])), (2, Ob.dead), (3, Ob.dead), (5, (Ob.arr 47 3 ((y35.2.2.2.1).map dencTRelease))), (6, (Ob.arr 51 3 ((y35.2.2.2.2).map encTPublished)))] fOk15 wants_none rfl (evm_cons rfl (evm_cons rfl (evm_cons rfl evm_nil))) (.cons (Sub.ptr rfl rfl) (.cons (Sub.imm (Imm.lst _ _)) (.cons (Sub.imm (Imm.con _)) .nil))) (.cons rfl (ObSub.box (.cons (Sub.imm (Imm.con _)) (.cons (Sub.own rfl rfl) (.cons (Sub.own rfl rfl) (.cons (Sub.imm (Imm.con _)) .nil))))) (.cons rfl (ObSub.rowsK RK.h) (.cons rfl (ObSub.rows (rows_imm imms_encTPublished)) .nil))) (W15 F y33 ((((y3.take (w64 (((y3.length : Nat) : Int) - 1)).toNat).length : Nat) : Int) == 0) s9 n10 l11 l12 y35 hx36) rfl rfl rfl rfl (Sub.immT (Imm.con _)) (.cons rfl (ObSub.box (.cons (Sub.immT (Imm.con _)) (.cons (Sub.ownT rfl rfl) (.cons (Sub.ownT rfl rfl) (.cons (Sub.immT (Imm.con _)) .nil))))) (.cons rfl ObSub.deadT (.cons rfl ObSub.deadT (.cons rfl (ObSub.rowsTK RK.h) (.cons rfl (ObSub.rowsT (rows_imm imms_encTPublished)) .nil))))) _ rfl ?_
  refine fo (rn 1 rfl ?_)
  refine spC h rfl (fun hb37 h => ?_) (fun hb37 h => ?_)
  ·refine rn 4 rfl ?_
   refine ln rfl rfl ?_
   refine rn 5 rfl ?_
   exact rt h rfl
  refine rn 5 rfl ?_
  refine ln rfl rfl ?_
  refine rn 4 rfl ?_
  exact rt h rfl
 refine rn 5 rfl ?_
 refine ln rfl rfl ?_
 refine rn 2 rfl ?_
 refine spC h rfl (fun hb38 h => ?_) (fun hb38 h => ?_)
 ·refine rn 7 rfl ?_
  exact rt h rfl
 obtain ⟨y39, hx40, h⟩ := bind_some h
 refine rn 5 rfl ?_
 refine aops_lend_call (iV y39) [(V.agg [(sV s9), (V.lst 3 (l11.map encTRelease)), (V.lst 3 (l12.map encTPublished)), (iV n10)])] fOk16 (Ghost.trans (ghost_frzSV 2 66 (V.agg [(sV s9), (V.lst 3 (l11.map encTRelease)), (V.own 3 l12.length), (iV n10)]) rfl und_dencTRelease rfl (Sub.agg (.cons Sub.keep (.cons (Sub.frzAll (rows := l11.map encTRelease) (List.length_map ..).symm) (.cons Sub.keep (.cons Sub.keep .nil)))))) (ghost_frzV 3 66 (V.agg [(sV s9), (V.lst 3 (l11.map encTRelease)), (V.lst 3 (l12.map encTPublished)), (iV n10)]) rfl (rows_imm imms_encTPublished) rfl (Sub.agg (.cons Sub.keep (.cons Sub.keep (.cons (Sub.frzAll (rows := l12.map encTPublished) (List.length_map ..).symm) (.cons Sub.keep .nil))))))) (Flat.con _) wants_none (evm_cons rfl evm_nil) (.cons (Imm.agg (.cons (Imm.con _) (.cons (Imm.lst _ _) (.cons (Imm.lst _ _) (.cons (Imm.con _) .nil))))) .nil) (W16 F (TStory.mk s9 l11 l12 n10) y39 hx40) rfl ?_
 refine fo (rn 7 rfl ?_)
 refine spC h rfl (fun hb41 h => ?_) (fun hb41 h => ?_)
 ·refine rn 8 rfl ?_
  exact rt h rfl
 refine rn 8 rfl ?_
 refine awp_ghost (ghost_frzSC 2 0 (Ob.arr 25 4 [[(sV s9), (V.lst 3 (l11.map encTRelease)), (V.own 3 l12.length), (iV n10)]]) und_dencTRelease rfl (ObSub.box (.cons Sub.keep (.cons (Sub.frzAll (by simp)) (.cons Sub.keep (.cons Sub.keep .nil)))))) ?_
 refine awp_ghost (ghost_frzC 3 0 (Ob.arr 25 4 [[(sV s9), (V.lst 3 (l11.map encTRelease)), (V.lst 3 (l12.map encTPublished)), (iV n10)]]) rfl (rows_imm imms_encTPublished) (ObSub.box (.cons Sub.keep (.cons Sub.keep (.cons (Sub.frzAll (rows := l12.map encTPublished) (List.length_map ..).symm) (.cons Sub.keep .nil)))))) ?_
 refine fa ?_
 exact rt h rfl
theorem W39 (F : Nat) (a1 : (List TExposure)) (a2 : (List TExposure)) (r : Bool) (h : M39 F a1 a2 = some r) : PureG (gl mx) Tryd.prog 39 [(V.lst 3 (a1.map encTExposure)), (V.lst 3 (a2.map encTExposure))] (bV r) := by
 refine pin (fun r => (bV r)) r rfl Tryd.func39 rfl rfl rfl rfl rfl (fun w0 m0 hg => ?_)
 unfold M39 at h
 refine rn 8 rfl ?_
 refine ln rfl rfl ?_
 refine rn 1 rfl ?_
 refine ln rfl rfl ?_
 refine rn 2 rfl ?_
 refine spC h rfl (fun hb3 h => ?_) (fun hb3 h => ?_)
 ·refine rn 4 rfl ?_
  exact rt h rfl
 refine rn 5 rfl ?_
 refine ln rfl rfl ?_
 refine rn 2 rfl ?_
 refine jK h (fun _ : Unit => (⟨[], [], 0⟩ : St)) (fun k4 (_ : Unit) => k4 = some r) (fun k4 h => ?_) ?_
 ·refine rn 1 rfl ?_
  refine wl (A := a1) 0 rfl (fun hA13 => ?_)
  refine lC (fun (p : Int) => (⟨[(0, (V.lst 3 (a1.map encTExposure))), (1, (V.lst 3 (a2.map encTExposure))), (12, (iV ((a1.length : Nat) : Int))), (13, (iV p))], [], 0⟩ : St)) (fun n p => RG a1 (fun tl nn => M39_L1 F a2 k4 tl nn = some r) n p) (fun p h => RG.zero h) (a1.length + 1) 0 (RG.start h) (g0 rfl rfl) (fun n n6 h => ?_)
  refine rn 5 rfl ?_
  refine spL rfl (fun hb7 => ?_) (fun hb7 => ?_)
  ·obtain ⟨x8, tl, hx9, h, hk1⟩ := RG.t hA13 h hb7
   unfold M39_L1 at h
   obtain ⟨x10, hx11, h⟩ := bind_some h
   refine rn 9 rfl ?_
   refine dr mixed (vs 2 rfl (iD hx9 rfl rfl rfl (vs 3 rfl (iD hx11 rfl rfl rfl (vs 1 rfl (xD (OD.mk [(19, (V.agg (encTExposure x8))), (23, (V.agg (encTExposure x10)))] [] [(24, (bV (!(decide (x8 = x10)))))] []) ⟨⟨rfl, rfl, trivial⟩, trivial⟩ (by exact fun S hn h hh => aops_eqS true (xs := cv66 x8) (ys := cv66 x10) (b := (decide (x8 = x10))) eqk66 ⟨_, rfl⟩ ⟨_, rfl⟩ (eq_b cv66 _ _ (inj_cv66 _ _)) tEqG66 wants_none h.1 h.2.1 rfl (aops_nil ⟨rfl, rfl⟩)) rfl .nil)))))) (by kernel_rfl) ?_
   refine spC h rfl (fun hb12 h => ?_) (fun hb12 h => ?_)
   ·refine rn 4 rfl ?_
    exact rt h rfl
   refine rn 6 rfl ?_
   exact jX (w64 (n6 + 1)) (hk1 _ h) (g0 rfl rfl)
  replace h := RG.f h hb7
  unfold M39_L1 at h
  refine rn 1 rfl ?_
  exact jX () h (g0 rfl rfl)
 intro _ h
 refine rn 4 rfl ?_
 exact rt h rfl
theorem W18 (F : Nat) (a1 : TRelease) (a2 : TRelease) (r : Bool) (h : M18 F a1 a2 = some r) : PureG (gl mx) Tryd.prog 18 [(V.agg (encTRelease a1)), (V.agg (encTRelease a2))] (bV r) := by
 refine pin (fun r => (bV r)) r rfl Tryd.func18 rfl rfl rfl rfl rfl (fun w0 m0 hg => ?_)
 unfold M18 at h
 refine rn 14 rfl ?_
 refine spO 10 h rfl (fun hb3 h => ?_) (fun hb3 h => ?_)
 ·refine rn 7 rfl ?_
  refine spO 17 h rfl (fun hb4 h => ?_) (fun hb4 h => ?_)
  ·refine rn 4 rfl ?_
   refine cl h rfl rfl rfl (W39 _ _ _) rfl (fun y5 hx6 h => ?_)
   refine rn 3 rfl ?_
   exact rt h rfl
  refine rn 8 rfl ?_
  exact rt h rfl
 refine rn 15 rfl ?_
 exact rt h rfl
theorem W17 (F : Nat) (a1 : (List TRelease)) (a2 : (List TRelease)) (r : Bool) (h : M17 F a1 a2 = some r) : PureG (gl mx) Tryd.prog 17 [(V.lst 3 (a1.map encTRelease)), (V.lst 3 (a2.map encTRelease)), (V.fn (.func 18) [] [])] (bV r) := by
 refine pin (fun r => (bV r)) r rfl Tryd.func17 rfl rfl rfl rfl rfl (fun w0 m0 hg => ?_)
 unfold M17 at h
 refine rn 8 rfl ?_
 refine ln rfl rfl ?_
 refine rn 1 rfl ?_
 refine ln rfl rfl ?_
 refine rn 2 rfl ?_
 refine spC h rfl (fun hb3 h => ?_) (fun hb3 h => ?_)
 ·refine rn 4 rfl ?_
  exact rt h rfl
 refine rn 5 rfl ?_
 refine ln rfl rfl ?_
 refine rn 2 rfl ?_
 refine jK h (fun _ : Unit => (⟨[], [], 0⟩ : St)) (fun k4 (_ : Unit) => k4 = some r) (fun k4 h => ?_) ?_
 ·refine rn 1 rfl ?_
  refine wl (A := a1) 0 rfl (fun hA15 => ?_)
  refine lC (fun (p : Int) => (⟨[(1, (V.lst 3 (a2.map encTRelease))), (2, (V.fn (.func 18) [] [])), (15, (V.lst 3 (a1.map encTRelease))), (16, (iV ((a1.length : Nat) : Int))), (17, (iV p))], [], 0⟩ : St)) (fun n p => RG a1 (fun tl nn => M17_L1 F a2 k4 tl nn = some r) n p) (fun p h => RG.zero h) (a1.length + 1) 0 (RG.start h) (g0 rfl rfl) (fun n n6 h => ?_)
  refine rn 5 rfl ?_
  refine spL rfl (fun hb7 => ?_) (fun hb7 => ?_)
  ·obtain ⟨x8, tl, hx9, h, hk1⟩ := RG.t hA15 h hb7
   unfold M17_L1 at h
   refine rn 6 rfl ?_
   refine ixh hx9 rfl rfl ?_
   refine rn 9 rfl ?_
   refine ixl h rfl rfl (fun x10 hx11 h => ?_)
   refine rn 9 rfl ?_
   refine cl h rfl rfl rfl (W18 _ _ _) rfl (fun y12 hx13 h => ?_)
   refine rn 2 rfl ?_
   refine spC h rfl (fun hb14 h => ?_) (fun hb14 h => ?_)
   ·refine rn 4 rfl ?_
    exact rt h rfl
   refine rn 6 rfl ?_
   exact jX (w64 (n6 + 1)) (hk1 _ h) (g0 rfl rfl)
  replace h := RG.f h hb7
  unfold M17_L1 at h
  refine rn 1 rfl ?_
  exact jX () h (g0 rfl rfl)
 intro _ h
 refine rn 4 rfl ?_
 exact rt h rfl
theorem W19 (F : Nat) (a1 : (List TPublished)) (a2 : (List TPublished)) (r : Bool) (h : M19 F a1 a2 = some r) : PureG (gl mx) Tryd.prog 19 [(V.lst 3 (a1.map encTPublished)), (V.lst 3 (a2.map encTPublished))] (bV r) := by
 refine pin (fun r => (bV r)) r rfl Tryd.func19 rfl rfl rfl rfl rfl (fun w0 m0 hg => ?_)
 unfold M19 at h
 refine rn 8 rfl ?_
 refine ln rfl rfl ?_
 refine rn 1 rfl ?_
 refine ln rfl rfl ?_
 refine rn 2 rfl ?_
 refine spC h rfl (fun hb3 h => ?_) (fun hb3 h => ?_)
 ·refine rn 4 rfl ?_
  exact rt h rfl
 refine rn 5 rfl ?_
 refine ln rfl rfl ?_
 refine rn 2 rfl ?_
 refine jK h (fun _ : Unit => (⟨[], [], 0⟩ : St)) (fun k4 (_ : Unit) => k4 = some r) (fun k4 h => ?_) ?_
 ·refine rn 1 rfl ?_
  refine wl (A := a1) 0 rfl (fun hA13 => ?_)
  refine lC (fun (p : Int) => (⟨[(0, (V.lst 3 (a1.map encTPublished))), (1, (V.lst 3 (a2.map encTPublished))), (12, (iV ((a1.length : Nat) : Int))), (13, (iV p))], [], 0⟩ : St)) (fun n p => RG a1 (fun tl nn => M19_L1 F a2 k4 tl nn = some r) n p) (fun p h => RG.zero h) (a1.length + 1) 0 (RG.start h) (g0 rfl rfl) (fun n n6 h => ?_)
  refine rn 5 rfl ?_
  refine spL rfl (fun hb7 => ?_) (fun hb7 => ?_)
  ·obtain ⟨x8, tl, hx9, h, hk1⟩ := RG.t hA13 h hb7
   unfold M19_L1 at h
   obtain ⟨x10, hx11, h⟩ := bind_some h
   refine rn 9 rfl ?_
   refine dr mixed (vs 2 rfl (iD hx9 rfl rfl rfl (vs 3 rfl (iD hx11 rfl rfl rfl (vs 1 rfl (xD (OD.mk [(19, (V.agg (encTPublished x8))), (23, (V.agg (encTPublished x10)))] [] [(24, (bV (!(decide (x8 = x10)))))] []) ⟨⟨rfl, rfl, trivial⟩, trivial⟩ (by exact fun S hn h hh => aops_eqS true (xs := cv51 x8) (ys := cv51 x10) (b := (decide (x8 = x10))) eqk51 ⟨_, rfl⟩ ⟨_, rfl⟩ (eq_b cv51 _ _ (inj_cv51 _ _)) tEqG51 wants_none h.1 h.2.1 rfl (aops_nil ⟨rfl, rfl⟩)) rfl .nil)))))) (by kernel_rfl) ?_
   refine spC h rfl (fun hb12 h => ?_) (fun hb12 h => ?_)
   ·refine rn 4 rfl ?_
    exact rt h rfl
   refine rn 6 rfl ?_
   exact jX (w64 (n6 + 1)) (hk1 _ h) (g0 rfl rfl)
  replace h := RG.f h hb7
  unfold M19_L1 at h
  refine rn 1 rfl ?_
  exact jX () h (g0 rfl rfl)
 intro _ h
 refine rn 4 rfl ?_
 exact rt h rfl
theorem W7 (F : Nat) (a1 : TStory) (a2 : TStory) (r : Bool) (h : M7 F a1 a2 = some r) : PureG (gl mx) Tryd.prog 7 [(V.agg (encTStory a1)), (V.agg (encTStory a2))] (bV r) := by
 refine pin (fun r => (bV r)) r rfl Tryd.func7 rfl rfl rfl rfl rfl (fun w0 m0 hg => ?_)
 unfold M7 at h
 refine rn 14 rfl ?_
 refine spO 10 h rfl (fun hb3 h => ?_) (fun hb3 h => ?_)
 ·refine rn 7 rfl ?_
  refine spO 17 h rfl (fun hb4 h => ?_) (fun hb4 h => ?_)
  ·refine rn 4 rfl ?_
   refine cl h rfl rfl rfl (W17 _ _ _) rfl (fun y5 hx6 h => ?_)
   refine rn 2 rfl ?_
   refine spO 24 h rfl (fun hb7 h => ?_) (fun hb7 h => ?_)
   ·refine rn 4 rfl ?_
    refine cl h rfl rfl rfl (W19 _ _ _) rfl (fun y8 hx9 h => ?_)
    refine rn 3 rfl ?_
    exact rt h rfl
   refine rn 8 rfl ?_
   exact rt h rfl
  refine rn 15 rfl ?_
  exact rt h rfl
 refine rn 22 rfl ?_
 exact rt h rfl
theorem W52 (F : Nat) (a1 : (List Int)) (a2 : Int) (r : Int) (h : M52 F a1 a2 = some r) : PureG (gl mx) Tryd.prog 52 [(V.lst 1 (a1.map encI_i64)), (iV a2)] (iV r) := by
 refine pin (fun r => (iV r)) r rfl Tryd.func52 rfl rfl rfl rfl rfl (fun w0 m0 hg => ?_)
 unfold M52 at h
 refine rn 8 rfl ?_
 refine ln rfl rfl ?_
 refine rn 2 rfl ?_
 refine jK h (fun _ : Unit => (⟨[], [], 0⟩ : St)) (fun k3 (_ : Unit) => k3 = some r) (fun k3 h => ?_) ?_
 ·refine rn 1 rfl ?_
  refine wl (A := a1) 0 rfl (fun hA16 => ?_)
  refine lC (fun (p : Int) => (⟨[(0, (V.lst 1 (a1.map encI_i64))), (1, (iV a2)), (7, (V.lst 1 (a1.map encI_i64))), (8, (iV ((a1.length : Nat) : Int))), (9, (iV p))], [], 0⟩ : St)) (fun n p => RG a1 (fun tl nn => M52_L1 F a1 a2 k3 tl nn = some r) n p) (fun p h => RG.zero h) (a1.length + 1) 0 (RG.start h) (g0 rfl rfl) (fun n n5 h => ?_)
  refine rn 5 rfl ?_
  refine spL rfl (fun hb6 => ?_) (fun hb6 => ?_)
  ·obtain ⟨x7, tl, hx8, h, hk1⟩ := RG.t hA16 h hb6
   unfold M52_L1 at h
   refine rn 6 rfl ?_
   refine ixh hx8 rfl rfl ?_
   refine rn 10 rfl ?_
   refine spO 17 h rfl (fun hb9 h => ?_) (fun hb9 h => ?_)
   ·refine rn 11 rfl ?_
    exact rt h rfl
   refine rn 6 rfl ?_
   refine jK h (fun _ : Unit => (⟨[(0, (V.lst 1 (a1.map encI_i64))), (1, (iV a2)), (7, (V.lst 1 (a1.map encI_i64))), (8, (iV ((a1.length : Nat) : Int))), (9, (iV n5)), (20, (bV (decide (x7 > a2))))], [], 0⟩ : St)) (fun k10 (_ : Unit) => k10 = some r) (fun k10 h => ?_) ?_
   ·refine spC h rfl (fun hb11 h => ?_) (fun hb11 h => ?_)
    ·refine rn 4 rfl ?_
     exact rt h rfl
    refine rn 5 rfl ?_
    refine spO 25 h rfl (fun hb12 h => ?_) (fun hb12 h => ?_)
    ·refine rn 4 rfl ?_
     refine ixl h rfl rfl (fun x13 hx14 h => ?_)
     refine rn 5 rfl ?_
     refine spC h rfl (fun hb15 h => ?_) (fun hb15 h => ?_)
     ·refine rn 4 rfl ?_
      exact rt h rfl
     refine rn 1 rfl ?_
     exact jX () h (g0 rfl rfl)
    refine rn 12 rfl ?_
    exact jX () h (g0 rfl rfl)
   intro _ h
   refine rn 6 rfl ?_
   exact jX (w64 (n5 + 1)) (hk1 _ h) (g0 rfl rfl)
  replace h := RG.f h hb6
  unfold M52_L1 at h
  refine rn 1 rfl ?_
  exact jX () h (g0 rfl rfl)
 intro _ h
 refine rn 4 rfl ?_
 exact rt h rfl
theorem W40 (F : Nat) (a1 : TCalendar) (r : Int) (h : M40 F a1 = some r) : PureG (gl mx) Tryd.prog 40 [(V.agg (encTCalendar a1))] (iV r) := by
 refine pin (fun r => (iV r)) r rfl Tryd.func40 rfl rfl rfl rfl rfl (fun w0 m0 hg => ?_)
 unfold M40 at h
 refine rn 10 rfl ?_
 refine ln rfl rfl ?_
 refine rn 2 rfl ?_
 refine spO 8 h rfl (fun hb2 h => ?_) (fun hb2 h => ?_)
 ·refine rn 11 rfl ?_
  exact rt h rfl
 refine rn 2 rfl ?_
 refine ln rfl rfl ?_
 refine rn 3 rfl ?_
 refine spC h rfl (fun hb3 h => ?_) (fun hb3 h => ?_)
 ·refine rn 4 rfl ?_
  exact rt h rfl
 refine rn 6 rfl ?_
 refine cl h rfl rfl rfl (W52 _ _ _) rfl (fun y4 hx5 h => ?_)
 refine rn 7 rfl ?_
 refine spC h rfl (fun hb6 h => ?_) (fun hb6 h => ?_)
 ·refine rn 5 rfl ?_
  exact rt h rfl
 refine rn 5 rfl ?_
 refine cl h rfl rfl rfl (W52 _ _ _) rfl (fun y7 hx8 h => ?_)
 refine rn 2 rfl ?_
 exact rt h rfl
theorem W41 (F : Nat) (a1 : TCalendar) (r : Thistory_week) (h : M41 F a1 = some r) : PureG (gl mx) Tryd.prog 41 [(V.agg (encTCalendar a1))] (V.agg [(bV (r.free 0)), (bV (r.free 1)), (bV (r.free 2)), (bV (r.free 3)), (bV (r.free 4)), (bV (r.free 5)), (bV (r.free 6)), (iV r.work), (V.lst 1 (r.holidays.map encI_i64))]) := by
 refine pin (fun r => (V.agg [(bV (r.free 0)), (bV (r.free 1)), (bV (r.free 2)), (bV (r.free 3)), (bV (r.free 4)), (bV (r.free 5)), (bV (r.free 6)), (iV r.work), (V.lst 1 (r.holidays.map encI_i64))])) r rfl Tryd.func41 rfl rfl rfl rfl rfl (fun w0 m0 hg => ?_)
 unfold M41 at h
 refine rn 9 rfl ?_
 refine ln rfl rfl ?_
 refine rn 10 rfl ?_
 refine ln rfl rfl ?_
 refine rn 2 rfl ?_
 refine jK h (fun (p : (Nat → Bool)) => (⟨[(1, (V.ptr 0 2 0 0)), (2, (V.ptr 1 9 0 0)), (3, (V.ptr 2 9 0 0))], [(0, (Ob.arr 55 2 [(encTCalendar a1)])), (1, (Ob.arr 85 9 [[(bV false), (bV false), (bV false), (bV false), (bV false), (bV false), (bV false), (iV 0), nV]])), (2, (Ob.arr 85 9 [[(bV (p 0)), (bV (p 1)), (bV (p 2)), (bV (p 3)), (bV (p 4)), (bV (p 5)), (bV (p 6)), (iV (w64 (7 - ((a1.Free.length : Nat) : Int)))), nV]]))], 3⟩ : St)) (fun k2 p => k2 p = some r) (fun k2 h => ?_) ?_
 ·refine rn 1 rfl ?_
  refine wl (A := a1.Free) 9 rfl (fun hA12 => ?_)
  refine lC (fun (p : Int × (Nat → Bool)) => (⟨[(1, (V.ptr 0 2 0 0)), (2, (V.ptr 1 9 0 0)), (3, (V.ptr 2 9 0 0)), (14, (V.lst 1 (a1.Free.map encI_i64))), (15, (iV ((a1.Free.length : Nat) : Int))), (16, (iV (p.1)))], [(0, (Ob.arr 55 2 [(encTCalendar a1)])), (1, (Ob.arr 85 9 [[(bV false), (bV false), (bV false), (bV false), (bV false), (bV false), (bV false), (iV 0), nV]])), (2, (Ob.arr 85 9 [[(bV ((p.2) 0)), (bV ((p.2) 1)), (bV ((p.2) 2)), (bV ((p.2) 3)), (bV ((p.2) 4)), (bV ((p.2) 5)), (bV ((p.2) 6)), (iV (w64 (7 - ((a1.Free.length : Nat) : Int)))), nV]]))], 3⟩ : St)) (fun n p => RG a1.Free (fun tl nn => M41_L1 F k2 tl p.2 = some r) n p.1) (fun p h => RG.zero h) (a1.Free.length + 1) (0, (fun _ => false)) (RG.start h) (gr [0, 1, 2] rfl (hB rfl rfl rfl (hB rfl rfl rfl (hB rfl rfl rfl .nil))) rfl) (fun n p h => ?_)
  obtain ⟨n6, f7⟩ := p
  refine rn 5 rfl ?_
  refine spL rfl (fun hb8 => ?_) (fun hb8 => ?_)
  ·obtain ⟨x9, tl, hx10, h, hk1⟩ := RG.t hA12 h hb8
   unfold M41_L1 at h
   refine rn 5 rfl ?_
   refine ixh hx10 rfl rfl ?_
   refine rn 6 rfl ?_
   refine ck h (fun hc11 h => ?_)
   refine aops_index_arr tArr83 wants_none rfl rfl hc11.1 hc11.2 rfl ?_
   refine aops_store [(bV true)] [[(bV ((upd f7 x9.toNat true) 0)), (bV ((upd f7 x9.toNat true) 1)), (bV ((upd f7 x9.toNat true) 2)), (bV ((upd f7 x9.toNat true) 3)), (bV ((upd f7 x9.toNat true) 4)), (bV ((upd f7 x9.toNat true) 5)), (bV ((upd f7 x9.toNat true) 6)), (iV (w64 (7 - ((a1.Free.length : Nat) : Int)))), nV]] tS4 wants_none rfl rfl rfl rfl rfl rfl (arr_ble hc11.2 (by simp)) (congrArg (fun r => [r]) (arr_set [] [(iV (w64 (7 - ((a1.Free.length : Nat) : Int)))), nV] (fun x => (bV x)) f7 true hc11.2 rfl (by simp))) ?_
   refine fo (rn 6 rfl ?_)
   exact jX ((w64 (n6 + 1)), (upd f7 x9.toNat true)) (hk1 _ h) (gr [0, 1, 2] rfl (hB rfl rfl rfl (hB rfl rfl rfl (hB rfl rfl rfl .nil))) rfl)
  replace h := RG.f h hb8
  unfold M41_L1 at h
  refine rn 1 rfl ?_
  exact jX f7 h (gr [0, 1, 2] rfl (hB rfl rfl rfl (hB rfl rfl rfl (hB rfl rfl rfl .nil))) rfl)
 intro f3 h
 refine rn 5 rfl ?_
 refine ln rfl rfl ?_
 refine rn 2 rfl ?_
 refine jK h (fun (p : (List Int)) => (⟨[(2, (V.ptr 0 9 0 0)), (3, (V.ptr 1 9 0 0))], [(0, (Ob.arr 85 9 [[(bV false), (bV false), (bV false), (bV false), (bV false), (bV false), (bV false), (iV 0), nV]])), (1, (Ob.arr 85 9 [[(bV (f3 0)), (bV (f3 1)), (bV (f3 2)), (bV (f3 3)), (bV (f3 4)), (bV (f3 5)), (bV (f3 6)), (iV (w64 (7 - ((a1.Free.length : Nat) : Int)))), (V.own 2 p.length)]])), (2, (Ob.arr 3 1 (p.map encI_i64)))], 3⟩ : St)) (fun k13 p => k13 p = some r) (fun k13 h => ?_) ?_
 ·refine rn 1 rfl ?_
  refine wl (A := a1.Holidays) 25 rfl (fun hA27 => ?_)
  refine lC (fun (p : Int × (List Int)) => (⟨[(2, (V.ptr 0 9 0 0)), (3, (V.ptr 1 9 0 0)), (25, (V.lst 1 (a1.Holidays.map encI_i64))), (26, (iV ((a1.Holidays.length : Nat) : Int))), (27, (iV (p.1)))], [(0, (Ob.arr 85 9 [[(bV false), (bV false), (bV false), (bV false), (bV false), (bV false), (bV false), (iV 0), nV]])), (1, (Ob.arr 85 9 [[(bV (f3 0)), (bV (f3 1)), (bV (f3 2)), (bV (f3 3)), (bV (f3 4)), (bV (f3 5)), (bV (f3 6)), (iV (w64 (7 - ((a1.Free.length : Nat) : Int)))), (V.own 2 (p.2).length)]])), (2, (Ob.arr 3 1 ((p.2).map encI_i64)))], 3⟩ : St)) (fun n p => RG a1.Holidays (fun tl nn => M41_L2 F f3 k13 tl p.2 = some r) n p.1) (fun p h => RG.zero h) (a1.Holidays.length + 1) (0, ([] : List Int)) (RG.start h) (Ghost.trans (ghost_nilC 2 3 1 (Ob.arr 85 9 [[(bV (f3 0)), (bV (f3 1)), (bV (f3 2)), (bV (f3 3)), (bV (f3 4)), (bV (f3 5)), (bV (f3 6)), (iV (w64 (7 - ((a1.Free.length : Nat) : Int)))), (V.own 3 0)]]) (ObSub.box (.cons Sub.keepNil (.cons Sub.keepNil (.cons Sub.keepNil (.cons Sub.keepNil (.cons Sub.keepNil (.cons Sub.keepNil (.cons Sub.keepNil (.cons Sub.keepNil (.cons Sub.mkNil .nil))))))))))) (ghost_ren 3 (fun i => ([1, 2, 3] : List Nat).getD i 0) _ _ (by decide) (EnvSub.get (.cons (Sub.ptr rfl rfl) (.cons (Sub.ptr rfl rfl) (.cons (Sub.imm (Imm.lst _ _)) (.cons (Sub.imm (Imm.con _)) (.cons (Sub.imm (Imm.con _)) .nil)))))) (HpSub.get (.cons rfl (ObSub.box (.cons (Sub.imm (Imm.con _)) (.cons (Sub.imm (Imm.con _)) (.cons (Sub.imm (Imm.con _)) (.cons (Sub.imm (Imm.con _)) (.cons (Sub.imm (Imm.con _)) (.cons (Sub.imm (Imm.con _)) (.cons (Sub.imm (Imm.con _)) (.cons (Sub.imm (Imm.con _)) (.cons (Sub.imm (Imm.con _)) .nil)))))))))) (.cons rfl (ObSub.box (.cons (Sub.imm (Imm.con _)) (.cons (Sub.imm (Imm.con _)) (.cons (Sub.imm (Imm.con _)) (.cons (Sub.imm (Imm.con _)) (.cons (Sub.imm (Imm.con _)) (.cons (Sub.imm (Imm.con _)) (.cons (Sub.imm (Imm.con _)) (.cons (Sub.imm (Imm.con _)) (.cons (Sub.ownE rfl rfl (by simp)) .nil)))))))))) (.cons rfl (ObSub.rows (rows_imm imms_encI_i64)) .nil)))) rfl)) (fun n p h => ?_)
  obtain ⟨n17, l18⟩ := p
  refine rn 5 rfl ?_
  refine spL rfl (fun hb19 => ?_) (fun hb19 => ?_)
  ·obtain ⟨x20, tl, hx21, h, hk2⟩ := RG.t hA27 h hb19
   unfold M41_L2 at h
   refine rn 5 rfl ?_
   refine ixh hx21 rfl rfl ?_
   refine rn 8 rfl ?_
   refine ck h (fun hc22 h => ?_)
   refine aops_index_arr tArr83 wants_none rfl rfl hc22.1 hc22.2 rfl ?_
   refine aops_load_cell (bV (f3 (Int.tmod x20 7).toNat)) tC4 wants_none rfl rfl rfl (arr_get [] [(iV (w64 (7 - ((a1.Free.length : Nat) : Int)))), (V.own 2 l18.length)] (fun i => (bV (f3 i))) hc22.2 rfl (by simp)) rfl rfl ?_
   refine fo (rn 2 rfl ?_)
   refine jK h (fun (p : (List Int)) => (⟨[(2, (V.ptr 0 9 0 0)), (3, (V.ptr 1 9 0 0)), (25, (V.lst 1 (a1.Holidays.map encI_i64))), (26, (iV ((a1.Holidays.length : Nat) : Int))), (27, (iV n17))], [(0, (Ob.arr 85 9 [[(bV false), (bV false), (bV false), (bV false), (bV false), (bV false), (bV false), (iV 0), nV]])), (1, (Ob.arr 85 9 [[(bV (f3 0)), (bV (f3 1)), (bV (f3 2)), (bV (f3 3)), (bV (f3 4)), (bV (f3 5)), (bV (f3 6)), (iV (w64 (7 - ((a1.Free.length : Nat) : Int)))), (V.own 2 p.length)]])), (2, (Ob.arr 3 1 (p.map encI_i64)))], 3⟩ : St)) (fun k23 p => k23 p = some r) (fun k23 h => ?_) ?_
   ·refine spC h rfl (fun hb25 h => ?_) (fun hb25 h => ?_)
    ·refine rn 4 rfl ?_
     refine aops_buildSlice [(0, (iV x20))] [[(iV x20)]] tEl39 tZ3 rfl rfl rfl rfl wants_none (evp_cons rfl evp_nil) rfl rfl (by simp) rfl ?_
     refine fo ?_
     refine apO encI_i64 h rfl rfl rfl rfl rfl rfl rfl rfl (fun h => ?_)
     refine rn 3 rfl ?_
     exact jX (l18 ++ ([x20] : List Int)) h (gr [0, 1, 4] rfl (hB rfl rfl rfl (hB rfl rfl rfl (hR rfl rfl .nil))) rfl)
    refine rn 1 rfl ?_
    exact jX l18 h (gr [0, 1, 2] rfl (hB rfl rfl rfl (hB rfl rfl rfl (hR rfl rfl .nil))) rfl)
   intro l24 h
   refine rn 5 rfl ?_
   exact jX ((w64 (n17 + 1)), l24) (hk2 _ h) (gr [0, 1, 2] rfl (hB rfl rfl rfl (hB rfl rfl rfl (hR rfl rfl .nil))) rfl)
  replace h := RG.f h hb19
  unfold M41_L2 at h
  refine rn 1 rfl ?_
  exact jX l18 h (gr [0, 1, 2] rfl (hB rfl rfl rfl (hB rfl rfl rfl (hR rfl rfl .nil))) rfl)
 intro l14 h
 refine rn 5 rfl ?_
 refine awp_ghost (ghost_frzC 2 0 (Ob.arr 85 9 [[(bV (f3 0)), (bV (f3 1)), (bV (f3 2)), (bV (f3 3)), (bV (f3 4)), (bV (f3 5)), (bV (f3 6)), (iV (w64 (7 - ((a1.Free.length : Nat) : Int)))), (V.lst 1 (l14.map encI_i64))]]) rfl (rows_imm imms_encI_i64) (ObSub.box (.cons Sub.keep (.cons Sub.keep (.cons Sub.keep (.cons Sub.keep (.cons Sub.keep (.cons Sub.keep (.cons Sub.keep (.cons Sub.keep (.cons (Sub.frzAll (rows := l14.map encI_i64) (List.length_map ..).symm) .nil))))))))))) ?_
 refine fa ?_
 exact rt h rfl
theorem W84 (F : Nat) (a1 : Int) (r : Bool) (h : M84 F a1 = some r) : PureG (gl mx) Tryd.prog 84 [(iV a1)] (bV r) := by
 refine pin (fun r => (bV r)) r rfl Tryd.func84 rfl rfl rfl rfl rfl (fun w0 m0 hg => ?_)
 unfold M84 at h
 refine rn 11 rfl ?_
 exact rt h rfl
theorem W65 (F : Nat) (a1 : Int) (a2 : Int) (r : Bool) (h : M65 F a1 a2 = some r) : PureG (gl mx) Tryd.prog 65 [(iV a1), (iV a2)] (bV r) := by
 refine pin (fun r => (bV r)) r rfl Tryd.func65 rfl rfl rfl rfl rfl (fun w0 m0 hg => ?_)
 unfold M65 at h
 refine rn 7 rfl ?_
 refine cl h rfl rfl rfl (W84 _ _) rfl (fun y3 hx4 h => ?_)
 refine rn 1 rfl ?_
 refine spO 7 h rfl (fun hb5 h => ?_) (fun hb5 h => ?_)
 ·refine rn 1 rfl ?_
  refine cl h rfl rfl rfl (W84 _ _) rfl (fun y6 hx7 h => ?_)
  refine rn 3 rfl ?_
  refine spO 12 h rfl (fun hb8 h => ?_) (fun hb8 h => ?_)
  ·refine rn 6 rfl ?_
   exact rt h rfl
  refine rn 6 rfl ?_
  exact rt h rfl
 refine rn 11 rfl ?_
 exact rt h rfl
theorem W66 (F : Nat) (a1 : Int) (r : Bool) (h : M66 F a1 = some r) : PureG (gl mx) Tryd.prog 66 [(iV a1)] (bV r) := by
 refine pin (fun r => (bV r)) r rfl Tryd.func66 rfl rfl rfl rfl rfl (fun w0 m0 hg => ?_)
 unfold M66 at h
 refine rn 11 rfl ?_
 exact rt h rfl
theorem W53 (F : Nat) (a1 : (List Int)) (a2 : Int) (r : (Int × Bool)) (h : M53 F a1 a2 = some r) : PureG (gl mx) Tryd.prog 53 [(V.lst 1 (a1.map encI_i64)), (iV a2)] (V.tup [(iV (r.1)), (bV (r.2))]) := by
 refine pin (fun r => (V.tup [(iV (r.1)), (bV (r.2))])) r rfl Tryd.func53 rfl rfl rfl rfl rfl (fun w0 m0 hg => ?_)
 unfold M53 at h
 refine rn 8 rfl ?_
 refine ln rfl rfl ?_
 refine rn 9 rfl ?_
 refine jK h (fun (p : Int) => (⟨[(0, (V.lst 1 (a1.map encI_i64))), (1, (iV a2)), (6, (iV ((a1.length : Nat) : Int))), (7, (iV p))], [], 0⟩ : St)) (fun k3 p => k3 p = some r) (fun k3 h => ?_) ?_
 ·refine rn 1 rfl ?_
  refine lC (fun (p : Int × Int) => (⟨[(0, (V.lst 1 (a1.map encI_i64))), (1, (iV a2)), (6, (iV ((a1.length : Nat) : Int))), (7, (iV (p.1))), (8, (iV (p.2)))], [], 0⟩ : St)) (fun n p => M53_L1 F a1 a2 k3 n p.1 p.2 = some r) (fun p h => by simp [M53_L1] at h) F (0, ((a1.length : Nat) : Int)) h (g0 rfl rfl) (fun n p h => ?_)
  obtain ⟨n7, n8⟩ := p
  unfold M53_L1 at h
  refine rn 7 rfl ?_
  refine spC h rfl (fun hb9 h => ?_) (fun hb9 h => ?_)
  ·refine rn 16 rfl ?_
   refine ixl h rfl rfl (fun x10 hx11 h => ?_)
   refine rn 2 rfl ?_
   refine cl h rfl rfl rfl (W65 _ _ _) rfl (fun y12 hx13 h => ?_)
   refine rn 1 rfl ?_
   refine jK h (fun (p : Int × Int) => (⟨[(0, (V.lst 1 (a1.map encI_i64))), (1, (iV a2)), (6, (iV ((a1.length : Nat) : Int))), (7, (iV (p.1))), (8, (iV (p.2)))], [], 0⟩ : St)) (fun k14 p => k14 p.1 p.2 = some r) (fun k14 h => ?_) ?_
   ·refine spC h rfl (fun hb17 h => ?_) (fun hb17 h => ?_)
    ·refine rn 5 rfl ?_
     exact jX ((w64 ((w64 (Int.fdiv (IntKind.wrap .u64 (w64 (n7 + n8))) (2 ^ (min (Int.toNat 1) (IntKind.bits .u64))))) + 1)), n8) h (g0 rfl rfl)
    refine rn 4 rfl ?_
    exact jX (n7, (w64 (Int.fdiv (IntKind.wrap .u64 (w64 (n7 + n8))) (2 ^ (min (Int.toNat 1) (IntKind.bits .u64)))))) h (g0 rfl rfl)
   rintro ⟨n15, n16⟩ h
   refine rn 1 rfl ?_
   exact jX (n15, n16) h (g0 rfl rfl)
  refine rn 1 rfl ?_
  exact jX n7 h (g0 rfl rfl)
 intro n4 h
 refine rn 7 rfl ?_
 refine spO 35 h rfl (fun hb18 h => ?_) (fun hb18 h => ?_)
 ·refine rn 2 rfl ?_
  refine ixl h rfl rfl (fun x19 hx20 h => ?_)
  refine rn 4 rfl ?_
  refine spO 42 h rfl (fun hb21 h => ?_) (fun hb21 h => ?_)
  ·refine rn 14 rfl ?_
   exact rt h rfl
  refine rn 2 rfl ?_
  refine ixl h rfl rfl (fun x22 hx23 h => ?_)
  refine rn 1 rfl ?_
  refine cl h rfl rfl rfl (W66 _ _) rfl (fun y24 hx25 h => ?_)
  refine rn 1 rfl ?_
  refine spO 48 h rfl (fun hb26 h => ?_) (fun hb26 h => ?_)
  ·refine rn 1 rfl ?_
   refine cl h rfl rfl rfl (W66 _ _) rfl (fun y27 hx28 h => ?_)
   refine rn 6 rfl ?_
   exact rt h rfl
  refine rn 8 rfl ?_
  exact rt h rfl
 refine rn 21 rfl ?_
 exact rt h rfl
theorem W42 (F : Nat) (a1 : Thistory_week) (a2 : Int) (r : Int) (h : M42 F a1 a2 = some r) : PureG (gl mx) Tryd.prog 42 [(V.agg [(bV (a1.free 0)), (bV (a1.free 1)), (bV (a1.free 2)), (bV (a1.free 3)), (bV (a1.free 4)), (bV (a1.free 5)), (bV (a1.free 6)), (iV a1.work), (V.lst 1 (a1.holidays.map encI_i64))]), (iV a2)] (iV r) := by
 refine pin (fun r => (iV r)) r rfl Tryd.func42 rfl rfl rfl rfl rfl (fun w0 m0 hg => ?_)
 unfold M42 at h
 refine rn 21 rfl ?_
 refine jK h (fun (p : Int) => (⟨[(1, (iV a2)), (2, (V.ptr 0 9 0 0)), (5, (iV p))], [(0, (Ob.arr 85 9 [[(bV (a1.free 0)), (bV (a1.free 1)), (bV (a1.free 2)), (bV (a1.free 3)), (bV (a1.free 4)), (bV (a1.free 5)), (bV (a1.free 6)), (iV a1.work), (V.lst 1 (a1.holidays.map encI_i64))]]))], 1⟩ : St)) (fun k3 p => k3 p = some r) (fun k3 h => ?_) ?_
 ·refine rn 1 rfl ?_
  refine ck h (fun hA14 h => ?_)
  refine lC (fun (p : Int × Int) => (⟨[(1, (iV a2)), (2, (V.ptr 0 9 0 0)), (5, (iV (p.1))), (15, (iV (Int.tmod a2 7))), (16, (iV (p.2)))], [(0, (Ob.arr 85 9 [[(bV (a1.free 0)), (bV (a1.free 1)), (bV (a1.free 2)), (bV (a1.free 3)), (bV (a1.free 4)), (bV (a1.free 5)), (bV (a1.free 6)), (iV a1.work), (V.lst 1 (a1.holidays.map encI_i64))]]))], 1⟩ : St)) (fun n p => RC (Int.tmod a2 7) (fun tl nn => M42_L1 F a1 k3 tl nn p.1 = some r) n p.2) (fun p h => RC.zero h) (Int.toNat (Int.tmod a2 7) + 1) ((w64 ((w64 (Int.tdiv a2 7)) * a1.work)), 0) (RC.start h) (gr [0] rfl (hB rfl rfl rfl .nil) rfl) (fun n p h => ?_)
  obtain ⟨n7, n8⟩ := p
  refine rn 5 rfl ?_
  refine spL rfl (fun hb9 => ?_) (fun hb9 => ?_)
  ·obtain ⟨tl, h, hk1⟩ := RC.t hA14 h hb9
   unfold M42_L1 at h
   refine rn 12 rfl ?_
   refine ck h (fun hc10 h => ?_)
   refine aops_index_arr tArr83 wants_none rfl rfl hc10.1 hc10.2 rfl ?_
   refine aops_load_cell (bV (a1.free n8.toNat)) tC4 wants_none rfl rfl rfl (arr_get [] [(iV a1.work), (V.lst 1 (a1.holidays.map encI_i64))] (fun i => (bV (a1.free i))) hc10.2 rfl (by simp)) rfl rfl ?_
   refine fo (rn 2 rfl ?_)
   refine jK h (fun (p : Int) => (⟨[(1, (iV a2)), (2, (V.ptr 0 9 0 0)), (5, (iV p)), (15, (iV (Int.tmod a2 7))), (16, (iV n8))], [(0, (Ob.arr 85 9 [[(bV (a1.free 0)), (bV (a1.free 1)), (bV (a1.free 2)), (bV (a1.free 3)), (bV (a1.free 4)), (bV (a1.free 5)), (bV (a1.free 6)), (iV a1.work), (V.lst 1 (a1.holidays.map encI_i64))]]))], 1⟩ : St)) (fun k11 p => k11 p = some r) (fun k11 h => ?_) ?_
   ·refine spC h rfl (fun hb13 h => ?_) (fun hb13 h => ?_)
    ·refine rn 5 rfl ?_
     exact jX (w64 (n7 + 1)) h (gr [0] rfl (hB rfl rfl rfl .nil) rfl)
    refine rn 1 rfl ?_
    exact jX n7 h (gr [0] rfl (hB rfl rfl rfl .nil) rfl)
   intro n12 h
   refine rn 5 rfl ?_
   exact jX (n12, (w64 (n8 + 1))) (hk1 _ h) (gr [0] rfl (hB rfl rfl rfl .nil) rfl)
  replace h := RC.f h hb9
  unfold M42_L1 at h
  refine rn 1 rfl ?_
  exact jX n7 h (gr [0] rfl (hB rfl rfl rfl .nil) rfl)
 intro n4 h
 refine rn 5 rfl ?_
 refine cl h rfl rfl rfl (W53 _ _ _) rfl (fun y15 hx16 h => ?_)
 refine rn 13 rfl ?_
 exact rt h rfl
theorem W20 (F : Nat) (a1 : TCalendar) (a2 : Int) (a3 : Int) (r : (Int × Int)) (h : M20 F a1 a2 a3 = some r) : PureG (gl mx) Tryd.prog 20 [(V.agg (encTCalendar a1)), (iV a2), (iV a3)] (V.tup [(iV (r.1)), (iV (r.2))]) := by
 refine pin (fun r => (V.tup [(iV (r.1)), (iV (r.2))])) r rfl Tryd.func20 rfl rfl rfl rfl rfl (fun w0 m0 hg => ?_)
 unfold M20 at h
 refine rn 10 rfl ?_
 refine cl h rfl rfl rfl (W40 _ _) rfl (fun y4 hx5 h => ?_)
 refine rn 7 rfl ?_
 refine spC h rfl (fun hb6 h => ?_) (fun hb6 h => ?_)
 ·refine rn 6 rfl ?_
  exact rt h rfl
 refine rn 5 rfl ?_
 refine cl h rfl rfl rfl (W31 _ _) rfl (fun y7 hx8 h => ?_)
 refine rn 2 rfl ?_
 refine spO 18 h rfl (fun hb9 h => ?_) (fun hb9 h => ?_)
 ·refine rn 16 rfl ?_
  exact rt h rfl
 refine rn 1 rfl ?_
 refine cl h rfl rfl rfl (W31 _ _) rfl (fun y10 hx11 h => ?_)
 refine rn 3 rfl ?_
 refine spO 23 h rfl (fun hb12 h => ?_) (fun hb12 h => ?_)
 ·refine rn 11 rfl ?_
  exact rt h rfl
 refine rn 5 rfl ?_
 refine spC h rfl (fun hb13 h => ?_) (fun hb13 h => ?_)
 ·refine rn 5 rfl ?_
  exact rt h rfl
 refine rn 4 rfl ?_
 refine cl h rfl rfl rfl (W41 _ _) rfl (fun y14 hx15 h => ?_)
 obtain ⟨y16, hx17, h⟩ := bind_some h
 obtain ⟨y18, hx19, h⟩ := bind_some h
 refine rn 4 rfl ?_
 refine dr mixed (vs 2 rfl (cD rfl rfl rfl rfl (W42 _ _ _ _ hx17) rfl (vs 2 rfl (cD rfl rfl rfl rfl (W42 _ _ _ _ hx19) rfl (vs 3 rfl .nil))))) (by kernel_rfl) ?_
 exact rt h rfl
theorem W8 (F : Nat) (r : Bool) (h : M8 F  = some r) : PureG (gl mx) Tryd.prog 8 [] (bV r) := by
 refine pin (fun r => (bV r)) r rfl Tryd.func8 rfl rfl rfl rfl rfl (fun w0 m0 hg => ?_)
 unfold M8 at h
 refine rn 6 rfl ?_
 refine aops_buildSlice [(0, (iV 5)), (1, (iV 6))] [[(iV 5)], [(iV 6)]] tEl39 tZ3 rfl rfl rfl rfl wants_none (evp_cons rfl (evp_cons rfl evp_nil)) rfl rfl (by simp) rfl ?_
 obtain ⟨y1, hx2, h⟩ := bind_some h
 refine fo (rn 1 rfl ?_)
 refine aops_lend_call (V.tup [(iV (y1.1)), (iV (y1.2))]) [(V.agg [(V.lst 1 (([5, 6] : List Int).map encI_i64)), (V.lst 1 (([] : List Int).map encI_i64))]), (iV 0), (iV 14)] fOk20 (Ghost.trans (ghost_frzV 0 5 (V.agg [(V.lst 1 (([5, 6] : List Int).map encI_i64)), nV]) rfl (imms_rows (.cons (.cons (Imm.con _) .nil) (.cons (.cons (Imm.con _) .nil) .nil))) rfl (Sub.agg (.cons (Sub.frzAll (rows := ([5, 6] : List Int).map encI_i64) rfl) (.cons Sub.keep .nil)))) (ghost_tell 5 (V.agg [(V.lst 1 (([5, 6] : List Int).map encI_i64)), (V.lst 1 (([] : List Int).map encI_i64))]) rfl (Sub.agg (.cons Sub.keepI (.cons (Sub.nil _) .nil))))) (Flat.tup (by simp)) wants_none (evm_cons rfl (evm_cons rfl (evm_cons rfl evm_nil))) (.cons (Imm.agg (.cons (Imm.lst _ _) (.cons (Imm.lst _ _) .nil))) (.cons (Imm.con _) (.cons (Imm.con _) .nil))) (W20 F (TCalendar.mk ([5, 6] : List Int) ([] : List Int)) 0 14 y1 hx2) rfl ?_
 refine fo (rn 11 rfl ?_)
 refine spO 11 h rfl (fun hb3 h => ?_) (fun hb3 h => ?_)
 ·refine rn 5 rfl ?_
  exact rt h rfl
 refine rn 5 rfl ?_
 exact rt h rfl
end Go.Proofs.YtcoppoeibjkinaaDoor
