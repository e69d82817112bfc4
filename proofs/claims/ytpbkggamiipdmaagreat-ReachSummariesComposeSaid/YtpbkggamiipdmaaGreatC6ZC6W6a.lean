/- Part of the proof: ZC6W6a. -/
import Derived.Test.YtpbkggamiipdmaaGreatC6PvX
import Derived.Test.YtpbkggamiipdmaaGreatC6ZC6Sh
import Derived.Test.YtpbkggamiipdmaaGreatC6ZP6c
import Derived.KernelRfl
namespace Go.Proofs.YtpbkggamiipdmaaGreat
open Go Go.Pv
set_option linter.unusedVariables false
set_option maxRecDepth 100000
theorem W59 (F : Nat) (a1 : q1c) (a2 : Bool) (r : q9b) (h : M59 F a1 a2 = some r) : Pure Tryz.prog 59 [(V.agg (q3c a1)), (bV a2)] (V.agg (q9c r)) := by
 refine pin (fun r => (V.agg (q9c r))) r rfl Tryz.func59 rfl rfl rfl rfl rfl (fun w0 m0 hg => ?_)
 unfold M59 at h
 refine rn 20 rfl ?_
 refine ln rfl rfl ?_
 refine rn 2 rfl ?_
 refine jK h (fun (p : (List ((List UInt8) × q2d))) => (⟨[(2, (V.ptr 0 4 0 0)), (4, (V.ptr 1 4 0 0)), (5, (V.ptr 2 4 0 0))], [(0, (Ob.arr 27 4 [(q3c a1)])), (1, (Ob.arr 124 4 [[(bV false), (V.con (.map none)), (V.con (.map none)), (V.con (.map none))]])), (2, (Ob.arr 124 4 [[(bV a2), (V.map 3), (V.map 4), (V.map 5)]])), (3, (Ob.map (p.map q4j))), (4, (Ob.map (([] : List ((List UInt8) × Bool)).map q5b))), (5, (Ob.map (([] : List ((List UInt8) × Bool)).map q5b)))], 6⟩ : St)) (fun k3 p => k3 p = some r) (fun k3 h => ?_) ?_
 ·refine rn 1 rfl ?_
  refine wl (A := a1.Ifaces) 18 rfl (fun hA12 => ?_)
  refine lC (fun (p : Int × (List ((List UInt8) × q2d))) => (⟨[(2, (V.ptr 0 4 0 0)), (4, (V.ptr 1 4 0 0)), (5, (V.ptr 2 4 0 0)), (18, (V.lst 2 (a1.Ifaces.map q8b))), (19, (iV ((a1.Ifaces.length : Nat) : Int))), (20, (iV (p.1)))], [(0, (Ob.arr 27 4 [(q3c a1)])), (1, (Ob.arr 124 4 [[(bV false), (V.con (.map none)), (V.con (.map none)), (V.con (.map none))]])), (2, (Ob.arr 124 4 [[(bV a2), (V.map 3), (V.map 4), (V.map 5)]])), (3, (Ob.map ((p.2).map q4j))), (4, (Ob.map (([] : List ((List UInt8) × Bool)).map q5b))), (5, (Ob.map (([] : List ((List UInt8) × Bool)).map q5b)))], 6⟩ : St)) (fun n p => RG a1.Ifaces (fun tl nn => M59_L1 F k3 tl p.2 = some r) n p.1) (fun p h => RG.zero h) (a1.Ifaces.length + 1) (0, ([] : List ((List UInt8) × q2d))) (RG.start h) (gr [0, 1, 5, 2, 3, 4] rfl (hB rfl rfl rfl (hB rfl rfl rfl (hB rfl rfl rfl (hM rfl rfl (hM rfl rfl (hM rfl rfl .nil)))))) rfl) (fun n p h => ?_)
  obtain ⟨n7, m8⟩ := p
  refine rn 5 rfl ?_
  refine spL rfl (fun hb9 => ?_) (fun hb9 => ?_)
  ·obtain ⟨x10, tl, hx11, h, hk1⟩ := RG.t hA12 h hb9
   unfold M59_L1 at h
   refine rn 5 rfl ?_
   refine ixh hx11 rfl rfl ?_
   refine rn 10 rfl ?_
   refine q0e (es := m8.map q4j) ((mput m8 x10.Name x10).map q4j) tMap122 tKey9 q4a rfl rfl (.con rfl) ⟨_, rfl⟩ encM9_98_good rfl (encM9_98_puts m8 x10.Name x10) ?_
   refine fo (rn 6 rfl ?_)
   exact jX ((w64 (n7 + 1)), (mput m8 x10.Name x10)) (hk1 _ h) (gr [0, 1, 2, 3, 4, 5] rfl (hB rfl rfl rfl (hB rfl rfl rfl (hB rfl rfl rfl (hM rfl rfl (hM rfl rfl (hM rfl rfl .nil)))))) rfl)
  replace h := RG.f h hb9
  unfold M59_L1 at h
  refine rn 1 rfl ?_
  exact jX m8 h (gr [0, 1, 2, 3, 4, 5] rfl (hB rfl rfl rfl (hB rfl rfl rfl (hB rfl rfl rfl (hM rfl rfl (hM rfl rfl (hM rfl rfl .nil)))))) rfl)
 intro m4 h
 refine rn 5 rfl ?_
 refine ln rfl rfl ?_
 refine rn 2 rfl ?_
 refine jK h (fun (p : (List ((List UInt8) × Bool))) => (⟨[(2, (V.ptr 0 4 0 0)), (4, (V.ptr 1 4 0 0)), (5, (V.ptr 2 4 0 0))], [(0, (Ob.arr 27 4 [(q3c a1)])), (1, (Ob.arr 124 4 [[(bV false), (V.con (.map none)), (V.con (.map none)), (V.con (.map none))]])), (2, (Ob.arr 124 4 [[(bV a2), (V.map 3), (V.map 4), (V.map 5)]])), (3, (Ob.map (m4.map q4j))), (4, (Ob.map (p.map q5b))), (5, (Ob.map (([] : List ((List UInt8) × Bool)).map q5b)))], 6⟩ : St)) (fun k13 p => k13 p = some r) (fun k13 h => ?_) ?_
 ·refine rn 1 rfl ?_
  refine wl (A := a1.Types) 31 rfl (fun hA22 => ?_)
  refine lC (fun (p : Int × (List ((List UInt8) × Bool))) => (⟨[(2, (V.ptr 0 4 0 0)), (4, (V.ptr 1 4 0 0)), (5, (V.ptr 2 4 0 0)), (31, (V.lst 2 (a1.Types.map q1d))), (32, (iV ((a1.Types.length : Nat) : Int))), (33, (iV (p.1)))], [(0, (Ob.arr 27 4 [(q3c a1)])), (1, (Ob.arr 124 4 [[(bV false), (V.con (.map none)), (V.con (.map none)), (V.con (.map none))]])), (2, (Ob.arr 124 4 [[(bV a2), (V.map 3), (V.map 4), (V.map 5)]])), (3, (Ob.map (m4.map q4j))), (4, (Ob.map ((p.2).map q5b))), (5, (Ob.map (([] : List ((List UInt8) × Bool)).map q5b)))], 6⟩ : St)) (fun n p => RG a1.Types (fun tl nn => M59_L2 F k13 tl p.2 = some r) n p.1) (fun p h => RG.zero h) (a1.Types.length + 1) (0, ([] : List ((List UInt8) × Bool))) (RG.start h) (gr [0, 1, 2, 3, 4, 5] rfl (hB rfl rfl rfl (hB rfl rfl rfl (hB rfl rfl rfl (hM rfl rfl (hM rfl rfl (hM rfl rfl .nil)))))) rfl) (fun n p h => ?_)
  obtain ⟨n17, m18⟩ := p
  refine rn 5 rfl ?_
  refine spL rfl (fun hb19 => ?_) (fun hb19 => ?_)
  ·obtain ⟨x20, tl, hx21, h, hk2⟩ := RG.t hA22 h hb19
   unfold M59_L2 at h
   refine rn 5 rfl ?_
   refine ixh hx21 rfl rfl ?_
   refine rn 9 rfl ?_
   refine q0e (es := m18.map q5b) ((mput m18 x20.Name true).map q5b) q2k tKey9 q4a rfl rfl (.con rfl) ⟨_, rfl⟩ q6e rfl (q4i m18 x20.Name true) ?_
   refine fo (rn 6 rfl ?_)
   exact jX ((w64 (n17 + 1)), (mput m18 x20.Name true)) (hk2 _ h) (gr [0, 1, 2, 3, 4, 5] rfl (hB rfl rfl rfl (hB rfl rfl rfl (hB rfl rfl rfl (hM rfl rfl (hM rfl rfl (hM rfl rfl .nil)))))) rfl)
  replace h := RG.f h hb19
  unfold M59_L2 at h
  refine rn 1 rfl ?_
  exact jX m18 h (gr [0, 1, 2, 3, 4, 5] rfl (hB rfl rfl rfl (hB rfl rfl rfl (hB rfl rfl rfl (hM rfl rfl (hM rfl rfl (hM rfl rfl .nil)))))) rfl)
 intro m14 h
 refine rn 5 rfl ?_
 refine ln rfl rfl ?_
 refine rn 2 rfl ?_
 refine jK h (fun (p : (List ((List UInt8) × Bool))) => (⟨[(4, (V.ptr 0 4 0 0)), (5, (V.ptr 1 4 0 0))], [(0, (Ob.arr 124 4 [[(bV false), (V.con (.map none)), (V.con (.map none)), (V.con (.map none))]])), (1, (Ob.arr 124 4 [[(bV a2), (V.map 2), (V.map 3), (V.map 4)]])), (2, (Ob.map (m4.map q4j))), (3, (Ob.map (m14.map q5b))), (4, (Ob.map (p.map q5b)))], 5⟩ : St)) (fun k23 p => k23 p = some r) (fun k23 h => ?_) ?_
 ·refine rn 1 rfl ?_
  refine wl (A := a1.Funcs) 43 rfl (fun hA32 => ?_)
  refine lC (fun (p : Int × (List ((List UInt8) × Bool))) => (⟨[(4, (V.ptr 0 4 0 0)), (5, (V.ptr 1 4 0 0)), (43, (V.lst 4 (a1.Funcs.map q4c))), (44, (iV ((a1.Funcs.length : Nat) : Int))), (45, (iV (p.1)))], [(0, (Ob.arr 124 4 [[(bV false), (V.con (.map none)), (V.con (.map none)), (V.con (.map none))]])), (1, (Ob.arr 124 4 [[(bV a2), (V.map 2), (V.map 3), (V.map 4)]])), (2, (Ob.map (m4.map q4j))), (3, (Ob.map (m14.map q5b))), (4, (Ob.map ((p.2).map q5b)))], 5⟩ : St)) (fun n p => RG a1.Funcs (fun tl nn => M59_L3 F k23 tl p.2 = some r) n p.1) (fun p h => RG.zero h) (a1.Funcs.length + 1) (0, ([] : List ((List UInt8) × Bool))) (RG.start h) (gr [1, 2, 3, 4, 5] rfl (hB rfl rfl rfl (hB rfl rfl rfl (hM rfl rfl (hM rfl rfl (hM rfl rfl .nil))))) rfl) (fun n p h => ?_)
  obtain ⟨n27, m28⟩ := p
  refine rn 5 rfl ?_
  refine spL rfl (fun hb29 => ?_) (fun hb29 => ?_)
  ·obtain ⟨x30, tl, hx31, h, hk3⟩ := RG.t hA32 h hb29
   unfold M59_L3 at h
   refine rn 5 rfl ?_
   refine ixh hx31 rfl rfl ?_
   refine rn 9 rfl ?_
   refine q0e (es := m28.map q5b) ((mput m28 x30.Name true).map q5b) q2k tKey9 q4a rfl rfl (.con rfl) ⟨_, rfl⟩ q6e rfl (q4i m28 x30.Name true) ?_
   refine fo (rn 6 rfl ?_)
   exact jX ((w64 (n27 + 1)), (mput m28 x30.Name true)) (hk3 _ h) (gr [0, 1, 2, 3, 4] rfl (hB rfl rfl rfl (hB rfl rfl rfl (hM rfl rfl (hM rfl rfl (hM rfl rfl .nil))))) rfl)
  replace h := RG.f h hb29
  unfold M59_L3 at h
  refine rn 1 rfl ?_
  exact jX m28 h (gr [0, 1, 2, 3, 4] rfl (hB rfl rfl rfl (hB rfl rfl rfl (hM rfl rfl (hM rfl rfl (hM rfl rfl .nil))))) rfl)
 intro m24 h
 refine rn 5 rfl ?_
 refine q7c (q8j 2 0 (Ob.arr 124 4 [[(bV a2), (V.imap (m4.map q4j)), (V.map 3), (V.map 4)]]) rfl encM9_98_imm (ObSub.box (.cons Sub.keepM (.cons Sub.frzM (.cons Sub.keepM (.cons Sub.keepM .nil)))))) ?_
 refine q7c (q8j 3 0 (Ob.arr 124 4 [[(bV a2), (V.imap (m4.map q4j)), (V.imap (m14.map q5b)), (V.map 4)]]) rfl q6m (ObSub.box (.cons Sub.keepM (.cons Sub.keepM (.cons Sub.frzM (.cons Sub.keepM .nil)))))) ?_
 refine q7c (q8j 4 0 (Ob.arr 124 4 [[(bV a2), (V.imap (m4.map q4j)), (V.imap (m14.map q5b)), (V.imap (m24.map q5b))]]) rfl q6m (ObSub.box (.cons Sub.keepM (.cons Sub.keepM (.cons Sub.keepM (.cons Sub.frzM .nil)))))) ?_
 refine fa ?_
 exact rt h rfl
theorem W79 (F : Nat) (a1 : (List UInt8)) (r : Bool) (h : M79 F a1 = some r) : Pure Tryz.prog 79 [(sV a1)] (bV r) := by
 refine pin (fun r => (bV r)) r rfl Tryz.func79 rfl rfl rfl rfl rfl (fun w0 m0 hg => ?_)
 unfold M79 at h
 refine rn 11 rfl ?_
 refine jK h (fun _ : Unit => (⟨[(0, (sV a1))], [], 0⟩ : St)) (fun k2 (_ : Unit) => k2 = some r) (fun k2 h => ?_) ?_
 ·refine rn 1 rfl ?_
  refine ck h (fun hA15 h => ?_)
  refine lC (fun (p : Int) => (⟨[(0, (sV a1)), (5, (iV (a1.length : Int))), (6, (iV p))], [], 0⟩ : St)) (fun n p => RC (a1.length : Int) (fun tl nn => M79_L1 F a1 k2 tl nn = some r) n p) (fun p h => RC.zero h) (Int.toNat (a1.length : Int) + 1) 0 (RC.start h) (g0 rfl rfl) (fun n n4 h => ?_)
  refine rn 5 rfl ?_
  refine spL rfl (fun hb5 => ?_) (fun hb5 => ?_)
  ·obtain ⟨tl, h, hk1⟩ := RC.t hA15 h hb5
   unfold M79_L1 at h
   refine rn 12 rfl ?_
   refine ixs h rfl rfl (fun c6 hx7 h => ?_)
   refine rn 2 rfl ?_
   refine spO 13 h rfl (fun hb8 h => ?_) (fun hb8 h => ?_)
   ·refine rn 17 rfl ?_
    exact rt h rfl
   refine rn 2 rfl ?_
   refine ixs h rfl rfl (fun c9 hx10 h => ?_)
   refine rn 3 rfl ?_
   refine spO 19 h rfl (fun hb11 h => ?_) (fun hb11 h => ?_)
   ·refine rn 11 rfl ?_
    exact rt h rfl
   refine rn 2 rfl ?_
   refine ixs h rfl rfl (fun c12 hx13 h => ?_)
   refine rn 3 rfl ?_
   refine spC h rfl (fun hb14 h => ?_) (fun hb14 h => ?_)
   ·refine rn 4 rfl ?_
    exact rt h rfl
   refine rn 6 rfl ?_
   exact jX (w64 (n4 + 1)) (hk1 _ h) (g0 rfl rfl)
  replace h := RC.f h hb5
  unfold M79_L1 at h
  refine rn 1 rfl ?_
  exact jX () h (g0 rfl rfl)
 intro _ h
 refine rn 5 rfl ?_
 refine spO 28 h rfl (fun hb16 h => ?_) (fun hb16 h => ?_)
 ·refine rn 6 rfl ?_
  exact rt h rfl
 refine rn 6 rfl ?_
 exact rt h rfl
theorem W173 (F : Nat) (a1 : (List UInt8)) (a2 : (List UInt8)) (a3 : Bool) (r : Int) (h : M173 F a1 a2 a3 = some r) : Pure Tryz.prog 173 [(sV a1), (sV a2), (bV a3)] (iV r) := by
 refine pin (fun r => (iV r)) r rfl Tryz.func173 rfl rfl rfl rfl rfl (fun w0 m0 hg => ?_)
 unfold M173 at h
 refine rn 9 rfl ?_
 refine cl h rfl rfl rfl (W79 _ _) rfl (fun y4 hx5 h => ?_)
 refine rn 3 rfl ?_
 refine jK h (fun _ : Unit => (⟨[], [], 0⟩ : St)) (fun k6 (_ : Unit) => k6 = some r) (fun k6 h => ?_) ?_
 ·refine spC h rfl (fun hb7 h => ?_) (fun hb7 h => ?_)
  ·refine rn 4 rfl ?_
   exact rt h rfl
  refine rn 5 rfl ?_
  refine spO 14 h rfl (fun hb8 h => ?_) (fun hb8 h => ?_)
  ·refine rn 6 rfl ?_
   refine spC h rfl (fun hb9 h => ?_) (fun hb9 h => ?_)
   ·refine rn 4 rfl ?_
    exact rt h rfl
   refine rn 1 rfl ?_
   exact jX () h (g0 rfl rfl)
  refine rn 8 rfl ?_
  exact jX () h (g0 rfl rfl)
 intro _ h
 refine rn 5 rfl ?_
 exact rt h rfl
theorem W127 (F : Nat) (a1 : q9b) (a2 : (List q2d)) (r : Int) (h : M127 F a1 a2 = some r) : Pure Tryz.prog 127 [(V.agg (q9c a1)), (V.lst 2 (a2.map q8b))] (iV r) := by
 refine pin (fun r => (iV r)) r rfl Tryz.func127 rfl rfl rfl rfl rfl (fun w0 m0 hg => ?_)
 unfold M127 at h
 refine rn 13 rfl ?_
 refine ln rfl rfl ?_
 refine rn 2 rfl ?_
 refine jK h (fun _ : Unit => (⟨[], [], 0⟩ : St)) (fun k3 (_ : Unit) => k3 = some r) (fun k3 h => ?_) ?_
 ·refine rn 1 rfl ?_
  refine wl (A := a2) 1 rfl (fun hA30 => ?_)
  refine lC (fun (p : (List UInt8) × Int) => (⟨[(5, (sV (p.1))), (13, (V.lst 2 (a2.map q8b))), (14, (iV ((a2.length : Nat) : Int))), (15, (iV (p.2)))], [], 0⟩ : St)) (fun n p => RG a2 (fun tl nn => M127_L1 F k3 tl nn p.1 = some r) n p.2) (fun p h => RG.zero h) (a2.length + 1) (([] : List UInt8), 0) (RG.start h) (g0 rfl rfl) (fun n p h => ?_)
  obtain ⟨s6, n7⟩ := p
  refine rn 5 rfl ?_
  refine spL rfl (fun hb8 => ?_) (fun hb8 => ?_)
  ·obtain ⟨x11, tl, hx12, h, hk1⟩ := RG.t hA30 h hb8
   unfold M127_L1 at h
   refine rn 2 rfl ?_
   refine jK h (fun (p : (List UInt8)) => (⟨[(5, (sV p)), (13, (V.lst 2 (a2.map q8b))), (14, (iV ((a2.length : Nat) : Int))), (15, (iV n7))], [], 0⟩ : St)) (fun k9 p => k9 p = some r) (fun k9 h => ?_) ?_
   ·refine rn 4 rfl ?_
    refine ixh hx12 rfl rfl ?_
    refine rn 13 rfl ?_
    refine cl h rfl rfl rfl (W173 _ _ _ _) rfl (fun y13 hx14 h => ?_)
    refine rn 7 rfl ?_
    refine spC h rfl (fun hb15 h => ?_) (fun hb15 h => ?_)
    ·refine rn 5 rfl ?_
     exact rt h rfl
    refine rn 13 rfl ?_
    refine ln rfl rfl ?_
    refine rn 3 rfl ?_
    refine spC h rfl (fun hb16 h => ?_) (fun hb16 h => ?_)
    ·refine rn 4 rfl ?_
     exact rt h rfl
    refine rn 4 rfl ?_
    refine ln rfl rfl ?_
    refine rn 3 rfl ?_
    refine spC h rfl (fun hb17 h => ?_) (fun hb17 h => ?_)
    ·refine rn 4 rfl ?_
     exact rt h rfl
    refine rn 10 rfl ?_
    refine ln rfl rfl ?_
    refine rn 2 rfl ?_
    refine jK h (fun _ : Unit => (⟨[(5, (sV x11.Name)), (13, (V.lst 2 (a2.map q8b))), (14, (iV ((a2.length : Nat) : Int))), (15, (iV n7))], [], 0⟩ : St)) (fun k18 (_ : Unit) => k18 = some r) (fun k18 h => ?_) ?_
    ·refine rn 1 rfl ?_
     refine wl (A := x11.Methods) 33 rfl (fun hA29 => ?_)
     refine lC (fun (p : (List UInt8) × Int) => (⟨[(5, (sV x11.Name)), (9, (sV (p.1))), (13, (V.lst 2 (a2.map q8b))), (14, (iV ((a2.length : Nat) : Int))), (15, (iV n7)), (42, (V.lst 1 (x11.Methods.map encS))), (43, (iV ((x11.Methods.length : Nat) : Int))), (44, (iV (p.2)))], [], 0⟩ : St)) (fun n p => RG x11.Methods (fun tl nn => M127_L2 F k18 tl nn p.1 = some r) n p.2) (fun p h => RG.zero h) (x11.Methods.length + 1) (([] : List UInt8), 0) (RG.start h) (g0 rfl rfl) (fun n p h => ?_)
     obtain ⟨s21, n22⟩ := p
     refine rn 5 rfl ?_
     refine spL rfl (fun hb23 => ?_) (fun hb23 => ?_)
     ·obtain ⟨x24, tl, hx25, h, hk2⟩ := RG.t hA29 h hb23
      unfold M127_L2 at h
      refine rn 6 rfl ?_
      refine ixh hx25 rfl rfl ?_
      refine rn 11 rfl ?_
      refine cl h rfl rfl rfl (W173 _ _ _ _) rfl (fun y26 hx27 h => ?_)
      refine rn 7 rfl ?_
      refine spC h rfl (fun hb28 h => ?_) (fun hb28 h => ?_)
      ·refine rn 5 rfl ?_
       exact rt h rfl
      refine rn 10 rfl ?_
      exact jX (x24, (w64 (n22 + 1))) (hk2 _ h) (g0 rfl rfl)
     replace h := RG.f h hb23
     unfold M127_L2 at h
     refine rn 1 rfl ?_
     exact jX () h (g0 rfl rfl)
    intro _ h
    refine rn 1 rfl ?_
    exact jX x11.Name h (g0 rfl rfl)
   intro s10 h
   refine rn 4 rfl ?_
   exact jX (s10, (w64 (n7 + 1))) (hk1 _ h) (g0 rfl rfl)
  replace h := RG.f h hb8
  unfold M127_L1 at h
  refine rn 1 rfl ?_
  exact jX () h (g0 rfl rfl)
 intro _ h
 refine rn 4 rfl ?_
 exact rt h rfl
theorem W128 (F : Nat) (a1 : q9b) (a2 : (List TType)) (r : Int) (h : M128 F a1 a2 = some r) : Pure Tryz.prog 128 [(V.agg (q9c a1)), (V.lst 2 (a2.map q1d))] (iV r) := by
 refine pin (fun r => (iV r)) r rfl Tryz.func128 rfl rfl rfl rfl rfl (fun w0 m0 hg => ?_)
 unfold M128 at h
 refine rn 13 rfl ?_
 refine ln rfl rfl ?_
 refine rn 2 rfl ?_
 refine jK h (fun _ : Unit => (⟨[], [], 0⟩ : St)) (fun k3 (_ : Unit) => k3 = some r) (fun k3 h => ?_) ?_
 ·refine rn 1 rfl ?_
  refine wl (A := a2) 1 rfl (fun hA33 => ?_)
  refine lC (fun (p : (List UInt8) × Int) => (⟨[(2, (V.ptr 0 4 0 0)), (5, (sV (p.1))), (13, (V.lst 2 (a2.map q1d))), (14, (iV ((a2.length : Nat) : Int))), (15, (iV (p.2)))], [(0, (Ob.arr 124 4 [(q9c a1)]))], 1⟩ : St)) (fun n p => RG a2 (fun tl nn => M128_L1 F a1 k3 tl nn p.1 = some r) n p.2) (fun p h => RG.zero h) (a2.length + 1) (([] : List UInt8), 0) (RG.start h) (gr [0] rfl (hB rfl rfl rfl .nil) rfl) (fun n p h => ?_)
  obtain ⟨s6, n7⟩ := p
  refine rn 5 rfl ?_
  refine spL rfl (fun hb8 => ?_) (fun hb8 => ?_)
  ·obtain ⟨x11, tl, hx12, h, hk1⟩ := RG.t hA33 h hb8
   unfold M128_L1 at h
   refine rn 2 rfl ?_
   refine jK h (fun (p : (List UInt8)) => (⟨[(2, (V.ptr 0 4 0 0)), (5, (sV p)), (13, (V.lst 2 (a2.map q1d))), (14, (iV ((a2.length : Nat) : Int))), (15, (iV n7))], [(0, (Ob.arr 124 4 [(q9c a1)]))], 1⟩ : St)) (fun k9 p => k9 p = some r) (fun k9 h => ?_) ?_
   ·refine rn 4 rfl ?_
    refine ixh hx12 rfl rfl ?_
    refine rn 13 rfl ?_
    refine cl h rfl rfl rfl (W173 _ _ _ _) rfl (fun y13 hx14 h => ?_)
    refine rn 7 rfl ?_
    refine spC h rfl (fun hb15 h => ?_) (fun hb15 h => ?_)
    ·refine rn 5 rfl ?_
     exact rt h rfl
    refine rn 12 rfl ?_
    refine ln rfl rfl ?_
    refine rn 2 rfl ?_
    refine spC h rfl (fun hb16 h => ?_) (fun hb16 h => ?_)
    ·refine rn 4 rfl ?_
     exact rt h rfl
    refine rn 9 rfl ?_
    refine ln rfl rfl ?_
    refine rn 2 rfl ?_
    refine jK h (fun _ : Unit => (⟨[(2, (V.ptr 0 4 0 0)), (5, (sV x11.Name)), (13, (V.lst 2 (a2.map q1d))), (14, (iV ((a2.length : Nat) : Int))), (15, (iV n7))], [(0, (Ob.arr 124 4 [(q9c a1)]))], 1⟩ : St)) (fun k17 (_ : Unit) => k17 = some r) (fun k17 h => ?_) ?_
    ·refine rn 1 rfl ?_
     refine wl (A := x11.Methods) 32 rfl (fun hA32 => ?_)
     refine lC (fun (p : (List UInt8) × Int) => (⟨[(2, (V.ptr 0 4 0 0)), (5, (sV x11.Name)), (9, (sV (p.1))), (13, (V.lst 2 (a2.map q1d))), (14, (iV ((a2.length : Nat) : Int))), (15, (iV n7)), (36, (V.lst 2 (x11.Methods.map q6g))), (37, (iV ((x11.Methods.length : Nat) : Int))), (38, (iV (p.2)))], [(0, (Ob.arr 124 4 [(q9c a1)]))], 1⟩ : St)) (fun n p => RG x11.Methods (fun tl nn => M128_L2 F a1 k17 tl nn p.1 = some r) n p.2) (fun p h => RG.zero h) (x11.Methods.length + 1) (([] : List UInt8), 0) (RG.start h) (gr [0] rfl (hB rfl rfl rfl .nil) rfl) (fun n p h => ?_)
     obtain ⟨s20, n21⟩ := p
     refine rn 5 rfl ?_
     refine spL rfl (fun hb22 => ?_) (fun hb22 => ?_)
     ·obtain ⟨x25, tl, hx26, h, hk2⟩ := RG.t hA32 h hb22
      unfold M128_L2 at h
      refine rn 2 rfl ?_
      refine jK h (fun (p : (List UInt8)) => (⟨[(2, (V.ptr 0 4 0 0)), (5, (sV x11.Name)), (9, (sV p)), (13, (V.lst 2 (a2.map q1d))), (14, (iV ((a2.length : Nat) : Int))), (15, (iV n7)), (36, (V.lst 2 (x11.Methods.map q6g))), (37, (iV ((x11.Methods.length : Nat) : Int))), (38, (iV n21))], [(0, (Ob.arr 124 4 [(q9c a1)]))], 1⟩ : St)) (fun k23 p => k23 p = some r) (fun k23 h => ?_) ?_
      ·refine rn 4 rfl ?_
       refine ixh hx26 rfl rfl ?_
       refine rn 13 rfl ?_
       refine cl h rfl rfl rfl (W173 _ _ _ _) rfl (fun y27 hx28 h => ?_)
       refine rn 7 rfl ?_
       refine spC h rfl (fun hb29 h => ?_) (fun hb29 h => ?_)
       ·refine rn 5 rfl ?_
        exact rt h rfl
       refine rn 13 rfl ?_
       refine spO 57 h rfl (fun hb30 h => ?_) (fun hb30 h => ?_)
       ·refine rn 4 rfl ?_
        refine q3e _ (bV false) (bV ((mget a1.funcs x25.Func).getD false)) q2k tKey9 tZo4 (q3g _) (q4k (c := true) (b := true) 57 rfl rfl rfl) rfl .imm (.con rfl) ⟨_, rfl⟩ q6e (q3h a1.funcs x25.Func) (q1f (q0g) (mget a1.funcs x25.Func) false) rfl ?_
        refine fo (rn 3 rfl ?_)
        refine spC h rfl (fun hb31 h => ?_) (fun hb31 h => ?_)
        ·refine rn 4 rfl ?_
         exact rt h rfl
        refine rn 2 rfl ?_
        exact jX x25.Name h (gr [0] rfl (hB rfl rfl rfl .nil) rfl)
       refine rn 11 rfl ?_
       exact jX x25.Name h (gr [0] rfl (hB rfl rfl rfl .nil) rfl)
      intro s24 h
      refine rn 4 rfl ?_
      exact jX (s24, (w64 (n21 + 1))) (hk2 _ h) (gr [0] rfl (hB rfl rfl rfl .nil) rfl)
     replace h := RG.f h hb22
     unfold M128_L2 at h
     refine rn 1 rfl ?_
     exact jX () h (gr [0] rfl (hB rfl rfl rfl .nil) rfl)
    intro _ h
    refine rn 1 rfl ?_
    exact jX x11.Name h (gr [0] rfl (hB rfl rfl rfl .nil) rfl)
   intro s10 h
   refine rn 4 rfl ?_
   exact jX (s10, (w64 (n7 + 1))) (hk1 _ h) (gr [0] rfl (hB rfl rfl rfl .nil) rfl)
  replace h := RG.f h hb8
  unfold M128_L1 at h
  refine rn 1 rfl ?_
  exact jX () h (g0 rfl rfl)
 intro _ h
 refine rn 4 rfl ?_
 exact rt h rfl
theorem W86 (F : Nat) (a1 : (List (List UInt8))) (a2 : (List UInt8)) (r : Int) (h : M86 F a1 a2 = some r) : Pure Tryz.prog 86 [(V.lst 1 (a1.map encS)), (sV a2)] (iV r) := by
 refine pin (fun r => (iV r)) r rfl Tryz.func86 rfl rfl rfl rfl rfl (fun w0 m0 hg => ?_)
 unfold M86 at h
 refine rn 8 rfl ?_
 refine ln rfl rfl ?_
 refine rn 2 rfl ?_
 refine jK h (fun _ : Unit => (⟨[], [], 0⟩ : St)) (fun k3 (_ : Unit) => k3 = some r) (fun k3 h => ?_) ?_
 ·refine rn 1 rfl ?_
  refine wl (A := a1) 0 rfl (fun hA10 => ?_)
  refine lC (fun (p : Int) => (⟨[(0, (V.lst 1 (a1.map encS))), (1, (sV a2)), (7, (iV ((a1.length : Nat) : Int))), (8, (iV p))], [], 0⟩ : St)) (fun n p => RG a1 (fun tl nn => M86_L1 F a2 k3 tl nn = some r) n p) (fun p h => RG.zero h) (a1.length + 1) 0 (RG.start h) (g0 rfl rfl) (fun n n5 h => ?_)
  refine rn 5 rfl ?_
  refine spL rfl (fun hb6 => ?_) (fun hb6 => ?_)
  ·obtain ⟨x7, tl, hx8, h, hk1⟩ := RG.t hA10 h hb6
   unfold M86_L1 at h
   refine rn 13 rfl ?_
   refine ixh hx8 rfl rfl ?_
   refine rn 3 rfl ?_
   refine spC h rfl (fun hb9 h => ?_) (fun hb9 h => ?_)
   ·refine rn 5 rfl ?_
    exact rt h rfl
   refine rn 6 rfl ?_
   exact jX (w64 (n5 + 1)) (hk1 _ h) (g0 rfl rfl)
  replace h := RG.f h hb6
  unfold M86_L1 at h
  refine rn 1 rfl ?_
  exact jX () h (g0 rfl rfl)
 intro _ h
 refine rn 4 rfl ?_
 exact rt h rfl
theorem W23 (F : Nat) (a1 : (List (List UInt8))) (a2 : (List UInt8)) (r : Bool) (h : M23 F a1 a2 = some r) : Pure Tryz.prog 23 [(V.lst 1 (a1.map encS)), (sV a2)] (bV r) := by
 refine pin (fun r => (bV r)) r rfl Tryz.func23 rfl rfl rfl rfl rfl (fun w0 m0 hg => ?_)
 unfold M23 at h
 refine rn 8 rfl ?_
 refine cl h rfl rfl rfl (W86 _ _ _) rfl (fun y3 hx4 h => ?_)
 refine rn 3 rfl ?_
 exact rt h rfl
theorem W174 (F : Nat) (a1 : q9b) (a2 : TCall) (r : Int) (h : M174 F a1 a2 = some r) : Pure Tryz.prog 174 [(V.agg (q9c a1)), (V.agg (q9d a2))] (iV r) := by
 refine pin (fun r => (iV r)) r rfl Tryz.func174 rfl rfl rfl rfl rfl (fun w0 m0 hg => ?_)
 unfold M174 at h
 refine rn 18 rfl ?_
 refine jK h (fun _ : Unit => (⟨[(3, (V.ptr 0 4 0 0))], [(0, (Ob.arr 109 4 [(q9d a2)]))], 1⟩ : St)) (fun k3 (_ : Unit) => k3 = some r) (fun k3 h => ?_) ?_
 ·refine spC h rfl (fun hb4 h => ?_) (fun hb4 h => ?_)
  ·refine rn 7 rfl ?_
   refine spO 14 h rfl (fun hb5 h => ?_) (fun hb5 h => ?_)
   ·refine rn 4 rfl ?_
    refine q3e _ (bV false) (bV ((mget a1.funcs a2.Target).getD false)) q2k tKey9 tZo4 (q3g _) (q4k (c := true) (b := true) 14 rfl rfl rfl) rfl .imm (.con rfl) ⟨_, rfl⟩ q6e (q3h a1.funcs a2.Target) (q1f (q0g) (mget a1.funcs a2.Target) false) rfl ?_
    refine fo (rn 3 rfl ?_)
    refine spC h rfl (fun hb6 h => ?_) (fun hb6 h => ?_)
    ·refine rn 4 rfl ?_
     exact rt h rfl
    refine rn 7 rfl ?_
    refine spC h rfl (fun hb7 h => ?_) (fun hb7 h => ?_)
    ·refine rn 4 rfl ?_
     exact rt h rfl
    refine rn 1 rfl ?_
    exact jX () h (gr [1] rfl (hB rfl rfl rfl .nil) rfl)
   refine rn 16 rfl ?_
   refine spC h rfl (fun hb8 h => ?_) (fun hb8 h => ?_)
   ·refine rn 4 rfl ?_
    exact rt h rfl
   refine rn 1 rfl ?_
   exact jX () h (gr [1] rfl (hB rfl rfl rfl .nil) rfl)
  refine rn 5 rfl ?_
  refine spC h rfl (fun hb9 h => ?_) (fun hb9 h => ?_)
  ·refine rn 6 rfl ?_
   refine q7h _ (V.agg [(sV ([] : List UInt8)), (V.lst 1 (([] : List (List UInt8)).map encS))]) (V.agg (q8b ((mget a1.ifaces a2.Target).getD (q2d.mk ([] : List UInt8) ([] : (List (List UInt8))))))) tMap122 tKey9 tZo98 (irel_aggZ (.con (.sl .nil))) q4a rfl .imm (.con rfl) ⟨_, rfl⟩ encM9_98_good (encM9_98_look a1.ifaces a2.Target) (q1f (encM9_98_val) (mget a1.ifaces a2.Target) (q2d.mk ([] : List UInt8) ([] : (List (List UInt8))))) (isSome_map ..) rfl ?_
   refine fo (rn 13 rfl ?_)
   refine spO 38 h rfl (fun hb10 h => ?_) (fun hb10 h => ?_)
   ·refine rn 3 rfl ?_
    refine spO 41 h rfl (fun hb11 h => ?_) (fun hb11 h => ?_)
    ·refine rn 14 rfl ?_
     exact rt h rfl
    refine rn 4 rfl ?_
    refine cl h rfl rfl rfl (W23 _ _ _) rfl (fun y12 hx13 h => ?_)
    refine rn 4 rfl ?_
    refine spC h rfl (fun hb14 h => ?_) (fun hb14 h => ?_)
    ·refine rn 4 rfl ?_
     exact rt h rfl
    refine rn 1 rfl ?_
    exact jX () h (gr [1] rfl (hB rfl rfl rfl .nil) rfl)
   refine rn 14 rfl ?_
   exact jX () h (gr [1] rfl (hB rfl rfl rfl .nil) rfl)
  refine rn 4 rfl ?_
  exact rt h rfl
 intro _ h
 refine rn 8 rfl ?_
 refine spO 53 h rfl (fun hb15 h => ?_) (fun hb15 h => ?_)
 ·refine rn 2 rfl ?_
  refine cl h rfl rfl rfl (W79 _ _) rfl (fun y16 hx17 h => ?_)
  refine rn 3 rfl ?_
  refine spC h rfl (fun hb18 h => ?_) (fun hb18 h => ?_)
  ·refine rn 4 rfl ?_
   exact rt h rfl
  refine rn 5 rfl ?_
  exact rt h rfl
 refine rn 12 rfl ?_
 exact rt h rfl
theorem W130 (F : Nat) (a1 : q9b) (a2 : (List (List UInt8))) (a3 : (List ((List UInt8) × Bool))) (r : Int) (h : M130 F a1 a2 a3 = some r) : Pure Tryz.prog 130 [(V.agg (q9c a1)), (V.lst 1 (a2.map encS)), (V.imap (a3.map q5b))] (iV r) := by
 refine pin (fun r => (iV r)) r rfl Tryz.func130 rfl rfl rfl rfl rfl (fun w0 m0 hg => ?_)
 unfold M130 at h
 refine rn 9 rfl ?_
 refine ln rfl rfl ?_
 refine rn 2 rfl ?_
 refine jK h (fun _ : Unit => (⟨[], [], 0⟩ : St)) (fun k4 (_ : Unit) => k4 = some r) (fun k4 h => ?_) ?_
 ·refine rn 1 rfl ?_
  refine wl (A := a2) 1 rfl (fun hA22 => ?_)
  refine lC (fun (p : Int) => (⟨[(1, (V.lst 1 (a2.map encS))), (2, (V.imap (a3.map q5b))), (3, (V.ptr 0 4 0 0)), (9, (V.lst 1 (a2.map encS))), (10, (iV ((a2.length : Nat) : Int))), (11, (iV p))], [(0, (Ob.arr 124 4 [(q9c a1)]))], 1⟩ : St)) (fun n p => RG a2 (fun tl nn => M130_L1 F a1 a2 a3 k4 tl nn = some r) n p) (fun p h => RG.zero h) (a2.length + 1) 0 (RG.start h) (gr [0] rfl (hB rfl rfl rfl .nil) rfl) (fun n n6 h => ?_)
  refine rn 5 rfl ?_
  refine spL rfl (fun hb7 => ?_) (fun hb7 => ?_)
  ·obtain ⟨x8, tl, hx9, h, hk1⟩ := RG.t hA22 h hb7
   unfold M130_L1 at h
   refine rn 6 rfl ?_
   refine ixh hx9 rfl rfl ?_
   refine rn 4 rfl ?_
   refine jK h (fun _ : Unit => (⟨[(1, (V.lst 1 (a2.map encS))), (2, (V.imap (a3.map q5b))), (3, (V.ptr 0 4 0 0)), (9, (V.lst 1 (a2.map encS))), (10, (iV ((a2.length : Nat) : Int))), (11, (iV n6))], [(0, (Ob.arr 124 4 [(q9c a1)]))], 1⟩ : St)) (fun k10 (_ : Unit) => k10 = some r) (fun k10 h => ?_) ?_
   ·refine rn 7 rfl ?_
    refine spO 20 h rfl (fun hb11 h => ?_) (fun hb11 h => ?_)
    ·refine rn 2 rfl ?_
     refine q3e _ (bV false) (bV ((mget a3 x8).getD false)) q2k tKey9 tZo4 (q3g _) (q4k (c := true) (b := true) 20 rfl rfl rfl) rfl .imm (.con rfl) ⟨_, rfl⟩ q6e (q3h a3 x8) (q1f (q0g) (mget a3 x8) false) rfl ?_
     refine fo (rn 4 rfl ?_)
     refine jK h (fun _ : Unit => (⟨[(1, (V.lst 1 (a2.map encS))), (2, (V.imap (a3.map q5b))), (3, (V.ptr 0 4 0 0)), (9, (V.lst 1 (a2.map encS))), (10, (iV ((a2.length : Nat) : Int))), (11, (iV n6)), (24, (bV (!((mget a3 x8).getD false))))], [(0, (Ob.arr 124 4 [(q9c a1)]))], 1⟩ : St)) (fun k12 (_ : Unit) => k12 = some r) (fun k12 h => ?_) ?_
     ·refine spC h rfl (fun hb13 h => ?_) (fun hb13 h => ?_)
      ·refine rn 4 rfl ?_
       exact rt h rfl
      refine rn 5 rfl ?_
      refine spO 29 h rfl (fun hb14 h => ?_) (fun hb14 h => ?_)
      ·refine rn 4 rfl ?_
       refine ixl h rfl rfl (fun x15 hx16 h => ?_)
       refine rn 5 rfl ?_
       refine spC h rfl (fun hb17 h => ?_) (fun hb17 h => ?_)
       ·refine rn 4 rfl ?_
        exact rt h rfl
       refine rn 1 rfl ?_
       exact jX () h (gr [0] rfl (hB rfl rfl rfl .nil) rfl)
      refine rn 12 rfl ?_
      exact jX () h (gr [0] rfl (hB rfl rfl rfl .nil) rfl)
     intro _ h
     refine rn 1 rfl ?_
     exact jX () h (gr [0] rfl (hB rfl rfl rfl .nil) rfl)
    refine rn 13 rfl ?_
    refine spO 29 h rfl (fun hb18 h => ?_) (fun hb18 h => ?_)
    ·refine rn 4 rfl ?_
     refine ixl h rfl rfl (fun x19 hx20 h => ?_)
     refine rn 5 rfl ?_
     refine spC h rfl (fun hb21 h => ?_) (fun hb21 h => ?_)
     ·refine rn 4 rfl ?_
      exact rt h rfl
     refine rn 2 rfl ?_
     exact jX () h (gr [0] rfl (hB rfl rfl rfl .nil) rfl)
    refine rn 13 rfl ?_
    exact jX () h (gr [0] rfl (hB rfl rfl rfl .nil) rfl)
   intro _ h
   refine rn 5 rfl ?_
   exact jX (w64 (n6 + 1)) (hk1 _ h) (gr [0] rfl (hB rfl rfl rfl .nil) rfl)
  replace h := RG.f h hb7
  unfold M130_L1 at h
  refine rn 1 rfl ?_
  exact jX () h (g0 rfl rfl)
 intro _ h
 refine rn 4 rfl ?_
 exact rt h rfl
theorem W129 (F : Nat) (a1 : q9b) (a2 : (List TFunc)) (r : Int) (h : M129 F a1 a2 = some r) : Pure Tryz.prog 129 [(V.agg (q9c a1)), (V.lst 4 (a2.map q4c))] (iV r) := by
 refine pin (fun r => (iV r)) r rfl Tryz.func129 rfl rfl rfl rfl rfl (fun w0 m0 hg => ?_)
 unfold M129 at h
 refine rn 13 rfl ?_
 refine ln rfl rfl ?_
 refine rn 2 rfl ?_
 refine jK h (fun _ : Unit => (⟨[], [], 0⟩ : St)) (fun k3 (_ : Unit) => k3 = some r) (fun k3 h => ?_) ?_
 ·refine rn 1 rfl ?_
  refine wl (A := a2) 1 rfl (fun hA33 => ?_)
  refine lC (fun (p : (List UInt8) × Int) => (⟨[(2, (V.ptr 0 4 0 0)), (5, (sV (p.1))), (13, (V.lst 4 (a2.map q4c))), (14, (iV ((a2.length : Nat) : Int))), (15, (iV (p.2)))], [(0, (Ob.arr 124 4 [(q9c a1)]))], 1⟩ : St)) (fun n p => RG a2 (fun tl nn => M129_L1 F a1 k3 tl nn p.1 = some r) n p.2) (fun p h => RG.zero h) (a2.length + 1) (([] : List UInt8), 0) (RG.start h) (gr [0] rfl (hB rfl rfl rfl .nil) rfl) (fun n p h => ?_)
  obtain ⟨s6, n7⟩ := p
  refine rn 5 rfl ?_
  refine spL rfl (fun hb8 => ?_) (fun hb8 => ?_)
  ·obtain ⟨x11, tl, hx12, h, hk1⟩ := RG.t hA33 h hb8
   unfold M129_L1 at h
   refine rn 2 rfl ?_
   refine jK h (fun (p : (List UInt8)) => (⟨[(2, (V.ptr 0 4 0 0)), (5, (sV p)), (13, (V.lst 4 (a2.map q4c))), (14, (iV ((a2.length : Nat) : Int))), (15, (iV n7))], [(0, (Ob.arr 124 4 [(q9c a1)]))], 1⟩ : St)) (fun k9 p => k9 p = some r) (fun k9 h => ?_) ?_
   ·refine rn 4 rfl ?_
    refine ixh hx12 rfl rfl ?_
    refine rn 13 rfl ?_
    refine cl h rfl rfl rfl (W173 _ _ _ _) rfl (fun y13 hx14 h => ?_)
    refine rn 7 rfl ?_
    refine spC h rfl (fun hb15 h => ?_) (fun hb15 h => ?_)
    ·refine rn 5 rfl ?_
     exact rt h rfl
    refine rn 13 rfl ?_
    refine cl h rfl rfl rfl (W79 _ _) rfl (fun y16 hx17 h => ?_)
    refine rn 3 rfl ?_
    refine spC h rfl (fun hb18 h => ?_) (fun hb18 h => ?_)
    ·refine rn 4 rfl ?_
     exact rt h rfl
    refine rn 4 rfl ?_
    refine ln rfl rfl ?_
    refine rn 3 rfl ?_
    refine spC h rfl (fun hb19 h => ?_) (fun hb19 h => ?_)
    ·refine rn 4 rfl ?_
     exact rt h rfl
    refine rn 7 rfl ?_
    refine ln rfl rfl ?_
    refine rn 2 rfl ?_
    refine jK h (fun _ : Unit => (⟨[(2, (V.ptr 0 4 0 0)), (5, (sV x11.Name)), (7, (V.ptr 1 4 0 0)), (13, (V.lst 4 (a2.map q4c))), (14, (iV ((a2.length : Nat) : Int))), (15, (iV n7))], [(0, (Ob.arr 124 4 [(q9c a1)])), (1, (Ob.arr 94 4 [(q4c x11)]))], 2⟩ : St)) (fun k20 (_ : Unit) => k20 = some r) (fun k20 h => ?_) ?_
    ·refine rn 1 rfl ?_
     refine wl (A := x11.Calls) 38 rfl (fun hA29 => ?_)
     refine lC (fun (p : Int) => (⟨[(2, (V.ptr 0 4 0 0)), (5, (sV x11.Name)), (7, (V.ptr 1 4 0 0)), (13, (V.lst 4 (a2.map q4c))), (14, (iV ((a2.length : Nat) : Int))), (15, (iV n7)), (42, (V.lst 4 (x11.Calls.map q9d))), (43, (iV ((x11.Calls.length : Nat) : Int))), (44, (iV p))], [(0, (Ob.arr 124 4 [(q9c a1)])), (1, (Ob.arr 94 4 [(q4c x11)]))], 2⟩ : St)) (fun n p => RG x11.Calls (fun tl nn => M129_L2 F a1 k20 tl = some r) n p) (fun p h => RG.zero h) (x11.Calls.length + 1) 0 (RG.start h) (gr [0, 1] rfl (hB rfl rfl rfl (hB rfl rfl rfl .nil)) rfl) (fun n n22 h => ?_)
     refine rn 5 rfl ?_
     refine spL rfl (fun hb23 => ?_) (fun hb23 => ?_)
     ·obtain ⟨x24, tl, hx25, h, hk2⟩ := RG.t hA29 h hb23
      unfold M129_L2 at h
      refine rn 5 rfl ?_
      refine ixh hx25 rfl rfl ?_
      refine rn 8 rfl ?_
      refine cl h rfl rfl rfl (W174 _ _ _) rfl (fun y26 hx27 h => ?_)
      refine rn 7 rfl ?_
      refine spC h rfl (fun hb28 h => ?_) (fun hb28 h => ?_)
      ·refine rn 5 rfl ?_
       exact rt h rfl
      refine rn 6 rfl ?_
      exact jX (w64 (n22 + 1)) (hk2 _ h) (gr [0, 1] rfl (hB rfl rfl rfl (hB rfl rfl rfl .nil)) rfl)
     replace h := RG.f h hb23
     unfold M129_L2 at h
     refine rn 1 rfl ?_
     exact jX () h (gr [0, 1] rfl (hB rfl rfl rfl (hB rfl rfl rfl .nil)) rfl)
    intro _ h
    refine rn 7 rfl ?_
    refine cl h rfl rfl rfl (W130 _ _ _ _) rfl (fun y30 hx31 h => ?_)
    refine rn 7 rfl ?_
    refine spC h rfl (fun hb32 h => ?_) (fun hb32 h => ?_)
    ·refine rn 5 rfl ?_
     exact rt h rfl
    refine rn 2 rfl ?_
    exact jX x11.Name h (gr [0] rfl (hB rfl rfl rfl .nil) rfl)
   intro s10 h
   refine rn 4 rfl ?_
   exact jX (s10, (w64 (n7 + 1))) (hk1 _ h) (gr [0] rfl (hB rfl rfl rfl .nil) rfl)
  replace h := RG.f h hb8
  unfold M129_L1 at h
  refine rn 1 rfl ?_
  exact jX () h (g0 rfl rfl)
 intro _ h
 refine rn 4 rfl ?_
 exact rt h rfl
theorem W60 (F : Nat) (a1 : q9b) (a2 : q1c) (r : Int) (h : M60 F a1 a2 = some r) : Pure Tryz.prog 60 [(V.agg (q9c a1)), (V.agg (q3c a2))] (iV r) := by
 refine pin (fun r => (iV r)) r rfl Tryz.func60 rfl rfl rfl rfl rfl (fun w0 m0 hg => ?_)
 unfold M60 at h
 refine rn 11 rfl ?_
 refine ln rfl rfl ?_
 refine rn 2 rfl ?_
 refine spO 12 h rfl (fun hb3 h => ?_) (fun hb3 h => ?_)
 ·refine rn 17 rfl ?_
  exact rt h rfl
 refine rn 2 rfl ?_
 refine ln rfl rfl ?_
 refine rn 3 rfl ?_
 refine spO 18 h rfl (fun hb4 h => ?_) (fun hb4 h => ?_)
 ·refine rn 11 rfl ?_
  exact rt h rfl
 refine rn 2 rfl ?_
 refine ln rfl rfl ?_
 refine rn 3 rfl ?_
 refine spC h rfl (fun hb5 h => ?_) (fun hb5 h => ?_)
 ·refine rn 4 rfl ?_
  exact rt h rfl
 refine rn 7 rfl ?_
 refine cl h rfl rfl rfl (W127 _ _ _) rfl (fun y6 hx7 h => ?_)
 refine rn 7 rfl ?_
 refine spC h rfl (fun hb8 h => ?_) (fun hb8 h => ?_)
 ·refine rn 5 rfl ?_
  exact rt h rfl
 refine rn 7 rfl ?_
 refine cl h rfl rfl rfl (W128 _ _ _) rfl (fun y9 hx10 h => ?_)
 refine rn 7 rfl ?_
 refine spC h rfl (fun hb11 h => ?_) (fun hb11 h => ?_)
 ·refine rn 5 rfl ?_
  exact rt h rfl
 refine rn 7 rfl ?_
 refine cl h rfl rfl rfl (W129 _ _ _) rfl (fun y12 hx13 h => ?_)
 refine rn 7 rfl ?_
 refine spC h rfl (fun hb14 h => ?_) (fun hb14 h => ?_)
 ·refine rn 5 rfl ?_
  exact rt h rfl
 refine rn 8 rfl ?_
 refine cl h rfl rfl rfl (W130 _ _ _ _) rfl (fun y15 hx16 h => ?_)
 refine rn 2 rfl ?_
 exact rt h rfl
theorem W17 (F : Nat) (a1 : q1c) (r : Int) (h : M17 F a1 = some r) : Pure Tryz.prog 17 [(V.agg (q3c a1))] (iV r) := by
 refine pin (fun r => (iV r)) r rfl Tryz.func17 rfl rfl rfl rfl rfl (fun w0 m0 hg => ?_)
 unfold M17 at h
 obtain ⟨y2, hx3, h⟩ := bind_some h
 obtain ⟨y4, hx5, h⟩ := bind_some h
 refine rn 6 rfl ?_
 refine dr mixed (vs 1 rfl (cD rfl rfl rfl rfl (W59 _ _ _ _ hx3) rfl (vs 1 rfl (cD rfl rfl rfl rfl (W60 _ _ _ _ hx5) rfl (vs 1 rfl .nil))))) (by kernel_rfl) ?_
 exact rt h rfl
theorem W143 (F : Nat) (a1 : (List (List UInt8))) (r : Int) (h : M143 F a1 = some r) : Pure Tryz.prog 143 [(V.lst 1 (a1.map encS))] (iV r) := by
 refine pin (fun r => (iV r)) r rfl Tryz.func143 rfl rfl rfl rfl rfl (fun w0 m0 hg => ?_)
 unfold M143 at h
 refine rn 8 rfl ?_
 refine ln rfl rfl ?_
 refine rn 2 rfl ?_
 refine spC h rfl (fun hb2 h => ?_) (fun hb2 h => ?_)
 ·refine rn 4 rfl ?_
  exact rt h rfl
 refine rn 9 rfl ?_
 refine ln rfl rfl ?_
 refine rn 2 rfl ?_
 refine jK h (fun _ : Unit => (⟨[], [], 0⟩ : St)) (fun k3 (_ : Unit) => k3 = some r) (fun k3 h => ?_) ?_
 ·refine rn 1 rfl ?_
  refine wl (A := a1) 0 rfl (fun hA14 => ?_)
  refine lC (fun (p : (List UInt8) × Int) => (⟨[(3, (sV (p.1))), (10, (V.lst 1 (a1.map encS))), (11, (iV ((a1.length : Nat) : Int))), (12, (iV (p.2)))], [], 0⟩ : St)) (fun n p => RG a1 (fun tl nn => M143_L1 F k3 tl nn p.1 = some r) n p.2) (fun p h => RG.zero h) (a1.length + 1) (([] : List UInt8), 0) (RG.start h) (g0 rfl rfl) (fun n p h => ?_)
  obtain ⟨s6, n7⟩ := p
  refine rn 5 rfl ?_
  refine spL rfl (fun hb8 => ?_) (fun hb8 => ?_)
  ·obtain ⟨x9, tl, hx10, h, hk1⟩ := RG.t hA14 h hb8
   unfold M143_L1 at h
   refine rn 6 rfl ?_
   refine ixh hx10 rfl rfl ?_
   refine rn 11 rfl ?_
   refine cl h rfl rfl rfl (W173 _ _ _ _) rfl (fun y11 hx12 h => ?_)
   refine rn 7 rfl ?_
   refine spC h rfl (fun hb13 h => ?_) (fun hb13 h => ?_)
   ·refine rn 5 rfl ?_
    exact rt h rfl
   refine rn 10 rfl ?_
   exact jX (x9, (w64 (n7 + 1))) (hk1 _ h) (g0 rfl rfl)
  replace h := RG.f h hb8
  unfold M143_L1 at h
  refine rn 1 rfl ?_
  exact jX () h (g0 rfl rfl)
 intro _ h
 refine rn 4 rfl ?_
 exact rt h rfl
theorem W158 (F : Nat) (a1 : (List UInt8)) (r : Bool) (h : M158 F a1 = some r) : Pure Tryz.prog 158 [(sV a1)] (bV r) := by
 refine pin (fun r => (bV r)) r rfl Tryz.func158 rfl rfl rfl rfl rfl (fun w0 m0 hg => ?_)
 unfold M158 at h
 refine rn 11 rfl ?_
 exact rt h rfl
theorem W100 (F : Nat) (a1 : (List UInt8)) (a2 : (List UInt8)) (r : Int) (h : M100 F a1 a2 = some r) : Pure Tryz.prog 100 [(sV a1), (sV a2)] (iV r) := by
 refine pin (fun r => (iV r)) r rfl Tryz.func100 rfl rfl rfl rfl rfl (fun w0 m0 hg => ?_)
 unfold M100 at h
 refine rn 7 rfl ?_
 refine cl h rfl rfl rfl (W158 _ _) rfl (fun y3 hx4 h => ?_)
 refine rn 5 rfl ?_
 refine cl h rfl rfl rfl (W158 _ _) rfl (fun y5 hx6 h => ?_)
 refine rn 7 rfl ?_
 refine spC h rfl (fun hb7 h => ?_) (fun hb7 h => ?_)
 ·refine rn 5 rfl ?_
  refine spC h rfl (fun hb8 h => ?_) (fun hb8 h => ?_)
  ·refine rn 4 rfl ?_
   exact rt h rfl
  refine rn 5 rfl ?_
  exact rt h rfl
 refine rn 6 rfl ?_
 refine spC h rfl (fun hb9 h => ?_) (fun hb9 h => ?_)
 ·refine rn 4 rfl ?_
  exact rt h rfl
 refine rn 8 rfl ?_
 refine spC h rfl (fun hb10 h => ?_) (fun hb10 h => ?_)
 ·refine rn 4 rfl ?_
  exact rt h rfl
 refine rn 8 rfl ?_
 refine spC h rfl (fun hb11 h => ?_) (fun hb11 h => ?_)
 ·refine rn 4 rfl ?_
  exact rt h rfl
 refine rn 5 rfl ?_
 exact rt h rfl
theorem W208 (F : Nat) (a1 : q8h) (a2 : (List UInt8)) (r : Int) (h : M208 F a1 a2 = some r) : Pure Tryz.prog 208 [(V.agg (q6g a1)), (sV a2)] (iV r) := by
 refine pin (fun r => (iV r)) r rfl Tryz.func208 rfl rfl rfl rfl rfl (fun w0 m0 hg => ?_)
 unfold M208 at h
 refine rn 10 rfl ?_
 refine cl h rfl rfl rfl (W100 _ _ _) rfl (fun y3 hx4 h => ?_)
 refine rn 2 rfl ?_
 exact rt h rfl
theorem W207 (F : Nat) (a1 : (List q8h)) (a2 : (List UInt8)) (r : (Int × Bool)) (h : M207 F a1 a2 = some r) : Pure Tryz.prog 207 [(V.lst 2 (a1.map q6g)), (sV a2), (V.fn (.func 208) [] [])] (V.tup [(iV (r.1)), (bV (r.2))]) := by
 refine pin (fun r => (V.tup [(iV (r.1)), (bV (r.2))])) r rfl Tryz.func207 rfl rfl rfl rfl rfl (fun w0 m0 hg => ?_)
 unfold M207 at h
 refine rn 8 rfl ?_
 refine ln rfl rfl ?_
 refine rn 9 rfl ?_
 refine jK h (fun (p : Int) => (⟨[(0, (V.lst 2 (a1.map q6g))), (1, (sV a2)), (2, (V.fn (.func 208) [] [])), (8, (iV ((a1.length : Nat) : Int))), (9, (iV p))], [], 0⟩ : St)) (fun k3 p => k3 p = some r) (fun k3 h => ?_) ?_
 ·refine rn 1 rfl ?_
  refine lC (fun (p : Int × Int) => (⟨[(0, (V.lst 2 (a1.map q6g))), (1, (sV a2)), (2, (V.fn (.func 208) [] [])), (8, (iV ((a1.length : Nat) : Int))), (9, (iV (p.1))), (10, (iV (p.2)))], [], 0⟩ : St)) (fun n p => M207_L1 F a1 a2 k3 n p.1 p.2 = some r) (fun p h => by simp [M207_L1] at h) F (0, ((a1.length : Nat) : Int)) h (g0 rfl rfl) (fun n p h => ?_)
  obtain ⟨n7, n8⟩ := p
  unfold M207_L1 at h
  refine rn 7 rfl ?_
  refine spC h rfl (fun hb9 h => ?_) (fun hb9 h => ?_)
  ·refine rn 17 rfl ?_
   refine ixl h rfl rfl (fun x10 hx11 h => ?_)
   refine rn 2 rfl ?_
   refine cl h rfl rfl rfl (W208 _ _ _) rfl (fun y12 hx13 h => ?_)
   refine rn 2 rfl ?_
   refine jK h (fun (p : Int × Int) => (⟨[(0, (V.lst 2 (a1.map q6g))), (1, (sV a2)), (2, (V.fn (.func 208) [] [])), (8, (iV ((a1.length : Nat) : Int))), (9, (iV (p.1))), (10, (iV (p.2)))], [], 0⟩ : St)) (fun k14 p => k14 p.1 p.2 = some r) (fun k14 h => ?_) ?_
   ·refine spC h rfl (fun hb17 h => ?_) (fun hb17 h => ?_)
    ·refine rn 5 rfl ?_
     exact jX ((w64 ((w64 (Int.fdiv (IntKind.wrap .u64 (w64 (n7 + n8))) (2 ^ (min (Int.toNat 1) (IntKind.bits .u64))))) + 1)), n8) h (g0 rfl rfl)
    refine rn 4 rfl ?_
    exact jX (n7, (w64 (Int.fdiv (IntKind.wrap .u64 (w64 (n7 + n8))) (2 ^ (min (Int.toNat 1) (IntKind.bits .u64)))))) h (g0 rfl rfl)
   rintro ⟨n15, n16⟩ h
   refine rn 1 rfl ?_
   exact jX (n15, n16) h (g0 rfl rfl)
  refine rn 1 rfl ?_
  exact jX n7 h (g0 rfl rfl)
 intro n4 h
 refine rn 7 rfl ?_
 refine spO 39 h rfl (fun hb18 h => ?_) (fun hb18 h => ?_)
 ·refine rn 3 rfl ?_
  refine ixl h rfl rfl (fun x19 hx20 h => ?_)
  refine rn 2 rfl ?_
  refine cl h rfl rfl rfl (W208 _ _ _) rfl (fun y21 hx22 h => ?_)
  refine rn 5 rfl ?_
  exact rt h rfl
 refine rn 12 rfl ?_
 exact rt h rfl
theorem W169 (F : Nat) (a1 : TType) (a2 : (List UInt8)) (r : ((List UInt8) × Bool)) (h : M169 F a1 a2 = some r) : Pure Tryz.prog 169 [(V.agg (q1d a1)), (sV a2)] (V.tup [(sV (r.1)), (bV (r.2))]) := by
 refine pin (fun r => (V.tup [(sV (r.1)), (bV (r.2))])) r rfl Tryz.func169 rfl rfl rfl rfl rfl (fun w0 m0 hg => ?_)
 unfold M169 at h
 refine rn 11 rfl ?_
 refine cl h rfl rfl rfl (W207 _ _ _) rfl (fun y3 hx4 h => ?_)
 refine rn 12 rfl ?_
 refine spC h rfl (fun hb5 h => ?_) (fun hb5 h => ?_)
 ·refine rn 5 rfl ?_
  exact rt h rfl
 refine rn 6 rfl ?_
 refine ixl h rfl rfl (fun x6 hx7 h => ?_)
 refine rn 5 rfl ?_
 exact rt h rfl
theorem W117 (F : Nat) (a1 : TType) (a2 : q2d) (r : Bool) (h : M117 F a1 a2 = some r) : Pure Tryz.prog 117 [(V.agg (q1d a1)), (V.agg (q8b a2))] (bV r) := by
 refine pin (fun r => (bV r)) r rfl Tryz.func117 rfl rfl rfl rfl rfl (fun w0 m0 hg => ?_)
 unfold M117 at h
 refine rn 11 rfl ?_
 refine ln rfl rfl ?_
 refine rn 2 rfl ?_
 refine jK h (fun _ : Unit => (⟨[], [], 0⟩ : St)) (fun k3 (_ : Unit) => k3 = some r) (fun k3 h => ?_) ?_
 ·refine rn 1 rfl ?_
  refine wl (A := a2.Methods) 10 rfl (fun hA12 => ?_)
  refine lC (fun (p : Int) => (⟨[(2, (V.ptr 0 2 0 0)), (10, (V.lst 1 (a2.Methods.map encS))), (11, (iV ((a2.Methods.length : Nat) : Int))), (12, (iV p))], [(0, (Ob.arr 104 2 [(q1d a1)]))], 1⟩ : St)) (fun n p => RG a2.Methods (fun tl nn => M117_L1 F a1 k3 tl = some r) n p) (fun p h => RG.zero h) (a2.Methods.length + 1) 0 (RG.start h) (gr [0] rfl (hB rfl rfl rfl .nil) rfl) (fun n n5 h => ?_)
  refine rn 5 rfl ?_
  refine spL rfl (fun hb6 => ?_) (fun hb6 => ?_)
  ·obtain ⟨x7, tl, hx8, h, hk1⟩ := RG.t hA12 h hb6
   unfold M117_L1 at h
   refine rn 5 rfl ?_
   refine ixh hx8 rfl rfl ?_
   refine rn 7 rfl ?_
   refine cl h rfl rfl rfl (W169 _ _ _) rfl (fun y9 hx10 h => ?_)
   refine rn 11 rfl ?_
   refine spC h rfl (fun hb11 h => ?_) (fun hb11 h => ?_)
   ·refine rn 4 rfl ?_
    exact rt h rfl
   refine rn 6 rfl ?_
   exact jX (w64 (n5 + 1)) (hk1 _ h) (gr [0] rfl (hB rfl rfl rfl .nil) rfl)
  replace h := RG.f h hb6
  unfold M117_L1 at h
  refine rn 1 rfl ?_
  exact jX () h (g0 rfl rfl)
 intro _ h
 refine rn 4 rfl ?_
 exact rt h rfl
theorem W41 (F : Nat) (a1 : q1c) (a2 : Int) (a3 : (List (List UInt8))) (r : (Option q7a)) (h : M41 F a1 a2 a3 = some r) : Pure Tryz.prog 41 [(V.agg (q3c a1)), (iV a2), (V.lst 1 (a3.map encS))] (optr q2a r) := by
 refine pin (fun r => (optr q2a r)) r rfl Tryz.func41 rfl rfl rfl rfl rfl (fun w0 m0 hg => ?_)
 unfold M41 at h
 refine rn 12 rfl ?_
 refine aops_insert (es := ([] : List ((List UInt8) × Bool)).map q5b) ((mput ([] : List ((List UInt8) × Bool)) ([] : List UInt8) true).map q5b) q2k tKey9 q4a rfl rfl (.con rfl) ⟨_, rfl⟩ q6e rfl (q4i ([] : List ((List UInt8) × Bool)) ([] : List UInt8) true) ?_
 refine fo (rn 12 rfl ?_)
 refine ln rfl rfl ?_
 refine rn 2 rfl ?_
 refine jK h (fun (p : (List ((List UInt8) × Int))) => (⟨[(2, (V.lst 1 (a3.map encS))), (3, (V.ptr 0 4 0 0)), (7, (V.ptr 1 9 0 0))], [(0, (Ob.arr 27 4 [(q3c a1)])), (1, (Ob.arr 91 9 [[(V.lst 2 (a1.Ifaces.map q8b)), (V.lst 2 (a1.Types.map q1d)), (V.lst 4 (a1.Funcs.map q4c)), (V.lst 1 (a1.Entries.map encS)), (V.map 2), (V.map 3), (V.map 4), (V.map 5), (bV (a2 == 2))]])), (2, (Ob.map (p.map q5e))), (3, (Ob.map (([] : List ((List UInt8) × Int)).map q5e))), (4, (Ob.map (([] : List ((List UInt8) × (List Int))).map q8f))), (5, (Ob.map ((mput ([] : List ((List UInt8) × Bool)) ([] : List UInt8) true).map q5b)))], 6⟩ : St)) (fun k4 p => k4 p = some r) (fun k4 h => ?_) ?_
 ·refine rn 1 rfl ?_
  refine wl (A := a1.Funcs) 29 rfl (fun hA13 => ?_)
  refine lC (fun (p : Int × (List ((List UInt8) × Int))) => (⟨[(2, (V.lst 1 (a3.map encS))), (3, (V.ptr 0 4 0 0)), (7, (V.ptr 1 9 0 0)), (29, (V.lst 4 (a1.Funcs.map q4c))), (30, (iV ((a1.Funcs.length : Nat) : Int))), (31, (iV (p.1)))], [(0, (Ob.arr 27 4 [(q3c a1)])), (1, (Ob.arr 91 9 [[(V.lst 2 (a1.Ifaces.map q8b)), (V.lst 2 (a1.Types.map q1d)), (V.lst 4 (a1.Funcs.map q4c)), (V.lst 1 (a1.Entries.map encS)), (V.map 2), (V.map 3), (V.map 4), (V.map 5), (bV (a2 == 2))]])), (2, (Ob.map ((p.2).map q5e))), (3, (Ob.map (([] : List ((List UInt8) × Int)).map q5e))), (4, (Ob.map (([] : List ((List UInt8) × (List Int))).map q8f))), (5, (Ob.map ((mput ([] : List ((List UInt8) × Bool)) ([] : List UInt8) true).map q5b)))], 6⟩ : St)) (fun n p => RG a1.Funcs (fun tl nn => M41_L1 F k4 tl nn p.2 = some r) n p.1) (fun p h => RG.zero h) (a1.Funcs.length + 1) (0, ([] : List ((List UInt8) × Int))) (RG.start h) (gr [0, 5, 1, 2, 3, 4] rfl (hB rfl rfl rfl (hB rfl rfl rfl (hM rfl rfl (hM rfl rfl (hM rfl rfl (hM rfl rfl .nil)))))) rfl) (fun n p h => ?_)
  obtain ⟨n8, m9⟩ := p
  refine rn 5 rfl ?_
  refine spL rfl (fun hb10 => ?_) (fun hb10 => ?_)
  ·obtain ⟨x11, tl, hx12, h, hk1⟩ := RG.t hA13 h hb10
   unfold M41_L1 at h
   refine rn 6 rfl ?_
   refine ixh hx12 rfl rfl ?_
   refine rn 5 rfl ?_
   refine dr mixed (vs 7 rfl (xD (OD.mk [(39, (V.map 2)), (41, (sV x11.Name)), (42, (iV n8))] [(2, (Ob.map (m9.map q5e)))] [] [(2, (Ob.map ((mput m9 x11.Name n8).map q5e)))]) ⟨⟨rfl, rfl, rfl, trivial⟩, ⟨rfl, trivial⟩⟩ (by exact fun S hn h hh => q0e (es := m9.map q5e) ((mput m9 x11.Name n8).map q5e) tMap87 tKey9 q4a h.1 hh.1 (.con h.2.1) ⟨_, rfl⟩ q5i h.2.2.1 (encM9_3_puts m9 x11.Name n8) (q5c ⟨rfl, rfl⟩)) rfl .nil)) (by kernel_rfl) ?_
   refine rn 5 rfl ?_
   exact jX ((w64 (n8 + 1)), (mput m9 x11.Name n8)) (hk1 _ h) (gr [0, 1, 2, 3, 4, 5] rfl (hB rfl rfl rfl (hB rfl rfl rfl (hM rfl rfl (hM rfl rfl (hM rfl rfl (hM rfl rfl .nil)))))) rfl)
  replace h := RG.f h hb10
  unfold M41_L1 at h
  refine rn 1 rfl ?_
  exact jX m9 h (gr [0, 1, 2, 3, 4, 5] rfl (hB rfl rfl rfl (hB rfl rfl rfl (hM rfl rfl (hM rfl rfl (hM rfl rfl (hM rfl rfl .nil)))))) rfl)
 intro m5 h
 refine rn 5 rfl ?_
 refine ln rfl rfl ?_
 refine rn 2 rfl ?_
 refine jK h (fun (p : (List ((List UInt8) × Int))) => (⟨[(2, (V.lst 1 (a3.map encS))), (3, (V.ptr 0 4 0 0)), (7, (V.ptr 1 9 0 0))], [(0, (Ob.arr 27 4 [(q3c a1)])), (1, (Ob.arr 91 9 [[(V.lst 2 (a1.Ifaces.map q8b)), (V.lst 2 (a1.Types.map q1d)), (V.lst 4 (a1.Funcs.map q4c)), (V.lst 1 (a1.Entries.map encS)), (V.map 2), (V.map 3), (V.map 4), (V.map 5), (bV (a2 == 2))]])), (2, (Ob.map (m5.map q5e))), (3, (Ob.map (p.map q5e))), (4, (Ob.map (([] : List ((List UInt8) × (List Int))).map q8f))), (5, (Ob.map ((mput ([] : List ((List UInt8) × Bool)) ([] : List UInt8) true).map q5b)))], 6⟩ : St)) (fun k14 p => k14 p = some r) (fun k14 h => ?_) ?_
 ·refine rn 1 rfl ?_
  refine wl (A := a1.Types) 45 rfl (fun hA23 => ?_)
  refine lC (fun (p : Int × (List ((List UInt8) × Int))) => (⟨[(2, (V.lst 1 (a3.map encS))), (3, (V.ptr 0 4 0 0)), (7, (V.ptr 1 9 0 0)), (45, (V.lst 2 (a1.Types.map q1d))), (46, (iV ((a1.Types.length : Nat) : Int))), (47, (iV (p.1)))], [(0, (Ob.arr 27 4 [(q3c a1)])), (1, (Ob.arr 91 9 [[(V.lst 2 (a1.Ifaces.map q8b)), (V.lst 2 (a1.Types.map q1d)), (V.lst 4 (a1.Funcs.map q4c)), (V.lst 1 (a1.Entries.map encS)), (V.map 2), (V.map 3), (V.map 4), (V.map 5), (bV (a2 == 2))]])), (2, (Ob.map (m5.map q5e))), (3, (Ob.map ((p.2).map q5e))), (4, (Ob.map (([] : List ((List UInt8) × (List Int))).map q8f))), (5, (Ob.map ((mput ([] : List ((List UInt8) × Bool)) ([] : List UInt8) true).map q5b)))], 6⟩ : St)) (fun n p => RG a1.Types (fun tl nn => M41_L2 F k14 tl nn p.2 = some r) n p.1) (fun p h => RG.zero h) (a1.Types.length + 1) (0, ([] : List ((List UInt8) × Int))) (RG.start h) (gr [0, 1, 2, 3, 4, 5] rfl (hB rfl rfl rfl (hB rfl rfl rfl (hM rfl rfl (hM rfl rfl (hM rfl rfl (hM rfl rfl .nil)))))) rfl) (fun n p h => ?_)
  obtain ⟨n18, m19⟩ := p
  refine rn 5 rfl ?_
  refine spL rfl (fun hb20 => ?_) (fun hb20 => ?_)
  ·obtain ⟨x21, tl, hx22, h, hk2⟩ := RG.t hA23 h hb20
   unfold M41_L2 at h
   refine rn 6 rfl ?_
   refine ixh hx22 rfl rfl ?_
   refine rn 5 rfl ?_
   refine dr mixed (vs 7 rfl (xD (OD.mk [(55, (V.map 3)), (57, (sV x21.Name)), (58, (iV n18))] [(3, (Ob.map (m19.map q5e)))] [] [(3, (Ob.map ((mput m19 x21.Name n18).map q5e)))]) ⟨⟨rfl, rfl, rfl, trivial⟩, ⟨rfl, trivial⟩⟩ (by exact fun S hn h hh => q0e (es := m19.map q5e) ((mput m19 x21.Name n18).map q5e) tMap87 tKey9 q4a h.1 hh.1 (.con h.2.1) ⟨_, rfl⟩ q5i h.2.2.1 (encM9_3_puts m19 x21.Name n18) (q5c ⟨rfl, rfl⟩)) rfl .nil)) (by kernel_rfl) ?_
   refine rn 5 rfl ?_
   exact jX ((w64 (n18 + 1)), (mput m19 x21.Name n18)) (hk2 _ h) (gr [0, 1, 2, 3, 4, 5] rfl (hB rfl rfl rfl (hB rfl rfl rfl (hM rfl rfl (hM rfl rfl (hM rfl rfl (hM rfl rfl .nil)))))) rfl)
  replace h := RG.f h hb20
  unfold M41_L2 at h
  refine rn 1 rfl ?_
  exact jX m19 h (gr [0, 1, 2, 3, 4, 5] rfl (hB rfl rfl rfl (hB rfl rfl rfl (hM rfl rfl (hM rfl rfl (hM rfl rfl (hM rfl rfl .nil)))))) rfl)
 intro m15 h
 refine rn 5 rfl ?_
 refine ln rfl rfl ?_
 refine rn 2 rfl ?_
 refine jK h (fun (p : (List ((List UInt8) × (List Int)))) => (⟨[(2, (V.lst 1 (a3.map encS))), (7, (V.ptr 0 9 0 0))], [(0, (Ob.arr 91 9 [[(V.lst 2 (a1.Ifaces.map q8b)), (V.lst 2 (a1.Types.map q1d)), (V.lst 4 (a1.Funcs.map q4c)), (V.lst 1 (a1.Entries.map encS)), (V.map 1), (V.map 2), (V.map 3), (V.map 4), (bV (a2 == 2))]])), (1, (Ob.map (m5.map q5e))), (2, (Ob.map (m15.map q5e))), (3, (Ob.map (p.map q8f))), (4, (Ob.map ((mput ([] : List ((List UInt8) × Bool)) ([] : List UInt8) true).map q5b)))], 5⟩ : St)) (fun k24 p => k24 p = some r) (fun k24 h => ?_) ?_
 ·refine rn 1 rfl ?_
  refine wl (A := a1.Ifaces) 61 rfl (fun hA51 => ?_)
  refine lC (fun (p : Int × (List ((List UInt8) × (List Int)))) => (⟨[(2, (V.lst 1 (a3.map encS))), (3, (V.ptr 0 4 0 0)), (7, (V.ptr 1 9 0 0)), (61, (V.lst 2 (a1.Ifaces.map q8b))), (62, (iV ((a1.Ifaces.length : Nat) : Int))), (63, (iV (p.1)))], [(0, (Ob.arr 27 4 [(q3c a1)])), (1, (Ob.arr 91 9 [[(V.lst 2 (a1.Ifaces.map q8b)), (V.lst 2 (a1.Types.map q1d)), (V.lst 4 (a1.Funcs.map q4c)), (V.lst 1 (a1.Entries.map encS)), (V.map 2), (V.map 3), (V.map 4), (V.map 5), (bV (a2 == 2))]])), (2, (Ob.map (m5.map q5e))), (3, (Ob.map (m15.map q5e))), (4, (Ob.map ((p.2).map q8f))), (5, (Ob.map ((mput ([] : List ((List UInt8) × Bool)) ([] : List UInt8) true).map q5b)))], 6⟩ : St)) (fun n p => RG a1.Ifaces (fun tl nn => M41_L3 F a1 k24 tl p.2 = some r) n p.1) (fun p h => RG.zero h) (a1.Ifaces.length + 1) (0, ([] : List ((List UInt8) × (List Int)))) (RG.start h) (gr [0, 1, 2, 3, 4, 5] rfl (hB rfl rfl rfl (hB rfl rfl rfl (hM rfl rfl (hM rfl rfl (hM rfl rfl (hM rfl rfl .nil)))))) rfl) (fun n p h => ?_)
  obtain ⟨n28, m29⟩ := p
  refine rn 5 rfl ?_
  refine spL rfl (fun hb30 => ?_) (fun hb30 => ?_)
  ·obtain ⟨x33, tl, hx34, h, hk3⟩ := RG.t hA51 h hb30
   unfold M41_L3 at h
   refine rn 2 rfl ?_
   refine jK h (fun (p : (List ((List UInt8) × (List Int)))) => (⟨[(2, (V.lst 1 (a3.map encS))), (3, (V.ptr 0 4 0 0)), (7, (V.ptr 1 9 0 0)), (61, (V.lst 2 (a1.Ifaces.map q8b))), (62, (iV ((a1.Ifaces.length : Nat) : Int))), (63, (iV n28))], [(0, (Ob.arr 27 4 [(q3c a1)])), (1, (Ob.arr 91 9 [[(V.lst 2 (a1.Ifaces.map q8b)), (V.lst 2 (a1.Types.map q1d)), (V.lst 4 (a1.Funcs.map q4c)), (V.lst 1 (a1.Entries.map encS)), (V.map 2), (V.map 3), (V.map 4), (V.map 5), (bV (a2 == 2))]])), (2, (Ob.map (m5.map q5e))), (3, (Ob.map (m15.map q5e))), (4, (Ob.map (p.map q8f))), (5, (Ob.map ((mput ([] : List ((List UInt8) × Bool)) ([] : List UInt8) true).map q5b)))], 6⟩ : St)) (fun k31 p => k31 p = some r) (fun k31 h => ?_) ?_
   ·refine rn 3 rfl ?_
    refine ixh hx34 rfl rfl ?_
    refine rn 8 rfl ?_
    refine ln rfl rfl ?_
    refine rn 2 rfl ?_
    refine jK h (fun (p : (List ((List UInt8) × (List Int)))) => (⟨[(2, (V.lst 1 (a3.map encS))), (3, (V.ptr 0 4 0 0)), (7, (V.ptr 1 9 0 0)), (61, (V.lst 2 (a1.Ifaces.map q8b))), (62, (iV ((a1.Ifaces.length : Nat) : Int))), (63, (iV n28))], [(0, (Ob.arr 27 4 [(q3c a1)])), (1, (Ob.arr 91 9 [[(V.lst 2 (a1.Ifaces.map q8b)), (V.lst 2 (a1.Types.map q1d)), (V.lst 4 (a1.Funcs.map q4c)), (V.lst 1 (a1.Entries.map encS)), (V.map 2), (V.map 3), (V.map 4), (V.map 5), (bV (a2 == 2))]])), (2, (Ob.map (m5.map q5e))), (3, (Ob.map (m15.map q5e))), (4, (Ob.map (p.map q8f))), (5, (Ob.map ((mput ([] : List ((List UInt8) × Bool)) ([] : List UInt8) true).map q5b)))], 6⟩ : St)) (fun k35 p => k35 p = some r) (fun k35 h => ?_) ?_
    ·refine rn 1 rfl ?_
     refine wl (A := a1.Types) 68 rfl (fun hA50 => ?_)
     refine lC (fun (p : Int × (List ((List UInt8) × (List Int)))) => (⟨[(2, (V.lst 1 (a3.map encS))), (3, (V.ptr 0 4 0 0)), (7, (V.ptr 1 9 0 0)), (13, (V.ptr 2 2 0 0)), (61, (V.lst 2 (a1.Ifaces.map q8b))), (62, (iV ((a1.Ifaces.length : Nat) : Int))), (63, (iV n28)), (68, (V.lst 2 (a1.Types.map q1d))), (69, (iV ((a1.Types.length : Nat) : Int))), (70, (iV (p.1)))], [(0, (Ob.arr 27 4 [(q3c a1)])), (1, (Ob.arr 91 9 [[(V.lst 2 (a1.Ifaces.map q8b)), (V.lst 2 (a1.Types.map q1d)), (V.lst 4 (a1.Funcs.map q4c)), (V.lst 1 (a1.Entries.map encS)), (V.map 3), (V.map 4), (V.map 5), (V.map 6), (bV (a2 == 2))]])), (2, (Ob.arr 98 2 [(q8b x33)])), (3, (Ob.map (m5.map q5e))), (4, (Ob.map (m15.map q5e))), (5, (Ob.map ((p.2).map q8f))), (6, (Ob.map ((mput ([] : List ((List UInt8) × Bool)) ([] : List UInt8) true).map q5b)))], 7⟩ : St)) (fun n p => RG a1.Types (fun tl nn => M41_L4 F x33 k35 tl nn p.2 = some r) n p.1) (fun p h => RG.zero h) (a1.Types.length + 1) (0, m29) (RG.start h) (gr [0, 1, 6, 2, 3, 4, 5] rfl (hB rfl rfl rfl (hB rfl rfl rfl (hB rfl rfl rfl (hM rfl rfl (hM rfl rfl (hM rfl rfl (hM rfl rfl .nil))))))) rfl) (fun n p h => ?_)
     obtain ⟨n39, m40⟩ := p
     refine rn 5 rfl ?_
     refine spL rfl (fun hb41 => ?_) (fun hb41 => ?_)
     ·obtain ⟨x42, tl, hx43, h, hk4⟩ := RG.t hA50 h hb41
      unfold M41_L4 at h
      refine rn 6 rfl ?_
      refine ixh hx43 rfl rfl ?_
      refine rn 9 rfl ?_
      refine cl h rfl rfl rfl (W117 _ _ _) rfl (fun y44 hx45 h => ?_)
      refine rn 1 rfl ?_
      refine jK h (fun (p : (List ((List UInt8) × (List Int)))) => (⟨[(2, (V.lst 1 (a3.map encS))), (3, (V.ptr 0 4 0 0)), (7, (V.ptr 1 9 0 0)), (13, (V.ptr 2 2 0 0)), (61, (V.lst 2 (a1.Ifaces.map q8b))), (62, (iV ((a1.Ifaces.length : Nat) : Int))), (63, (iV n28)), (68, (V.lst 2 (a1.Types.map q1d))), (69, (iV ((a1.Types.length : Nat) : Int))), (70, (iV n39))], [(0, (Ob.arr 27 4 [(q3c a1)])), (1, (Ob.arr 91 9 [[(V.lst 2 (a1.Ifaces.map q8b)), (V.lst 2 (a1.Types.map q1d)), (V.lst 4 (a1.Funcs.map q4c)), (V.lst 1 (a1.Entries.map encS)), (V.map 3), (V.map 4), (V.map 5), (V.map 6), (bV (a2 == 2))]])), (2, (Ob.arr 98 2 [(q8b x33)])), (3, (Ob.map (m5.map q5e))), (4, (Ob.map (m15.map q5e))), (5, (Ob.map (p.map q8f))), (6, (Ob.map ((mput ([] : List ((List UInt8) × Bool)) ([] : List UInt8) true).map q5b)))], 7⟩ : St)) (fun k46 p => k46 p = some r) (fun k46 h => ?_) ?_
      ·refine spC h rfl (fun hb48 h => ?_) (fun hb48 h => ?_)
       ·refine ck h (fun hc49 h => ?_)
        refine q7c q5f ?_
        refine q7c q5f ?_
        refine fa ?_
        refine dr mixed (vs 12 rfl (xD (OD.mk [(87, (V.map 5)), (89, (sV x33.Name))] [(5, (Ob.map (m40.map q8f))), (8, Ob.res)] [(90, (V.own 8 ((mget m40 x33.Name).getD []).length))] [(5, (Ob.map (holeM q8f 8 x33.Name m40))), (8, (Ob.arr 3 1 (((mget m40 x33.Name).getD []).map q8a)))]) ⟨⟨rfl, rfl, trivial⟩, ⟨rfl, rfl, trivial⟩⟩ (by exact fun S hn h hh => aops_lookup_tk_at 8 rfl hn hh.2.1 (n := ((mget m40 x33.Name).getD []).length) tMap88 tKey9 tZo165 q4a h.1 hh.1 (.con h.2.1) ⟨_, rfl⟩ encM9_387_good (lookT_enc q8f (fun k => str k) q8a 3 1 8 (fun _ => rfl) q2i x33.Name m40) (by simp) rfl (q5c ⟨rfl, rfl⟩)) rfl (vs 1 rfl (xD (OD.mk [(91, (iV n39))] [] [(92, (V.lst 1 (([n39] : List Int).map q8a)))] []) ⟨⟨rfl, trivial⟩, trivial⟩ (by exact fun S hn h hh => q7e [(0, (iV n39))] [[(iV n39)]] tEl165 tZ3 q4a rfl rfl rfl rfl (q2f h.1 q1h) rfl rfl (by simp) (q3i (.cons (.cons (Imm.con _) .nil) .nil)) rfl (q5c ⟨rfl, rfl⟩)) rfl (xD (OD.mk [(90, (V.own 8 ((mget m40 x33.Name).getD []).length)), (92, (V.lst 1 (([n39] : List Int).map q8a)))] [(8, (Ob.arr 3 1 (((mget m40 x33.Name).getD []).map q8a))), (9, Ob.res)] [(93, (V.own 9 (((mget m40 x33.Name).getD []) ++ ([n39] : List Int)).length))] [(9, (Ob.arr 3 1 ((((mget m40 x33.Name).getD []) ++ ([n39] : List Int)).map q8a))), (8, Ob.dead)]) ⟨⟨rfl, rfl, trivial⟩, ⟨rfl, rfl, trivial⟩⟩ (by exact fun S hn h hh => q1g 9 rfl hn hh.2.1 (([n39] : List Int).map q8a) ((((mget m40 x33.Name).getD []) ++ ([n39] : List Int)).map q8a) tEl165 tIsSl165 rfl rfl q4a h.1 hh.1 (by simp) h.2.1 (.lst (q4l one_encI_i64)) (q5l q8a ((mget m40 x33.Name).getD []) ([n39] : List Int)) (List.length_map ..) hc49 rfl (q5c ⟨rfl, rfl⟩)) rfl (xD (OD.mk [(81, (V.map 5)), (83, (sV x33.Name)), (93, (V.own 9 (((mget m40 x33.Name).getD []) ++ ([n39] : List Int)).length))] [(5, (Ob.map (holeM q8f 8 x33.Name m40))), (9, (Ob.arr 3 1 ((((mget m40 x33.Name).getD []) ++ ([n39] : List Int)).map q8a)))] [] [(5, (Ob.map ((mput m40 x33.Name (((mget m40 x33.Name).getD []) ++ ([n39] : List Int))).map q8f))), (9, Ob.dead)]) ⟨⟨rfl, rfl, rfl, trivial⟩, ⟨rfl, rfl, trivial⟩⟩ (by exact fun S hn h hh => q0m (id2 := 9) (o := (V.own 9 (((mget m40 x33.Name).getD []) ++ ([n39] : List Int)).length)) (dv := (.dsl 3 1 ((((mget m40 x33.Name).getD []) ++ ([n39] : List Int)).map q8a))) (ob := (.arr 3 1 ((((mget m40 x33.Name).getD []) ++ ([n39] : List Int)).map q8a))) ((mput m40 x33.Name (((mget m40 x33.Name).getD []) ++ ([n39] : List Int))).map q8f) tMap88 tKey9 q4a h.1 hh.1 (.con h.2.1) ⟨_, rfl⟩ (good_holeM (fun _ => ⟨_, rfl⟩)) h.2.2.1 (by simp [ovl]) hh.2.1 rfl (okeep_rows q3b (((mget m40 x33.Name).getD []) ++ ([n39] : List Int))) (puts_hole q8f (fun k => str k) q8a 3 1 8 (fun _ => rfl) q2i x33.Name (((mget m40 x33.Name).getD []) ++ ([n39] : List Int)) m40) (q5c ⟨rfl, rfl⟩)) rfl .nil)))))) (by kernel_rfl) ?_
        exact jX (mput m40 x33.Name (((mget m40 x33.Name).getD []) ++ ([n39] : List Int))) h (gr [0, 1, 2, 3, 4, 5, 6] rfl (hB rfl rfl rfl (hB rfl rfl rfl (hB rfl rfl rfl (hM rfl rfl (hM rfl rfl (hM rfl rfl (hM rfl rfl .nil))))))) rfl)
       refine rn 1 rfl ?_
       exact jX m40 h (gr [0, 1, 2, 3, 4, 5, 6] rfl (hB rfl rfl rfl (hB rfl rfl rfl (hB rfl rfl rfl (hM rfl rfl (hM rfl rfl (hM rfl rfl (hM rfl rfl .nil))))))) rfl)
      intro m47 h
      refine rn 5 rfl ?_
      exact jX ((w64 (n39 + 1)), m47) (hk4 _ h) (gr [0, 1, 2, 3, 4, 5, 6] rfl (hB rfl rfl rfl (hB rfl rfl rfl (hB rfl rfl rfl (hM rfl rfl (hM rfl rfl (hM rfl rfl (hM rfl rfl .nil))))))) rfl)
     replace h := RG.f h hb41
     unfold M41_L4 at h
     refine rn 1 rfl ?_
     exact jX m40 h (gr [0, 1, 3, 4, 5, 6] rfl (hB rfl rfl rfl (hB rfl rfl rfl (hM rfl rfl (hM rfl rfl (hM rfl rfl (hM rfl rfl .nil)))))) rfl)
    intro m36 h
    refine rn 1 rfl ?_
    exact jX m36 h (gr [0, 1, 2, 3, 4, 5] rfl (hB rfl rfl rfl (hB rfl rfl rfl (hM rfl rfl (hM rfl rfl (hM rfl rfl (hM rfl rfl .nil)))))) rfl)
   intro m32 h
   refine rn 4 rfl ?_
   exact jX ((w64 (n28 + 1)), m32) (hk3 _ h) (gr [0, 1, 2, 3, 4, 5] rfl (hB rfl rfl rfl (hB rfl rfl rfl (hM rfl rfl (hM rfl rfl (hM rfl rfl (hM rfl rfl .nil)))))) rfl)
  replace h := RG.f h hb30
  unfold M41_L3 at h
  refine rn 1 rfl ?_
  exact jX m29 h (gr [1, 2, 3, 4, 5] rfl (hB rfl rfl rfl (hM rfl rfl (hM rfl rfl (hM rfl rfl (hM rfl rfl .nil))))) rfl)
 intro m25 h
 refine rn 4 rfl ?_
 refine ln rfl rfl ?_
 refine rn 2 rfl ?_
 refine jK h (fun (p : (List ((List UInt8) × Bool))) => (⟨[(7, (V.ptr 0 9 0 0))], [(0, (Ob.arr 91 9 [[(V.lst 2 (a1.Ifaces.map q8b)), (V.lst 2 (a1.Types.map q1d)), (V.lst 4 (a1.Funcs.map q4c)), (V.lst 1 (a1.Entries.map encS)), (V.map 1), (V.map 2), (V.map 3), (V.map 4), (bV (a2 == 2))]])), (1, (Ob.map (m5.map q5e))), (2, (Ob.map (m15.map q5e))), (3, (Ob.map (m25.map q8f))), (4, (Ob.map (p.map q5b)))], 5⟩ : St)) (fun k52 p => k52 p = some r) (fun k52 h => ?_) ?_
 ·refine rn 1 rfl ?_
  refine wl (A := a3) 2 rfl (fun hA61 => ?_)
  refine lC (fun (p : Int × (List ((List UInt8) × Bool))) => (⟨[(7, (V.ptr 0 9 0 0)), (96, (V.lst 1 (a3.map encS))), (97, (iV ((a3.length : Nat) : Int))), (98, (iV (p.1)))], [(0, (Ob.arr 91 9 [[(V.lst 2 (a1.Ifaces.map q8b)), (V.lst 2 (a1.Types.map q1d)), (V.lst 4 (a1.Funcs.map q4c)), (V.lst 1 (a1.Entries.map encS)), (V.map 1), (V.map 2), (V.map 3), (V.map 4), (bV (a2 == 2))]])), (1, (Ob.map (m5.map q5e))), (2, (Ob.map (m15.map q5e))), (3, (Ob.map (m25.map q8f))), (4, (Ob.map ((p.2).map q5b)))], 5⟩ : St)) (fun n p => RG a3 (fun tl nn => M41_L5 F k52 tl p.2 = some r) n p.1) (fun p h => RG.zero h) (a3.length + 1) (0, (mput ([] : List ((List UInt8) × Bool)) ([] : List UInt8) true)) (RG.start h) (gr [0, 1, 2, 3, 4] rfl (hB rfl rfl rfl (hM rfl rfl (hM rfl rfl (hM rfl rfl (hM rfl rfl .nil))))) rfl) (fun n p h => ?_)
  obtain ⟨n56, m57⟩ := p
  refine rn 5 rfl ?_
  refine spL rfl (fun hb58 => ?_) (fun hb58 => ?_)
  ·obtain ⟨x59, tl, hx60, h, hk5⟩ := RG.t hA61 h hb58
   unfold M41_L5 at h
   refine rn 5 rfl ?_
   refine ixh hx60 rfl rfl ?_
   refine rn 9 rfl ?_
   refine q0e (es := m57.map q5b) ((mput m57 x59 true).map q5b) q2k tKey9 q4a rfl rfl (.con rfl) ⟨_, rfl⟩ q6e rfl (q4i m57 x59 true) ?_
   refine fo (rn 6 rfl ?_)
   exact jX ((w64 (n56 + 1)), (mput m57 x59 true)) (hk5 _ h) (gr [0, 1, 2, 3, 4] rfl (hB rfl rfl rfl (hM rfl rfl (hM rfl rfl (hM rfl rfl (hM rfl rfl .nil))))) rfl)
  replace h := RG.f h hb58
  unfold M41_L5 at h
  refine rn 1 rfl ?_
  exact jX m57 h (gr [0, 1, 2, 3, 4] rfl (hB rfl rfl rfl (hM rfl rfl (hM rfl rfl (hM rfl rfl (hM rfl rfl .nil))))) rfl)
 intro m53 h
 refine rn 5 rfl ?_
 refine q7c (q8j 1 0 (Ob.arr 91 9 [[(V.lst 2 (a1.Ifaces.map q8b)), (V.lst 2 (a1.Types.map q1d)), (V.lst 4 (a1.Funcs.map q4c)), (V.lst 1 (a1.Entries.map encS)), (V.imap (m5.map q5e)), (V.map 2), (V.map 3), (V.map 4), (bV (a2 == 2))]]) rfl encM9_3_imm (ObSub.box (.cons Sub.keepM (.cons Sub.keepM (.cons Sub.keepM (.cons Sub.keepM (.cons Sub.frzM (.cons Sub.keepM (.cons Sub.keepM (.cons Sub.keepM (.cons Sub.keepM .nil))))))))))) ?_
 refine q7c (q8j 2 0 (Ob.arr 91 9 [[(V.lst 2 (a1.Ifaces.map q8b)), (V.lst 2 (a1.Types.map q1d)), (V.lst 4 (a1.Funcs.map q4c)), (V.lst 1 (a1.Entries.map encS)), (V.imap (m5.map q5e)), (V.imap (m15.map q5e)), (V.map 3), (V.map 4), (bV (a2 == 2))]]) rfl encM9_3_imm (ObSub.box (.cons Sub.keepM (.cons Sub.keepM (.cons Sub.keepM (.cons Sub.keepM (.cons Sub.keepM (.cons Sub.frzM (.cons Sub.keepM (.cons Sub.keepM (.cons Sub.keepM .nil))))))))))) ?_
 refine q7c (ghost_frzDMC 3 0 (m25.map q0j) (Ob.arr 91 9 [[(V.lst 2 (a1.Ifaces.map q8b)), (V.lst 2 (a1.Types.map q1d)), (V.lst 4 (a1.Funcs.map q4c)), (V.lst 1 (a1.Entries.map encS)), (V.imap (m5.map q5e)), (V.imap (m15.map q5e)), (V.imap (m25.map q0j)), (V.map 4), (bV (a2 == 2))]]) rfl (by simp) (und_map encM9_387_und _) (ObSub.box (.cons Sub.keepM (.cons Sub.keepM (.cons Sub.keepM (.cons Sub.keepM (.cons Sub.keepM (.cons Sub.keepM (.cons Sub.frzM (.cons Sub.keepM (.cons Sub.keepM .nil))))))))))) ?_
 refine q7c (q8j 4 0 (Ob.arr 91 9 [[(V.lst 2 (a1.Ifaces.map q8b)), (V.lst 2 (a1.Types.map q1d)), (V.lst 4 (a1.Funcs.map q4c)), (V.lst 1 (a1.Entries.map encS)), (V.imap (m5.map q5e)), (V.imap (m15.map q5e)), (V.imap (m25.map q0j)), (V.imap (m53.map q5b)), (bV (a2 == 2))]]) rfl q6m (ObSub.box (.cons Sub.keepM (.cons Sub.keepM (.cons Sub.keepM (.cons Sub.keepM (.cons Sub.keepM (.cons Sub.keepM (.cons Sub.keepM (.cons Sub.frzM (.cons Sub.keepM .nil))))))))))) ?_
 refine q7c (ghost_frzP 0 6 rfl (q3i (.cons (.cons (Imm.lst _ _) (.cons (Imm.lst _ _) (.cons (Imm.lst _ _) (.cons (Imm.lst _ _) (.cons (Imm.imap _) (.cons (Imm.imap _) (.cons (Imm.imap _) (.cons (Imm.imap _) (.cons (Imm.con _) .nil))))))))) .nil)) rfl rfl) ?_
 refine fa ?_
 exact rt h rfl
theorem W78 (F : Nat) (a1 : q1c) (a2 : Int) (a3 : (List (List UInt8))) (r : ((Option q7a) × Int)) (h : M78 F a1 a2 a3 = some r) : Pure Tryz.prog 78 [(V.agg (q3c a1)), (iV a2), (V.lst 1 (a3.map encS))] (V.tup [(optr q2a (r.1)), (iV (r.2))]) := by
 refine pin (fun r => (V.tup [(optr q2a (r.1)), (iV (r.2))])) r rfl Tryz.func78 rfl rfl rfl rfl rfl (fun w0 m0 hg => ?_)
 unfold M78 at h
 refine rn 10 rfl ?_
 refine cl h rfl rfl rfl (W17 _ _) rfl (fun y4 hx5 h => ?_)
 refine rn 7 rfl ?_
 refine spC h rfl (fun hb6 h => ?_) (fun hb6 h => ?_)
 ·refine rn 6 rfl ?_
  exact rt h rfl
 refine rn 5 rfl ?_
 refine cl h rfl rfl rfl (W143 _ _) rfl (fun y7 hx8 h => ?_)
 refine rn 7 rfl ?_
 refine spC h rfl (fun hb9 h => ?_) (fun hb9 h => ?_)
 ·refine rn 6 rfl ?_
  exact rt h rfl
 refine rn 7 rfl ?_
 refine spO 22 h rfl (fun hb10 h => ?_) (fun hb10 h => ?_)
 ·refine rn 4 rfl ?_
  refine spC h rfl (fun hb11 h => ?_) (fun hb11 h => ?_)
  ·refine rn 5 rfl ?_
   exact rt h rfl
  refine rn 6 rfl ?_
  refine cl h rfl rfl rfl (W41 _ _ _ _) rfl (fun y12 hx13 h => ?_)
  obtain ⟨x14, hx15, h⟩ := bind_some h
  refine rn 3 rfl ?_
  refine opC 6 hx15 rfl ?_
  exact rt h rfl
 refine rn 11 rfl ?_
 refine cl h rfl rfl rfl (W41 _ _ _ _) rfl (fun y16 hx17 h => ?_)
 obtain ⟨x18, hx19, h⟩ := bind_some h
 refine rn 3 rfl ?_
 refine opC 6 hx19 rfl ?_
 exact rt h rfl
theorem W151 (F : Nat) (a1 : q7a) (a2 : TCall) (a3 : Int) (r : Int) (h : M151 F a1 a2 a3 = some r) : Pure Tryz.prog 151 [(V.iptr (q2a a1) 0), (V.agg (q9d a2)), (iV a3)] (iV r) := by
 refine pin (fun r => (iV r)) r rfl Tryz.func151 rfl rfl rfl rfl rfl (fun w0 m0 hg => ?_)
 unfold M151 at h
 obtain ⟨x4, hx5, h⟩ := bind_some h
 obtain ⟨y6, hx7, h⟩ := bind_some h
 refine rn 6 rfl ?_
 refine dr mixed (vs 6 rfl (iD hx5 rfl rfl rfl (vs 3 rfl (cD rfl rfl rfl rfl (W169 _ _ _ _ hx7) rfl (vs 5 rfl .nil))))) (by kernel_rfl) ?_
 refine rn 7 rfl ?_
 refine q3e _ (iV 0) (iV ((mget a1.funcs (y6.1)).getD 0)) tMap87 tKey9 tZo3 (q3g _) q4a rfl .imm (.con rfl) ⟨_, rfl⟩ q5i (q7j a1.funcs (y6.1)) (q1f (q0i) (mget a1.funcs (y6.1)) 0) rfl ?_
 refine fo (rn 2 rfl ?_)
 exact rt h rfl
theorem W152 (F : Nat) (a1 : List Int) (r : List Int) (h : M152 F a1 = some r) : Mut Tryz.prog 152 [(V.own 0 a1.length)] 1 [(0, (Ob.arr 3 1 (a1.map q8a)))] (resV []) 1 [(0, (Ob.arr 3 1 (r.map q8a)))] := by
 unfold M152 at h
 by_cases hc : a1.length < 4611686018427387904
 ·rw [if_pos hc] at h
  replace h := Option.some.inj h
  subst h
  refine (mut_sort a1 (isort a1) rfl (List.length_mergeSort _) (fun w b off cap hH hb => ?_) (fun w p h0 => ?_)).heap hget_one
  ·exact Go.Proofs.Tryz.slices_Sort_int b off cap a1 w hH hb hc
  ·refine (Go.Proofs.Tryz.slices_Sort_int_none p 0 w).mono ?_
   rintro e w' ⟨rfl, rfl⟩
   exact ⟨rfl, Go.RowKit.Below.refl _ _, Nat.le_refl _⟩
 ·rw [if_neg hc] at h; simp at h
theorem W153 (F : Nat) (a1 : List Int) (r : List Int) (h : M153 F a1 = some r) : Mut Tryz.prog 153 [(V.own 0 a1.length)] 1 [(0, (Ob.arr 3 1 (a1.map q8a)))] (resV [(V.own 0 r.length)]) 1 [(0, (Ob.arr 3 1 (r.map q8a)))] := by
 unfold M153 at h
 by_cases hc : a1.length ≤ 140737488355328
 ·rw [if_pos hc] at h
  replace h := Option.some.inj h
  subst h
  exact (mut_compactS (Value.int .i64) (fun _ => rfl) 0 a1 rfl (fun b off cap a w hH h1 h2 => Go.Proofs.Tryz.slices_Compact_int b off cap a w hH h1 h2) (fun p w => Go.Proofs.Tryz.slices_Compact_int_empty p 0 w) hc).heap hget_one
 ·rw [if_neg hc] at h; simp at h
theorem W92 (F : Nat) (a1 : q7a) (a2 : TCall) (r : (List Int)) (h : M92 F a1 a2 = some r) : Pure Tryz.prog 92 [(V.iptr (q2a a1) 0), (V.agg (q9d a2)), nV] (V.lst 1 (r.map q8a)) := by
 refine pin (fun r => (V.lst 1 (r.map q8a))) r rfl Tryz.func92 rfl rfl rfl rfl rfl (fun w0 m0 hg => ?_)
 unfold M92 at h
 refine rn 12 rfl ?_
 refine spC h rfl (fun hb3 h => ?_) (fun hb3 h => ?_)
 ·refine rn 1 rfl ?_
  refine dr mixed (vs 6 rfl (xD (OD.mk [(16, (V.imap (a1.funcs.map q5e))), (18, (sV a2.Target))] [] [(19, (iV ((mget a1.funcs a2.Target).getD 0)))] []) ⟨⟨rfl, rfl, trivial⟩, trivial⟩ (by exact fun S hn h hh => q3e _ (iV 0) (iV ((mget a1.funcs a2.Target).getD 0)) tMap87 tKey9 tZo3 (q3g _) q4a h.1 .imm (.con h.2.1) ⟨_, rfl⟩ q5i (q7j a1.funcs a2.Target) (q1f (q0i) (mget a1.funcs a2.Target) 0) rfl (q5c ⟨rfl, rfl⟩)) rfl (xD (OD.mk [(19, (iV ((mget a1.funcs a2.Target).getD 0)))] [] [(20, (V.lst 1 (([((mget a1.funcs a2.Target).getD 0)] : List Int).map q8a)))] []) ⟨⟨rfl, trivial⟩, trivial⟩ (by exact fun S hn h hh => q7e [(0, (iV ((mget a1.funcs a2.Target).getD 0)))] [[(iV ((mget a1.funcs a2.Target).getD 0))]] tEl165 tZ3 q4a rfl rfl rfl rfl (q2f h.1 q1h) rfl rfl (by simp) (q3i (.cons (.cons (Imm.con _) .nil) .nil)) rfl (q5c ⟨rfl, rfl⟩)) rfl (vs 1 rfl .nil)))) (by kernel_rfl) ?_
  exact rt h rfl
 refine rn 7 rfl ?_
 refine dr mixed (vs 6 rfl (xD (OD.mk [(24, (V.imap (a1.fitting.map q0j))), (26, (sV a2.Target))] [] [(27, (V.lst 1 (((mget a1.fitting a2.Target).getD ([] : (List Int))).map q8a)))] []) ⟨⟨rfl, rfl, trivial⟩, trivial⟩ (by exact fun S hn h hh => q3e _ (V.lst 1 (([] : (List Int)).map q8a)) (V.lst 1 (((mget a1.fitting a2.Target).getD ([] : (List Int))).map q8a)) tMap88 tKey9 tZo165 (fun _ => .nil _ _ _) q4a h.1 .imm (.con h.2.1) ⟨_, rfl⟩ encM9_165_good (encM9_165_look a1.fitting a2.Target) (q1f (q6n) (mget a1.fitting a2.Target) ([] : (List Int))) rfl (q5c ⟨rfl, rfl⟩)) rfl (nD rfl rfl rfl (vs 1 rfl .nil)))) (by kernel_rfl) ?_
 refine jK h (fun (p : (List Int)) => (⟨[(7, (V.own 0 p.length))], [(0, (Ob.arr 3 1 (p.map q8a)))], 1⟩ : St)) (fun k4 p => k4 p = some r) (fun k4 h => ?_) ?_
 ·refine rn 1 rfl ?_
  refine wl (A := ((mget a1.fitting a2.Target).getD ([] : (List Int)))) 27 rfl (fun hA16 => ?_)
  refine lC (fun (p : Int × (List Int)) => (⟨[(0, (V.iptr (q2a a1) 0)), (2, nV), (4, (V.ptr 0 4 0 0)), (7, (V.own 1 (p.2).length)), (27, (V.lst 1 (((mget a1.fitting a2.Target).getD ([] : (List Int))).map q8a))), (28, (iV ((((mget a1.fitting a2.Target).getD ([] : (List Int))).length : Nat) : Int))), (29, (iV (p.1)))], [(0, (Ob.arr 109 4 [(q9d a2)])), (1, (Ob.arr 3 1 ((p.2).map q8a)))], 2⟩ : St)) (fun n p => RG ((mget a1.fitting a2.Target).getD ([] : (List Int))) (fun tl nn => M92_L1 F a1 a2 k4 tl p.2 = some r) n p.1) (fun p h => RG.zero h) (((mget a1.fitting a2.Target).getD ([] : (List Int))).length + 1) (0, ([] : List Int)) (RG.start h) (Ghost.trans (q1j 7 3 1 rfl) (q9f 2 (fun i => ([0, 1] : List Nat).getD i 0) _ _ (by decide) (q0k.get (.cons (Sub.imm (Imm.iptr _ _)) (.cons (Sub.imm (Imm.con _)) (.cons (Sub.ptr rfl rfl) (.cons (Sub.ownE rfl rfl (by simp)) (.cons (Sub.imm (Imm.lst _ _)) (.cons (Sub.imm (Imm.con _)) (.cons (Sub.imm (Imm.con _)) .nil)))))))) (HpSub.get (.cons rfl (ObSub.box (.cons (Sub.imm (Imm.con _)) (.cons (Sub.imm (Imm.con _)) (.cons (Sub.imm (Imm.con _)) (.cons (Sub.imm (Imm.con _)) .nil))))) (.cons rfl (ObSub.rows (q9a q3b)) .nil))) rfl)) (fun n p h => ?_)
  obtain ⟨n8, l9⟩ := p
  refine rn 5 rfl ?_
  refine spL rfl (fun hb10 => ?_) (fun hb10 => ?_)
  ·obtain ⟨x11, tl, hx12, h, hk1⟩ := RG.t hA16 h hb10
   unfold M92_L1 at h
   refine rn 5 rfl ?_
   refine ixh hx12 rfl rfl ?_
   refine rn 20 rfl ?_
   refine cl h rfl rfl rfl (W151 _ _ _ _) rfl (fun y13 hx14 h => ?_)
   refine q2e [(0, (iV y13))] [[(iV y13)]] tEl165 tZ3 rfl rfl rfl rfl q4a (q2f rfl q1h) rfl rfl (by simp) rfl ?_
   refine fo ?_
   refine apO q8a h rfl rfl rfl rfl rfl rfl rfl rfl (fun h => ?_)
   refine rn 7 rfl ?_
   exact jX ((w64 (n8 + 1)), (l9 ++ ([y13] : List Int))) (hk1 _ h) (gr [0, 3] rfl (hB rfl rfl rfl (hR rfl rfl .nil)) rfl)
  replace h := RG.f h hb10
  unfold M92_L1 at h
  refine rn 1 rfl ?_
  exact jX l9 h (gr [1] rfl (hR rfl rfl .nil) rfl)
 intro l5 h
 obtain ⟨y17, hx18, h⟩ := bind_some h
 refine rn 3 rfl ?_
 refine ck h (fun hc19 h => ?_)
 refine q7m (V.tup []) [(V.own 0 l5.length)] (fun i => ([0] : List Nat).getD i 0) (fun i => ([0] : List Nat).getD i 0) 1 1 [(0, (Ob.arr 3 1 (y17.map q8a)))] fOk152 q4a rfl (q7f rfl q9l) (.cons (Sub.own rfl rfl) .nil) (.cons rfl (ObSub.rows (q9a q3b)) .nil) (W152 F l5 y17 hx18) rfl rfl rfl rfl (Sub.immT (Imm.tup .nil)) (.cons rfl (ObSub.rowsT (q9a q3b)) .nil) _ rfl ?_
 refine q3f (ghost_tell 7 (V.own 0 y17.length) rfl (Sub.ownI hc19)) ?_
 refine q3f (ghost_tell 49 (V.own 0 y17.length) rfl (Sub.ownI hc19)) ?_
 obtain ⟨y20, hx21, h⟩ := bind_some h
 refine fo (rn 4 rfl ?_)
 refine q7m (V.own 0 y20.length) [(V.own 0 y17.length)] (fun i => ([0] : List Nat).getD i 0) (fun i => ([0] : List Nat).getD i 0) 1 1 [(0, (Ob.arr 3 1 (y20.map q8a)))] fOk153 q4a rfl (q7f rfl q9l) (.cons (Sub.own rfl rfl) .nil) (.cons rfl (ObSub.rows (q9a q3b)) .nil) (W153 F y17 y20 hx21) rfl rfl rfl rfl (Sub.ownT rfl rfl) (.cons rfl (ObSub.rowsT (q9a q3b)) .nil) _ rfl ?_
 refine fo (rn 2 rfl ?_)
 refine q7c (q8i 0 [6, 52] rfl (q9a q3b) (List.forall_mem_cons.2 ⟨rfl, (List.forall_mem_cons.2 ⟨rfl, (fun _ hx => nomatch hx)⟩)⟩) (List.length_map ..).symm) ?_
 refine fa ?_
 exact rt h rfl
theorem W70 (F : Nat) (a1 : List (List UInt8)) (r : List (List UInt8)) (h : M70 F a1 = some r) : Mut Tryz.prog 70 [(V.own 0 a1.length)] 1 [(0, (Ob.arr 9 1 (a1.map encS)))] (resV []) 1 [(0, (Ob.arr 9 1 (r.map encS)))] := by
 unfold M70 at h
 by_cases hc : a1.length < 4611686018427387904
 ·rw [if_pos hc] at h
  replace h := Option.some.inj h
  subst h
  exact (mut_sortStr a1 rfl (fun b off cap a w hH hb hc => Go.Proofs.Tryz.slices_Sort_string b off cap a w hH hb hc) (fun p w => Go.Proofs.Tryz.slices_Sort_string_none p 0 w) hc).heap hget_one
 ·rw [if_neg hc] at h; simp at h
theorem W118 (F : Nat) (a1 : (List Int)) (r : Int) (h : M118 F a1 = some r) : Pure Tryz.prog 118 [(V.lst 1 (a1.map q8a))] (iV r) := by
 refine pin (fun r => (iV r)) r rfl Tryz.func118 rfl rfl rfl rfl rfl (fun w0 m0 hg => ?_)
 unfold M118 at h
 refine rn 12 rfl ?_
 refine ln rfl rfl ?_
 refine rn 2 rfl ?_
 refine jK h (fun _ : Unit => (⟨[(3, (iV 0))], [], 0⟩ : St)) (fun k2 (_ : Unit) => k2 = some r) (fun k2 h => ?_) ?_
 ·refine rn 1 rfl ?_
  refine wl (A := a1) 0 rfl (fun hA9 => ?_)
  refine lC (fun (p : Int) => (⟨[(3, (iV 0)), (6, (V.lst 1 (a1.map q8a))), (7, (iV ((a1.length : Nat) : Int))), (8, (iV p))], [], 0⟩ : St)) (fun n p => RG a1 (fun tl nn => M118_L1 F k2 tl = some r) n p) (fun p h => RG.zero h) (a1.length + 1) 0 (RG.start h) (g0 rfl rfl) (fun n n4 h => ?_)
  refine rn 5 rfl ?_
  refine spL rfl (fun hb5 => ?_) (fun hb5 => ?_)
  ·obtain ⟨x6, tl, hx7, h, hk1⟩ := RG.t hA9 h hb5
   unfold M118_L1 at h
   refine rn 5 rfl ?_
   refine ixh hx7 rfl rfl ?_
   refine rn 9 rfl ?_
   refine spC h rfl (fun hb8 h => ?_) (fun hb8 h => ?_)
   ·refine rn 5 rfl ?_
    exact rt h rfl
   refine rn 6 rfl ?_
   exact jX (w64 (n4 + 1)) (hk1 _ h) (g0 rfl rfl)
  replace h := RG.f h hb5
  unfold M118_L1 at h
  refine rn 1 rfl ?_
  exact jX () h (g0 rfl rfl)
 intro _ h
 refine rn 5 rfl ?_
 exact rt h rfl
theorem W145 (F : Nat) (a1 : q6a) (a2 : q6a) (r : Int) (h : M145 F a1 a2 = some r) : Pure Tryz.prog 145 [(V.agg (q2c a1)), (V.agg (q2c a2))] (iV r) := by
 refine pin (fun r => (iV r)) r rfl Tryz.func145 rfl rfl rfl rfl rfl (fun w0 m0 hg => ?_)
 unfold M145 at h
 obtain ⟨y3, hx4, h⟩ := bind_some h
 obtain ⟨y5, hx6, h⟩ := bind_some h
 obtain ⟨y7, hx8, h⟩ := bind_some h
 refine rn 7 rfl ?_
 refine dr mixed (vs 4 rfl (cD rfl rfl rfl rfl (W100 _ _ _ _ hx4) rfl (vs 4 rfl (cD rfl rfl rfl rfl (W100 _ _ _ _ hx6) rfl (xD (OD.mk [(9, (iV y3)), (14, (iV y5))] [] [(15, (V.lst 1 (([y3, y5] : List Int).map q8a)))] []) ⟨⟨rfl, rfl, trivial⟩, trivial⟩ (by exact fun S hn h hh => q7e [(0, (iV y3)), (1, (iV y5))] [[(iV y3)], [(iV y5)]] tEl165 tZ3 q4a rfl rfl rfl rfl (q2f h.1 (q2f h.2.1 q1h)) rfl rfl (by simp) (q3i (.cons (.cons (Imm.con _) .nil) (.cons (.cons (Imm.con _) .nil) .nil))) rfl (q5c ⟨rfl, rfl⟩)) rfl (cD rfl rfl rfl rfl (W118 _ _ _ hx8) rfl (vs 1 rfl .nil))))))) (by kernel_rfl) ?_
 exact rt h rfl
theorem W144 (F : Nat) (a1 : List q6a) (r : List q6a) (h : M144 F a1 = some r) : Mut Tryz.prog 144 [(V.own 0 a1.length), (V.fn (.func 145) [] [])] 1 [(0, (Ob.arr 160 2 (a1.map q2c)))] (resV []) 1 [(0, (Ob.arr 160 2 (r.map q2c)))] := by
 unfold M144 at h
 exact (mut_sortF (g := 145) q2c (fun _ => rfl) (fun x => (q5h _)) [] .nil (fun x3 y4 => M145 F x3 y4) a1 r rfl h (fun x3 y4 c hc => W145 F x3 y4 c hc)
  (fun encR h1 h2 cf h3 cb blk off cap d w h4 h5 h6 h7 => Go.Proofs.Tryz.slices_SortFunc_f144 2 Go.Proofs.Tryz.isAgg160 Go.Proofs.Tryz.sizeOf160 encR h1 h2 cf h3 145 cb blk off cap d w (Go.Proofs.enters_of Go.Proofs.Tryz.func145 (by kernel_rfl) rfl) h4 h5 h6 h7)
  (fun p cap fv w => Go.Proofs.Tryz.slices_SortFunc_none_f144 (α := Nat) p cap fv w)).heap hget_one
theorem W80 (F : Nat) (a1 : q7a) (a2 : Int) (r : q5a) (h : M80 F a1 a2 = some r) : Pure Tryz.prog 80 [(V.iptr (q2a a1) 0), (iV a2)] (V.agg (q4d r)) := by
 refine pin (fun r => (V.agg (q4d r))) r rfl Tryz.func80 rfl rfl rfl rfl rfl (fun w0 m0 hg => ?_)
 unfold M80 at h
 refine rn 12 rfl ?_
 refine ixl h rfl rfl (fun x3 hx4 h => ?_)
 refine rn 8 rfl ?_
 refine aops_insert (es := ([] : List (Int × Bool)).map q6i) ((mput ([] : List (Int × Bool)) a2 true).map q6i) tMap246 tKey3 q4a rfl rfl (.con rfl) ⟨_, rfl⟩ encM3_4_good rfl (encM3_4_puts ([] : List (Int × Bool)) a2 true) ?_
 refine fo (rn 11 rfl ?_)
 refine q2e [(0, (iV a2))] [[(iV a2)]] tEl165 tZ3 rfl rfl rfl rfl q4a (q2f rfl q1h) rfl rfl (by simp) rfl ?_
 refine fo (rn 3 rfl ?_)
 refine jK h (fun (p : (List (Int × Bool)) × (List (q6a × Bool))) => (⟨[(0, (V.iptr (q2a a1) 0)), (1, (iV a2)), (4, (V.ptr 0 3 0 0)), (6, (V.map 1)), (7, (V.map 2))], [(0, (Ob.arr 45 3 [[(sV ([] : List UInt8)), nV, nV]])), (1, (Ob.map ((p.1).map q6i))), (2, (Ob.map ((p.2).map q5d)))], 3⟩ : St)) (fun k5 p => k5 p.1 p.2 = some r) (fun k5 h => ?_) ?_
 ·refine rn 1 rfl ?_
  refine lC (fun (p : (List (Int × Bool)) × (List (q6a × Bool)) × (List Int)) => (⟨[(0, (V.iptr (q2a a1) 0)), (1, (iV a2)), (4, (V.ptr 0 3 0 0)), (5, (sV x3.Component)), (6, (V.map 1)), (7, (V.map 2)), (8, (V.own 3 (p.2.2).length))], [(0, (Ob.arr 45 3 [[(sV ([] : List UInt8)), nV, nV]])), (1, (Ob.map ((p.1).map q6i))), (2, (Ob.map ((p.2.1).map q5d))), (3, (Ob.arr 3 1 ((p.2.2).map q8a)))], 4⟩ : St)) (fun n p => M80_L1 F a1 x3 k5 n p.1 p.2.1 p.2.2 = some r) (fun p h => by simp [M80_L1] at h) F ((mput ([] : List (Int × Bool)) a2 true), ([] : List (q6a × Bool)), ([a2] : List Int)) h (q9f 4 (fun i => ([0, 1, 2, 3] : List Nat).getD i 0) _ _ (by decide) (q0k.get (.cons (Sub.imm (Imm.iptr _ _)) (.cons (Sub.imm (Imm.con _)) (.cons (Sub.ptr rfl rfl) (.cons (Sub.imm (Imm.con _)) (.cons (Sub.map rfl rfl) (.cons (Sub.map rfl rfl) (.cons (Sub.ownE rfl rfl (by simp)) .nil)))))))) (HpSub.get (.cons rfl (ObSub.box (.cons (Sub.imm (Imm.con _)) (.cons (Sub.imm (Imm.con _)) (.cons (Sub.imm (Imm.con _)) .nil)))) (.cons rfl (ObSub.maps encM3_4_imm) (.cons rfl (ObSub.maps q8n) (.cons rfl (ObSub.rows (q9a q3b)) .nil))))) rfl) (fun n p h => ?_)
  obtain ⟨m11, m12, l13⟩ := p
  unfold M80_L1 at h
  refine rn 7 rfl ?_
  refine spC h rfl (fun hb14 h => ?_) (fun hb14 h => ?_)
  ·refine rn 1 rfl ?_
   refine jK h (fun (p : (List (Int × Bool)) × (List (q6a × Bool)) × (List Int)) => (⟨[(0, (V.iptr (q2a a1) 0)), (1, (iV a2)), (4, (V.ptr 0 3 0 0)), (5, (sV x3.Component)), (6, (V.map 1)), (7, (V.map 2)), (8, (V.own 3 (p.2.2).length))], [(0, (Ob.arr 45 3 [[(sV ([] : List UInt8)), nV, nV]])), (1, (Ob.map ((p.1).map q6i))), (2, (Ob.map ((p.2.1).map q5d))), (3, (Ob.arr 3 1 ((p.2.2).map q8a)))], 4⟩ : St)) (fun k15 p => k15 p.1 p.2.1 p.2.2 = some r) (fun k15 h => ?_) ?_
   ·refine rn 4 rfl ?_
    refine ixo (a := l13) h rfl rfl rfl (fun x19 hx20 h => ?_)
    refine ldp hx20 rfl rfl rfl rfl ?_
    refine rn 5 rfl ?_
    refine ck h (fun hc21 h => ?_)
    refine aops_slice_ownN (nx := 4) (1) (l13.length) ((l13.drop 1).length) ((l13.drop 1).map q8a) tSl165 q4a rfl rfl (by simp) rfl ⟨_, rfl⟩ rfl hc21 (Nat.le_refl _) (List.map_drop ..).symm (by simp) (ndB_rows (q9a q3b)) rfl ?_
    refine fo (rn 10 rfl ?_)
    refine ixl h rfl rfl (fun x22 hx23 h => ?_)
    refine rn 2 rfl ?_
    refine ln rfl rfl ?_
    refine rn 2 rfl ?_
    refine jK h (fun (p : (List (Int × Bool)) × (List (q6a × Bool)) × (List Int)) => (⟨[(0, (V.iptr (q2a a1) 0)), (1, (iV a2)), (4, (V.ptr 0 3 0 0)), (5, (sV x3.Component)), (6, (V.map 1)), (7, (V.map 2)), (8, (V.own 3 (p.2.2).length))], [(0, (Ob.arr 45 3 [[(sV ([] : List UInt8)), nV, nV]])), (1, (Ob.map ((p.1).map q6i))), (2, (Ob.map ((p.2.1).map q5d))), (3, (Ob.arr 3 1 ((p.2.2).map q8a)))], 4⟩ : St)) (fun k24 p => k24 p.1 p.2.1 p.2.2 = some r) (fun k24 h => ?_) ?_
    ·refine rn 1 rfl ?_
     refine wl (A := x22.Calls) 48 rfl (fun hA90 => ?_)
     refine lC (fun (p : Int × (List (Int × Bool)) × (List (q6a × Bool)) × (List Int)) => (⟨[(0, (V.iptr (q2a a1) 0)), (1, (iV a2)), (4, (V.ptr 0 3 0 0)), (5, (sV x3.Component)), (6, (V.map 1)), (7, (V.map 2)), (8, (V.own 3 (p.2.2.2).length)), (48, (V.lst 4 (x22.Calls.map q9d))), (49, (iV ((x22.Calls.length : Nat) : Int))), (50, (iV (p.1)))], [(0, (Ob.arr 45 3 [[(sV ([] : List UInt8)), nV, nV]])), (1, (Ob.map ((p.2.1).map q6i))), (2, (Ob.map ((p.2.2.1).map q5d))), (3, (Ob.arr 3 1 ((p.2.2.2).map q8a)))], 4⟩ : St)) (fun n p => RG x22.Calls (fun tl nn => M80_L2 F a1 x3 k24 tl p.2.1 p.2.2.1 p.2.2.2 = some r) n p.1) (fun p h => RG.zero h) (x22.Calls.length + 1) (0, m11, m12, (l13.drop 1)) (RG.start h) (gr [0, 1, 2, 4] rfl (hB rfl rfl rfl (hM rfl rfl (hM rfl rfl (hR rfl rfl .nil)))) rfl) (fun n p h => ?_)
     obtain ⟨n32, m33, m34, l35⟩ := p
     refine rn 5 rfl ?_
     refine spL rfl (fun hb36 => ?_) (fun hb36 => ?_)
     ·obtain ⟨x41, tl, hx42, h, hk2⟩ := RG.t hA90 h hb36
      unfold M80_L2 at h
      refine rn 2 rfl ?_
      refine jK h (fun (p : (List (Int × Bool)) × (List (q6a × Bool)) × (List Int)) => (⟨[(0, (V.iptr (q2a a1) 0)), (1, (iV a2)), (4, (V.ptr 0 3 0 0)), (5, (sV x3.Component)), (6, (V.map 1)), (7, (V.map 2)), (8, (V.own 3 (p.2.2).length)), (48, (V.lst 4 (x22.Calls.map q9d))), (49, (iV ((x22.Calls.length : Nat) : Int))), (50, (iV n32))], [(0, (Ob.arr 45 3 [[(sV ([] : List UInt8)), nV, nV]])), (1, (Ob.map ((p.1).map q6i))), (2, (Ob.map ((p.2.1).map q5d))), (3, (Ob.arr 3 1 ((p.2.2).map q8a)))], 4⟩ : St)) (fun k37 p => k37 p.1 p.2.1 p.2.2 = some r) (fun k37 h => ?_) ?_
      ·refine rn 3 rfl ?_
       refine ixh hx42 rfl rfl ?_
       refine rn 6 rfl ?_
       refine dr mixed (vs 6 rfl (xD (OD.mk [(57, (V.imap (a1.on.map q5b))), (59, (sV x41.Feature))] [] [(60, (bV ((mget a1.on x41.Feature).getD false)))] []) ⟨⟨rfl, rfl, trivial⟩, trivial⟩ (by exact fun S hn h hh => q3e _ (bV false) (bV ((mget a1.on x41.Feature).getD false)) q2k tKey9 tZo4 (q3g _) q4a h.1 .imm (.con h.2.1) ⟨_, rfl⟩ q6e (q3h a1.on x41.Feature) (q1f (q0g) (mget a1.on x41.Feature) false) rfl (q5c ⟨rfl, rfl⟩)) rfl (vs 1 rfl .nil))) (by kernel_rfl) ?_
       refine spC h rfl (fun hb43 h => ?_) (fun hb43 h => ?_)
       ·refine rn 1 rfl ?_
        exact jX (m33, m34, l35) h (gr [0, 1, 2, 3] rfl (hB rfl rfl rfl (hM rfl rfl (hM rfl rfl (hR rfl rfl .nil)))) rfl)
       refine rn 8 rfl ?_
       refine jK h (fun (p : (List (q6a × Bool))) => (⟨[(0, (V.iptr (q2a a1) 0)), (1, (iV a2)), (4, (V.ptr 0 3 0 0)), (5, (sV x3.Component)), (6, (V.map 1)), (7, (V.map 2)), (8, (V.own 3 l35.length)), (11, (V.ptr 4 4 0 0)), (48, (V.lst 4 (x22.Calls.map q9d))), (49, (iV ((x22.Calls.length : Nat) : Int))), (50, (iV n32))], [(0, (Ob.arr 45 3 [[(sV ([] : List UInt8)), nV, nV]])), (1, (Ob.map (m33.map q6i))), (2, (Ob.map (p.map q5d))), (3, (Ob.arr 3 1 (l35.map q8a))), (4, (Ob.arr 109 4 [(q9d x41)]))], 5⟩ : St)) (fun k44 p => k44 p = some r) (fun k44 h => ?_) ?_
       ·refine spC h rfl (fun hb46 h => ?_) (fun hb46 h => ?_)
        ·refine rn 7 rfl ?_
         refine q0e (es := m34.map q5d) ((mput m34 (q6a.mk x41.Target x41.Method) true).map q5d) tMap247 tKey160 q4a rfl rfl (.agg (cv160 (q6a.mk x41.Target x41.Method)) rfl) ⟨_, rfl⟩ encM160_4_good rfl (encM160_4_puts m34 (q6a.mk x41.Target x41.Method) true) ?_
         refine fo (rn 1 rfl ?_)
         exact jX (mput m34 (q6a.mk x41.Target x41.Method) true) h (gr [0, 1, 2, 3, 4] rfl (hB rfl rfl rfl (hM rfl rfl (hM rfl rfl (hR rfl rfl (hB rfl rfl rfl .nil))))) rfl)
        refine rn 1 rfl ?_
        exact jX m34 h (gr [0, 1, 2, 3, 4] rfl (hB rfl rfl rfl (hM rfl rfl (hM rfl rfl (hR rfl rfl (hB rfl rfl rfl .nil))))) rfl)
       intro m45 h
       refine rn 4 rfl ?_
       refine cl h rfl rfl rfl (W92 _ _ _) rfl (fun y47 hx48 h => ?_)
       refine ln rfl rfl ?_
       refine rn 2 rfl ?_
       refine jK h (fun (p : (List (Int × Bool)) × (List (q6a × Bool)) × (List Int)) => (⟨[(0, (V.iptr (q2a a1) 0)), (1, (iV a2)), (4, (V.ptr 0 3 0 0)), (5, (sV x3.Component)), (6, (V.map 1)), (7, (V.map 2)), (8, (V.own 3 (p.2.2).length)), (48, (V.lst 4 (x22.Calls.map q9d))), (49, (iV ((x22.Calls.length : Nat) : Int))), (50, (iV n32))], [(0, (Ob.arr 45 3 [[(sV ([] : List UInt8)), nV, nV]])), (1, (Ob.map ((p.1).map q6i))), (2, (Ob.map ((p.2.1).map q5d))), (3, (Ob.arr 3 1 ((p.2.2).map q8a)))], 4⟩ : St)) (fun k49 p => k49 p.1 p.2.1 p.2.2 = some r) (fun k49 h => ?_) ?_
       ·refine rn 1 rfl ?_
        refine wl (A := y47) 73 rfl (fun hA89 => ?_)
        refine lC (fun (p : Int × (List (Int × Bool)) × (List (q6a × Bool)) × (List Int)) => (⟨[(0, (V.iptr (q2a a1) 0)), (1, (iV a2)), (4, (V.ptr 0 3 0 0)), (5, (sV x3.Component)), (6, (V.map 1)), (7, (V.map 2)), (8, (V.own 3 (p.2.2.2).length)), (11, (V.ptr 4 4 0 0)), (48, (V.lst 4 (x22.Calls.map q9d))), (49, (iV ((x22.Calls.length : Nat) : Int))), (50, (iV n32)), (73, (V.lst 1 (y47.map q8a))), (74, (iV ((y47.length : Nat) : Int))), (75, (iV (p.1)))], [(0, (Ob.arr 45 3 [[(sV ([] : List UInt8)), nV, nV]])), (1, (Ob.map ((p.2.1).map q6i))), (2, (Ob.map ((p.2.2.1).map q5d))), (3, (Ob.arr 3 1 ((p.2.2.2).map q8a))), (4, (Ob.arr 109 4 [(q9d x41)]))], 5⟩ : St)) (fun n p => RG y47 (fun tl nn => M80_L3 F a1 x3 x41 k49 tl p.2.1 p.2.2.1 p.2.2.2 = some r) n p.1) (fun p h => RG.zero h) (y47.length + 1) (0, m33, m45, l35) (RG.start h) (gr [0, 1, 2, 3, 4] rfl (hB rfl rfl rfl (hM rfl rfl (hM rfl rfl (hR rfl rfl (hB rfl rfl rfl .nil))))) rfl) (fun n p h => ?_)
        obtain ⟨n57, m58, m59, l60⟩ := p
        refine rn 5 rfl ?_
        refine spL rfl (fun hb61 => ?_) (fun hb61 => ?_)
        ·obtain ⟨x62, tl, hx63, h, hk3⟩ := RG.t hA89 h hb61
         unfold M80_L3 at h
         refine rn 5 rfl ?_
         refine ixh hx63 rfl rfl ?_
         refine rn 3 rfl ?_
         refine jK h (fun (p : (List (Int × Bool)) × (List (q6a × Bool)) × (List Int)) => (⟨[(0, (V.iptr (q2a a1) 0)), (1, (iV a2)), (4, (V.ptr 0 3 0 0)), (5, (sV x3.Component)), (6, (V.map 1)), (7, (V.map 2)), (8, (V.own 3 (p.2.2).length)), (11, (V.ptr 4 4 0 0)), (48, (V.lst 4 (x22.Calls.map q9d))), (49, (iV ((x22.Calls.length : Nat) : Int))), (50, (iV n32)), (73, (V.lst 1 (y47.map q8a))), (74, (iV ((y47.length : Nat) : Int))), (75, (iV n57))], [(0, (Ob.arr 45 3 [[(sV ([] : List UInt8)), nV, nV]])), (1, (Ob.map ((p.1).map q6i))), (2, (Ob.map ((p.2.1).map q5d))), (3, (Ob.arr 3 1 ((p.2.2).map q8a))), (4, (Ob.arr 109 4 [(q9d x41)]))], 5⟩ : St)) (fun k64 p => k64 p.1 p.2.1 p.2.2 = some r) (fun k64 h => ?_) ?_
         ·refine rn 9 rfl ?_
          refine ixl h rfl rfl (fun x68 hx69 h => ?_)
          refine rn 5 rfl ?_
          refine spO 91 h rfl (fun hb70 h => ?_) (fun hb70 h => ?_)
          ·refine rn 6 rfl ?_
           refine jK h (fun (p : (List (Int × Bool)) × (List (q6a × Bool)) × (List Int)) => (⟨[(0, (V.iptr (q2a a1) 0)), (1, (iV a2)), (4, (V.ptr 0 3 0 0)), (5, (sV x3.Component)), (6, (V.map 1)), (7, (V.map 2)), (8, (V.own 3 (p.2.2).length)), (11, (V.ptr 4 4 0 0)), (48, (V.lst 4 (x22.Calls.map q9d))), (49, (iV ((x22.Calls.length : Nat) : Int))), (50, (iV n32)), (73, (V.lst 1 (y47.map q8a))), (74, (iV ((y47.length : Nat) : Int))), (75, (iV n57)), (94, (bV (x41.Kind == 1)))], [(0, (Ob.arr 45 3 [[(sV ([] : List UInt8)), nV, nV]])), (1, (Ob.map ((p.1).map q6i))), (2, (Ob.map ((p.2.1).map q5d))), (3, (Ob.arr 3 1 ((p.2.2).map q8a))), (4, (Ob.arr 109 4 [(q9d x41)]))], 5⟩ : St)) (fun k71 p => k71 p.1 p.2.1 p.2.2 = some r) (fun k71 h => ?_) ?_
           ·refine spC h rfl (fun hb75 h => ?_) (fun hb75 h => ?_)
            ·refine rn 5 rfl ?_
             refine q0e (es := m59.map q5d) ((mput m59 (q6a.mk x41.Target ([] : List UInt8)) true).map q5d) tMap247 tKey160 q4a rfl rfl (.agg (cv160 (q6a.mk x41.Target ([] : List UInt8))) rfl) ⟨_, rfl⟩ encM160_4_good rfl (encM160_4_puts m59 (q6a.mk x41.Target ([] : List UInt8)) true) ?_
             refine fo (rn 1 rfl ?_)
             exact jX (m58, (mput m59 (q6a.mk x41.Target ([] : List UInt8)) true), l60) h (gr [0, 1, 2, 3, 4] rfl (hB rfl rfl rfl (hM rfl rfl (hM rfl rfl (hR rfl rfl (hB rfl rfl rfl .nil))))) rfl)
            refine rn 8 rfl ?_
            refine ixl h rfl rfl (fun x76 hx77 h => ?_)
            refine rn 5 rfl ?_
            refine spO 112 h rfl (fun hb78 h => ?_) (fun hb78 h => ?_)
            ·refine rn 2 rfl ?_
             refine q3e _ (bV false) (bV ((mget m58 x62).getD false)) tMap246 tKey3 tZo4 (q3g _) (q4k (c := true) (b := true) 112 rfl rfl rfl) rfl (.own rfl) (.con rfl) ⟨_, rfl⟩ encM3_4_good (encM3_4_look m58 x62) (q1f (encM3_4_val) (mget m58 x62) false) rfl ?_
             refine fo (rn 4 rfl ?_)
             refine spC h rfl (fun hb79 h => ?_) (fun hb79 h => ?_)
             ·refine rn 4 rfl ?_
              refine q0e (es := m58.map q6i) ((mput m58 x62 true).map q6i) tMap246 tKey3 q4a rfl rfl (.con rfl) ⟨_, rfl⟩ encM3_4_good rfl (encM3_4_puts m58 x62 true) ?_
              refine fo (rn 4 rfl ?_)
              refine q2e [(0, (iV x62))] [[(iV x62)]] tEl165 tZ3 rfl rfl rfl rfl q4a (q2f rfl q1h) rfl rfl (by simp) rfl ?_
              refine fo ?_
              refine apO q8a h rfl rfl rfl rfl rfl rfl rfl rfl (fun h => ?_)
              refine rn 2 rfl ?_
              exact jX ((mput m58 x62 true), m59, (l60 ++ ([x62] : List Int))) h (gr [0, 1, 2, 6, 4] rfl (hB rfl rfl rfl (hM rfl rfl (hM rfl rfl (hR rfl rfl (hB rfl rfl rfl .nil))))) rfl)
             refine rn 1 rfl ?_
             exact jX (m58, m59, l60) h (gr [0, 1, 2, 3, 4] rfl (hB rfl rfl rfl (hM rfl rfl (hM rfl rfl (hR rfl rfl (hB rfl rfl rfl .nil))))) rfl)
            refine rn 9 rfl ?_
            exact jX (m58, m59, l60) h (gr [0, 1, 2, 3, 4] rfl (hB rfl rfl rfl (hM rfl rfl (hM rfl rfl (hR rfl rfl (hB rfl rfl rfl .nil))))) rfl)
           rintro ⟨m72, m73, l74⟩ h
           refine rn 1 rfl ?_
           exact jX (m72, m73, l74) h (gr [0, 1, 2, 3, 4] rfl (hB rfl rfl rfl (hM rfl rfl (hM rfl rfl (hR rfl rfl (hB rfl rfl rfl .nil))))) rfl)
          refine rn 15 rfl ?_
          refine ixl h rfl rfl (fun x81 hx82 h => ?_)
          refine rn 5 rfl ?_
          refine spO 112 h rfl (fun hb83 h => ?_) (fun hb83 h => ?_)
          ·refine rn 2 rfl ?_
           refine q3e _ (bV false) (bV ((mget m58 x62).getD false)) tMap246 tKey3 tZo4 (q3g _) (q4k (c := true) (b := true) 112 rfl rfl rfl) rfl (.own rfl) (.con rfl) ⟨_, rfl⟩ encM3_4_good (encM3_4_look m58 x62) (q1f (encM3_4_val) (mget m58 x62) false) rfl ?_
           refine fo (rn 4 rfl ?_)
           refine jK h (fun (p : (List (Int × Bool)) × (List Int)) => (⟨[(0, (V.iptr (q2a a1) 0)), (1, (iV a2)), (4, (V.ptr 0 3 0 0)), (5, (sV x3.Component)), (6, (V.map 1)), (7, (V.map 2)), (8, (V.own 3 (p.2).length)), (11, (V.ptr 4 4 0 0)), (48, (V.lst 4 (x22.Calls.map q9d))), (49, (iV ((x22.Calls.length : Nat) : Int))), (50, (iV n32)), (73, (V.lst 1 (y47.map q8a))), (74, (iV ((y47.length : Nat) : Int))), (75, (iV n57)), (94, (V.con undef)), (116, (bV (!((mget m58 x62).getD false))))], [(0, (Ob.arr 45 3 [[(sV ([] : List UInt8)), nV, nV]])), (1, (Ob.map ((p.1).map q6i))), (2, (Ob.map (m59.map q5d))), (3, (Ob.arr 3 1 ((p.2).map q8a))), (4, (Ob.arr 109 4 [(q9d x41)]))], 5⟩ : St)) (fun k84 p => k84 p.1 p.2 = some r) (fun k84 h => ?_) ?_
           ·refine spC h rfl (fun hb87 h => ?_) (fun hb87 h => ?_)
            ·refine rn 4 rfl ?_
             refine q0e (es := m58.map q6i) ((mput m58 x62 true).map q6i) tMap246 tKey3 q4a rfl rfl (.con rfl) ⟨_, rfl⟩ encM3_4_good rfl (encM3_4_puts m58 x62 true) ?_
             refine fo (rn 4 rfl ?_)
             refine q2e [(0, (iV x62))] [[(iV x62)]] tEl165 tZ3 rfl rfl rfl rfl q4a (q2f rfl q1h) rfl rfl (by simp) rfl ?_
             refine fo ?_
             refine apO q8a h rfl rfl rfl rfl rfl rfl rfl rfl (fun h => ?_)
             refine rn 2 rfl ?_
             exact jX ((mput m58 x62 true), (l60 ++ ([x62] : List Int))) h (gr [0, 1, 2, 6, 4] rfl (hB rfl rfl rfl (hM rfl rfl (hM rfl rfl (hR rfl rfl (hB rfl rfl rfl .nil))))) rfl)
            refine rn 1 rfl ?_
            exact jX (m58, l60) h (gr [0, 1, 2, 3, 4] rfl (hB rfl rfl rfl (hM rfl rfl (hM rfl rfl (hR rfl rfl (hB rfl rfl rfl .nil))))) rfl)
           rintro ⟨m85, l86⟩ h
           refine rn 1 rfl ?_
           exact jX (m85, m59, l86) h (gr [0, 1, 2, 3, 4] rfl (hB rfl rfl rfl (hM rfl rfl (hM rfl rfl (hR rfl rfl (hB rfl rfl rfl .nil))))) rfl)
          refine rn 10 rfl ?_
          exact jX (m58, m59, l60) h (gr [0, 1, 2, 3, 4] rfl (hB rfl rfl rfl (hM rfl rfl (hM rfl rfl (hR rfl rfl (hB rfl rfl rfl .nil))))) rfl)
         rintro ⟨m65, m66, l67⟩ h
         refine rn 5 rfl ?_
         exact jX ((w64 (n57 + 1)), m65, m66, l67) (hk3 _ h) (gr [0, 1, 2, 3, 4] rfl (hB rfl rfl rfl (hM rfl rfl (hM rfl rfl (hR rfl rfl (hB rfl rfl rfl .nil))))) rfl)
        replace h := RG.f h hb61
        unfold M80_L3 at h
        refine rn 1 rfl ?_
        exact jX (m58, m59, l60) h (gr [0, 1, 2, 3] rfl (hB rfl rfl rfl (hM rfl rfl (hM rfl rfl (hR rfl rfl .nil)))) rfl)
       rintro ⟨m50, m51, l52⟩ h
       refine rn 1 rfl ?_
       exact jX (m50, m51, l52) h (gr [0, 1, 2, 3] rfl (hB rfl rfl rfl (hM rfl rfl (hM rfl rfl (hR rfl rfl .nil)))) rfl)
      rintro ⟨m38, m39, l40⟩ h
      refine rn 4 rfl ?_
      exact jX ((w64 (n32 + 1)), m38, m39, l40) (hk2 _ h) (gr [0, 1, 2, 3] rfl (hB rfl rfl rfl (hM rfl rfl (hM rfl rfl (hR rfl rfl .nil)))) rfl)
     replace h := RG.f h hb36
     unfold M80_L2 at h
     refine rn 1 rfl ?_
     exact jX (m33, m34, l35) h (gr [0, 1, 2, 3] rfl (hB rfl rfl rfl (hM rfl rfl (hM rfl rfl (hR rfl rfl .nil)))) rfl)
    rintro ⟨m25, m26, l27⟩ h
    refine rn 1 rfl ?_
    exact jX (m25, m26, l27) h (gr [0, 1, 2, 3] rfl (hB rfl rfl rfl (hM rfl rfl (hM rfl rfl (hR rfl rfl .nil)))) rfl)
   rintro ⟨m16, m17, l18⟩ h
   exact jX (m16, m17, l18) h (gr [0, 1, 2, 3] rfl (hB rfl rfl rfl (hM rfl rfl (hM rfl rfl (hR rfl rfl .nil)))) rfl)
  refine rn 1 rfl ?_
  exact jX (m11, m12) h (gr [0, 1, 2] rfl (hB rfl rfl rfl (hM rfl rfl (hM rfl rfl .nil))) rfl)
 rintro ⟨m6, m7⟩ h
 refine rn 8 rfl ?_
 refine ixl h rfl rfl (fun x91 hx92 h => ?_)
 refine rn 10 rfl ?_
 refine q3f (ghost_frzMx (es := m6.map q6i) 1 rfl encM3_4_imm (.put (t := 136) rfl Sub.frzM (.put (t := 6) rfl Sub.frzM .refl)) .refl) ?_
 refine aops_range tMap246 q4a rfl rfl ?_
 refine fo (rn 2 rfl ?_)
 refine lC (fun (p : (List (Int × Bool)) × (List (List UInt8))) => (⟨[(0, (V.iptr (q2a a1) 0)), (4, (V.ptr 0 3 0 0)), (7, (V.map 1)), (14, (V.ptr 2 3 0 0)), (137, (V.ptr 3 1 0 0))], [(0, (Ob.arr 45 3 [[(sV ([] : List UInt8)), nV, nV]])), (1, (Ob.map (m7.map q5d))), (2, (Ob.arr 45 3 [[(sV x91.Name), (V.own 4 (p.2).length), nV]])), (3, (Ob.iter [] ((p.1).map q6i))), (4, (Ob.arr 9 1 ((p.2).map encS)))], 5⟩ : St)) (fun n p => RM n p.1 (M80_L4 F a1 m7 x91 p.1 p.2 = some r)) (fun p h => RM.zero h) (m6.length + 1) (m6, ([] : List (List UInt8))) (RM.start h) (Ghost.trans (ghost_nilC 3 9 1 (Ob.arr 45 3 [[(sV x91.Name), (V.own 5 0), nV]]) (ObSub.box (.cons Sub.keepNil (.cons Sub.mkNil (.cons Sub.keepNil .nil))))) (q9f 5 (fun i => ([0, 2, 3, 4, 5] : List Nat).getD i 0) _ _ (by decide) (q0k.get (.cons (Sub.imm (Imm.iptr _ _)) (.cons (Sub.ptr rfl rfl) (.cons (Sub.map rfl rfl) (.cons (Sub.ptr rfl rfl) (.cons (Sub.ptr rfl rfl) .nil)))))) (HpSub.get (.cons rfl (ObSub.box (.cons (Sub.imm (Imm.con _)) (.cons (Sub.imm (Imm.con _)) (.cons (Sub.imm (Imm.con _)) .nil)))) (.cons rfl (ObSub.maps q8n) (.cons rfl (ObSub.box (.cons (Sub.imm (Imm.con _)) (.cons (Sub.ownE rfl rfl (by simp)) (.cons (Sub.imm (Imm.con _)) .nil)))) (.cons rfl ObSub.itr (.cons rfl (ObSub.rows (q9a q3j)) .nil)))))) rfl)) (fun n p h => ?_)
 obtain ⟨l95, l96⟩ := p
 refine rn 2 rfl ?_
 refine nxt rfl rfl q4a rfl (fun hl4 => ?_) (fun e97 l98 hq4 hp4 => ?_)
 ·replace h := h.2
  subst hl4
  unfold M80_L4 at h
  refine rn 9 rfl ?_
  refine q3f (ghost_frzMx (es := m7.map q5d) 1 rfl q8n (.put (t := 156) rfl Sub.frzM (.put (t := 7) rfl Sub.frzM .refl)) .refl) ?_
  refine aops_range tMap247 q4a rfl rfl ?_
  refine fo (rn 2 rfl ?_)
  refine lC (fun (p : (List (q6a × Bool)) × (List q6a)) => (⟨[(4, (V.ptr 0 3 0 0)), (14, (V.ptr 1 3 0 0)), (157, (V.ptr 2 1 0 0))], [(0, (Ob.arr 45 3 [[(sV ([] : List UInt8)), nV, nV]])), (1, (Ob.arr 45 3 [[(sV x91.Name), (V.own 3 l96.length), (V.own 4 (p.2).length)]])), (2, (Ob.iter [] ((p.1).map q5d))), (3, (Ob.arr 9 1 (l96.map encS))), (4, (Ob.arr 160 2 ((p.2).map q2c)))], 5⟩ : St)) (fun n p => RM n p.1 (M80_L5 F x91 l96 p.1 p.2 = some r)) (fun p h => RM.zero h) (m7.length + 1) (m7, ([] : List q6a)) (RM.start h) (Ghost.trans (ghost_nilC 2 160 2 (Ob.arr 45 3 [[(sV x91.Name), (V.own 4 l96.length), (V.own 6 0)]]) (ObSub.box (.cons Sub.keepNil (.cons Sub.keepNil (.cons Sub.mkNil .nil))))) (q9f 5 (fun i => ([0, 2, 5, 4, 6] : List Nat).getD i 0) _ _ (by decide) (q0k.get (.cons (Sub.ptr rfl rfl) (.cons (Sub.ptr rfl rfl) (.cons (Sub.ptr rfl rfl) .nil)))) (HpSub.get (.cons rfl (ObSub.box (.cons (Sub.imm (Imm.con _)) (.cons (Sub.imm (Imm.con _)) (.cons (Sub.imm (Imm.con _)) .nil)))) (.cons rfl (ObSub.box (.cons (Sub.imm (Imm.con _)) (.cons (Sub.own rfl rfl) (.cons (Sub.ownE rfl rfl (by simp)) .nil)))) (.cons rfl ObSub.itr (.cons rfl (ObSub.rows (q9a q3j)) (.cons rfl (ObSub.rows (q9a q5h)) .nil)))))) rfl)) (fun n p h => ?_)
  obtain ⟨l104, l105⟩ := p
  refine rn 2 rfl ?_
  refine nxt rfl rfl q4a rfl (fun hl5 => ?_) (fun e106 l107 hq5 hp5 => ?_)
  ·replace h := h.2
   subst hl5
   unfold M80_L5 at h
   obtain ⟨y109, hx110, h⟩ := bind_some h
   refine rn 9 rfl ?_
   refine ck h (fun hc111 h => ?_)
   refine q7m (V.tup []) [(V.own 3 l96.length)] (fun i => ([3] : List Nat).getD i 0) (fun i => ([3] : List Nat).getD i 0) 5 5 [(3, (Ob.arr 9 1 (y109.map encS)))] fOk70 q4a rfl (q7f rfl q9l) (.cons (Sub.own rfl rfl) .nil) (.cons rfl (ObSub.rows (q9a q3j)) .nil) (W70 F l96 y109 hx110) rfl rfl rfl rfl (Sub.immT (Imm.tup .nil)) (.cons rfl (ObSub.rowsT (q9a q3j)) .nil) _ rfl ?_
   refine q3f (ghost_tell 169 (V.own 3 y109.length) rfl (Sub.ownI hc111)) ?_
   refine q3f (ghost_tellC 1 (Ob.arr 45 3 [[(sV x91.Name), (V.own 3 y109.length), (V.own 4 l105.length)]]) rfl (ObSub.box (.cons Sub.keepI (.cons (Sub.ownI hc111) (.cons Sub.keepI .nil))))) ?_
   obtain ⟨y112, hx113, h⟩ := bind_some h
   refine fo (rn 5 rfl ?_)
   refine ck h (fun hc114 h => ?_)
   refine q7m (V.tup []) [(V.own 4 l105.length), (V.fn (.func 145) [] [])] (fun i => ([4] : List Nat).getD i 0) (fun i => ([4] : List Nat).getD i 0) 5 5 [(4, (Ob.arr 160 2 (y112.map q2c)))] fOk144 q4a rfl (q7f rfl (q7f rfl q9l)) (.cons (Sub.own rfl rfl) (.cons (Sub.imm (Imm.fn .nil .nil)) .nil)) (.cons rfl (ObSub.rows (q9a q5h)) .nil) (W144 F l105 y112 hx113) rfl rfl rfl rfl (Sub.immT (Imm.tup .nil)) (.cons rfl (ObSub.rowsT (q9a q5h)) .nil) _ rfl ?_
   refine q3f (ghost_tell 172 (V.own 4 y112.length) rfl (Sub.ownI hc114)) ?_
   refine q3f (ghost_tellC 1 (Ob.arr 45 3 [[(sV x91.Name), (V.own 3 y109.length), (V.own 4 y112.length)]]) rfl (ObSub.box (.cons Sub.keepI (.cons Sub.keepI (.cons (Sub.ownI hc114) .nil))))) ?_
   refine fo (rn 6 rfl ?_)
   refine q7c (q6l 3 0 (Ob.arr 45 3 [[(sV x91.Name), (V.lst 1 (y109.map encS)), (V.own 4 y112.length)]]) rfl (q9a q3j) (ObSub.box (.cons Sub.keep (.cons (Sub.frzAll (rows := y109.map encS) (List.length_map ..).symm) (.cons Sub.keep .nil))))) ?_
   refine q7c (q6l 4 0 (Ob.arr 45 3 [[(sV x91.Name), (V.lst 1 (y109.map encS)), (V.lst 2 (y112.map q2c))]]) rfl (q9a q5h) (ObSub.box (.cons Sub.keep (.cons Sub.keep (.cons (Sub.frzAll (rows := y112.map q2c) (List.length_map ..).symm) .nil))))) ?_
   refine fa ?_
   exact rt h rfl
  have hm5 := h
  replace h := ord_M80_L5 hp5 h.2
  unfold M80_L5 at h
  refine rn 8 rfl ?_
  refine aops_entry q4a rfl rfl rfl ?_
  refine q3f (ghost_tell 160 (V.tup [(V.agg (q2c e106.1)), (bV e106.2)]) rfl (Sub.tupKey rfl)) ?_
  refine fo (rn 8 rfl ?_)
  refine q2e [(0, (V.agg (q2c e106.1)))] [(q2c e106.1)] tEl43 tZ160 rfl rfl rfl rfl q4a (q2f rfl q1h) rfl rfl (by simp) rfl ?_
  refine fo ?_
  refine apO q2c h rfl rfl rfl rfl rfl rfl rfl rfl (fun h => ?_)
  refine rn 4 rfl ?_
  exact jX (l107, (l105 ++ ([e106.1] : List q6a))) (RM.step hm5 hq5 h) (gr [0, 1, 2, 3, 7] rfl (hB rfl rfl rfl (hB rfl rfl rfl (hI rfl rfl (hR rfl rfl (hR rfl rfl .nil))))) rfl)
 have hm4 := h
 replace h := ord_M80_L4 hp4 h.2
 unfold M80_L4 at h
 refine rn 8 rfl ?_
 refine aops_entry q4a rfl rfl rfl ?_
 obtain ⟨x99, hx100, h⟩ := bind_some h
 refine fo (rn 3 rfl ?_)
 refine ck h (fun hc101 h => ?_)
 refine q7c q5f ?_
 refine fa ?_
 refine dr mixed (vs 8 rfl (iD hx100 rfl rfl rfl (vs 2 rfl (xD (OD.mk [(152, (sV x99.Name))] [] [(153, (V.lst 1 (([x99.Name] : List (List UInt8)).map encS)))] []) ⟨⟨rfl, trivial⟩, trivial⟩ (by exact fun S hn h hh => q7e [(0, (sV x99.Name))] [[(sV x99.Name)]] tEl25 tZ9 q4a rfl rfl rfl rfl (q2f h.1 q1h) rfl rfl (by simp) (q3i (.cons (.cons (Imm.con _) .nil) .nil)) rfl (q5c ⟨rfl, rfl⟩)) rfl (xD (OD.mk [(143, (V.own 4 l96.length)), (153, (V.lst 1 (([x99.Name] : List (List UInt8)).map encS)))] [(4, (Ob.arr 9 1 (l96.map encS))), (5, Ob.res)] [(154, (V.own 5 (l96 ++ ([x99.Name] : List (List UInt8))).length))] [(5, (Ob.arr 9 1 ((l96 ++ ([x99.Name] : List (List UInt8))).map encS))), (4, Ob.dead)]) ⟨⟨rfl, rfl, trivial⟩, ⟨rfl, rfl, trivial⟩⟩ (by exact fun S hn h hh => q1g 5 rfl hn hh.2.1 (([x99.Name] : List (List UInt8)).map encS) ((l96 ++ ([x99.Name] : List (List UInt8))).map encS) tEl25 tIsSl25 rfl rfl q4a h.1 hh.1 (by simp) h.2.1 (.lst (q4l one_encS)) (q5l encS l96 ([x99.Name] : List (List UInt8))) (List.length_map ..) hc101 rfl (q5c ⟨rfl, rfl⟩)) rfl (vs 2 rfl .nil)))))) (by kernel_rfl) ?_
 refine rn 1 rfl ?_
 exact jX (l98, (l96 ++ ([x99.Name] : List (List UInt8)))) (RM.step hm4 hq4 h) (gr [0, 1, 2, 3, 5] rfl (hB rfl rfl rfl (hM rfl rfl (hB rfl rfl rfl (hI rfl rfl (hR rfl rfl .nil))))) rfl)
theorem W19 (F : Nat) (a1 : q1c) (a2 : (List UInt8)) (a3 : (List (List UInt8))) (r : ((List q5a) × Int)) (h : M19 F a1 a2 a3 = some r) : Pure Tryz.prog 19 [(V.agg (q3c a1)), (sV a2), (V.lst 1 (a3.map encS))] (V.tup [(V.lst 3 ((r.1).map q4d)), (iV (r.2))]) := by
 refine pin (fun r => (V.tup [(V.lst 3 ((r.1).map q4d)), (iV (r.2))])) r rfl Tryz.func19 rfl rfl rfl rfl rfl (fun w0 m0 hg => ?_)
 unfold M19 at h
 refine rn 10 rfl ?_
 refine cl h rfl rfl rfl (W78 _ _ _ _) rfl (fun y4 hx5 h => ?_)
 refine rn 12 rfl ?_
 refine spC h rfl (fun hb6 h => ?_) (fun hb6 h => ?_)
 ·refine rn 6 rfl ?_
  exact rt h rfl
 refine rn 5 rfl ?_
 refine cl h rfl rfl rfl (W79 _ _) rfl (fun y7 hx8 h => ?_)
 refine rn 2 rfl ?_
 refine spC h rfl (fun hb9 h => ?_) (fun hb9 h => ?_)
 ·refine rn 5 rfl ?_
  exact rt h rfl
 refine rn 10 rfl ?_
 refine ln rfl rfl ?_
 refine rn 2 rfl ?_
 refine jK h (fun (p : (List q5a)) => (⟨[(10, (V.own 0 p.length))], [(0, (Ob.arr 45 3 (p.map q4d)))], 1⟩ : St)) (fun k10 p => k10 p = some r) (fun k10 h => ?_) ?_
 ·obtain ⟨x12, hx13, h⟩ := bind_some h
  refine rn 1 rfl ?_
  refine opC 8 hx13 rfl ?_
  refine wl (A := a1.Funcs) 26 rfl (fun hA27 => ?_)
  refine lC (fun (p : Int × (List q5a)) => (⟨[(1, (sV a2)), (8, (V.iptr (q2a x12) 0)), (10, (V.own 0 (p.2).length)), (26, (V.lst 4 (a1.Funcs.map q4c))), (27, (iV ((a1.Funcs.length : Nat) : Int))), (28, (iV (p.1)))], [(0, (Ob.arr 45 3 ((p.2).map q4d)))], 1⟩ : St)) (fun n p => RG a1.Funcs (fun tl nn => M19_L1 F a2 x12 k10 tl nn p.2 = some r) n p.1) (fun p h => RG.zero h) (a1.Funcs.length + 1) (0, ([] : List q5a)) (RG.start h) (Ghost.trans (q1j 10 45 3 rfl) (q9f 1 (fun i => ([1] : List Nat).getD i 0) _ _ (by decide) (q0k.get (.cons (Sub.imm (Imm.con _)) (.cons (Sub.imm (Imm.iptr _ _)) (.cons (Sub.ownE rfl rfl (by simp)) (.cons (Sub.imm (Imm.lst _ _)) (.cons (Sub.imm (Imm.con _)) (.cons (Sub.imm (Imm.con _)) .nil))))))) (HpSub.get (.cons rfl (ObSub.rows (q9a q6j)) .nil)) rfl)) (fun n p h => ?_)
  obtain ⟨n16, l17⟩ := p
  refine rn 5 rfl ?_
  refine spL rfl (fun hb18 => ?_) (fun hb18 => ?_)
  ·obtain ⟨x19, tl, hx20, h, hk1⟩ := RG.t hA27 h hb18
   unfold M19_L1 at h
   refine rn 6 rfl ?_
   refine ixh hx20 rfl rfl ?_
   refine rn 12 rfl ?_
   refine jK h (fun (p : (List q5a)) => (⟨[(1, (sV a2)), (8, (V.iptr (q2a x12) 0)), (10, (V.own 0 p.length)), (26, (V.lst 4 (a1.Funcs.map q4c))), (27, (iV ((a1.Funcs.length : Nat) : Int))), (28, (iV n16))], [(0, (Ob.arr 45 3 (p.map q4d)))], 1⟩ : St)) (fun k21 p => k21 p = some r) (fun k21 h => ?_) ?_
   ·refine spC h rfl (fun hb23 h => ?_) (fun hb23 h => ?_)
    ·refine rn 4 rfl ?_
     refine cl h rfl rfl rfl (W80 _ _ _) rfl (fun y24 hx25 h => ?_)
     refine q2e [(0, (V.agg (q4d y24)))] [(q4d y24)] tEl39 tZ45 rfl rfl rfl rfl q4a (q2f rfl q1h) rfl rfl (by simp) rfl ?_
     refine fo ?_
     refine apO q4d h rfl rfl rfl rfl rfl rfl rfl rfl (fun h => ?_)
     refine rn 2 rfl ?_
     exact jX (l17 ++ ([y24] : List q5a)) h (gr [3] rfl (hR rfl rfl .nil) rfl)
    refine rn 1 rfl ?_
    exact jX l17 h (gr [0] rfl (hR rfl rfl .nil) rfl)
   intro l22 h
   refine rn 5 rfl ?_
   exact jX ((w64 (n16 + 1)), l22) (hk1 _ h) (gr [0] rfl (hR rfl rfl .nil) rfl)
  replace h := RG.f h hb18
  unfold M19_L1 at h
  refine rn 1 rfl ?_
  exact jX l17 h (gr [0] rfl (hR rfl rfl .nil) rfl)
 intro l11 h
 refine rn 6 rfl ?_
 refine q7c (q8i 0 [6, 10, 44] rfl (q9a q6j) (List.forall_mem_cons.2 ⟨rfl, (List.forall_mem_cons.2 ⟨rfl, (List.forall_mem_cons.2 ⟨rfl, (fun _ hx => nomatch hx)⟩)⟩)⟩) (List.length_map ..).symm) ?_
 refine fa ?_
 exact rt h rfl
theorem W72 (F : Nat) (a1 : q1c) (r : q6c) (h : M72 F a1 = some r) : Pure Tryz.prog 72 [(V.agg (q3c a1))] (V.agg (q4g r)) := by
 refine pin (fun r => (V.agg (q4g r))) r rfl Tryz.func72 rfl rfl rfl rfl rfl (fun w0 m0 hg => ?_)
 unfold M72 at h
 refine rn 19 rfl ?_
 refine ln rfl rfl ?_
 refine rn 2 rfl ?_
 refine jK h (fun (p : (List ((List UInt8) × (List ((List UInt8) × Bool))))) => (⟨[(1, (V.ptr 0 4 0 0)), (2, (V.ptr 1 3 0 0)), (3, (V.ptr 2 3 0 0))], [(0, (Ob.arr 27 4 [(q3c a1)])), (1, (Ob.arr 138 3 [[(V.con (.map none)), (V.con (.map none)), (V.con (.map none))]])), (2, (Ob.arr 138 3 [[(V.map 3), (V.map 4), (V.map 5)]])), (3, (Ob.map (p.map q9h))), (4, (Ob.map (([] : List ((List UInt8) × Bool)).map q5b))), (5, (Ob.map (([] : List ((List UInt8) × Bool)).map q5b)))], 6⟩ : St)) (fun k2 p => k2 p = some r) (fun k2 h => ?_) ?_
 ·refine rn 1 rfl ?_
  refine wl (A := a1.Ifaces) 17 rfl (fun hA24 => ?_)
  refine lC (fun (p : Int × (List ((List UInt8) × (List ((List UInt8) × Bool))))) => (⟨[(1, (V.ptr 0 4 0 0)), (2, (V.ptr 1 3 0 0)), (3, (V.ptr 2 3 0 0)), (17, (V.lst 2 (a1.Ifaces.map q8b))), (18, (iV ((a1.Ifaces.length : Nat) : Int))), (19, (iV (p.1)))], [(0, (Ob.arr 27 4 [(q3c a1)])), (1, (Ob.arr 138 3 [[(V.con (.map none)), (V.con (.map none)), (V.con (.map none))]])), (2, (Ob.arr 138 3 [[(V.map 3), (V.map 4), (V.map 5)]])), (3, (Ob.map ((p.2).map q9h))), (4, (Ob.map (([] : List ((List UInt8) × Bool)).map q5b))), (5, (Ob.map (([] : List ((List UInt8) × Bool)).map q5b)))], 6⟩ : St)) (fun n p => RG a1.Ifaces (fun tl nn => M72_L1 F k2 tl p.2 = some r) n p.1) (fun p h => RG.zero h) (a1.Ifaces.length + 1) (0, ([] : List ((List UInt8) × (List ((List UInt8) × Bool))))) (RG.start h) (gr [0, 1, 5, 2, 3, 4] rfl (hB rfl rfl rfl (hB rfl rfl rfl (hB rfl rfl rfl (hM rfl rfl (hM rfl rfl (hM rfl rfl .nil)))))) rfl) (fun n p h => ?_)
  obtain ⟨n6, m7⟩ := p
  refine rn 5 rfl ?_
  refine spL rfl (fun hb8 => ?_) (fun hb8 => ?_)
  ·obtain ⟨x11, tl, hx12, h, hk1⟩ := RG.t hA24 h hb8
   unfold M72_L1 at h
   refine rn 2 rfl ?_
   refine jK h (fun (p : (List ((List UInt8) × (List ((List UInt8) × Bool))))) => (⟨[(1, (V.ptr 0 4 0 0)), (2, (V.ptr 1 3 0 0)), (3, (V.ptr 2 3 0 0)), (17, (V.lst 2 (a1.Ifaces.map q8b))), (18, (iV ((a1.Ifaces.length : Nat) : Int))), (19, (iV n6))], [(0, (Ob.arr 27 4 [(q3c a1)])), (1, (Ob.arr 138 3 [[(V.con (.map none)), (V.con (.map none)), (V.con (.map none))]])), (2, (Ob.arr 138 3 [[(V.map 3), (V.map 4), (V.map 5)]])), (3, (Ob.map (p.map q9h))), (4, (Ob.map (([] : List ((List UInt8) × Bool)).map q5b))), (5, (Ob.map (([] : List ((List UInt8) × Bool)).map q5b)))], 6⟩ : St)) (fun k9 p => k9 p = some r) (fun k9 h => ?_) ?_
   ·refine rn 3 rfl ?_
    refine ixh hx12 rfl rfl ?_
    refine rn 11 rfl ?_
    refine q0m (id2 := 7) (o := (V.map 7)) (dv := (.dmp (([] : List ((List UInt8) × Bool)).map q5b))) (ob := (.map (([] : List ((List UInt8) × Bool)).map q5b))) ((mput m7 x11.Name ([] : List ((List UInt8) × Bool))).map q9h) tMap136 tKey9 q4a rfl rfl (.con rfl) ⟨_, rfl⟩ encM9_388_good rfl (by simp [ovl]) rfl rfl (okeep_ents encM9_4_im ([] : List ((List UInt8) × Bool))) (puts_new q9h (fun k => str k) q5b (fun _ => rfl) q2i x11.Name ([] : List ((List UInt8) × Bool)) m7) ?_
    refine fo (rn 5 rfl ?_)
    refine ln rfl rfl ?_
    refine rn 2 rfl ?_
    refine jK h (fun (p : (List ((List UInt8) × (List ((List UInt8) × Bool))))) => (⟨[(1, (V.ptr 0 4 0 0)), (2, (V.ptr 1 3 0 0)), (3, (V.ptr 2 3 0 0)), (17, (V.lst 2 (a1.Ifaces.map q8b))), (18, (iV ((a1.Ifaces.length : Nat) : Int))), (19, (iV n6))], [(0, (Ob.arr 27 4 [(q3c a1)])), (1, (Ob.arr 138 3 [[(V.con (.map none)), (V.con (.map none)), (V.con (.map none))]])), (2, (Ob.arr 138 3 [[(V.map 3), (V.map 4), (V.map 5)]])), (3, (Ob.map (p.map q9h))), (4, (Ob.map (([] : List ((List UInt8) × Bool)).map q5b))), (5, (Ob.map (([] : List ((List UInt8) × Bool)).map q5b)))], 6⟩ : St)) (fun k13 p => k13 p = some r) (fun k13 h => ?_) ?_
    ·refine rn 1 rfl ?_
     refine wl (A := x11.Methods) 29 rfl (fun hA23 => ?_)
     refine lC (fun (p : Int × (List ((List UInt8) × (List ((List UInt8) × Bool))))) => (⟨[(1, (V.ptr 0 4 0 0)), (2, (V.ptr 1 3 0 0)), (3, (V.ptr 2 3 0 0)), (5, (V.ptr 3 2 0 0)), (17, (V.lst 2 (a1.Ifaces.map q8b))), (18, (iV ((a1.Ifaces.length : Nat) : Int))), (19, (iV n6)), (29, (V.lst 1 (x11.Methods.map encS))), (30, (iV ((x11.Methods.length : Nat) : Int))), (31, (iV (p.1)))], [(0, (Ob.arr 27 4 [(q3c a1)])), (1, (Ob.arr 138 3 [[(V.con (.map none)), (V.con (.map none)), (V.con (.map none))]])), (2, (Ob.arr 138 3 [[(V.map 4), (V.map 5), (V.map 6)]])), (3, (Ob.arr 98 2 [(q8b x11)])), (4, (Ob.map ((p.2).map q9h))), (5, (Ob.map (([] : List ((List UInt8) × Bool)).map q5b))), (6, (Ob.map (([] : List ((List UInt8) × Bool)).map q5b)))], 7⟩ : St)) (fun n p => RG x11.Methods (fun tl nn => M72_L2 F x11 k13 tl p.2 = some r) n p.1) (fun p h => RG.zero h) (x11.Methods.length + 1) (0, (mput m7 x11.Name ([] : List ((List UInt8) × Bool)))) (RG.start h) (gr [0, 1, 2, 6, 3, 4, 5] rfl (hB rfl rfl rfl (hB rfl rfl rfl (hB rfl rfl rfl (hB rfl rfl rfl (hM rfl rfl (hM rfl rfl (hM rfl rfl .nil))))))) rfl) (fun n p h => ?_)
     obtain ⟨n17, m18⟩ := p
     refine rn 5 rfl ?_
     refine spL rfl (fun hb19 => ?_) (fun hb19 => ?_)
     ·obtain ⟨x20, tl, hx21, h, hk2⟩ := RG.t hA23 h hb19
      unfold M72_L2 at h
      refine rn 5 rfl ?_
      refine ixh hx21 rfl rfl ?_
      refine rn 8 rfl ?_
      refine ck h (fun hc22 h => ?_)
      refine aops_lookup_tkP tMap136 tKey9 q4a rfl rfl (.con rfl) ⟨_, rfl⟩ encM9_388_good (lookD_enc q9h (fun k => str k) q5b 7 (fun _ => rfl) q2i x11.Name m18 hc22) rfl rfl ?_
      refine fo (rn 1 rfl ?_)
      refine q0e (es := ((mget m18 x11.Name).getD []).map q5b) ((mput ((mget m18 x11.Name).getD []) x20 true).map q5b) q2k tKey9 q4a rfl rfl (.con rfl) ⟨_, rfl⟩ q6e rfl (q4i ((mget m18 x11.Name).getD []) x20 true) ?_
      refine q3f (ghost_putN 4 7 q9h (fun k => str k) q5b (fun _ => rfl) hc22 rfl rfl rfl encM9_4_im) ?_
      refine fo (rn 6 rfl ?_)
      exact jX ((w64 (n17 + 1)), (mput m18 x11.Name (mput ((mget m18 x11.Name).getD []) x20 true))) (hk2 _ h) (gr [0, 1, 2, 3, 4, 5, 6] rfl (hB rfl rfl rfl (hB rfl rfl rfl (hB rfl rfl rfl (hB rfl rfl rfl (hM rfl rfl (hM rfl rfl (hM rfl rfl .nil))))))) rfl)
     replace h := RG.f h hb19
     unfold M72_L2 at h
     refine rn 1 rfl ?_
     exact jX m18 h (gr [0, 1, 2, 4, 5, 6] rfl (hB rfl rfl rfl (hB rfl rfl rfl (hB rfl rfl rfl (hM rfl rfl (hM rfl rfl (hM rfl rfl .nil)))))) rfl)
    intro m14 h
    refine rn 1 rfl ?_
    exact jX m14 h (gr [0, 1, 2, 3, 4, 5] rfl (hB rfl rfl rfl (hB rfl rfl rfl (hB rfl rfl rfl (hM rfl rfl (hM rfl rfl (hM rfl rfl .nil)))))) rfl)
   intro m10 h
   refine rn 4 rfl ?_
   exact jX ((w64 (n6 + 1)), m10) (hk1 _ h) (gr [0, 1, 2, 3, 4, 5] rfl (hB rfl rfl rfl (hB rfl rfl rfl (hB rfl rfl rfl (hM rfl rfl (hM rfl rfl (hM rfl rfl .nil)))))) rfl)
  replace h := RG.f h hb8
  unfold M72_L1 at h
  refine rn 1 rfl ?_
  exact jX m7 h (gr [0, 1, 2, 3, 4, 5] rfl (hB rfl rfl rfl (hB rfl rfl rfl (hB rfl rfl rfl (hM rfl rfl (hM rfl rfl (hM rfl rfl .nil)))))) rfl)
 intro m3 h
 refine rn 5 rfl ?_
 refine ln rfl rfl ?_
 refine rn 2 rfl ?_
 refine jK h (fun (p : (List ((List UInt8) × Bool))) => (⟨[(1, (V.ptr 0 4 0 0)), (2, (V.ptr 1 3 0 0)), (3, (V.ptr 2 3 0 0))], [(0, (Ob.arr 27 4 [(q3c a1)])), (1, (Ob.arr 138 3 [[(V.con (.map none)), (V.con (.map none)), (V.con (.map none))]])), (2, (Ob.arr 138 3 [[(V.map 3), (V.map 4), (V.map 5)]])), (3, (Ob.map (m3.map q9h))), (4, (Ob.map (p.map q5b))), (5, (Ob.map (([] : List ((List UInt8) × Bool)).map q5b)))], 6⟩ : St)) (fun k25 p => k25 p = some r) (fun k25 h => ?_) ?_
 ·refine rn 1 rfl ?_
  refine wl (A := a1.Types) 44 rfl (fun hA34 => ?_)
  refine lC (fun (p : Int × (List ((List UInt8) × Bool))) => (⟨[(1, (V.ptr 0 4 0 0)), (2, (V.ptr 1 3 0 0)), (3, (V.ptr 2 3 0 0)), (44, (V.lst 2 (a1.Types.map q1d))), (45, (iV ((a1.Types.length : Nat) : Int))), (46, (iV (p.1)))], [(0, (Ob.arr 27 4 [(q3c a1)])), (1, (Ob.arr 138 3 [[(V.con (.map none)), (V.con (.map none)), (V.con (.map none))]])), (2, (Ob.arr 138 3 [[(V.map 3), (V.map 4), (V.map 5)]])), (3, (Ob.map (m3.map q9h))), (4, (Ob.map ((p.2).map q5b))), (5, (Ob.map (([] : List ((List UInt8) × Bool)).map q5b)))], 6⟩ : St)) (fun n p => RG a1.Types (fun tl nn => M72_L3 F k25 tl p.2 = some r) n p.1) (fun p h => RG.zero h) (a1.Types.length + 1) (0, ([] : List ((List UInt8) × Bool))) (RG.start h) (gr [0, 1, 2, 3, 4, 5] rfl (hB rfl rfl rfl (hB rfl rfl rfl (hB rfl rfl rfl (hM rfl rfl (hM rfl rfl (hM rfl rfl .nil)))))) rfl) (fun n p h => ?_)
  obtain ⟨n29, m30⟩ := p
  refine rn 5 rfl ?_
  refine spL rfl (fun hb31 => ?_) (fun hb31 => ?_)
  ·obtain ⟨x32, tl, hx33, h, hk3⟩ := RG.t hA34 h hb31
   unfold M72_L3 at h
   refine rn 5 rfl ?_
   refine ixh hx33 rfl rfl ?_
   refine rn 9 rfl ?_
   refine q0e (es := m30.map q5b) ((mput m30 x32.Name true).map q5b) q2k tKey9 q4a rfl rfl (.con rfl) ⟨_, rfl⟩ q6e rfl (q4i m30 x32.Name true) ?_
   refine fo (rn 6 rfl ?_)
   exact jX ((w64 (n29 + 1)), (mput m30 x32.Name true)) (hk3 _ h) (gr [0, 1, 2, 3, 4, 5] rfl (hB rfl rfl rfl (hB rfl rfl rfl (hB rfl rfl rfl (hM rfl rfl (hM rfl rfl (hM rfl rfl .nil)))))) rfl)
  replace h := RG.f h hb31
  unfold M72_L3 at h
  refine rn 1 rfl ?_
  exact jX m30 h (gr [0, 1, 2, 3, 4, 5] rfl (hB rfl rfl rfl (hB rfl rfl rfl (hB rfl rfl rfl (hM rfl rfl (hM rfl rfl (hM rfl rfl .nil)))))) rfl)
 intro m26 h
 refine rn 5 rfl ?_
 refine ln rfl rfl ?_
 refine rn 2 rfl ?_
 refine jK h (fun (p : (List ((List UInt8) × Bool))) => (⟨[(2, (V.ptr 0 3 0 0)), (3, (V.ptr 1 3 0 0))], [(0, (Ob.arr 138 3 [[(V.con (.map none)), (V.con (.map none)), (V.con (.map none))]])), (1, (Ob.arr 138 3 [[(V.map 2), (V.map 3), (V.map 4)]])), (2, (Ob.map (m3.map q9h))), (3, (Ob.map (m26.map q5b))), (4, (Ob.map (p.map q5b)))], 5⟩ : St)) (fun k35 p => k35 p = some r) (fun k35 h => ?_) ?_
 ·refine rn 1 rfl ?_
  refine wl (A := a1.Funcs) 56 rfl (fun hA44 => ?_)
  refine lC (fun (p : Int × (List ((List UInt8) × Bool))) => (⟨[(2, (V.ptr 0 3 0 0)), (3, (V.ptr 1 3 0 0)), (56, (V.lst 4 (a1.Funcs.map q4c))), (57, (iV ((a1.Funcs.length : Nat) : Int))), (58, (iV (p.1)))], [(0, (Ob.arr 138 3 [[(V.con (.map none)), (V.con (.map none)), (V.con (.map none))]])), (1, (Ob.arr 138 3 [[(V.map 2), (V.map 3), (V.map 4)]])), (2, (Ob.map (m3.map q9h))), (3, (Ob.map (m26.map q5b))), (4, (Ob.map ((p.2).map q5b)))], 5⟩ : St)) (fun n p => RG a1.Funcs (fun tl nn => M72_L4 F k35 tl p.2 = some r) n p.1) (fun p h => RG.zero h) (a1.Funcs.length + 1) (0, ([] : List ((List UInt8) × Bool))) (RG.start h) (gr [1, 2, 3, 4, 5] rfl (hB rfl rfl rfl (hB rfl rfl rfl (hM rfl rfl (hM rfl rfl (hM rfl rfl .nil))))) rfl) (fun n p h => ?_)
  obtain ⟨n39, m40⟩ := p
  refine rn 5 rfl ?_
  refine spL rfl (fun hb41 => ?_) (fun hb41 => ?_)
  ·obtain ⟨x42, tl, hx43, h, hk4⟩ := RG.t hA44 h hb41
   unfold M72_L4 at h
   refine rn 5 rfl ?_
   refine ixh hx43 rfl rfl ?_
   refine rn 9 rfl ?_
   refine q0e (es := m40.map q5b) ((mput m40 x42.Name true).map q5b) q2k tKey9 q4a rfl rfl (.con rfl) ⟨_, rfl⟩ q6e rfl (q4i m40 x42.Name true) ?_
   refine fo (rn 6 rfl ?_)
   exact jX ((w64 (n39 + 1)), (mput m40 x42.Name true)) (hk4 _ h) (gr [0, 1, 2, 3, 4] rfl (hB rfl rfl rfl (hB rfl rfl rfl (hM rfl rfl (hM rfl rfl (hM rfl rfl .nil))))) rfl)
  replace h := RG.f h hb41
  unfold M72_L4 at h
  refine rn 1 rfl ?_
  exact jX m40 h (gr [0, 1, 2, 3, 4] rfl (hB rfl rfl rfl (hB rfl rfl rfl (hM rfl rfl (hM rfl rfl (hM rfl rfl .nil))))) rfl)
 intro m36 h
 refine rn 5 rfl ?_
 refine q7c (ghost_frzDMC 2 0 (m3.map q5n) (Ob.arr 138 3 [[(V.imap (m3.map q5n)), (V.map 3), (V.map 4)]]) rfl (by simp) (und_map encM9_388_und _) (ObSub.box (.cons Sub.frzM (.cons Sub.keepM (.cons Sub.keepM .nil))))) ?_
 refine q7c (q8j 3 0 (Ob.arr 138 3 [[(V.imap (m3.map q5n)), (V.imap (m26.map q5b)), (V.map 4)]]) rfl q6m (ObSub.box (.cons Sub.keepM (.cons Sub.frzM (.cons Sub.keepM .nil))))) ?_
 refine q7c (q8j 4 0 (Ob.arr 138 3 [[(V.imap (m3.map q5n)), (V.imap (m26.map q5b)), (V.imap (m36.map q5b))]]) rfl q6m (ObSub.box (.cons Sub.keepM (.cons Sub.keepM (.cons Sub.frzM .nil))))) ?_
 refine fa ?_
 exact rt h rfl
theorem W82 (F : Nat) (a1 : (List UInt8)) (r : Bool) (h : M82 F a1 = some r) : Pure Tryz.prog 82 [(sV a1)] (bV r) := by
 refine pin (fun r => (bV r)) r rfl Tryz.func82 rfl rfl rfl rfl rfl (fun w0 m0 hg => ?_)
 unfold M82 at h
 refine rn 9 rfl ?_
 refine jK h (fun _ : Unit => (⟨[(0, (sV a1))], [], 0⟩ : St)) (fun k2 (_ : Unit) => k2 = some r) (fun k2 h => ?_) ?_
 ·refine rn 1 rfl ?_
  refine ck h (fun hA15 h => ?_)
  refine lC (fun (p : Int) => (⟨[(0, (sV a1)), (3, (iV p))], [], 0⟩ : St)) (fun n p => RC (a1.length : Int) (fun tl nn => M82_L1 F a1 k2 tl nn = some r) n p) (fun p h => RC.zero h) (Int.toNat (a1.length : Int) + 1) 0 (RC.start h) (g0 rfl rfl) (fun n n4 h => ?_)
  refine rn 8 rfl ?_
  refine spL rfl (fun hb5 => ?_) (fun hb5 => ?_)
  ·obtain ⟨tl, h, hk1⟩ := RC.t hA15 h hb5
   unfold M82_L1 at h
   refine rn 7 rfl ?_
   refine ixs h rfl rfl (fun c6 hx7 h => ?_)
   refine rn 2 rfl ?_
   refine spO 14 h rfl (fun hb8 h => ?_) (fun hb8 h => ?_)
   ·refine rn 17 rfl ?_
    exact rt h rfl
   refine rn 2 rfl ?_
   refine ixs h rfl rfl (fun c9 hx10 h => ?_)
   refine rn 3 rfl ?_
   refine spO 20 h rfl (fun hb11 h => ?_) (fun hb11 h => ?_)
   ·refine rn 11 rfl ?_
    exact rt h rfl
   refine rn 2 rfl ?_
   refine ixs h rfl rfl (fun c12 hx13 h => ?_)
   refine rn 3 rfl ?_
   refine spC h rfl (fun hb14 h => ?_) (fun hb14 h => ?_)
   ·refine rn 4 rfl ?_
    exact rt h rfl
   refine rn 7 rfl ?_
   exact jX (w64 (n4 + 1)) (hk1 _ h) (g0 rfl rfl)
  replace h := RC.f h hb5
  unfold M82_L1 at h
  refine rn 1 rfl ?_
  exact jX () h (g0 rfl rfl)
 intro _ h
 refine rn 6 rfl ?_
 refine spO 29 h rfl (fun hb16 h => ?_) (fun hb16 h => ?_)
 ·refine rn 6 rfl ?_
  exact rt h rfl
 refine rn 6 rfl ?_
 exact rt h rfl
theorem W139 (F : Nat) (a1 : (List (List UInt8))) (a2 : Int) (r : Int) (h : M139 F a1 a2 = some r) : Pure Tryz.prog 139 [(V.lst 1 (a1.map encS)), (iV a2)] (iV r) := by
 refine pin (fun r => (iV r)) r rfl Tryz.func139 rfl rfl rfl rfl rfl (fun w0 m0 hg => ?_)
 unfold M139 at h
 refine rn 6 rfl ?_
 refine bs h (fun hb3 h => ?_) (fun hb3 h => ?_)
 ·obtain ⟨x4, hx5, h⟩ := bind_some h
  obtain ⟨x6, hx7, h⟩ := bind_some h
  refine dr mixed (vs 2 rfl (vb hb3 rfl (vs 2 rfl (iD hx5 rfl rfl rfl (vs 4 rfl (iD hx7 rfl rfl rfl (vs 3 rfl .nil))))))) (by kernel_rfl) ?_
  refine spC h rfl (fun hb8 h => ?_) (fun hb8 h => ?_)
  ·refine rn 4 rfl ?_
   exact rt h rfl
  refine rn 5 rfl ?_
  exact rt h rfl
 refine dr mixed (vs 2 rfl (vb hb3 rfl (vs 11 rfl .nil))) (by kernel_rfl) ?_
 refine rn 6 rfl ?_
 exact rt h rfl
theorem W136 (F : Nat) (a1 : q0b) (r : Int) (h : M136 F a1 = some r) : Pure Tryz.prog 136 [(V.agg (q4b a1))] (iV r) := by
 refine pin (fun r => (iV r)) r rfl Tryz.func136 rfl rfl rfl rfl rfl (fun w0 m0 hg => ?_)
 unfold M136 at h
 refine rn 15 rfl ?_
 refine ln rfl rfl ?_
 refine rn 2 rfl ?_
 refine jK h (fun _ : Unit => (⟨[], [], 0⟩ : St)) (fun k2 (_ : Unit) => k2 = some r) (fun k2 h => ?_) ?_
 ·refine rn 1 rfl ?_
  refine wl (A := a1.g.Ifaces) 11 rfl (fun hA31 => ?_)
  refine lC (fun (p : (List UInt8) × Int) => (⟨[(3, (sV (p.1))), (11, (V.lst 2 (a1.g.Ifaces.map q8b))), (12, (iV ((a1.g.Ifaces.length : Nat) : Int))), (13, (iV (p.2)))], [], 0⟩ : St)) (fun n p => RG a1.g.Ifaces (fun tl nn => M136_L1 F k2 tl p.1 = some r) n p.2) (fun p h => RG.zero h) (a1.g.Ifaces.length + 1) (([] : List UInt8), 0) (RG.start h) (g0 rfl rfl) (fun n p h => ?_)
  obtain ⟨s5, n6⟩ := p
  refine rn 5 rfl ?_
  refine spL rfl (fun hb7 => ?_) (fun hb7 => ?_)
  ·obtain ⟨x10, tl, hx11, h, hk1⟩ := RG.t hA31 h hb7
   unfold M136_L1 at h
   refine rn 2 rfl ?_
   refine jK h (fun (p : (List UInt8)) => (⟨[(3, (sV p)), (11, (V.lst 2 (a1.g.Ifaces.map q8b))), (12, (iV ((a1.g.Ifaces.length : Nat) : Int))), (13, (iV n6))], [], 0⟩ : St)) (fun k8 p => k8 p = some r) (fun k8 h => ?_) ?_
   ·refine rn 3 rfl ?_
    refine ixh hx11 rfl rfl ?_
    refine rn 10 rfl ?_
    refine cl h rfl rfl rfl (W82 _ _) rfl (fun y12 hx13 h => ?_)
    refine rn 3 rfl ?_
    refine spC h rfl (fun hb14 h => ?_) (fun hb14 h => ?_)
    ·refine rn 4 rfl ?_
     exact rt h rfl
    refine rn 8 rfl ?_
    refine spC h rfl (fun hb15 h => ?_) (fun hb15 h => ?_)
    ·refine rn 4 rfl ?_
     exact rt h rfl
    refine rn 4 rfl ?_
    refine ln rfl rfl ?_
    refine rn 3 rfl ?_
    refine spC h rfl (fun hb16 h => ?_) (fun hb16 h => ?_)
    ·refine rn 4 rfl ?_
     exact rt h rfl
    refine rn 4 rfl ?_
    refine ln rfl rfl ?_
    refine rn 3 rfl ?_
    refine spC h rfl (fun hb17 h => ?_) (fun hb17 h => ?_)
    ·refine rn 4 rfl ?_
     exact rt h rfl
    refine rn 12 rfl ?_
    refine ln rfl rfl ?_
    refine rn 2 rfl ?_
    refine jK h (fun _ : Unit => (⟨[(3, (sV x10.Name)), (11, (V.lst 2 (a1.g.Ifaces.map q8b))), (12, (iV ((a1.g.Ifaces.length : Nat) : Int))), (13, (iV n6))], [], 0⟩ : St)) (fun k18 (_ : Unit) => k18 = some r) (fun k18 h => ?_) ?_
    ·refine rn 1 rfl ?_
     refine wl (A := x10.Methods) 29 rfl (fun hA30 => ?_)
     refine lC (fun (p : Int) => (⟨[(3, (sV x10.Name)), (5, (V.ptr 0 2 0 0)), (11, (V.lst 2 (a1.g.Ifaces.map q8b))), (12, (iV ((a1.g.Ifaces.length : Nat) : Int))), (13, (iV n6)), (40, (V.lst 1 (x10.Methods.map encS))), (41, (iV ((x10.Methods.length : Nat) : Int))), (42, (iV p))], [(0, (Ob.arr 98 2 [(q8b x10)]))], 1⟩ : St)) (fun n p => RG x10.Methods (fun tl nn => M136_L2 F x10 k18 tl nn = some r) n p) (fun p h => RG.zero h) (x10.Methods.length + 1) 0 (RG.start h) (gr [0] rfl (hB rfl rfl rfl .nil) rfl) (fun n n20 h => ?_)
     refine rn 5 rfl ?_
     refine spL rfl (fun hb21 => ?_) (fun hb21 => ?_)
     ·obtain ⟨x22, tl, hx23, h, hk2⟩ := RG.t hA30 h hb21
      unfold M136_L2 at h
      refine rn 6 rfl ?_
      refine ixh hx23 rfl rfl ?_
      refine rn 8 rfl ?_
      refine cl h rfl rfl rfl (W82 _ _) rfl (fun y24 hx25 h => ?_)
      refine rn 2 rfl ?_
      refine spC h rfl (fun hb26 h => ?_) (fun hb26 h => ?_)
      ·refine rn 4 rfl ?_
       exact rt h rfl
      refine rn 6 rfl ?_
      refine cl h rfl rfl rfl (W139 _ _ _) rfl (fun y27 hx28 h => ?_)
      refine rn 7 rfl ?_
      refine spC h rfl (fun hb29 h => ?_) (fun hb29 h => ?_)
      ·refine rn 5 rfl ?_
       exact rt h rfl
      refine rn 6 rfl ?_
      exact jX (w64 (n20 + 1)) (hk2 _ h) (gr [0] rfl (hB rfl rfl rfl .nil) rfl)
     replace h := RG.f h hb21
     unfold M136_L2 at h
     refine rn 1 rfl ?_
     exact jX () h (g0 rfl rfl)
    intro _ h
    refine rn 1 rfl ?_
    exact jX x10.Name h (g0 rfl rfl)
   intro s9 h
   refine rn 4 rfl ?_
   exact jX (s9, (w64 (n6 + 1))) (hk1 _ h) (g0 rfl rfl)
  replace h := RG.f h hb7
  unfold M136_L1 at h
  refine rn 1 rfl ?_
  exact jX () h (g0 rfl rfl)
 intro _ h
 refine rn 4 rfl ?_
 exact rt h rfl
theorem W137 (F : Nat) (a1 : q0b) (r : Int) (h : M137 F a1 = some r) : Pure Tryz.prog 137 [(V.agg (q4b a1))] (iV r) := by
 refine pin (fun r => (iV r)) r rfl Tryz.func137 rfl rfl rfl rfl rfl (fun w0 m0 hg => ?_)
 unfold M137 at h
 refine rn 15 rfl ?_
 refine ln rfl rfl ?_
 refine rn 2 rfl ?_
 refine jK h (fun _ : Unit => (⟨[], [], 0⟩ : St)) (fun k2 (_ : Unit) => k2 = some r) (fun k2 h => ?_) ?_
 ·refine rn 1 rfl ?_
  refine wl (A := a1.g.Types) 11 rfl (fun hA33 => ?_)
  refine lC (fun (p : (List UInt8) × Int) => (⟨[(1, (V.ptr 0 8 0 0)), (3, (sV (p.1))), (11, (V.lst 2 (a1.g.Types.map q1d))), (12, (iV ((a1.g.Types.length : Nat) : Int))), (13, (iV (p.2)))], [(0, (Ob.arr 141 8 [(q4b a1)]))], 1⟩ : St)) (fun n p => RG a1.g.Types (fun tl nn => M137_L1 F a1 k2 tl p.1 = some r) n p.2) (fun p h => RG.zero h) (a1.g.Types.length + 1) (([] : List UInt8), 0) (RG.start h) (gr [0] rfl (hB rfl rfl rfl .nil) rfl) (fun n p h => ?_)
  obtain ⟨s5, n6⟩ := p
  refine rn 5 rfl ?_
  refine spL rfl (fun hb7 => ?_) (fun hb7 => ?_)
  ·obtain ⟨x10, tl, hx11, h, hk1⟩ := RG.t hA33 h hb7
   unfold M137_L1 at h
   refine rn 2 rfl ?_
   refine jK h (fun (p : (List UInt8)) => (⟨[(1, (V.ptr 0 8 0 0)), (3, (sV p)), (11, (V.lst 2 (a1.g.Types.map q1d))), (12, (iV ((a1.g.Types.length : Nat) : Int))), (13, (iV n6))], [(0, (Ob.arr 141 8 [(q4b a1)]))], 1⟩ : St)) (fun k8 p => k8 p = some r) (fun k8 h => ?_) ?_
   ·refine rn 3 rfl ?_
    refine ixh hx11 rfl rfl ?_
    refine rn 10 rfl ?_
    refine cl h rfl rfl rfl (W82 _ _) rfl (fun y12 hx13 h => ?_)
    refine rn 3 rfl ?_
    refine spC h rfl (fun hb14 h => ?_) (fun hb14 h => ?_)
    ·refine rn 4 rfl ?_
     exact rt h rfl
    refine rn 8 rfl ?_
    refine spC h rfl (fun hb15 h => ?_) (fun hb15 h => ?_)
    ·refine rn 4 rfl ?_
     exact rt h rfl
    refine rn 4 rfl ?_
    refine ln rfl rfl ?_
    refine rn 3 rfl ?_
    refine spC h rfl (fun hb16 h => ?_) (fun hb16 h => ?_)
    ·refine rn 4 rfl ?_
     exact rt h rfl
    refine rn 16 rfl ?_
    refine ln rfl rfl ?_
    refine rn 2 rfl ?_
    refine jK h (fun _ : Unit => (⟨[(1, (V.ptr 0 8 0 0)), (3, (sV x10.Name)), (11, (V.lst 2 (a1.g.Types.map q1d))), (12, (iV ((a1.g.Types.length : Nat) : Int))), (13, (iV n6))], [(0, (Ob.arr 141 8 [(q4b a1)]))], 1⟩ : St)) (fun k17 (_ : Unit) => k17 = some r) (fun k17 h => ?_) ?_
    ·refine rn 1 rfl ?_
     refine wl (A := x10.Methods) 29 rfl (fun hA32 => ?_)
     refine lC (fun (p : (List UInt8) × Int) => (⟨[(1, (V.ptr 0 8 0 0)), (3, (sV x10.Name)), (6, (sV (p.1))), (11, (V.lst 2 (a1.g.Types.map q1d))), (12, (iV ((a1.g.Types.length : Nat) : Int))), (13, (iV n6)), (35, (V.lst 2 (x10.Methods.map q6g))), (36, (iV ((x10.Methods.length : Nat) : Int))), (37, (iV (p.2)))], [(0, (Ob.arr 141 8 [(q4b a1)]))], 1⟩ : St)) (fun n p => RG x10.Methods (fun tl nn => M137_L2 F a1 k17 tl p.1 = some r) n p.2) (fun p h => RG.zero h) (x10.Methods.length + 1) (([] : List UInt8), 0) (RG.start h) (gr [0] rfl (hB rfl rfl rfl .nil) rfl) (fun n p h => ?_)
     obtain ⟨s20, n21⟩ := p
     refine rn 5 rfl ?_
     refine spL rfl (fun hb22 => ?_) (fun hb22 => ?_)
     ·obtain ⟨x23, tl, hx24, h, hk2⟩ := RG.t hA32 h hb22
      unfold M137_L2 at h
      refine rn 5 rfl ?_
      refine ixh hx24 rfl rfl ?_
      refine rn 10 rfl ?_
      refine cl h rfl rfl rfl (W82 _ _) rfl (fun y25 hx26 h => ?_)
      refine rn 3 rfl ?_
      refine jK h (fun _ : Unit => (⟨[(1, (V.ptr 0 8 0 0)), (3, (sV x10.Name)), (8, (V.ptr 1 2 0 0)), (11, (V.lst 2 (a1.g.Types.map q1d))), (12, (iV ((a1.g.Types.length : Nat) : Int))), (13, (iV n6)), (35, (V.lst 2 (x10.Methods.map q6g))), (36, (iV ((x10.Methods.length : Nat) : Int))), (37, (iV n21))], [(0, (Ob.arr 141 8 [(q4b a1)])), (1, (Ob.arr 116 2 [(q6g x23)]))], 2⟩ : St)) (fun k27 (_ : Unit) => k27 = some r) (fun k27 h => ?_) ?_
      ·refine spC h rfl (fun hb28 h => ?_) (fun hb28 h => ?_)
       ·refine rn 4 rfl ?_
        exact rt h rfl
       refine rn 8 rfl ?_
       refine spC h rfl (fun hb29 h => ?_) (fun hb29 h => ?_)
       ·refine rn 4 rfl ?_
        exact rt h rfl
       refine rn 6 rfl ?_
       refine spO 55 h rfl (fun hb30 h => ?_) (fun hb30 h => ?_)
       ·refine rn 5 rfl ?_
        refine q3e _ (bV false) (bV ((mget a1.n.funcs x23.Func).getD false)) q2k tKey9 tZo4 (q3g _) (q4k (c := true) (b := true) 55 rfl rfl rfl) rfl .imm (.con rfl) ⟨_, rfl⟩ q6e (q3h a1.n.funcs x23.Func) (q1f (q0g) (mget a1.n.funcs x23.Func) false) rfl ?_
        refine fo (rn 4 rfl ?_)
        refine spC h rfl (fun hb31 h => ?_) (fun hb31 h => ?_)
        ·refine rn 4 rfl ?_
         exact rt h rfl
        refine rn 1 rfl ?_
        exact jX () h (gr [0, 1] rfl (hB rfl rfl rfl (hB rfl rfl rfl .nil)) rfl)
       refine rn 12 rfl ?_
       exact jX () h (gr [0, 1] rfl (hB rfl rfl rfl (hB rfl rfl rfl .nil)) rfl)
      intro _ h
      refine rn 11 rfl ?_
      exact jX (x23.Name, (w64 (n21 + 1))) (hk2 _ h) (gr [0] rfl (hB rfl rfl rfl .nil) rfl)
     replace h := RG.f h hb22
     unfold M137_L2 at h
     refine rn 1 rfl ?_
     exact jX () h (gr [0] rfl (hB rfl rfl rfl .nil) rfl)
    intro _ h
    refine rn 1 rfl ?_
    exact jX x10.Name h (gr [0] rfl (hB rfl rfl rfl .nil) rfl)
   intro s9 h
   refine rn 4 rfl ?_
   exact jX (s9, (w64 (n6 + 1))) (hk1 _ h) (gr [0] rfl (hB rfl rfl rfl .nil) rfl)
  replace h := RG.f h hb7
  unfold M137_L1 at h
  refine rn 1 rfl ?_
  exact jX () h (g0 rfl rfl)
 intro _ h
 refine rn 4 rfl ?_
 exact rt h rfl
theorem W187 (F : Nat) (a1 : q0b) (a2 : TCall) (r : Int) (h : M187 F a1 a2 = some r) : Pure Tryz.prog 187 [(V.agg (q4b a1)), (V.agg (q9d a2))] (iV r) := by
 refine pin (fun r => (iV r)) r rfl Tryz.func187 rfl rfl rfl rfl rfl (fun w0 m0 hg => ?_)
 unfold M187 at h
 refine rn 18 rfl ?_
 refine jK h (fun _ : Unit => (⟨[(3, (V.ptr 0 4 0 0))], [(0, (Ob.arr 109 4 [(q9d a2)]))], 1⟩ : St)) (fun k3 (_ : Unit) => k3 = some r) (fun k3 h => ?_) ?_
 ·refine spC h rfl (fun hb4 h => ?_) (fun hb4 h => ?_)
  ·refine rn 7 rfl ?_
   refine spO 14 h rfl (fun hb5 h => ?_) (fun hb5 h => ?_)
   ·refine rn 5 rfl ?_
    refine q3e _ (bV false) (bV ((mget a1.n.funcs a2.Target).getD false)) q2k tKey9 tZo4 (q3g _) (q4k (c := true) (b := true) 14 rfl rfl rfl) rfl .imm (.con rfl) ⟨_, rfl⟩ q6e (q3h a1.n.funcs a2.Target) (q1f (q0g) (mget a1.n.funcs a2.Target) false) rfl ?_
    refine fo (rn 3 rfl ?_)
    refine spC h rfl (fun hb6 h => ?_) (fun hb6 h => ?_)
    ·refine rn 4 rfl ?_
     exact rt h rfl
    refine rn 7 rfl ?_
    refine spC h rfl (fun hb7 h => ?_) (fun hb7 h => ?_)
    ·refine rn 4 rfl ?_
     exact rt h rfl
    refine rn 1 rfl ?_
    exact jX () h (gr [1] rfl (hB rfl rfl rfl .nil) rfl)
   refine rn 17 rfl ?_
   refine spC h rfl (fun hb8 h => ?_) (fun hb8 h => ?_)
   ·refine rn 4 rfl ?_
    exact rt h rfl
   refine rn 1 rfl ?_
   exact jX () h (gr [1] rfl (hB rfl rfl rfl .nil) rfl)
  refine rn 5 rfl ?_
  refine spC h rfl (fun hb9 h => ?_) (fun hb9 h => ?_)
  ·refine rn 7 rfl ?_
   refine bs h (fun hb10 h => ?_) (fun hb10 h => ?_)
   ·refine q7h _ (V.con (.map none)) (V.imap (((mget a1.n.ifaces a2.Target).getD []).map q5b)) tMap136 tKey9 tZo89 (q3g _) q4a rfl .imm (.con rfl) ⟨_, rfl⟩ encM9_89_good (encM9_89_look a1.n.ifaces a2.Target) (getD_mapT (y := []) hb10) (isSomeT hb10) rfl ?_
    refine fo (rn 12 rfl ?_)
    refine spO 40 h rfl (fun hb11 h => ?_) (fun hb11 h => ?_)
    ·refine rn 6 rfl ?_
     refine q3e _ (bV false) (bV ((mget ((mget a1.n.ifaces a2.Target).getD []) a2.Method).getD false)) q2k tKey9 tZo4 (q3g _) (q4k (c := false) (b := false) 43 rfl rfl rfl) rfl .imm (.con rfl) ⟨_, rfl⟩ q6e (q3h ((mget a1.n.ifaces a2.Target).getD []) a2.Method) (q1f (q0g) (mget ((mget a1.n.ifaces a2.Target).getD []) a2.Method) false) rfl ?_
     refine fo (rn 4 rfl ?_)
     refine spC h rfl (fun hb12 h => ?_) (fun hb12 h => ?_)
     ·refine rn 4 rfl ?_
      exact rt h rfl
     refine rn 1 rfl ?_
     exact jX () h (gr [1] rfl (hB rfl rfl rfl .nil) rfl)
    refine rn 13 rfl ?_
    exact jX () h (gr [1] rfl (hB rfl rfl rfl .nil) rfl)
   refine q7h _ (V.con (.map none)) (V.con (.map none)) tMap136 tKey9 tZo89 (q3g _) q4a rfl .imm (.con rfl) ⟨_, rfl⟩ encM9_89_good (encM9_89_look a1.n.ifaces a2.Target) (getD_mapF hb10) (isSomeT hb10) rfl ?_
   refine fo (rn 12 rfl ?_)
   refine spO 40 h rfl (fun hb13 h => ?_) (fun hb13 h => ?_)
   ·refine rn 16 rfl ?_
    exact rt h rfl
   refine rn 13 rfl ?_
   exact jX () h (gr [1] rfl (hB rfl rfl rfl .nil) rfl)
  refine rn 4 rfl ?_
  exact rt h rfl
 intro _ h
 refine rn 8 rfl ?_
 refine spO 54 h rfl (fun hb14 h => ?_) (fun hb14 h => ?_)
 ·refine rn 2 rfl ?_
  refine cl h rfl rfl rfl (W82 _ _) rfl (fun y15 hx16 h => ?_)
  refine rn 3 rfl ?_
  refine spC h rfl (fun hb17 h => ?_) (fun hb17 h => ?_)
  ·refine rn 4 rfl ?_
   exact rt h rfl
  refine rn 5 rfl ?_
  exact rt h rfl
 refine rn 12 rfl ?_
 exact rt h rfl
theorem W138 (F : Nat) (a1 : q0b) (r : Int) (h : M138 F a1 = some r) : Pure Tryz.prog 138 [(V.agg (q4b a1))] (iV r) := by
 refine pin (fun r => (iV r)) r rfl Tryz.func138 rfl rfl rfl rfl rfl (fun w0 m0 hg => ?_)
 unfold M138 at h
 refine rn 15 rfl ?_
 refine ln rfl rfl ?_
 refine rn 2 rfl ?_
 refine jK h (fun _ : Unit => (⟨[], [], 0⟩ : St)) (fun k2 (_ : Unit) => k2 = some r) (fun k2 h => ?_) ?_
 ·refine rn 1 rfl ?_
  refine wl (A := a1.g.Funcs) 14 rfl (fun hA46 => ?_)
  refine lC (fun (p : (List UInt8) × Int) => (⟨[(1, (V.ptr 0 8 0 0)), (3, (sV (p.1))), (14, (V.lst 4 (a1.g.Funcs.map q4c))), (15, (iV ((a1.g.Funcs.length : Nat) : Int))), (16, (iV (p.2)))], [(0, (Ob.arr 141 8 [(q4b a1)]))], 1⟩ : St)) (fun n p => RG a1.g.Funcs (fun tl nn => M138_L1 F a1 k2 tl p.1 = some r) n p.2) (fun p h => RG.zero h) (a1.g.Funcs.length + 1) (([] : List UInt8), 0) (RG.start h) (gr [0] rfl (hB rfl rfl rfl .nil) rfl) (fun n p h => ?_)
  obtain ⟨s5, n6⟩ := p
  refine rn 5 rfl ?_
  refine spL rfl (fun hb7 => ?_) (fun hb7 => ?_)
  ·obtain ⟨x10, tl, hx11, h, hk1⟩ := RG.t hA46 h hb7
   unfold M138_L1 at h
   refine rn 2 rfl ?_
   refine jK h (fun (p : (List UInt8)) => (⟨[(1, (V.ptr 0 8 0 0)), (3, (sV p)), (14, (V.lst 4 (a1.g.Funcs.map q4c))), (15, (iV ((a1.g.Funcs.length : Nat) : Int))), (16, (iV n6))], [(0, (Ob.arr 141 8 [(q4b a1)]))], 1⟩ : St)) (fun k8 p => k8 p = some r) (fun k8 h => ?_) ?_
   ·refine rn 3 rfl ?_
    refine ixh hx11 rfl rfl ?_
    refine rn 10 rfl ?_
    refine cl h rfl rfl rfl (W82 _ _) rfl (fun y12 hx13 h => ?_)
    refine rn 3 rfl ?_
    refine spC h rfl (fun hb14 h => ?_) (fun hb14 h => ?_)
    ·refine rn 4 rfl ?_
     exact rt h rfl
    refine rn 8 rfl ?_
    refine spC h rfl (fun hb15 h => ?_) (fun hb15 h => ?_)
    ·refine rn 4 rfl ?_
     exact rt h rfl
    refine rn 4 rfl ?_
    refine cl h rfl rfl rfl (W82 _ _) rfl (fun y16 hx17 h => ?_)
    refine rn 3 rfl ?_
    refine spC h rfl (fun hb18 h => ?_) (fun hb18 h => ?_)
    ·refine rn 4 rfl ?_
     exact rt h rfl
    refine rn 4 rfl ?_
    refine ln rfl rfl ?_
    refine rn 3 rfl ?_
    refine spC h rfl (fun hb19 h => ?_) (fun hb19 h => ?_)
    ·refine rn 4 rfl ?_
     exact rt h rfl
    refine rn 13 rfl ?_
    refine ln rfl rfl ?_
    refine rn 2 rfl ?_
    refine jK h (fun _ : Unit => (⟨[(1, (V.ptr 0 8 0 0)), (3, (sV x10.Name)), (5, (V.ptr 1 4 0 0)), (14, (V.lst 4 (a1.g.Funcs.map q4c))), (15, (iV ((a1.g.Funcs.length : Nat) : Int))), (16, (iV n6))], [(0, (Ob.arr 141 8 [(q4b a1)])), (1, (Ob.arr 94 4 [(q4c x10)]))], 2⟩ : St)) (fun k20 (_ : Unit) => k20 = some r) (fun k20 h => ?_) ?_
    ·refine rn 1 rfl ?_
     refine wl (A := x10.Calls) 37 rfl (fun hA29 => ?_)
     refine lC (fun (p : Int) => (⟨[(1, (V.ptr 0 8 0 0)), (3, (sV x10.Name)), (5, (V.ptr 1 4 0 0)), (14, (V.lst 4 (a1.g.Funcs.map q4c))), (15, (iV ((a1.g.Funcs.length : Nat) : Int))), (16, (iV n6)), (43, (V.lst 4 (x10.Calls.map q9d))), (44, (iV ((x10.Calls.length : Nat) : Int))), (45, (iV p))], [(0, (Ob.arr 141 8 [(q4b a1)])), (1, (Ob.arr 94 4 [(q4c x10)]))], 2⟩ : St)) (fun n p => RG x10.Calls (fun tl nn => M138_L2 F a1 k20 tl = some r) n p) (fun p h => RG.zero h) (x10.Calls.length + 1) 0 (RG.start h) (gr [0, 1] rfl (hB rfl rfl rfl (hB rfl rfl rfl .nil)) rfl) (fun n n22 h => ?_)
     refine rn 5 rfl ?_
     refine spL rfl (fun hb23 => ?_) (fun hb23 => ?_)
     ·obtain ⟨x24, tl, hx25, h, hk2⟩ := RG.t hA29 h hb23
      unfold M138_L2 at h
      refine rn 5 rfl ?_
      refine ixh hx25 rfl rfl ?_
      refine rn 8 rfl ?_
      refine cl h rfl rfl rfl (W187 _ _ _) rfl (fun y26 hx27 h => ?_)
      refine rn 7 rfl ?_
      refine spC h rfl (fun hb28 h => ?_) (fun hb28 h => ?_)
      ·refine rn 5 rfl ?_
       exact rt h rfl
      refine rn 6 rfl ?_
      exact jX (w64 (n22 + 1)) (hk2 _ h) (gr [0, 1] rfl (hB rfl rfl rfl (hB rfl rfl rfl .nil)) rfl)
     replace h := RG.f h hb23
     unfold M138_L2 at h
     refine rn 1 rfl ?_
     exact jX () h (gr [0, 1] rfl (hB rfl rfl rfl (hB rfl rfl rfl .nil)) rfl)
    intro _ h
    refine rn 4 rfl ?_
    refine ln rfl rfl ?_
    refine rn 2 rfl ?_
    refine jK h (fun _ : Unit => (⟨[(1, (V.ptr 0 8 0 0)), (3, (sV x10.Name)), (14, (V.lst 4 (a1.g.Funcs.map q4c))), (15, (iV ((a1.g.Funcs.length : Nat) : Int))), (16, (iV n6))], [(0, (Ob.arr 141 8 [(q4b a1)]))], 1⟩ : St)) (fun k30 (_ : Unit) => k30 = some r) (fun k30 h => ?_) ?_
    ·refine rn 1 rfl ?_
     refine wl (A := x10.Makes) 57 rfl (fun hA45 => ?_)
     refine lC (fun (p : Int) => (⟨[(1, (V.ptr 0 8 0 0)), (3, (sV x10.Name)), (5, (V.ptr 1 4 0 0)), (14, (V.lst 4 (a1.g.Funcs.map q4c))), (15, (iV ((a1.g.Funcs.length : Nat) : Int))), (16, (iV n6)), (57, (V.lst 1 (x10.Makes.map encS))), (58, (iV ((x10.Makes.length : Nat) : Int))), (59, (iV p))], [(0, (Ob.arr 141 8 [(q4b a1)])), (1, (Ob.arr 94 4 [(q4c x10)]))], 2⟩ : St)) (fun n p => RG x10.Makes (fun tl nn => M138_L3 F a1 x10 k30 tl nn = some r) n p) (fun p h => RG.zero h) (x10.Makes.length + 1) 0 (RG.start h) (gr [0, 1] rfl (hB rfl rfl rfl (hB rfl rfl rfl .nil)) rfl) (fun n n32 h => ?_)
     refine rn 5 rfl ?_
     refine spL rfl (fun hb33 => ?_) (fun hb33 => ?_)
     ·obtain ⟨x35, tl, hx36, h, hk3⟩ := RG.t hA45 h hb33
      unfold M138_L3 at h
      refine rn 2 rfl ?_
      refine jK h (fun _ : Unit => (⟨[(1, (V.ptr 0 8 0 0)), (3, (sV x10.Name)), (5, (V.ptr 1 4 0 0)), (14, (V.lst 4 (a1.g.Funcs.map q4c))), (15, (iV ((a1.g.Funcs.length : Nat) : Int))), (16, (iV n6)), (57, (V.lst 1 (x10.Makes.map encS))), (58, (iV ((x10.Makes.length : Nat) : Int))), (59, (iV n32))], [(0, (Ob.arr 141 8 [(q4b a1)])), (1, (Ob.arr 94 4 [(q4c x10)]))], 2⟩ : St)) (fun k34 (_ : Unit) => k34 = some r) (fun k34 h => ?_) ?_
      ·refine rn 4 rfl ?_
       refine ixh hx36 rfl rfl ?_
       refine rn 11 rfl ?_
       refine spO 67 h rfl (fun hb37 h => ?_) (fun hb37 h => ?_)
       ·refine rn 4 rfl ?_
        refine q3e _ (bV false) (bV ((mget a1.n.types x35).getD false)) q2k tKey9 tZo4 (q3g _) (q4k (c := true) (b := true) 67 rfl rfl rfl) rfl .imm (.con rfl) ⟨_, rfl⟩ q6e (q3h a1.n.types x35) (q1f (q0g) (mget a1.n.types x35) false) rfl ?_
        refine fo (rn 3 rfl ?_)
        refine spC h rfl (fun hb38 h => ?_) (fun hb38 h => ?_)
        ·refine rn 4 rfl ?_
         exact rt h rfl
        refine rn 6 rfl ?_
        refine cl h rfl rfl rfl (W139 _ _ _) rfl (fun y39 hx40 h => ?_)
        refine rn 7 rfl ?_
        refine spC h rfl (fun hb41 h => ?_) (fun hb41 h => ?_)
        ·refine rn 5 rfl ?_
         exact rt h rfl
        refine rn 2 rfl ?_
        exact jX () h (gr [0, 1] rfl (hB rfl rfl rfl (hB rfl rfl rfl .nil)) rfl)
       refine rn 15 rfl ?_
       refine cl h rfl rfl rfl (W139 _ _ _) rfl (fun y42 hx43 h => ?_)
       refine rn 7 rfl ?_
       refine spC h rfl (fun hb44 h => ?_) (fun hb44 h => ?_)
       ·refine rn 5 rfl ?_
        exact rt h rfl
       refine rn 2 rfl ?_
       exact jX () h (gr [0, 1] rfl (hB rfl rfl rfl (hB rfl rfl rfl .nil)) rfl)
      intro _ h
      refine rn 4 rfl ?_
      exact jX (w64 (n32 + 1)) (hk3 _ h) (gr [0, 1] rfl (hB rfl rfl rfl (hB rfl rfl rfl .nil)) rfl)
     replace h := RG.f h hb33
     unfold M138_L3 at h
     refine rn 1 rfl ?_
     exact jX () h (gr [0] rfl (hB rfl rfl rfl .nil) rfl)
    intro _ h
    refine rn 1 rfl ?_
    exact jX x10.Name h (gr [0] rfl (hB rfl rfl rfl .nil) rfl)
   intro s9 h
   refine rn 4 rfl ?_
   exact jX (s9, (w64 (n6 + 1))) (hk1 _ h) (gr [0] rfl (hB rfl rfl rfl .nil) rfl)
  replace h := RG.f h hb7
  unfold M138_L1 at h
  refine rn 1 rfl ?_
  exact jX () h (g0 rfl rfl)
 intro _ h
 refine rn 4 rfl ?_
 exact rt h rfl
theorem W73 (F : Nat) (a1 : q0b) (r : Int) (h : M73 F a1 = some r) : Pure Tryz.prog 73 [(V.agg (q4b a1))] (iV r) := by
 refine pin (fun r => (iV r)) r rfl Tryz.func73 rfl rfl rfl rfl rfl (fun w0 m0 hg => ?_)
 unfold M73 at h
 refine rn 11 rfl ?_
 refine ln rfl rfl ?_
 refine rn 2 rfl ?_
 refine spO 14 h rfl (fun hb2 h => ?_) (fun hb2 h => ?_)
 ·refine rn 19 rfl ?_
  exact rt h rfl
 refine rn 3 rfl ?_
 refine ln rfl rfl ?_
 refine rn 3 rfl ?_
 refine spO 21 h rfl (fun hb3 h => ?_) (fun hb3 h => ?_)
 ·refine rn 12 rfl ?_
  exact rt h rfl
 refine rn 3 rfl ?_
 refine ln rfl rfl ?_
 refine rn 3 rfl ?_
 refine spC h rfl (fun hb4 h => ?_) (fun hb4 h => ?_)
 ·refine rn 4 rfl ?_
  exact rt h rfl
 refine rn 5 rfl ?_
 refine cl h rfl rfl rfl (W136 _ _) rfl (fun y5 hx6 h => ?_)
 refine rn 7 rfl ?_
 refine spC h rfl (fun hb7 h => ?_) (fun hb7 h => ?_)
 ·refine rn 5 rfl ?_
  exact rt h rfl
 refine rn 5 rfl ?_
 refine cl h rfl rfl rfl (W137 _ _) rfl (fun y8 hx9 h => ?_)
 refine rn 7 rfl ?_
 refine spC h rfl (fun hb10 h => ?_) (fun hb10 h => ?_)
 ·refine rn 5 rfl ?_
  exact rt h rfl
 refine rn 5 rfl ?_
 refine cl h rfl rfl rfl (W138 _ _) rfl (fun y11 hx12 h => ?_)
 refine rn 7 rfl ?_
 refine spC h rfl (fun hb13 h => ?_) (fun hb13 h => ?_)
 ·refine rn 5 rfl ?_
  exact rt h rfl
 refine rn 7 rfl ?_
 refine ln rfl rfl ?_
 refine rn 2 rfl ?_
 refine jK h (fun _ : Unit => (⟨[], [], 0⟩ : St)) (fun k14 (_ : Unit) => k14 = some r) (fun k14 h => ?_) ?_
 ·refine rn 1 rfl ?_
  refine wl (A := a1.g.Entries) 45 rfl (fun hA29 => ?_)
  refine lC (fun (p : Int) => (⟨[(1, (V.ptr 0 8 0 0)), (45, (V.lst 1 (a1.g.Entries.map encS))), (46, (iV ((a1.g.Entries.length : Nat) : Int))), (47, (iV p))], [(0, (Ob.arr 141 8 [(q4b a1)]))], 1⟩ : St)) (fun n p => RG a1.g.Entries (fun tl nn => M73_L1 F a1 k14 tl nn = some r) n p) (fun p h => RG.zero h) (a1.g.Entries.length + 1) 0 (RG.start h) (gr [0] rfl (hB rfl rfl rfl .nil) rfl) (fun n n16 h => ?_)
  refine rn 5 rfl ?_
  refine spL rfl (fun hb17 => ?_) (fun hb17 => ?_)
  ·obtain ⟨x19, tl, hx20, h, hk1⟩ := RG.t hA29 h hb17
   unfold M73_L1 at h
   refine rn 2 rfl ?_
   refine jK h (fun _ : Unit => (⟨[(1, (V.ptr 0 8 0 0)), (45, (V.lst 1 (a1.g.Entries.map encS))), (46, (iV ((a1.g.Entries.length : Nat) : Int))), (47, (iV n16))], [(0, (Ob.arr 141 8 [(q4b a1)]))], 1⟩ : St)) (fun k18 (_ : Unit) => k18 = some r) (fun k18 h => ?_) ?_
   ·refine rn 4 rfl ?_
    refine ixh hx20 rfl rfl ?_
    refine rn 11 rfl ?_
    refine spO 55 h rfl (fun hb21 h => ?_) (fun hb21 h => ?_)
    ·refine rn 4 rfl ?_
     refine q3e _ (bV false) (bV ((mget a1.n.funcs x19).getD false)) q2k tKey9 tZo4 (q3g _) (q4k (c := true) (b := true) 55 rfl rfl rfl) rfl .imm (.con rfl) ⟨_, rfl⟩ q6e (q3h a1.n.funcs x19) (q1f (q0g) (mget a1.n.funcs x19) false) rfl ?_
     refine fo (rn 3 rfl ?_)
     refine spC h rfl (fun hb22 h => ?_) (fun hb22 h => ?_)
     ·refine rn 4 rfl ?_
      exact rt h rfl
     refine rn 7 rfl ?_
     refine cl h rfl rfl rfl (W139 _ _ _) rfl (fun y23 hx24 h => ?_)
     refine rn 7 rfl ?_
     refine spC h rfl (fun hb25 h => ?_) (fun hb25 h => ?_)
     ·refine rn 5 rfl ?_
      exact rt h rfl
     refine rn 2 rfl ?_
     exact jX () h (gr [0] rfl (hB rfl rfl rfl .nil) rfl)
    refine rn 16 rfl ?_
    refine cl h rfl rfl rfl (W139 _ _ _) rfl (fun y26 hx27 h => ?_)
    refine rn 7 rfl ?_
    refine spC h rfl (fun hb28 h => ?_) (fun hb28 h => ?_)
    ·refine rn 5 rfl ?_
     exact rt h rfl
    refine rn 2 rfl ?_
    exact jX () h (gr [0] rfl (hB rfl rfl rfl .nil) rfl)
   intro _ h
   refine rn 4 rfl ?_
   exact jX (w64 (n16 + 1)) (hk1 _ h) (gr [0] rfl (hB rfl rfl rfl .nil) rfl)
  replace h := RG.f h hb17
  unfold M73_L1 at h
  refine rn 1 rfl ?_
  exact jX () h (g0 rfl rfl)
 intro _ h
 refine rn 4 rfl ?_
 exact rt h rfl
theorem W18 (F : Nat) (a1 : q1c) (r : Int) (h : M18 F a1 = some r) : Pure Tryz.prog 18 [(V.agg (q3c a1))] (iV r) := by
 refine pin (fun r => (iV r)) r rfl Tryz.func18 rfl rfl rfl rfl rfl (fun w0 m0 hg => ?_)
 unfold M18 at h
 obtain ⟨y2, hx3, h⟩ := bind_some h
 obtain ⟨y4, hx5, h⟩ := bind_some h
 refine rn 6 rfl ?_
 refine dr mixed (vs 2 rfl (cD rfl rfl rfl rfl (W72 _ _ _ hx3) rfl (vs 1 rfl (cD rfl rfl rfl rfl (W73 _ _ _ hx5) rfl (vs 1 rfl .nil))))) (by kernel_rfl) ?_
 exact rt h rfl
theorem W81 (F : Nat) (a1 : (List (List UInt8))) (r : Int) (h : M81 F a1 = some r) : Pure Tryz.prog 81 [(V.lst 1 (a1.map encS))] (iV r) := by
 refine pin (fun r => (iV r)) r rfl Tryz.func81 rfl rfl rfl rfl rfl (fun w0 m0 hg => ?_)
 unfold M81 at h
 refine rn 8 rfl ?_
 refine ln rfl rfl ?_
 refine rn 2 rfl ?_
 refine spC h rfl (fun hb2 h => ?_) (fun hb2 h => ?_)
 ·refine rn 4 rfl ?_
  exact rt h rfl
 refine rn 5 rfl ?_
 refine ln rfl rfl ?_
 refine rn 2 rfl ?_
 refine jK h (fun _ : Unit => (⟨[], [], 0⟩ : St)) (fun k3 (_ : Unit) => k3 = some r) (fun k3 h => ?_) ?_
 ·refine rn 1 rfl ?_
  refine wl (A := a1) 0 rfl (fun hA15 => ?_)
  refine lC (fun (p : Int) => (⟨[(0, (V.lst 1 (a1.map encS))), (9, (V.lst 1 (a1.map encS))), (10, (iV ((a1.length : Nat) : Int))), (11, (iV p))], [], 0⟩ : St)) (fun n p => RG a1 (fun tl nn => M81_L1 F a1 k3 tl nn = some r) n p) (fun p h => RG.zero h) (a1.length + 1) 0 (RG.start h) (g0 rfl rfl) (fun n n5 h => ?_)
  refine rn 5 rfl ?_
  refine spL rfl (fun hb6 => ?_) (fun hb6 => ?_)
  ·obtain ⟨x7, tl, hx8, h, hk1⟩ := RG.t hA15 h hb6
   unfold M81_L1 at h
   refine rn 6 rfl ?_
   refine ixh hx8 rfl rfl ?_
   refine rn 8 rfl ?_
   refine cl h rfl rfl rfl (W82 _ _) rfl (fun y9 hx10 h => ?_)
   refine rn 2 rfl ?_
   refine spC h rfl (fun hb11 h => ?_) (fun hb11 h => ?_)
   ·refine rn 4 rfl ?_
    exact rt h rfl
   refine rn 5 rfl ?_
   refine cl h rfl rfl rfl (W139 _ _ _) rfl (fun y12 hx13 h => ?_)
   refine rn 7 rfl ?_
   refine spC h rfl (fun hb14 h => ?_) (fun hb14 h => ?_)
   ·refine rn 5 rfl ?_
    exact rt h rfl
   refine rn 6 rfl ?_
   exact jX (w64 (n5 + 1)) (hk1 _ h) (g0 rfl rfl)
  replace h := RG.f h hb6
  unfold M81_L1 at h
  refine rn 1 rfl ?_
  exact jX () h (g0 rfl rfl)
 intro _ h
 refine rn 4 rfl ?_
 exact rt h rfl
theorem W190 (F : Nat) (a1 : q1c) (a2 : (List UInt8)) (r : (q2d × Bool)) (h : M190 F a1 a2 = some r) : Pure Tryz.prog 190 [(V.agg (q3c a1)), (sV a2)] (V.tup [(V.agg (q8b (r.1))), (bV (r.2))]) := by
 refine pin (fun r => (V.tup [(V.agg (q8b (r.1))), (bV (r.2))])) r rfl Tryz.func190 rfl rfl rfl rfl rfl (fun w0 m0 hg => ?_)
 unfold M190 at h
 refine rn 11 rfl ?_
 refine ln rfl rfl ?_
 refine rn 2 rfl ?_
 refine jK h (fun _ : Unit => (⟨[(4, (V.ptr 0 2 0 0))], [(0, (Ob.arr 98 2 [[(sV ([] : List UInt8)), nV]]))], 1⟩ : St)) (fun k3 (_ : Unit) => k3 = some r) (fun k3 h => ?_) ?_
 ·refine rn 1 rfl ?_
  refine wl (A := a1.Ifaces) 9 rfl (fun hA10 => ?_)
  refine lC (fun (p : Int) => (⟨[(1, (sV a2)), (4, (V.ptr 0 2 0 0)), (9, (V.lst 2 (a1.Ifaces.map q8b))), (10, (iV ((a1.Ifaces.length : Nat) : Int))), (11, (iV p))], [(0, (Ob.arr 98 2 [[(sV ([] : List UInt8)), nV]]))], 1⟩ : St)) (fun n p => RG a1.Ifaces (fun tl nn => M190_L1 F a2 k3 tl = some r) n p) (fun p h => RG.zero h) (a1.Ifaces.length + 1) 0 (RG.start h) (gr [1] rfl (hB rfl rfl rfl .nil) rfl) (fun n n5 h => ?_)
  refine rn 5 rfl ?_
  refine spL rfl (fun hb6 => ?_) (fun hb6 => ?_)
  ·obtain ⟨x7, tl, hx8, h, hk1⟩ := RG.t hA10 h hb6
   unfold M190_L1 at h
   refine rn 5 rfl ?_
   refine ixh hx8 rfl rfl ?_
   refine rn 11 rfl ?_
   refine spC h rfl (fun hb9 h => ?_) (fun hb9 h => ?_)
   ·refine rn 6 rfl ?_
    exact rt h rfl
   refine rn 6 rfl ?_
   exact jX (w64 (n5 + 1)) (hk1 _ h) (gr [0] rfl (hB rfl rfl rfl .nil) rfl)
  replace h := RG.f h hb6
  unfold M190_L1 at h
  refine rn 1 rfl ?_
  exact jX () h (gr [0] rfl (hB rfl rfl rfl .nil) rfl)
 intro _ h
 refine rn 6 rfl ?_
 exact rt h rfl
theorem W191 (F : Nat) (a1 : TType) (a2 : (List UInt8)) (r : ((List UInt8) × Bool)) (h : M191 F a1 a2 = some r) : Pure Tryz.prog 191 [(V.agg (q1d a1)), (sV a2)] (V.tup [(sV (r.1)), (bV (r.2))]) := by
 refine pin (fun r => (V.tup [(sV (r.1)), (bV (r.2))])) r rfl Tryz.func191 rfl rfl rfl rfl rfl (fun w0 m0 hg => ?_)
 unfold M191 at h
 refine rn 11 rfl ?_
 refine ln rfl rfl ?_
 refine rn 2 rfl ?_
 refine jK h (fun _ : Unit => (⟨[], [], 0⟩ : St)) (fun k3 (_ : Unit) => k3 = some r) (fun k3 h => ?_) ?_
 ·refine rn 1 rfl ?_
  refine wl (A := a1.Methods) 9 rfl (fun hA10 => ?_)
  refine lC (fun (p : Int) => (⟨[(1, (sV a2)), (9, (V.lst 2 (a1.Methods.map q6g))), (10, (iV ((a1.Methods.length : Nat) : Int))), (11, (iV p))], [], 0⟩ : St)) (fun n p => RG a1.Methods (fun tl nn => M191_L1 F a2 k3 tl = some r) n p) (fun p h => RG.zero h) (a1.Methods.length + 1) 0 (RG.start h) (g0 rfl rfl) (fun n n5 h => ?_)
  refine rn 5 rfl ?_
  refine spL rfl (fun hb6 => ?_) (fun hb6 => ?_)
  ·obtain ⟨x7, tl, hx8, h, hk1⟩ := RG.t hA10 h hb6
   unfold M191_L1 at h
   refine rn 5 rfl ?_
   refine ixh hx8 rfl rfl ?_
   refine rn 11 rfl ?_
   refine spC h rfl (fun hb9 h => ?_) (fun hb9 h => ?_)
   ·refine rn 7 rfl ?_
    exact rt h rfl
   refine rn 6 rfl ?_
   exact jX (w64 (n5 + 1)) (hk1 _ h) (g0 rfl rfl)
  replace h := RG.f h hb6
  unfold M191_L1 at h
  refine rn 1 rfl ?_
  exact jX () h (g0 rfl rfl)
 intro _ h
 refine rn 5 rfl ?_
 exact rt h rfl
theorem W192 (F : Nat) (a1 : TType) (a2 : q2d) (r : Bool) (h : M192 F a1 a2 = some r) : Pure Tryz.prog 192 [(V.agg (q1d a1)), (V.agg (q8b a2))] (bV r) := by
 refine pin (fun r => (bV r)) r rfl Tryz.func192 rfl rfl rfl rfl rfl (fun w0 m0 hg => ?_)
 unfold M192 at h
 refine rn 11 rfl ?_
 refine ln rfl rfl ?_
 refine rn 2 rfl ?_
 refine jK h (fun _ : Unit => (⟨[], [], 0⟩ : St)) (fun k3 (_ : Unit) => k3 = some r) (fun k3 h => ?_) ?_
 ·refine rn 1 rfl ?_
  refine wl (A := a2.Methods) 10 rfl (fun hA12 => ?_)
  refine lC (fun (p : Int) => (⟨[(2, (V.ptr 0 2 0 0)), (10, (V.lst 1 (a2.Methods.map encS))), (11, (iV ((a2.Methods.length : Nat) : Int))), (12, (iV p))], [(0, (Ob.arr 104 2 [(q1d a1)]))], 1⟩ : St)) (fun n p => RG a2.Methods (fun tl nn => M192_L1 F a1 k3 tl = some r) n p) (fun p h => RG.zero h) (a2.Methods.length + 1) 0 (RG.start h) (gr [0] rfl (hB rfl rfl rfl .nil) rfl) (fun n n5 h => ?_)
  refine rn 5 rfl ?_
  refine spL rfl (fun hb6 => ?_) (fun hb6 => ?_)
  ·obtain ⟨x7, tl, hx8, h, hk1⟩ := RG.t hA12 h hb6
   unfold M192_L1 at h
   refine rn 5 rfl ?_
   refine ixh hx8 rfl rfl ?_
   refine rn 7 rfl ?_
   refine cl h rfl rfl rfl (W191 _ _ _) rfl (fun y9 hx10 h => ?_)
   refine rn 11 rfl ?_
   refine spC h rfl (fun hb11 h => ?_) (fun hb11 h => ?_)
   ·refine rn 4 rfl ?_
    exact rt h rfl
   refine rn 6 rfl ?_
   exact jX (w64 (n5 + 1)) (hk1 _ h) (gr [0] rfl (hB rfl rfl rfl .nil) rfl)
  replace h := RG.f h hb6
  unfold M192_L1 at h
  refine rn 1 rfl ?_
  exact jX () h (g0 rfl rfl)
 intro _ h
 refine rn 4 rfl ?_
 exact rt h rfl
theorem W146 (F : Nat) (a1 : q1c) (a2 : TCall) (r : (List q3a)) (h : M146 F a1 a2 = some r) : Pure Tryz.prog 146 [(V.agg (q3c a1)), (V.agg (q9d a2))] (V.lst 2 (r.map q0c)) := by
 refine pin (fun r => (V.lst 2 (r.map q0c))) r rfl Tryz.func146 rfl rfl rfl rfl rfl (fun w0 m0 hg => ?_)
 unfold M146 at h
 refine rn 13 rfl ?_
 refine spC h rfl (fun hb3 h => ?_) (fun hb3 h => ?_)
 ·refine rn 5 rfl ?_
  refine q2e [(0, (V.agg [(sV ([] : List UInt8)), (sV a2.Target)]))] [[(sV ([] : List UInt8)), (sV a2.Target)]] tEl217 tZ223 rfl rfl rfl rfl q4a (q2f rfl q1h) rfl rfl (by simp) rfl ?_
  refine fo (rn 2 rfl ?_)
  refine q7c (q8i 2 [4, 18] rfl (q3i (.cons (.cons (Imm.con _) (.cons (Imm.con _) .nil)) .nil)) (List.forall_mem_cons.2 ⟨rfl, (List.forall_mem_cons.2 ⟨rfl, (fun _ hx => nomatch hx)⟩)⟩) rfl) ?_
  refine fa ?_
  exact rt h rfl
 refine rn 6 rfl ?_
 refine cl h rfl rfl rfl (W190 _ _ _) rfl (fun y4 hx5 h => ?_)
 refine rn 16 rfl ?_
 refine ln rfl rfl ?_
 refine rn 2 rfl ?_
 refine jK h (fun (p : (List q3a)) => (⟨[(7, (V.own 0 p.length))], [(0, (Ob.arr 223 2 (p.map q0c)))], 1⟩ : St)) (fun k6 p => k6 p = some r) (fun k6 h => ?_) ?_
 ·refine rn 1 rfl ?_
  refine wl (A := a1.Types) 27 rfl (fun hA26 => ?_)
  refine lC (fun (p : Int × (List q3a)) => (⟨[(3, (V.ptr 0 4 0 0)), (5, (V.ptr 1 2 0 0)), (7, (V.own 2 (p.2).length)), (27, (V.lst 2 (a1.Types.map q1d))), (28, (iV ((a1.Types.length : Nat) : Int))), (29, (iV (p.1)))], [(0, (Ob.arr 109 4 [(q9d a2)])), (1, (Ob.arr 98 2 [(q8b (y4.1))])), (2, (Ob.arr 223 2 ((p.2).map q0c)))], 3⟩ : St)) (fun n p => RG a1.Types (fun tl nn => M146_L1 F a2 y4 k6 tl p.2 = some r) n p.1) (fun p h => RG.zero h) (a1.Types.length + 1) (0, ([] : List q3a)) (RG.start h) (Ghost.trans (q1j 7 223 2 rfl) (q9f 3 (fun i => ([1, 2, 3] : List Nat).getD i 0) _ _ (by decide) (q0k.get (.cons (Sub.ptr rfl rfl) (.cons (Sub.ptr rfl rfl) (.cons (Sub.ownE rfl rfl (by simp)) (.cons (Sub.imm (Imm.lst _ _)) (.cons (Sub.imm (Imm.con _)) (.cons (Sub.imm (Imm.con _)) .nil))))))) (HpSub.get (.cons rfl (ObSub.box (.cons (Sub.imm (Imm.con _)) (.cons (Sub.imm (Imm.con _)) (.cons (Sub.imm (Imm.con _)) (.cons (Sub.imm (Imm.con _)) .nil))))) (.cons rfl (ObSub.box (.cons (Sub.imm (Imm.con _)) (.cons (Sub.imm (Imm.lst _ _)) .nil))) (.cons rfl (ObSub.rows (q9a q5j)) .nil)))) rfl)) (fun n p h => ?_)
  obtain ⟨n10, l11⟩ := p
  refine rn 5 rfl ?_
  refine spL rfl (fun hb12 => ?_) (fun hb12 => ?_)
  ·obtain ⟨x15, tl, hx16, h, hk1⟩ := RG.t hA26 h hb12
   unfold M146_L1 at h
   refine rn 2 rfl ?_
   refine jK h (fun (p : (List q3a)) => (⟨[(3, (V.ptr 0 4 0 0)), (5, (V.ptr 1 2 0 0)), (7, (V.own 2 p.length)), (27, (V.lst 2 (a1.Types.map q1d))), (28, (iV ((a1.Types.length : Nat) : Int))), (29, (iV n10))], [(0, (Ob.arr 109 4 [(q9d a2)])), (1, (Ob.arr 98 2 [(q8b (y4.1))])), (2, (Ob.arr 223 2 (p.map q0c)))], 3⟩ : St)) (fun k13 p => k13 p = some r) (fun k13 h => ?_) ?_
   ·refine rn 3 rfl ?_
    refine ixh hx16 rfl rfl ?_
    refine rn 9 rfl ?_
    refine cl h rfl rfl rfl (W191 _ _ _) rfl (fun y17 hx18 h => ?_)
    refine rn 10 rfl ?_
    refine spO 41 h rfl (fun hb19 h => ?_) (fun hb19 h => ?_)
    ·refine rn 2 rfl ?_
     refine cl h rfl rfl rfl (W192 _ _ _) rfl (fun y20 hx21 h => ?_)
     refine rn 2 rfl ?_
     refine jK h (fun (p : (List q3a)) => (⟨[(3, (V.ptr 0 4 0 0)), (5, (V.ptr 1 2 0 0)), (7, (V.own 2 p.length)), (27, (V.lst 2 (a1.Types.map q1d))), (28, (iV ((a1.Types.length : Nat) : Int))), (29, (iV n10)), (44, (bV y20))], [(0, (Ob.arr 109 4 [(q9d a2)])), (1, (Ob.arr 98 2 [(q8b (y4.1))])), (2, (Ob.arr 223 2 (p.map q0c)))], 3⟩ : St)) (fun k22 p => k22 p = some r) (fun k22 h => ?_) ?_
     ·refine spC h rfl (fun hb24 h => ?_) (fun hb24 h => ?_)
      ·refine rn 6 rfl ?_
       refine q2e [(0, (V.agg [(sV x15.Name), (sV (y17.1))]))] [[(sV x15.Name), (sV (y17.1))]] tEl217 tZ223 rfl rfl rfl rfl q4a (q2f rfl q1h) rfl rfl (by simp) rfl ?_
       refine fo ?_
       refine apO q0c h rfl rfl rfl rfl rfl rfl rfl rfl (fun h => ?_)
       refine rn 2 rfl ?_
       exact jX (l11 ++ ([(q3a.mk x15.Name (y17.1))] : List q3a)) h (gr [0, 1, 5] rfl (hB rfl rfl rfl (hB rfl rfl rfl (hR rfl rfl .nil))) rfl)
      refine rn 1 rfl ?_
      exact jX l11 h (gr [0, 1, 2] rfl (hB rfl rfl rfl (hB rfl rfl rfl (hR rfl rfl .nil))) rfl)
     intro l23 h
     refine rn 1 rfl ?_
     exact jX l23 h (gr [0, 1, 2] rfl (hB rfl rfl rfl (hB rfl rfl rfl (hR rfl rfl .nil))) rfl)
    refine rn 8 rfl ?_
    exact jX l11 h (gr [0, 1, 2] rfl (hB rfl rfl rfl (hB rfl rfl rfl (hR rfl rfl .nil))) rfl)
   intro l14 h
   refine rn 4 rfl ?_
   exact jX ((w64 (n10 + 1)), l14) (hk1 _ h) (gr [0, 1, 2] rfl (hB rfl rfl rfl (hB rfl rfl rfl (hR rfl rfl .nil))) rfl)
  replace h := RG.f h hb12
  unfold M146_L1 at h
  refine rn 1 rfl ?_
  exact jX l11 h (gr [2] rfl (hR rfl rfl .nil) rfl)
 intro l7 h
 refine rn 5 rfl ?_
 refine q7c (q8i 0 [4, 7, 54] rfl (q9a q5j) (List.forall_mem_cons.2 ⟨rfl, (List.forall_mem_cons.2 ⟨rfl, (List.forall_mem_cons.2 ⟨rfl, (fun _ hx => nomatch hx)⟩)⟩)⟩) (List.length_map ..).symm) ?_
 refine fa ?_
 exact rt h rfl
theorem W83 (F : Nat) (a1 : q1c) (a2 : (List (List UInt8))) (r : q6b) (h : M83 F a1 a2 = some r) : Pure Tryz.prog 83 [(V.agg (q3c a1)), (V.lst 1 (a2.map encS))] (V.agg (q8c r)) := by
 refine pin (fun r => (V.agg (q8c r))) r rfl Tryz.func83 rfl rfl rfl rfl rfl (fun w0 m0 hg => ?_)
 unfold M83 at h
 refine rn 17 rfl ?_
 refine aops_insert (es := ([] : List ((List UInt8) × Bool)).map q5b) ((mput ([] : List ((List UInt8) × Bool)) ([] : List UInt8) true).map q5b) q2k tKey9 q4a rfl rfl (.con rfl) ⟨_, rfl⟩ q6e rfl (q4i ([] : List ((List UInt8) × Bool)) ([] : List UInt8) true) ?_
 refine fo (rn 7 rfl ?_)
 refine ln rfl rfl ?_
 refine rn 2 rfl ?_
 refine jK h (fun (p : (List ((List UInt8) × Bool))) => (⟨[(2, (V.ptr 0 4 0 0)), (4, (V.ptr 1 6 0 0)), (5, (V.ptr 2 6 0 0)), (6, (V.map 3))], [(0, (Ob.arr 27 4 [(q3c a1)])), (1, (Ob.arr 155 6 [[nV, nV, nV, nV, (V.con (.map none)), (V.con (.map none))]])), (2, (Ob.arr 155 6 [[(V.lst 2 (a1.Ifaces.map q8b)), (V.lst 2 (a1.Types.map q1d)), (V.lst 4 (a1.Funcs.map q4c)), (V.lst 1 (a1.Entries.map encS)), (V.map 4), (V.map 5)]])), (3, (Ob.map (p.map q5b))), (4, (Ob.map (([] : List ((List UInt8) × (List q1a))).map q8g))), (5, (Ob.map (([] : List ((List UInt8) × TFunc)).map q7i)))], 6⟩ : St)) (fun k3 p => k3 p = some r) (fun k3 h => ?_) ?_
 ·refine rn 1 rfl ?_
  refine wl (A := a2) 1 rfl (fun hA12 => ?_)
  refine lC (fun (p : Int × (List ((List UInt8) × Bool))) => (⟨[(2, (V.ptr 0 4 0 0)), (4, (V.ptr 1 6 0 0)), (5, (V.ptr 2 6 0 0)), (6, (V.map 3)), (23, (V.lst 1 (a2.map encS))), (24, (iV ((a2.length : Nat) : Int))), (25, (iV (p.1)))], [(0, (Ob.arr 27 4 [(q3c a1)])), (1, (Ob.arr 155 6 [[nV, nV, nV, nV, (V.con (.map none)), (V.con (.map none))]])), (2, (Ob.arr 155 6 [[(V.lst 2 (a1.Ifaces.map q8b)), (V.lst 2 (a1.Types.map q1d)), (V.lst 4 (a1.Funcs.map q4c)), (V.lst 1 (a1.Entries.map encS)), (V.map 4), (V.map 5)]])), (3, (Ob.map ((p.2).map q5b))), (4, (Ob.map (([] : List ((List UInt8) × (List q1a))).map q8g))), (5, (Ob.map (([] : List ((List UInt8) × TFunc)).map q7i)))], 6⟩ : St)) (fun n p => RG a2 (fun tl nn => M83_L1 F k3 tl p.2 = some r) n p.1) (fun p h => RG.zero h) (a2.length + 1) (0, (mput ([] : List ((List UInt8) × Bool)) ([] : List UInt8) true)) (RG.start h) (gr [0, 1, 4, 5, 2, 3] rfl (hB rfl rfl rfl (hB rfl rfl rfl (hB rfl rfl rfl (hM rfl rfl (hM rfl rfl (hM rfl rfl .nil)))))) rfl) (fun n p h => ?_)
  obtain ⟨n7, m8⟩ := p
  refine rn 5 rfl ?_
  refine spL rfl (fun hb9 => ?_) (fun hb9 => ?_)
  ·obtain ⟨x10, tl, hx11, h, hk1⟩ := RG.t hA12 h hb9
   unfold M83_L1 at h
   refine rn 5 rfl ?_
   refine ixh hx11 rfl rfl ?_
   refine rn 6 rfl ?_
   refine q0e (es := m8.map q5b) ((mput m8 x10 true).map q5b) q2k tKey9 q4a rfl rfl (.con rfl) ⟨_, rfl⟩ q6e rfl (q4i m8 x10 true) ?_
   refine fo (rn 6 rfl ?_)
   exact jX ((w64 (n7 + 1)), (mput m8 x10 true)) (hk1 _ h) (gr [0, 1, 2, 3, 4, 5] rfl (hB rfl rfl rfl (hB rfl rfl rfl (hB rfl rfl rfl (hM rfl rfl (hM rfl rfl (hM rfl rfl .nil)))))) rfl)
  replace h := RG.f h hb9
  unfold M83_L1 at h
  refine rn 1 rfl ?_
  exact jX m8 h (gr [0, 1, 2, 3, 4, 5] rfl (hB rfl rfl rfl (hB rfl rfl rfl (hB rfl rfl rfl (hM rfl rfl (hM rfl rfl (hM rfl rfl .nil)))))) rfl)
 intro m4 h
 refine rn 10 rfl ?_
 refine ln rfl rfl ?_
 refine rn 2 rfl ?_
 refine jK h (fun (p : (List ((List UInt8) × (List q1a))) × (List ((List UInt8) × TFunc))) => (⟨[(4, (V.ptr 0 6 0 0)), (5, (V.ptr 1 6 0 0))], [(0, (Ob.arr 155 6 [[nV, nV, nV, nV, (V.con (.map none)), (V.con (.map none))]])), (1, (Ob.arr 155 6 [[(V.lst 2 (a1.Ifaces.map q8b)), (V.lst 2 (a1.Types.map q1d)), (V.lst 4 (a1.Funcs.map q4c)), (V.lst 1 (a1.Entries.map encS)), (V.map 2), (V.map 3)]])), (2, (Ob.map ((p.1).map q8g))), (3, (Ob.map ((p.2).map q7i)))], 4⟩ : St)) (fun k13 p => k13 p.1 p.2 = some r) (fun k13 h => ?_) ?_
 ·refine rn 1 rfl ?_
  refine wl (A := a1.Funcs) 34 rfl (fun hA55 => ?_)
  refine lC (fun (p : Int × (List (TCall × (List q3a))) × (List ((List UInt8) × (List q1a))) × (List ((List UInt8) × TFunc))) => (⟨[(2, (V.ptr 0 4 0 0)), (4, (V.ptr 1 6 0 0)), (5, (V.ptr 2 6 0 0)), (6, (V.map 3)), (9, (V.map 4)), (34, (V.lst 4 (a1.Funcs.map q4c))), (35, (iV ((a1.Funcs.length : Nat) : Int))), (36, (iV (p.1)))], [(0, (Ob.arr 27 4 [(q3c a1)])), (1, (Ob.arr 155 6 [[nV, nV, nV, nV, (V.con (.map none)), (V.con (.map none))]])), (2, (Ob.arr 155 6 [[(V.lst 2 (a1.Ifaces.map q8b)), (V.lst 2 (a1.Types.map q1d)), (V.lst 4 (a1.Funcs.map q4c)), (V.lst 1 (a1.Entries.map encS)), (V.map 5), (V.map 6)]])), (3, (Ob.map (m4.map q5b))), (4, (Ob.map ((p.2.1).map q1i))), (5, (Ob.map ((p.2.2.1).map q8g))), (6, (Ob.map ((p.2.2.2).map q7i)))], 7⟩ : St)) (fun n p => RG a1.Funcs (fun tl nn => M83_L2 F a1 m4 k13 tl p.2.1 p.2.2.1 p.2.2.2 = some r) n p.1) (fun p h => RG.zero h) (a1.Funcs.length + 1) (0, ([] : List (TCall × (List q3a))), ([] : List ((List UInt8) × (List q1a))), ([] : List ((List UInt8) × TFunc))) (RG.start h) (gr [0, 1, 2, 3, 6, 4, 5] rfl (hB rfl rfl rfl (hB rfl rfl rfl (hB rfl rfl rfl (hM rfl rfl (hM rfl rfl (hM rfl rfl (hM rfl rfl .nil))))))) rfl) (fun n p h => ?_)
  obtain ⟨n20, m21, m22, m23⟩ := p
  refine rn 5 rfl ?_
  refine spL rfl (fun hb24 => ?_) (fun hb24 => ?_)
  ·obtain ⟨x29, tl, hx30, h, hk2⟩ := RG.t hA55 h hb24
   unfold M83_L2 at h
   refine rn 2 rfl ?_
   refine jK h (fun (p : (List (TCall × (List q3a))) × (List ((List UInt8) × (List q1a))) × (List ((List UInt8) × TFunc))) => (⟨[(2, (V.ptr 0 4 0 0)), (4, (V.ptr 1 6 0 0)), (5, (V.ptr 2 6 0 0)), (6, (V.map 3)), (9, (V.map 4)), (34, (V.lst 4 (a1.Funcs.map q4c))), (35, (iV ((a1.Funcs.length : Nat) : Int))), (36, (iV n20))], [(0, (Ob.arr 27 4 [(q3c a1)])), (1, (Ob.arr 155 6 [[nV, nV, nV, nV, (V.con (.map none)), (V.con (.map none))]])), (2, (Ob.arr 155 6 [[(V.lst 2 (a1.Ifaces.map q8b)), (V.lst 2 (a1.Types.map q1d)), (V.lst 4 (a1.Funcs.map q4c)), (V.lst 1 (a1.Entries.map encS)), (V.map 5), (V.map 6)]])), (3, (Ob.map (m4.map q5b))), (4, (Ob.map ((p.1).map q1i))), (5, (Ob.map ((p.2.1).map q8g))), (6, (Ob.map ((p.2.2).map q7i)))], 7⟩ : St)) (fun k25 p => k25 p.1 p.2.1 p.2.2 = some r) (fun k25 h => ?_) ?_
   ·refine rn 3 rfl ?_
    refine ixh hx30 rfl rfl ?_
    refine rn 11 rfl ?_
    refine q0e (es := m23.map q7i) ((mput m23 x29.Name x29).map q7i) tMap153 tKey9 q4a rfl rfl (.con rfl) ⟨_, rfl⟩ encM9_94_good rfl (encM9_94_puts m23 x29.Name x29) ?_
    refine fo (rn 5 rfl ?_)
    refine ln rfl rfl ?_
    refine rn 2 rfl ?_
    refine jK h (fun (p : (List (TCall × (List q3a))) × (List ((List UInt8) × (List q1a)))) => (⟨[(2, (V.ptr 0 4 0 0)), (4, (V.ptr 1 6 0 0)), (5, (V.ptr 2 6 0 0)), (6, (V.map 3)), (9, (V.map 4)), (34, (V.lst 4 (a1.Funcs.map q4c))), (35, (iV ((a1.Funcs.length : Nat) : Int))), (36, (iV n20))], [(0, (Ob.arr 27 4 [(q3c a1)])), (1, (Ob.arr 155 6 [[nV, nV, nV, nV, (V.con (.map none)), (V.con (.map none))]])), (2, (Ob.arr 155 6 [[(V.lst 2 (a1.Ifaces.map q8b)), (V.lst 2 (a1.Types.map q1d)), (V.lst 4 (a1.Funcs.map q4c)), (V.lst 1 (a1.Entries.map encS)), (V.map 5), (V.map 6)]])), (3, (Ob.map (m4.map q5b))), (4, (Ob.map ((p.1).map q1i))), (5, (Ob.map ((p.2).map q8g))), (6, (Ob.map ((mput m23 x29.Name x29).map q7i)))], 7⟩ : St)) (fun k31 p => k31 p.1 p.2 = some r) (fun k31 h => ?_) ?_
    ·refine rn 1 rfl ?_
     refine wl (A := x29.Calls) 46 rfl (fun hA54 => ?_)
     refine lC (fun (p : Int × (List (TCall × (List q3a))) × (List ((List UInt8) × (List q1a)))) => (⟨[(2, (V.ptr 0 4 0 0)), (4, (V.ptr 1 6 0 0)), (5, (V.ptr 2 6 0 0)), (6, (V.map 3)), (9, (V.map 4)), (11, (V.ptr 5 4 0 0)), (34, (V.lst 4 (a1.Funcs.map q4c))), (35, (iV ((a1.Funcs.length : Nat) : Int))), (36, (iV n20)), (46, (V.lst 4 (x29.Calls.map q9d))), (47, (iV ((x29.Calls.length : Nat) : Int))), (48, (iV (p.1)))], [(0, (Ob.arr 27 4 [(q3c a1)])), (1, (Ob.arr 155 6 [[nV, nV, nV, nV, (V.con (.map none)), (V.con (.map none))]])), (2, (Ob.arr 155 6 [[(V.lst 2 (a1.Ifaces.map q8b)), (V.lst 2 (a1.Types.map q1d)), (V.lst 4 (a1.Funcs.map q4c)), (V.lst 1 (a1.Entries.map encS)), (V.map 6), (V.map 7)]])), (3, (Ob.map (m4.map q5b))), (4, (Ob.map ((p.2.1).map q1i))), (5, (Ob.arr 94 4 [(q4c x29)])), (6, (Ob.map ((p.2.2).map q8g))), (7, (Ob.map ((mput m23 x29.Name x29).map q7i)))], 8⟩ : St)) (fun n p => RG x29.Calls (fun tl nn => M83_L3 F a1 m4 x29 k31 tl nn p.2.1 p.2.2 = some r) n p.1) (fun p h => RG.zero h) (x29.Calls.length + 1) (0, m21, m22) (RG.start h) (gr [0, 1, 2, 3, 4, 7, 5, 6] rfl (hB rfl rfl rfl (hB rfl rfl rfl (hB rfl rfl rfl (hM rfl rfl (hM rfl rfl (hB rfl rfl rfl (hM rfl rfl (hM rfl rfl .nil)))))))) rfl) (fun n p h => ?_)
     obtain ⟨n37, m38, m39⟩ := p
     refine rn 5 rfl ?_
     refine spL rfl (fun hb40 => ?_) (fun hb40 => ?_)
     ·obtain ⟨x44, tl, hx45, h, hk3⟩ := RG.t hA54 h hb40
      unfold M83_L3 at h
      refine rn 2 rfl ?_
      refine jK h (fun (p : (List (TCall × (List q3a))) × (List ((List UInt8) × (List q1a)))) => (⟨[(2, (V.ptr 0 4 0 0)), (4, (V.ptr 1 6 0 0)), (5, (V.ptr 2 6 0 0)), (6, (V.map 3)), (9, (V.map 4)), (11, (V.ptr 5 4 0 0)), (34, (V.lst 4 (a1.Funcs.map q4c))), (35, (iV ((a1.Funcs.length : Nat) : Int))), (36, (iV n20)), (46, (V.lst 4 (x29.Calls.map q9d))), (47, (iV ((x29.Calls.length : Nat) : Int))), (48, (iV n37))], [(0, (Ob.arr 27 4 [(q3c a1)])), (1, (Ob.arr 155 6 [[nV, nV, nV, nV, (V.con (.map none)), (V.con (.map none))]])), (2, (Ob.arr 155 6 [[(V.lst 2 (a1.Ifaces.map q8b)), (V.lst 2 (a1.Types.map q1d)), (V.lst 4 (a1.Funcs.map q4c)), (V.lst 1 (a1.Entries.map encS)), (V.map 6), (V.map 7)]])), (3, (Ob.map (m4.map q5b))), (4, (Ob.map ((p.1).map q1i))), (5, (Ob.arr 94 4 [(q4c x29)])), (6, (Ob.map ((p.2).map q8g))), (7, (Ob.map ((mput m23 x29.Name x29).map q7i)))], 8⟩ : St)) (fun k41 p => k41 p.1 p.2 = some r) (fun k41 h => ?_) ?_
      ·refine rn 4 rfl ?_
       refine ixh hx45 rfl rfl ?_
       refine rn 11 rfl ?_
       refine q3e _ (bV false) (bV ((mget m4 x44.Feature).getD false)) q2k tKey9 tZo4 (q3g _) q4a rfl (.own rfl) (.con rfl) ⟨_, rfl⟩ q6e (q3h m4 x44.Feature) (q1f (q0g) (mget m4 x44.Feature) false) rfl ?_
       refine fo (rn 2 rfl ?_)
       refine spC h rfl (fun hb46 h => ?_) (fun hb46 h => ?_)
       ·refine rn 1 rfl ?_
        exact jX (m38, m39) h (gr [0, 1, 2, 3, 4, 5, 6, 7] rfl (hB rfl rfl rfl (hB rfl rfl rfl (hB rfl rfl rfl (hM rfl rfl (hM rfl rfl (hB rfl rfl rfl (hM rfl rfl (hM rfl rfl .nil)))))))) rfl)
       refine rn 17 rfl ?_
       refine q7h _ (V.lst 2 (([] : (List q3a)).map q0c)) (V.lst 2 (((mget m38 (TCall.mk x44.Kind x44.Target x44.Method ([] : List UInt8))).getD ([] : (List q3a))).map q0c)) tMap250 tKey109 tZo217 (fun _ => .nil _ _ _) q4a rfl (.own rfl) (.agg (cv109 (TCall.mk x44.Kind x44.Target x44.Method ([] : List UInt8))) rfl) ⟨_, rfl⟩ encM109_217_good (encM109_217_look m38 (TCall.mk x44.Kind x44.Target x44.Method ([] : List UInt8))) (q1f (q3l) (mget m38 (TCall.mk x44.Kind x44.Target x44.Method ([] : List UInt8))) ([] : (List q3a))) (isSome_map ..) rfl ?_
       refine fo (rn 12 rfl ?_)
       refine jK h (fun (p : (List q3a) × (List (TCall × (List q3a)))) => (⟨[(2, (V.ptr 0 4 0 0)), (4, (V.ptr 1 6 0 0)), (5, (V.ptr 2 6 0 0)), (6, (V.map 3)), (9, (V.map 4)), (11, (V.ptr 5 4 0 0)), (12, (iV n37)), (15, (V.lst 2 ((p.1).map q0c))), (34, (V.lst 4 (a1.Funcs.map q4c))), (35, (iV ((a1.Funcs.length : Nat) : Int))), (36, (iV n20)), (46, (V.lst 4 (x29.Calls.map q9d))), (47, (iV ((x29.Calls.length : Nat) : Int))), (48, (iV n37))], [(0, (Ob.arr 27 4 [(q3c a1)])), (1, (Ob.arr 155 6 [[nV, nV, nV, nV, (V.con (.map none)), (V.con (.map none))]])), (2, (Ob.arr 155 6 [[(V.lst 2 (a1.Ifaces.map q8b)), (V.lst 2 (a1.Types.map q1d)), (V.lst 4 (a1.Funcs.map q4c)), (V.lst 1 (a1.Entries.map encS)), (V.map 6), (V.map 7)]])), (3, (Ob.map (m4.map q5b))), (4, (Ob.map ((p.2).map q1i))), (5, (Ob.arr 94 4 [(q4c x29)])), (6, (Ob.map (m39.map q8g))), (7, (Ob.map ((mput m23 x29.Name x29).map q7i)))], 8⟩ : St)) (fun k47 p => k47 p.1 p.2 = some r) (fun k47 h => ?_) ?_
       ·refine spC h rfl (fun hb50 h => ?_) (fun hb50 h => ?_)
        ·refine rn 4 rfl ?_
         refine cl h rfl rfl rfl (W146 _ _ _) rfl (fun y51 hx52 h => ?_)
         refine rn 6 rfl ?_
         refine q0e (es := m38.map q1i) ((mput m38 (TCall.mk x44.Kind x44.Target x44.Method ([] : List UInt8)) y51).map q1i) tMap250 tKey109 q4a rfl rfl (.agg (cv109 (TCall.mk x44.Kind x44.Target x44.Method ([] : List UInt8))) rfl) ⟨_, rfl⟩ encM109_217_good rfl (encM109_217_puts m38 (TCall.mk x44.Kind x44.Target x44.Method ([] : List UInt8)) y51) ?_
         refine fo (rn 1 rfl ?_)
         exact jX (y51, (mput m38 (TCall.mk x44.Kind x44.Target x44.Method ([] : List UInt8)) y51)) h (gr [0, 1, 2, 3, 4, 5, 6, 7] rfl (hB rfl rfl rfl (hB rfl rfl rfl (hB rfl rfl rfl (hM rfl rfl (hM rfl rfl (hB rfl rfl rfl (hM rfl rfl (hM rfl rfl .nil)))))))) rfl)
        refine rn 1 rfl ?_
        exact jX (((mget m38 (TCall.mk x44.Kind x44.Target x44.Method ([] : List UInt8))).getD ([] : (List q3a))), m38) h (gr [0, 1, 2, 3, 4, 5, 6, 7] rfl (hB rfl rfl rfl (hB rfl rfl rfl (hB rfl rfl rfl (hM rfl rfl (hM rfl rfl (hB rfl rfl rfl (hM rfl rfl (hM rfl rfl .nil)))))))) rfl)
       rintro ⟨l48, m49⟩ h
       refine ck h (fun hc53 h => ?_)
       refine q7c q5f ?_
       refine q7c q5f ?_
       refine fa ?_
       refine dr mixed (vs 8 rfl (xD (OD.mk [(84, (V.map 6)), (86, (sV x29.Name))] [(6, (Ob.map (m39.map q8g))), (8, Ob.res)] [(87, (V.own 8 ((mget m39 x29.Name).getD []).length))] [(6, (Ob.map (holeM q8g 8 x29.Name m39))), (8, (Ob.arr 219 3 (((mget m39 x29.Name).getD []).map q1b)))]) ⟨⟨rfl, rfl, trivial⟩, ⟨rfl, rfl, trivial⟩⟩ (by exact fun S hn h hh => aops_lookup_tk_at 8 rfl hn hh.2.1 (n := ((mget m39 x29.Name).getD []).length) tMap152 tKey9 tZo212 q4a h.1 hh.1 (.con h.2.1) ⟨_, rfl⟩ encM9_389_good (lookT_enc q8g (fun k => str k) q1b 219 3 8 (fun _ => rfl) q2i x29.Name m39) (by simp) rfl (q5c ⟨rfl, rfl⟩)) rfl (vs 6 rfl (xD (OD.mk [(93, (V.agg [(sV x29.Name), (iV n37), (V.lst 2 (l48.map q0c))]))] [] [(94, (V.lst 3 (([(q1a.mk (TSite.mk x29.Name n37) l48)] : List q1a).map q1b)))] []) ⟨⟨rfl, trivial⟩, trivial⟩ (by exact fun S hn h hh => q7e [(0, (V.agg [(sV x29.Name), (iV n37), (V.lst 2 (l48.map q0c))]))] [[(sV x29.Name), (iV n37), (V.lst 2 (l48.map q0c))]] tEl212 tZ219 q4a rfl rfl rfl rfl (q2f h.1 q1h) rfl rfl (by simp) (q3i (.cons (.cons (Imm.con _) (.cons (Imm.con _) (.cons (Imm.lst _ _) .nil))) .nil)) rfl (q5c ⟨rfl, rfl⟩)) rfl (xD (OD.mk [(87, (V.own 8 ((mget m39 x29.Name).getD []).length)), (94, (V.lst 3 (([(q1a.mk (TSite.mk x29.Name n37) l48)] : List q1a).map q1b)))] [(8, (Ob.arr 219 3 (((mget m39 x29.Name).getD []).map q1b))), (9, Ob.res)] [(95, (V.own 9 (((mget m39 x29.Name).getD []) ++ ([(q1a.mk (TSite.mk x29.Name n37) l48)] : List q1a)).length))] [(9, (Ob.arr 219 3 ((((mget m39 x29.Name).getD []) ++ ([(q1a.mk (TSite.mk x29.Name n37) l48)] : List q1a)).map q1b))), (8, Ob.dead)]) ⟨⟨rfl, rfl, trivial⟩, ⟨rfl, rfl, trivial⟩⟩ (by exact fun S hn h hh => q1g 9 rfl hn hh.2.1 (([(q1a.mk (TSite.mk x29.Name n37) l48)] : List q1a).map q1b) ((((mget m39 x29.Name).getD []) ++ ([(q1a.mk (TSite.mk x29.Name n37) l48)] : List q1a)).map q1b) tEl212 tIsSl212 rfl rfl q4a h.1 hh.1 (by simp) h.2.1 (.lst (q4l q8l)) (q5l q1b ((mget m39 x29.Name).getD []) ([(q1a.mk (TSite.mk x29.Name n37) l48)] : List q1a)) (List.length_map ..) hc53 rfl (q5c ⟨rfl, rfl⟩)) rfl (xD (OD.mk [(80, (V.map 6)), (82, (sV x29.Name)), (95, (V.own 9 (((mget m39 x29.Name).getD []) ++ ([(q1a.mk (TSite.mk x29.Name n37) l48)] : List q1a)).length))] [(6, (Ob.map (holeM q8g 8 x29.Name m39))), (9, (Ob.arr 219 3 ((((mget m39 x29.Name).getD []) ++ ([(q1a.mk (TSite.mk x29.Name n37) l48)] : List q1a)).map q1b)))] [] [(6, (Ob.map ((mput m39 x29.Name (((mget m39 x29.Name).getD []) ++ ([(q1a.mk (TSite.mk x29.Name n37) l48)] : List q1a))).map q8g))), (9, Ob.dead)]) ⟨⟨rfl, rfl, rfl, trivial⟩, ⟨rfl, rfl, trivial⟩⟩ (by exact fun S hn h hh => q0m (id2 := 9) (o := (V.own 9 (((mget m39 x29.Name).getD []) ++ ([(q1a.mk (TSite.mk x29.Name n37) l48)] : List q1a)).length)) (dv := (.dsl 219 3 ((((mget m39 x29.Name).getD []) ++ ([(q1a.mk (TSite.mk x29.Name n37) l48)] : List q1a)).map q1b))) (ob := (.arr 219 3 ((((mget m39 x29.Name).getD []) ++ ([(q1a.mk (TSite.mk x29.Name n37) l48)] : List q1a)).map q1b))) ((mput m39 x29.Name (((mget m39 x29.Name).getD []) ++ ([(q1a.mk (TSite.mk x29.Name n37) l48)] : List q1a))).map q8g) tMap152 tKey9 q4a h.1 hh.1 (.con h.2.1) ⟨_, rfl⟩ (good_holeM (fun _ => ⟨_, rfl⟩)) h.2.2.1 (by simp [ovl]) hh.2.1 rfl (okeep_rows q2j (((mget m39 x29.Name).getD []) ++ ([(q1a.mk (TSite.mk x29.Name n37) l48)] : List q1a))) (puts_hole q8g (fun k => str k) q1b 219 3 8 (fun _ => rfl) q2i x29.Name (((mget m39 x29.Name).getD []) ++ ([(q1a.mk (TSite.mk x29.Name n37) l48)] : List q1a)) m39) (q5c ⟨rfl, rfl⟩)) rfl .nil)))))) (by kernel_rfl) ?_
       refine rn 1 rfl ?_
       exact jX (m49, (mput m39 x29.Name (((mget m39 x29.Name).getD []) ++ ([(q1a.mk (TSite.mk x29.Name n37) l48)] : List q1a)))) h (gr [0, 1, 2, 3, 4, 5, 6, 7] rfl (hB rfl rfl rfl (hB rfl rfl rfl (hB rfl rfl rfl (hM rfl rfl (hM rfl rfl (hB rfl rfl rfl (hM rfl rfl (hM rfl rfl .nil)))))))) rfl)
      rintro ⟨m42, m43⟩ h
      refine rn 4 rfl ?_
      exact jX ((w64 (n37 + 1)), m42, m43) (hk3 _ h) (gr [0, 1, 2, 3, 4, 5, 6, 7] rfl (hB rfl rfl rfl (hB rfl rfl rfl (hB rfl rfl rfl (hM rfl rfl (hM rfl rfl (hB rfl rfl rfl (hM rfl rfl (hM rfl rfl .nil)))))))) rfl)
     replace h := RG.f h hb40
     unfold M83_L3 at h
     refine rn 1 rfl ?_
     exact jX (m38, m39) h (gr [0, 1, 2, 3, 4, 6, 7] rfl (hB rfl rfl rfl (hB rfl rfl rfl (hB rfl rfl rfl (hM rfl rfl (hM rfl rfl (hM rfl rfl (hM rfl rfl .nil))))))) rfl)
    rintro ⟨m32, m33⟩ h
    refine rn 1 rfl ?_
    exact jX (m32, m33, (mput m23 x29.Name x29)) h (gr [0, 1, 2, 3, 4, 5, 6] rfl (hB rfl rfl rfl (hB rfl rfl rfl (hB rfl rfl rfl (hM rfl rfl (hM rfl rfl (hM rfl rfl (hM rfl rfl .nil))))))) rfl)
   rintro ⟨m26, m27, m28⟩ h
   refine rn 4 rfl ?_
   exact jX ((w64 (n20 + 1)), m26, m27, m28) (hk2 _ h) (gr [0, 1, 2, 3, 4, 5, 6] rfl (hB rfl rfl rfl (hB rfl rfl rfl (hB rfl rfl rfl (hM rfl rfl (hM rfl rfl (hM rfl rfl (hM rfl rfl .nil))))))) rfl)
  replace h := RG.f h hb24
  unfold M83_L2 at h
  refine rn 1 rfl ?_
  exact jX (m22, m23) h (gr [1, 2, 5, 6] rfl (hB rfl rfl rfl (hB rfl rfl rfl (hM rfl rfl (hM rfl rfl .nil)))) rfl)
 rintro ⟨m14, m15⟩ h
 refine rn 5 rfl ?_
 refine q7c (ghost_frzDMC 2 0 (m14.map q4m) (Ob.arr 155 6 [[(V.lst 2 (a1.Ifaces.map q8b)), (V.lst 2 (a1.Types.map q1d)), (V.lst 4 (a1.Funcs.map q4c)), (V.lst 1 (a1.Entries.map encS)), (V.imap (m14.map q4m)), (V.map 3)]]) rfl (by simp) (und_map encM9_389_und _) (ObSub.box (.cons Sub.keepM (.cons Sub.keepM (.cons Sub.keepM (.cons Sub.keepM (.cons Sub.frzM (.cons Sub.keepM .nil)))))))) ?_
 refine q7c (q8j 3 0 (Ob.arr 155 6 [[(V.lst 2 (a1.Ifaces.map q8b)), (V.lst 2 (a1.Types.map q1d)), (V.lst 4 (a1.Funcs.map q4c)), (V.lst 1 (a1.Entries.map encS)), (V.imap (m14.map q4m)), (V.imap (m15.map q7i))]]) rfl encM9_94_imm (ObSub.box (.cons Sub.keepM (.cons Sub.keepM (.cons Sub.keepM (.cons Sub.keepM (.cons Sub.keepM (.cons Sub.frzM .nil)))))))) ?_
 refine fa ?_
 exact rt h rfl
theorem W161_B (R161 : (List (List UInt8)) → Option (List (List UInt8))) (hR161 : ∀ (a1 : (List (List UInt8))) (r : (List (List UInt8))), R161 a1 = some r → Pure Tryz.prog 161 [(V.lst 1 (a1.map encS))] (V.lst 1 (r.map encS))) (F : Nat) (a1 : (List (List UInt8))) (r : (List (List UInt8))) (h : M161_B R161 F a1 = some r) : Pure Tryz.prog 161 [(V.lst 1 (a1.map encS))] (V.lst 1 (r.map encS)) := by
 refine pin (fun r => (V.lst 1 (r.map encS))) r rfl Tryz.func161 rfl rfl rfl rfl rfl (fun w0 m0 hg => ?_)
 unfold M161_B at h
 refine rn 8 rfl ?_
 refine ln rfl rfl ?_
 refine rn 2 rfl ?_
 refine spC h rfl (fun hb2 h => ?_) (fun hb2 h => ?_)
 ·refine rn 5 rfl ?_
  exact rt h rfl
 refine rn 2 rfl ?_
 refine ck h (fun hc3 h => ?_)
 obtain ⟨y4, hx5, h⟩ := bind_some h
 refine ck h (fun hc6 h => ?_)
 obtain ⟨y7, hx8, h⟩ := bind_some h
 refine dr mixed (vs 2 rfl (nD rfl rfl rfl (vs 1 rfl (xD (OD.mk [(10, (V.lst 1 (a1.map encS))), (13, (iV (w64 (Int.tdiv ((a1.length : Nat) : Int) 2))))] [] [(14, (V.lst 1 ((a1.take (w64 (Int.tdiv ((a1.length : Nat) : Int) 2)).toNat).map encS)))] []) ⟨⟨rfl, rfl, trivial⟩, trivial⟩ (by exact fun S hn h hh => q6h (0) ((w64 (Int.tdiv ((a1.length : Nat) : Int) 2)).toNat) ((a1.take (w64 (Int.tdiv ((a1.length : Nat) : Int) 2)).toNat).map encS) tSl25 q4a h.1 rfl ⟨_, (by rw [Int.toNat_of_nonneg hc3.1]; exact h.2.1)⟩ (Nat.zero_le _) (by simpa using hc3.2) slL_lo rfl (q5c ⟨rfl, rfl⟩)) rfl (cD rfl rfl rfl rfl (hR161 _ _ hx5) rfl (vs 2 rfl (nD rfl rfl rfl (vs 1 rfl (xD (OD.mk [(16, (V.lst 1 (a1.map encS))), (19, (iV (w64 (Int.tdiv ((a1.length : Nat) : Int) 2))))] [] [(20, (V.lst 1 ((a1.drop (w64 (Int.tdiv ((a1.length : Nat) : Int) 2)).toNat).map encS)))] []) ⟨⟨rfl, rfl, trivial⟩, trivial⟩ (by exact fun S hn h hh => q6h ((w64 (Int.tdiv ((a1.length : Nat) : Int) 2)).toNat) (a1.length) ((a1.drop (w64 (Int.tdiv ((a1.length : Nat) : Int) 2)).toNat).map encS) tSl25 q4a h.1 ⟨_, (by rw [Int.toNat_of_nonneg hc6.1]; exact h.2.1)⟩ (List.length_map ..).symm hc6.2 (Nat.le_of_eq (List.length_map ..).symm) slL_hi rfl (q5c ⟨rfl, rfl⟩)) rfl (cD rfl rfl rfl rfl (hR161 _ _ hx8) rfl (vs 2 rfl .nil))))))))))) (by kernel_rfl) ?_
 refine rn 5 rfl ?_
 refine jK h (fun (p : (List (List UInt8))) => (⟨[(5, (V.own 0 p.length))], [(0, (Ob.arr 9 1 (p.map encS)))], 1⟩ : St)) (fun k9 p => k9 p = some r) (fun k9 h => ?_) ?_
 ·refine rn 1 rfl ?_
  refine lC (fun (p : (List (List UInt8)) × (List (List UInt8)) × (List (List UInt8))) => (⟨[(3, (V.lst 1 ((p.1).map encS))), (4, (V.lst 1 ((p.2.1).map encS))), (5, (V.own 0 (p.2.2).length))], [(0, (Ob.arr 9 1 ((p.2.2).map encS)))], 1⟩ : St)) (fun n p => q7k F k9 n p.1 p.2.1 p.2.2 = some r) (fun p h => by simp [q7k] at h) F (y4, y7, ([] : List (List UInt8))) h (Ghost.trans (q1j 5 9 1 rfl) (q9f 1 (fun i => ([0] : List Nat).getD i 0) _ _ (by decide) (q0k.get (.cons (Sub.imm (Imm.lst _ _)) (.cons (Sub.imm (Imm.lst _ _)) (.cons (Sub.ownE rfl rfl (by simp)) .nil)))) (HpSub.get (.cons rfl (ObSub.rows (q9a q3j)) .nil)) rfl)) (fun n p h => ?_)
  obtain ⟨l14, l15, l16⟩ := p
  unfold q7k at h
  refine rn 4 rfl ?_
  refine ln rfl rfl ?_
  refine rn 2 rfl ?_
  refine spO 25 h rfl (fun hb17 h => ?_) (fun hb17 h => ?_)
  ·refine rn 9 rfl ?_
   refine bs h (fun hb18 h => ?_) (fun hb18 h => ?_)
   ·refine dr mixed (vs 1 rfl (nD rfl rfl rfl (vs 1 rfl (vb hb18 rfl (vs 13 rfl .nil))))) (by kernel_rfl) ?_
    obtain ⟨x19, hx20, h⟩ := bind_some h
    refine rn 1 rfl ?_
    refine ck h (fun hc21 h => ?_)
    refine ck h (fun hc22 h => ?_)
    refine q7c q5f ?_
    refine fa ?_
    refine dr mixed (vs 2 rfl (iD hx20 rfl rfl rfl (vs 1 rfl (xD (OD.mk [(50, (sV x19))] [] [(51, (V.lst 1 (([x19] : List (List UInt8)).map encS)))] []) ⟨⟨rfl, trivial⟩, trivial⟩ (by exact fun S hn h hh => q7e [(0, (sV x19))] [[(sV x19)]] tEl25 tZ9 q4a rfl rfl rfl rfl (q2f h.1 q1h) rfl rfl (by simp) (q3i (.cons (.cons (Imm.con _) .nil) .nil)) rfl (q5c ⟨rfl, rfl⟩)) rfl (xD (OD.mk [(47, (V.own 0 l16.length)), (51, (V.lst 1 (([x19] : List (List UInt8)).map encS)))] [(0, (Ob.arr 9 1 (l16.map encS))), (1, Ob.res)] [(52, (V.own 1 (l16 ++ ([x19] : List (List UInt8))).length))] [(1, (Ob.arr 9 1 ((l16 ++ ([x19] : List (List UInt8))).map encS))), (0, Ob.dead)]) ⟨⟨rfl, rfl, trivial⟩, ⟨rfl, rfl, trivial⟩⟩ (by exact fun S hn h hh => q1g 1 rfl hn hh.2.1 (([x19] : List (List UInt8)).map encS) ((l16 ++ ([x19] : List (List UInt8))).map encS) tEl25 tIsSl25 rfl rfl q4a h.1 hh.1 (by simp) h.2.1 (.lst (q4l one_encS)) (q5l encS l16 ([x19] : List (List UInt8))) (List.length_map ..) hc21 rfl (q5c ⟨rfl, rfl⟩)) rfl (vs 1 rfl (xD (OD.mk [(53, (V.lst 1 (l14.map encS)))] [] [(54, (V.lst 1 ((l14.drop 1).map encS)))] []) ⟨⟨rfl, trivial⟩, trivial⟩ (by exact fun S hn h hh => q6h (1) (l14.length) ((l14.drop 1).map encS) tSl25 q4a h.1 ⟨_, rfl⟩ (List.length_map ..).symm hc22 (Nat.le_of_eq (List.length_map ..).symm) slL_hi rfl (q5c ⟨rfl, rfl⟩)) rfl (vs 2 rfl .nil)))))))) (by kernel_rfl) ?_
    refine rn 1 rfl ?_
    exact jX ((l14.drop 1), l15, (l16 ++ ([x19] : List (List UInt8)))) h (gr [1] rfl (hR rfl rfl .nil) rfl)
   obtain ⟨x23, hx24, h⟩ := bind_some h
   obtain ⟨x25, hx26, h⟩ := bind_some h
   refine dr mixed (vs 1 rfl (nD rfl rfl rfl (vs 1 rfl (vb hb18 rfl (vs 1 rfl (nD rfl rfl rfl (vs 1 rfl (vb hb17 rfl (vs 1 rfl (iD hx24 rfl rfl rfl (vs 2 rfl (iD hx26 rfl rfl rfl (vs 4 rfl .nil))))))))))))) (by kernel_rfl) ?_
   refine jK h (fun (p : (List (List UInt8)) × (List (List UInt8)) × (List (List UInt8))) => (⟨[(3, (V.lst 1 ((p.1).map encS))), (4, (V.lst 1 ((p.2.1).map encS))), (5, (V.own 0 (p.2.2).length)), (28, (V.con undef)), (44, (bV (Op.bytesLess x23 x25 || x23 == x25))), (45, (bV (Op.bytesLess x23 x25 || x23 == x25)))], [(0, (Ob.arr 9 1 ((p.2.2).map encS)))], 1⟩ : St)) (fun k27 p => k27 p.1 p.2.1 p.2.2 = some r) (fun k27 h => ?_) ?_
   ·refine spC h rfl (fun hb31 h => ?_) (fun hb31 h => ?_)
    ·obtain ⟨x32, hx33, h⟩ := bind_some h
     refine ck h (fun hc34 h => ?_)
     refine ck h (fun hc35 h => ?_)
     refine q7c q5f ?_
     refine fa ?_
     refine dr mixed (vs 2 rfl (iD hx33 rfl rfl rfl (vs 1 rfl (xD (OD.mk [(50, (sV x32))] [] [(51, (V.lst 1 (([x32] : List (List UInt8)).map encS)))] []) ⟨⟨rfl, trivial⟩, trivial⟩ (by exact fun S hn h hh => q7e [(0, (sV x32))] [[(sV x32)]] tEl25 tZ9 q4a rfl rfl rfl rfl (q2f h.1 q1h) rfl rfl (by simp) (q3i (.cons (.cons (Imm.con _) .nil) .nil)) rfl (q5c ⟨rfl, rfl⟩)) rfl (xD (OD.mk [(47, (V.own 0 l16.length)), (51, (V.lst 1 (([x32] : List (List UInt8)).map encS)))] [(0, (Ob.arr 9 1 (l16.map encS))), (1, Ob.res)] [(52, (V.own 1 (l16 ++ ([x32] : List (List UInt8))).length))] [(1, (Ob.arr 9 1 ((l16 ++ ([x32] : List (List UInt8))).map encS))), (0, Ob.dead)]) ⟨⟨rfl, rfl, trivial⟩, ⟨rfl, rfl, trivial⟩⟩ (by exact fun S hn h hh => q1g 1 rfl hn hh.2.1 (([x32] : List (List UInt8)).map encS) ((l16 ++ ([x32] : List (List UInt8))).map encS) tEl25 tIsSl25 rfl rfl q4a h.1 hh.1 (by simp) h.2.1 (.lst (q4l one_encS)) (q5l encS l16 ([x32] : List (List UInt8))) (List.length_map ..) hc34 rfl (q5c ⟨rfl, rfl⟩)) rfl (vs 1 rfl (xD (OD.mk [(53, (V.lst 1 (l14.map encS)))] [] [(54, (V.lst 1 ((l14.drop 1).map encS)))] []) ⟨⟨rfl, trivial⟩, trivial⟩ (by exact fun S hn h hh => q6h (1) (l14.length) ((l14.drop 1).map encS) tSl25 q4a h.1 ⟨_, rfl⟩ (List.length_map ..).symm hc35 (Nat.le_of_eq (List.length_map ..).symm) slL_hi rfl (q5c ⟨rfl, rfl⟩)) rfl (vs 2 rfl .nil)))))))) (by kernel_rfl) ?_
     exact jX ((l14.drop 1), l15, (l16 ++ ([x32] : List (List UInt8)))) h (gr [1] rfl (hR rfl rfl .nil) rfl)
    obtain ⟨x36, hx37, h⟩ := bind_some h
    refine ck h (fun hc38 h => ?_)
    refine ck h (fun hc39 h => ?_)
    refine q7c q5f ?_
    refine fa ?_
    refine dr mixed (vs 2 rfl (iD hx37 rfl rfl rfl (vs 1 rfl (xD (OD.mk [(58, (sV x36))] [] [(59, (V.lst 1 (([x36] : List (List UInt8)).map encS)))] []) ⟨⟨rfl, trivial⟩, trivial⟩ (by exact fun S hn h hh => q7e [(0, (sV x36))] [[(sV x36)]] tEl25 tZ9 q4a rfl rfl rfl rfl (q2f h.1 q1h) rfl rfl (by simp) (q3i (.cons (.cons (Imm.con _) .nil) .nil)) rfl (q5c ⟨rfl, rfl⟩)) rfl (xD (OD.mk [(55, (V.own 0 l16.length)), (59, (V.lst 1 (([x36] : List (List UInt8)).map encS)))] [(0, (Ob.arr 9 1 (l16.map encS))), (1, Ob.res)] [(60, (V.own 1 (l16 ++ ([x36] : List (List UInt8))).length))] [(1, (Ob.arr 9 1 ((l16 ++ ([x36] : List (List UInt8))).map encS))), (0, Ob.dead)]) ⟨⟨rfl, rfl, trivial⟩, ⟨rfl, rfl, trivial⟩⟩ (by exact fun S hn h hh => q1g 1 rfl hn hh.2.1 (([x36] : List (List UInt8)).map encS) ((l16 ++ ([x36] : List (List UInt8))).map encS) tEl25 tIsSl25 rfl rfl q4a h.1 hh.1 (by simp) h.2.1 (.lst (q4l one_encS)) (q5l encS l16 ([x36] : List (List UInt8))) (List.length_map ..) hc38 rfl (q5c ⟨rfl, rfl⟩)) rfl (vs 1 rfl (xD (OD.mk [(61, (V.lst 1 (l15.map encS)))] [] [(62, (V.lst 1 ((l15.drop 1).map encS)))] []) ⟨⟨rfl, trivial⟩, trivial⟩ (by exact fun S hn h hh => q6h (1) (l15.length) ((l15.drop 1).map encS) tSl25 q4a h.1 ⟨_, rfl⟩ (List.length_map ..).symm hc39 (Nat.le_of_eq (List.length_map ..).symm) slL_hi rfl (q5c ⟨rfl, rfl⟩)) rfl (vs 2 rfl .nil)))))))) (by kernel_rfl) ?_
    exact jX (l14, (l15.drop 1), (l16 ++ ([x36] : List (List UInt8)))) h (gr [1] rfl (hR rfl rfl .nil) rfl)
   rintro ⟨l28, l29, l30⟩ h
   refine rn 1 rfl ?_
   exact jX (l28, l29, l30) h (gr [0] rfl (hR rfl rfl .nil) rfl)
  refine rn 1 rfl ?_
  refine ln rfl rfl ?_
  refine rn 3 rfl ?_
  refine spC h rfl (fun hb40 h => ?_) (fun hb40 h => ?_)
  ·refine rn 3 rfl ?_
   refine bs h (fun hb41 h => ?_) (fun hb41 h => ?_)
   ·refine dr mixed (vs 1 rfl (nD rfl rfl rfl (vs 1 rfl (vb hb41 rfl (vs 13 rfl .nil))))) (by kernel_rfl) ?_
    obtain ⟨x42, hx43, h⟩ := bind_some h
    refine rn 1 rfl ?_
    refine ck h (fun hc44 h => ?_)
    refine ck h (fun hc45 h => ?_)
    refine q7c q5f ?_
    refine fa ?_
    refine dr mixed (vs 2 rfl (iD hx43 rfl rfl rfl (vs 1 rfl (xD (OD.mk [(50, (sV x42))] [] [(51, (V.lst 1 (([x42] : List (List UInt8)).map encS)))] []) ⟨⟨rfl, trivial⟩, trivial⟩ (by exact fun S hn h hh => q7e [(0, (sV x42))] [[(sV x42)]] tEl25 tZ9 q4a rfl rfl rfl rfl (q2f h.1 q1h) rfl rfl (by simp) (q3i (.cons (.cons (Imm.con _) .nil) .nil)) rfl (q5c ⟨rfl, rfl⟩)) rfl (xD (OD.mk [(47, (V.own 0 l16.length)), (51, (V.lst 1 (([x42] : List (List UInt8)).map encS)))] [(0, (Ob.arr 9 1 (l16.map encS))), (1, Ob.res)] [(52, (V.own 1 (l16 ++ ([x42] : List (List UInt8))).length))] [(1, (Ob.arr 9 1 ((l16 ++ ([x42] : List (List UInt8))).map encS))), (0, Ob.dead)]) ⟨⟨rfl, rfl, trivial⟩, ⟨rfl, rfl, trivial⟩⟩ (by exact fun S hn h hh => q1g 1 rfl hn hh.2.1 (([x42] : List (List UInt8)).map encS) ((l16 ++ ([x42] : List (List UInt8))).map encS) tEl25 tIsSl25 rfl rfl q4a h.1 hh.1 (by simp) h.2.1 (.lst (q4l one_encS)) (q5l encS l16 ([x42] : List (List UInt8))) (List.length_map ..) hc44 rfl (q5c ⟨rfl, rfl⟩)) rfl (vs 1 rfl (xD (OD.mk [(53, (V.lst 1 (l14.map encS)))] [] [(54, (V.lst 1 ((l14.drop 1).map encS)))] []) ⟨⟨rfl, trivial⟩, trivial⟩ (by exact fun S hn h hh => q6h (1) (l14.length) ((l14.drop 1).map encS) tSl25 q4a h.1 ⟨_, rfl⟩ (List.length_map ..).symm hc45 (Nat.le_of_eq (List.length_map ..).symm) slL_hi rfl (q5c ⟨rfl, rfl⟩)) rfl (vs 2 rfl .nil)))))))) (by kernel_rfl) ?_
    refine rn 1 rfl ?_
    exact jX ((l14.drop 1), l15, (l16 ++ ([x42] : List (List UInt8)))) h (gr [1] rfl (hR rfl rfl .nil) rfl)
   refine dr mixed (vs 1 rfl (nD rfl rfl rfl (vs 1 rfl (vb hb41 rfl (vs 1 rfl (nD rfl rfl rfl (vs 1 rfl (vb hb17 rfl (vs 9 rfl .nil))))))))) (by kernel_rfl) ?_
   obtain ⟨x46, hx47, h⟩ := bind_some h
   refine rn 1 rfl ?_
   refine ck h (fun hc48 h => ?_)
   refine ck h (fun hc49 h => ?_)
   refine q7c q5f ?_
   refine fa ?_
   refine dr mixed (vs 2 rfl (iD hx47 rfl rfl rfl (vs 1 rfl (xD (OD.mk [(58, (sV x46))] [] [(59, (V.lst 1 (([x46] : List (List UInt8)).map encS)))] []) ⟨⟨rfl, trivial⟩, trivial⟩ (by exact fun S hn h hh => q7e [(0, (sV x46))] [[(sV x46)]] tEl25 tZ9 q4a rfl rfl rfl rfl (q2f h.1 q1h) rfl rfl (by simp) (q3i (.cons (.cons (Imm.con _) .nil) .nil)) rfl (q5c ⟨rfl, rfl⟩)) rfl (xD (OD.mk [(55, (V.own 0 l16.length)), (59, (V.lst 1 (([x46] : List (List UInt8)).map encS)))] [(0, (Ob.arr 9 1 (l16.map encS))), (1, Ob.res)] [(60, (V.own 1 (l16 ++ ([x46] : List (List UInt8))).length))] [(1, (Ob.arr 9 1 ((l16 ++ ([x46] : List (List UInt8))).map encS))), (0, Ob.dead)]) ⟨⟨rfl, rfl, trivial⟩, ⟨rfl, rfl, trivial⟩⟩ (by exact fun S hn h hh => q1g 1 rfl hn hh.2.1 (([x46] : List (List UInt8)).map encS) ((l16 ++ ([x46] : List (List UInt8))).map encS) tEl25 tIsSl25 rfl rfl q4a h.1 hh.1 (by simp) h.2.1 (.lst (q4l one_encS)) (q5l encS l16 ([x46] : List (List UInt8))) (List.length_map ..) hc48 rfl (q5c ⟨rfl, rfl⟩)) rfl (vs 1 rfl (xD (OD.mk [(61, (V.lst 1 (l15.map encS)))] [] [(62, (V.lst 1 ((l15.drop 1).map encS)))] []) ⟨⟨rfl, trivial⟩, trivial⟩ (by exact fun S hn h hh => q6h (1) (l15.length) ((l15.drop 1).map encS) tSl25 q4a h.1 ⟨_, rfl⟩ (List.length_map ..).symm hc49 (Nat.le_of_eq (List.length_map ..).symm) slL_hi rfl (q5c ⟨rfl, rfl⟩)) rfl (vs 2 rfl .nil)))))))) (by kernel_rfl) ?_
   refine rn 1 rfl ?_
   exact jX (l14, (l15.drop 1), (l16 ++ ([x46] : List (List UInt8)))) h (gr [1] rfl (hR rfl rfl .nil) rfl)
  refine rn 1 rfl ?_
  exact jX l16 h (gr [0] rfl (hR rfl rfl .nil) rfl)
 intro l10 h
 refine rn 5 rfl ?_
 refine q7c (q8i 0 [2, 5, 63] rfl (q9a q3j) (List.forall_mem_cons.2 ⟨rfl, (List.forall_mem_cons.2 ⟨rfl, (List.forall_mem_cons.2 ⟨rfl, (fun _ hx => nomatch hx)⟩)⟩)⟩) (List.length_map ..).symm) ?_
 refine fa ?_
 exact rt h rfl
theorem W161 : ∀ (F : Nat) (a1 : (List (List UInt8))) (r : (List (List UInt8))) (h : M161 F a1 = some r), Pure Tryz.prog 161 [(V.lst 1 (a1.map encS))] (V.lst 1 (r.map encS)) := by
 intro F
 induction F with
 | zero => intros; simp [M161] at *
 | succ F ih => exact fun a1 r h => W161_B (M161 F) ih F a1 r h
theorem W105 (F : Nat) (a1 : (List ((List UInt8) × Bool))) (r : (List (List UInt8))) (h : M105 F a1 = some r) : Pure Tryz.prog 105 [(V.imap (a1.map q5b))] (V.lst 1 (r.map encS)) := by
 refine pin (fun r => (V.lst 1 (r.map encS))) r rfl Tryz.func105 rfl rfl rfl rfl rfl (fun w0 m0 hg => ?_)
 unfold M105 at h
 refine rn 12 rfl ?_
 refine aops_range q2k q4a rfl rfl ?_
 refine fo (rn 2 rfl ?_)
 refine lC (fun (p : (List (List UInt8)) × (List ((List UInt8) × Bool))) => (⟨[(3, (V.own 0 (p.1).length)), (6, (V.ptr 1 1 0 0))], [(0, (Ob.arr 9 1 ((p.1).map encS))), (1, (Ob.iter [] ((p.2).map q5b)))], 2⟩ : St)) (fun n p => RM n p.2 (M105_L1 F p.2 p.1 = some r)) (fun p h => RM.zero h) (a1.length + 1) (([] : List (List UInt8)), a1) (RM.start h) (Ghost.trans (q1j 3 9 1 rfl) (q9f 2 (fun i => ([1, 0] : List Nat).getD i 0) _ _ (by decide) (q0k.get (.cons (Sub.ownE rfl rfl (by simp)) (.cons (Sub.ptr rfl rfl) .nil))) (HpSub.get (.cons rfl (ObSub.rows (q9a q3j)) (.cons rfl ObSub.itr .nil))) rfl)) (fun n p h => ?_)
 obtain ⟨l4, l5⟩ := p
 refine rn 2 rfl ?_
 refine nxt rfl rfl q4a rfl (fun hl1 => ?_) (fun e6 l7 hq1 hp1 => ?_)
 ·replace h := h.2
  subst hl1
  unfold M105_L1 at h
  obtain ⟨y9, hx10, h⟩ := bind_some h
  refine rn 8 rfl ?_
  refine q3f (q8i 0 [15, 3] rfl (q9a q3j) (List.forall_mem_cons.2 ⟨rfl, (List.forall_mem_cons.2 ⟨rfl, (fun _ hx => nomatch hx)⟩)⟩) (List.length_map ..).symm) ?_
  refine aops_call (V.lst 1 (y9.map encS)) [(V.lst 1 (l4.map encS))] fOk161 q4a (q7f rfl q9l) (.cons (Imm.lst _ _) .nil) (W161 F l4 y9 hx10) rfl ?_
  refine fo (rn 2 rfl ?_)
  exact rt h rfl
 have hm1 := h
 replace h := ord_M105_L1 hp1 h.2
 unfold M105_L1 at h
 refine rn 8 rfl ?_
 refine aops_entry q4a rfl rfl rfl ?_
 refine fo (rn 6 rfl ?_)
 refine q2e [(0, (sV e6.1))] [[(sV e6.1)]] tEl25 tZ9 rfl rfl rfl rfl q4a (q2f rfl q1h) rfl rfl (by simp) rfl ?_
 refine fo ?_
 refine apO encS h rfl rfl rfl rfl rfl rfl rfl rfl (fun h => ?_)
 refine rn 3 rfl ?_
 exact jX ((l4 ++ ([e6.1] : List (List UInt8))), l7) (RM.step hm1 hq1 h) (gr [3, 1] rfl (hR rfl rfl (hI rfl rfl .nil)) rfl)
end Go.Proofs.YtpbkggamiipdmaaGreat
