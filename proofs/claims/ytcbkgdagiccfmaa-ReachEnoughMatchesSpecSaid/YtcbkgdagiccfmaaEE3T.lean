/- Part of the proof: DF, E3T. -/
import Derived.Test.YtcbkgdagiccfmaaELP
import Derived.Test.YtcbkgdagiccfmaaEZA
import Derived.Test.YtcbkgdagiccfmaaEWA
import Derived.Test.YtcbkgdagiccfmaaEDN
import Derived.Test.YtcbkgdagiccfmaaProg
import Derived.KernelRfl
namespace Go.Pv
open Go Go.RowKit Go.Sort
set_option linter.unusedVariables false
theorem mut_filterG {gl : Gl} {P : Program} {f : FuncId} {k id : Nat} {hp : Heap} {e : TypeId} {α : Type} [Inhabited α] (enc : α → Value) (h1c : ∀ x, (enc x).oneCell' = true) (l l' zs : List α) (fvs : List V) (hid : hget hp id = .arr e 1 (l.map fun x => [V.con (enc x)])) (hl : (l' ++ zs).length = l.length)
  (h : ∀ (m : Mem) (β : Locs) (w : World) (us : List Value) (blk off cap : Nat), VRels m β fvs us.toArray → (∀ q, ObOk m β w (β.hid q) (β q) (hget hp q)) → (∀ b o, m b = some o → w.heap[b]? = some o) → (∀ q b' cap', q ≠ id → hget hp q ≠ .dead → β q = some (some (b', cap')) → b' ≠ blk) → m blk = none → Holds enc w blk off l.toArray → blk < w.heap.size → l.length ≤ cap → cap ≤ maxLen → Calls P f (Value.slice (some ⟨blk, off, none⟩) l.length cap :: us).toArray w fun e w' =>
   e = .returned (.slice (some ⟨blk, off, none⟩) l'.length cap) ∧ ∃ n os, w' = grow (putRow enc (Sort.ahead w n) blk off (l' ++ zs).toArray) os)
  (hn : ∀ (m : Mem) (β : Locs) (w : World) (us : List Value) (a : Option Addr), VRels m β fvs us.toArray → (∀ q, ObOk m β w (β.hid q) (β q) (hget hp q)) → (∀ b o, m b = some o → w.heap[b]? = some o) → l = [] → Calls P f (Value.slice a 0 0 :: us).toArray w fun e w' => e = .returned (.slice a 0 0) ∧ Below w.heap.size w w' ∧ w.drawn ≤ w'.drawn) :
  MutG gl P f (.own id l.length :: fvs) k hp (.own id l'.length) k ((id, .arr e 1 (l'.map fun x => [V.con (enc x)])) :: hp) := by
 intro m β w vs himm _ hargs hown hpriv hinj hhid hnx
 obtain ⟨vs⟩ := vs
 match vs, hargs with
 | [], hargs => exact absurd hargs.len (by simp)
 | v :: u, hargs =>
 have hu : VRels m β fvs u.toArray := ⟨by have := hargs.len; simpa using this, fun i c x h1 h2 => hargs.at' (i + 1) c x (by simpa using h1) (by simpa using h2)⟩
 have hv := hargs.at' 0 _ _ rfl rfl
 have hob := hown id
 rw [hid] at hob
 have hg : ∀ q, hget ((id, Ob.arr e 1 (l'.map fun x => [V.con (enc x)])) :: hp) q = if id = q then Ob.arr e 1 (l'.map fun x => [V.con (enc x)]) else hget hp q := fun q => hget_put _ _ _ _
 have hlive : ∀ q, hget ((id, Ob.arr e 1 (l'.map fun x => [V.con (enc x)])) :: hp) q ≠ .dead → hget hp q ≠ .dead := fun q hq => by
  rw [hg] at hq
  split at hq
  ·rename_i hh; subst hh; rw [hid]; simp
  ·exact hq
 have hhids : ∀ (w' : World), w.heap.size ≤ w'.heap.size → ∀ q x, hget ((id, Ob.arr e 1 (l'.map fun x => [V.con (enc x)])) :: hp) q ≠ .dead → β.hid q x → x < w'.heap.size ∧ m x = none ∧ (x < w.heap.size → ¬ Foreign hp β x) ∧
   (∀ i b c, hget ((id, Ob.arr e 1 (l'.map fun x => [V.con (enc x)])) :: hp) i ≠ .dead → β i = some (some (b, c)) → x ≠ b) ∧ ∀ i, hget ((id, Ob.arr e 1 (l'.map fun x => [V.con (enc x)])) :: hp) i ≠ .dead → β.hid i x → i = q := by
  intro w' hs q x hq hx
  obtain ⟨q1, q2, q3, q4⟩ := hhid q x (hlive q hq) hx
  exact ⟨by omega, q2, fun _ hF => (hF q (hlive q hq)).2 hx, fun i b c hi => q3 i b c (hlive i hi), fun i hi => q4 i (hlive i hi)⟩
 generalize hnl : l.length = n at hv h
 cases hv with
 | imm h' => cases h'
 | @ownNil _ ad hb =>
  have hl0 : l = [] := List.length_eq_zero_iff.1 hnl
  subst hl0
  have hl' : l' = [] := by
   have : (l' ++ zs).length = 0 := by simpa using hl
   simp at this; exact this.1
  subst hl'
  refine (hn m β w u ad hu hown himm rfl).mono ?_
  rintro ex w' ⟨rfl, hB, hdr⟩
  have hheap : ∀ b, b < w.heap.size → w'.heap[b]? = w.heap[b]? := hB.block
  refine ⟨_, m, β, rfl, .ownNil hb, Mem.le_refl _, fun b o hb => by rw [hheap b (lt_of_some (himm b o hb))]; exact himm b o hb, fun b hb _ => ⟨rfl, hheap b hb⟩, hB.size, ⟨hB.os, hB.tape, hB.output, hdr⟩, fun q => ?_, fun q b cap hq hbq => ?_, fun q q' b cap cap' hq hq' => hinj q q' b cap cap' (hlive q hq) (hlive q' hq'), hhids w' hB.size, hnx, fun q hq => ⟨hq, rfl⟩⟩
  ·rw [hg]
   split
   ·rename_i hh; subst hh; rw [hb]; simp [ObOk]
   ·by_cases hd : hget hp q = .dead
    ·rw [hd]; exact ObOk.dead' _
    ·exact ObOk.congr (fun b cap hbb => hheap b (live_lt hd hbb (hown q))) (fun x hx => hheap x (hhid q x hd hx).1) (hown q)
  ·have hq := hlive q hq
   exact ⟨hpriv q b cap hq hbq, fun _ hF => (hF q hq).1 cap hbq⟩
 | @own _ _ b cap hb =>
  rw [hb] at hob
  obtain ⟨arr, bl, o1, o2, o3, o4, o5, oB, o6⟩ := hob
  have hbs : b < w.heap.size := lt_of_some o1
  have hcell : ∀ j (hj : j < l.length), arr[cap.off + j]? = some (enc l[j]) := fun j hj => by
   obtain ⟨v, v1, v2, _⟩ := o6 j 0 [V.con (enc l[j])] (V.con (enc l[j])) (by simp [List.getElem?_eq_getElem hj]) rfl
   have := (v2.v rfl).of_con
   subst this
   simpa using v1
  refine (h m β w u b cap.off cap.n hu hown himm (fun q b' cap' hq hd hb' e => hq (hinj q id b cap' cap hd (by rw [hid]; simp) (by rw [← e]; exact hb') hb)) (hpriv id b cap (by rw [hid]; simp) hb) (fun j hj => ?_) hbs (by simpa [hnl] using o3) o4).mono ?_
  ·have hj' : j < l.length := by simpa using hj
   have hz : (l.toArray)[j]! = l[j] := by rw [getElem!_pos _ j hj]; simp
   rw [hz]
   exact ⟨(cell_of_heap o1).trans (hcell j hj'), by simp [World.frozen?, o1]⟩
  rintro ex w' ⟨rfl, nd, os, rfl⟩
  have hheap := heap_sorted enc w nd b cap.off (l' ++ zs).toArray os
  have hother : ∀ b', b' < w.heap.size → b' ≠ b → (grow (putRow enc (Sort.ahead w nd) b cap.off (l' ++ zs).toArray) os).heap[b']? = w.heap[b']? := fun b' h1 h2 => by rw [hheap b' h1, if_neg (Ne.symm h2)]
  have hlid : hget hp id ≠ .dead := by rw [hid]; simp
  have hsz : w.heap.size ≤ (grow (putRow enc (Sort.ahead w nd) b cap.off (l' ++ zs).toArray) os).heap.size := by simp [grow, putRow, mapBlock, Sort.ahead]
  refine ⟨_, m, β, rfl, .own hb, Mem.le_refl _, fun b' o hb' => ?_, fun b' hb' hF => ⟨rfl, hother b' hb' (fun e => ?_)⟩, hsz, ⟨rfl, rfl, rfl, Nat.le_add_right _ _⟩, fun q => ?_, fun q b' cap' hq hbq => ?_, fun q q' b1 cap1 cap2 hq hq' => hinj q q' b1 cap1 cap2 (hlive q hq) (hlive q' hq'), hhids _ hsz, hnx, fun q hq => ⟨hq, rfl⟩⟩
  ·have hne : b' ≠ b := fun e => by
    subst e
    rw [hpriv id b' cap hlid hb] at hb'
    simp at hb'
   rw [hother b' (lt_of_some (himm b' o hb')) hne]
   exact himm b' o hb'
  ·subst e; exact (hF id hlid).1 cap hb
  ·rw [hg]
   split
   ·rename_i hh
    subst hh
    rw [hb]
    refine ⟨putCells enc cap.off (l' ++ zs).toArray arr, bl, by rw [hheap b hbs, if_pos rfl, o1]; rfl, by simp [putCells, o2], by simp at hl o3 ⊢; omega, o4, ?_, oB, fun i j row c hr hc => ?_⟩
    ·intro row hr
     obtain ⟨x, _, rfl⟩ := List.mem_map.1 hr
     rfl
    ·rw [List.getElem?_map] at hr
     cases hli : l'[i]? with
     | none => rw [hli] at hr; simp at hr
     | some x =>
      rw [hli] at hr
      simp at hr
      subst hr
      have hi : i < l'.length := (List.getElem?_eq_some_iff.1 hli).1
      have hx : l'[i] = x := (List.getElem?_eq_some_iff.1 hli).2
      have hj : j = 0 := by
       have := (List.getElem?_eq_some_iff.1 hc).1
       simp at this; exact this
      subst hj
      simp at hc
      subst hc
      have ha : cap.off + i < arr.size := by simp at hl o3; omega
      refine ⟨enc x, ?_, .inl (.imm (.con _)), h1c x⟩
      rw [Nat.mul_one, Nat.add_zero]
      unfold putCells
      rw [Array.getElem?_mapIdx, Array.getElem?_eq_getElem ha, Option.map_some, if_pos ⟨Nat.le_add_right _ _, by simp; omega⟩, Nat.add_sub_cancel_left, getElem!_pos _ i (by simp; omega)]
      simp [List.getElem_append_left hi, hx]
   ·by_cases hd : hget hp q = .dead
    ·rw [hd]; exact ObOk.dead' _
    ·refine ObOk.congr (fun b' cap' hbb => hother b' (live_lt hd hbb (hown q)) (fun e => ?_)) (fun x hx => hother x (hhid q x hd hx).1 ((hhid q x hd hx).2.2.1 id b cap hlid hb)) (hown q)
     subst e
     rename_i hne
     exact hne (hinj id q b' cap cap' hlid hd hb hbb)
  ·have hq := hlive q hq
   exact ⟨hpriv q b' cap' hq hbq, fun _ hF => (hF q hq).1 cap' hbq⟩
end Go.Pv
namespace Go.Proofs.Ytcbkgdagiccfmaa
open Go Go.Pv
set_option linter.unusedVariables false
set_option maxRecDepth 100000
theorem mixed : Try.prog.follows .mixedOrders = true := by kernel_rfl
structure TIface where
 Name : (List UInt8)
 Methods : (List (List UInt8))
 deriving DecidableEq
structure TMethod where
 Name : (List UInt8)
 Func : (List UInt8)
 deriving DecidableEq
structure TType where
 Name : (List UInt8)
 Methods : (List TMethod)
 deriving DecidableEq
structure TCall where
 Kind : Int
 Target : (List UInt8)
 Method : (List UInt8)
 Feature : (List UInt8)
 deriving DecidableEq
structure TFunc where
 Name : (List UInt8)
 Component : (List UInt8)
 Calls : (List TCall)
 Makes : (List (List UInt8))
 deriving DecidableEq
structure TGraph where
 Ifaces : (List TIface)
 Types : (List TType)
 Funcs : (List TFunc)
 Entries : (List (List UInt8))
 deriving DecidableEq
structure Treach_checker where
 loose : Bool
 ifaces : (List ((List UInt8) × TIface))
 types : (List ((List UInt8) × Bool))
 funcs : (List ((List UInt8) × Bool))
 deriving DecidableEq
structure Treach_world where
 g : TGraph
 funcs : (List ((List UInt8) × Int))
 types : (List ((List UInt8) × Int))
 fitting : (List ((List UInt8) × (List Int)))
 on : (List ((List UInt8) × Bool))
 made : Bool
 deriving DecidableEq
structure Treach_slot where
 iface : (List UInt8)
 method : (List UInt8)
 deriving DecidableEq
structure Tprovenderref6_names where
 ifaces : (List ((List UInt8) × (List ((List UInt8) × Bool))))
 types : (List ((List UInt8) × Bool))
 funcs : (List ((List UInt8) × Bool))
 deriving DecidableEq
structure Tprovenderref6_checker where
 g : TGraph
 n : Tprovenderref6_names
 loose : Bool
 deriving DecidableEq
structure TSite where
 Func : (List UInt8)
 Call : Int
 deriving DecidableEq
structure Tprovenderref6_aim where
 typ : (List UInt8)
 to : (List UInt8)
 deriving DecidableEq
structure Tprovenderref6_link where
 site : TSite
 aims : (List Tprovenderref6_aim)
 deriving DecidableEq
structure Tprovenderref6_net where
 g : TGraph
 links : (List ((List UInt8) × (List Tprovenderref6_link)))
 funcs : (List ((List UInt8) × TFunc))
 deriving DecidableEq
structure Tprovenderref6_sets where
 reached : (List ((List UInt8) × Bool))
 made : (List ((List UInt8) × Bool))
 deriving DecidableEq
structure Treach_spread where
 w : (Option Treach_world)
 funcs : (List Bool)
 made : (List Bool)
 slots : (List (Treach_slot × Bool))
 order : (List Treach_slot)
 types : (List Int)
 queue : (List Int)
 deriving DecidableEq
def encI_i64 (x : Int) : List V := [(iV x)]
theorem imms_encI_i64 (x : Int) : Imms (encI_i64 x) := (.cons (Imm.con _) .nil)
theorem one_encI_i64 (x : Int) : (encI_i64 x).all oneV = true := rfl
instance : EI encI_i64 := ⟨imms_encI_i64, one_encI_i64⟩
def encB (x : Bool) : List V := [(bV x)]
theorem imms_encB (x : Bool) : Imms (encB x) := (.cons (Imm.con _) .nil)
theorem one_encB (x : Bool) : (encB x).all oneV = true := rfl
instance : EI encB := ⟨imms_encB, one_encB⟩
def encS (x : (List UInt8)) : List V := [(sV x)]
theorem imms_encS (x : (List UInt8)) : Imms (encS x) := (.cons (Imm.con _) .nil)
theorem one_encS (x : (List UInt8)) : (encS x).all oneV = true := rfl
instance : EI encS := ⟨imms_encS, one_encS⟩
def encTIface (x : TIface) : List V := [(sV x.Name), (V.lst 1 (x.Methods.map encS))]
theorem imms_encTIface (x : TIface) : Imms (encTIface x) := (.cons (Imm.con _) (.cons (Imm.lst _ _) .nil))
theorem one_encTIface (x : TIface) : (encTIface x).all oneV = true := rfl
instance : EI encTIface := ⟨imms_encTIface, one_encTIface⟩
@[simp] theorem len_encTIface (x : TIface) : (encTIface x).length = 2 := rfl
def encTMethod (x : TMethod) : List V := [(sV x.Name), (sV x.Func)]
theorem imms_encTMethod (x : TMethod) : Imms (encTMethod x) := (.cons (Imm.con _) (.cons (Imm.con _) .nil))
theorem one_encTMethod (x : TMethod) : (encTMethod x).all oneV = true := rfl
instance : EI encTMethod := ⟨imms_encTMethod, one_encTMethod⟩
@[simp] theorem len_encTMethod (x : TMethod) : (encTMethod x).length = 2 := rfl
def encTType (x : TType) : List V := [(sV x.Name), (V.lst 2 (x.Methods.map encTMethod))]
theorem imms_encTType (x : TType) : Imms (encTType x) := (.cons (Imm.con _) (.cons (Imm.lst _ _) .nil))
theorem one_encTType (x : TType) : (encTType x).all oneV = true := rfl
instance : EI encTType := ⟨imms_encTType, one_encTType⟩
@[simp] theorem len_encTType (x : TType) : (encTType x).length = 2 := rfl
def encTCall (x : TCall) : List V := [(iV x.Kind), (sV x.Target), (sV x.Method), (sV x.Feature)]
theorem imms_encTCall (x : TCall) : Imms (encTCall x) := (.cons (Imm.con _) (.cons (Imm.con _) (.cons (Imm.con _) (.cons (Imm.con _) .nil))))
theorem one_encTCall (x : TCall) : (encTCall x).all oneV = true := rfl
instance : EI encTCall := ⟨imms_encTCall, one_encTCall⟩
@[simp] theorem len_encTCall (x : TCall) : (encTCall x).length = 4 := rfl
def encTFunc (x : TFunc) : List V := [(sV x.Name), (sV x.Component), (V.lst 4 (x.Calls.map encTCall)), (V.lst 1 (x.Makes.map encS))]
theorem imms_encTFunc (x : TFunc) : Imms (encTFunc x) := (.cons (Imm.con _) (.cons (Imm.con _) (.cons (Imm.lst _ _) (.cons (Imm.lst _ _) .nil))))
theorem one_encTFunc (x : TFunc) : (encTFunc x).all oneV = true := rfl
instance : EI encTFunc := ⟨imms_encTFunc, one_encTFunc⟩
@[simp] theorem len_encTFunc (x : TFunc) : (encTFunc x).length = 4 := rfl
def encTGraph (x : TGraph) : List V := [(V.lst 2 (x.Ifaces.map encTIface)), (V.lst 2 (x.Types.map encTType)), (V.lst 4 (x.Funcs.map encTFunc)), (V.lst 1 (x.Entries.map encS))]
theorem imms_encTGraph (x : TGraph) : Imms (encTGraph x) := (.cons (Imm.lst _ _) (.cons (Imm.lst _ _) (.cons (Imm.lst _ _) (.cons (Imm.lst _ _) .nil))))
theorem one_encTGraph (x : TGraph) : (encTGraph x).all oneV = true := rfl
instance : EI encTGraph := ⟨imms_encTGraph, one_encTGraph⟩
@[simp] theorem len_encTGraph (x : TGraph) : (encTGraph x).length = 4 := rfl
theorem eqp9 {d : Nat} : EqOk Try.prog (d + 1) 9 1 false (fun l => ∃ n, l = [.string n]) := eqOk_str (show Try.prog.underlying 9 = some (.string) by kernel_rfl) (show tyC Try.prog 9 = true by kernel_rfl)
def cv84 (x : Treach_slot) : List Value := [str x.iface] ++ ([str x.method] ++ [])
theorem inj_cv84 (x y : Treach_slot) (h : cv84 x = cv84 y) : x = y := by
 obtain ⟨h0, h⟩ := List.append_inj h rfl
 obtain ⟨h1, h⟩ := List.append_inj h rfl
 obtain ⟨a0, a1⟩ := x
 obtain ⟨b0, b1⟩ := y
 obtain rfl : a0 = b0 := inj_str _ _ (List.cons.inj h0).1
 obtain rfl : a1 = b1 := inj_str _ _ (List.cons.inj h1).1
 rfl
def isAgg84 (v : Value) : Prop := ∃ x : Treach_slot, v = .agg (cv84 x).toArray
theorem inj_agg84 : ∀ a b : Treach_slot, (Value.agg (cv84 a).toArray) = .agg (cv84 b).toArray → a = b := fun a b h => inj_cv84 a b (by simpa using congrArg Array.toList (Value.agg.inj h))
theorem eqp84 {d : Nat} : EqOk Try.prog (d + 2) 84 2 true (fun l => ∃ x : Treach_slot, l = cv84 x) := (eqOk_struct (d := d + 1) (fs := [(Field.mk "iface" 9 0 false "" "provender/reach" 0), (Field.mk "method" 9 1 false "" "provender/reach" 16)]) (by kernel_rfl) (by kernel_rfl) (by kernel_rfl) (by kernel_rfl) (eqF_cons eqp9 (by simp) rfl (by simp) (eqF_cons eqp9 (by simp) rfl (by simp) eqF_nil))).weaken (fun l ⟨x, hx⟩ => by subst hx; exact ⟨_, _, rfl, ⟨_, rfl⟩, ⟨_, _, rfl, ⟨_, rfl⟩, rfl⟩⟩)
theorem eqk84 : EqOk Try.prog 10000 84 2 true (fun l => ∃ x : Treach_slot, l = cv84 x) := eqp84 (d := 9998)
theorem eqp3 {d : Nat} : EqOk Try.prog (d + 1) 3 1 false (fun l => ∃ n, l = [.int .i64 n]) := eqOk_int (show Try.prog.underlying 3 = some (.int .i64) by kernel_rfl) (show tyC Try.prog 3 = true by kernel_rfl)
def cv59 (x : TCall) : List Value := [.int .i64 x.Kind] ++ ([str x.Target] ++ ([str x.Method] ++ ([str x.Feature] ++ [])))
theorem inj_cv59 (x y : TCall) (h : cv59 x = cv59 y) : x = y := by
 obtain ⟨h0, h⟩ := List.append_inj h rfl
 obtain ⟨h1, h⟩ := List.append_inj h rfl
 obtain ⟨h2, h⟩ := List.append_inj h rfl
 obtain ⟨h3, h⟩ := List.append_inj h rfl
 obtain ⟨a0, a1, a2, a3⟩ := x
 obtain ⟨b0, b1, b2, b3⟩ := y
 obtain rfl : a0 = b0 := inj_int _ _ (List.cons.inj h0).1
 obtain rfl : a1 = b1 := inj_str _ _ (List.cons.inj h1).1
 obtain rfl : a2 = b2 := inj_str _ _ (List.cons.inj h2).1
 obtain rfl : a3 = b3 := inj_str _ _ (List.cons.inj h3).1
 rfl
def isAgg59 (v : Value) : Prop := ∃ x : TCall, v = .agg (cv59 x).toArray
theorem inj_agg59 : ∀ a b : TCall, (Value.agg (cv59 a).toArray) = .agg (cv59 b).toArray → a = b := fun a b h => inj_cv59 a b (by simpa using congrArg Array.toList (Value.agg.inj h))
theorem eqp59 {d : Nat} : EqOk Try.prog (d + 2) 59 4 true (fun l => ∃ x : TCall, l = cv59 x) := (eqOk_struct (d := d + 1) (fs := [(Field.mk "Kind" 3 0 false "" "" 0), (Field.mk "Target" 9 1 false "" "" 8), (Field.mk "Method" 9 2 false "" "" 24), (Field.mk "Feature" 9 3 false "" "" 40)]) (by kernel_rfl) (by kernel_rfl) (by kernel_rfl) (by kernel_rfl) (eqF_cons eqp3 (by simp) rfl (by simp) (eqF_cons eqp9 (by simp) rfl (by simp) (eqF_cons eqp9 (by simp) rfl (by simp) (eqF_cons eqp9 (by simp) rfl (by simp) eqF_nil))))).weaken (fun l ⟨x, hx⟩ => by subst hx; exact ⟨_, _, rfl, ⟨_, rfl⟩, ⟨_, _, rfl, ⟨_, rfl⟩, ⟨_, _, rfl, ⟨_, rfl⟩, ⟨_, _, rfl, ⟨_, rfl⟩, rfl⟩⟩⟩⟩)
theorem eqk59 : EqOk Try.prog 10000 59 4 true (fun l => ∃ x : TCall, l = cv59 x) := eqp59 (d := 9998)
def encM9_3 (p : (List UInt8) × Int) : Value × V := (str p.1, (iV p.2))
abbrev encM9_3_val (v : Int) : V := (iV v)
theorem encM9_3_puts (xs : List ((List UInt8) × Int)) (k : (List UInt8)) (v : Int) : Puts (str k) (encM9_3_val v) (xs.map encM9_3) ((mput xs k v).map encM9_3) := puts_map (kv := fun k => str k) (ev := encM9_3_val) inj_str xs k v
theorem encM9_3_look (xs : List ((List UInt8) × Int)) (k : (List UInt8)) : Look (str k) (xs.map encM9_3) ((mget xs k).map encM9_3_val) := look_map (kv := fun k => str k) (ev := encM9_3_val) inj_str xs k
theorem encM9_3_imm {xs : List ((List UInt8) × Int)} : ∀ p, p ∈ xs.map encM9_3 → Imm p.2 := by
 intro p hp
 obtain ⟨x, _, rfl⟩ := List.mem_map.1 hp
 exact (Imm.con _)
instance : EM encM9_3 := ⟨fun _ => (Imm.con _)⟩
theorem encM9_3_good {xs : List ((List UInt8) × Int)} : ∀ p, p ∈ xs.map encM9_3 → isStr p.1 := by
 intro p hp
 obtain ⟨x, _, rfl⟩ := List.mem_map.1 hp
 exact ⟨_, rfl⟩
def encM9_45 (p : (List UInt8) × (List Int)) : Value × V := (str p.1, (V.lst 1 (p.2.map encI_i64)))
abbrev encM9_45_val (v : (List Int)) : V := (V.lst 1 (v.map encI_i64))
theorem encM9_45_look (xs : List ((List UInt8) × (List Int))) (k : (List UInt8)) : Look (str k) (xs.map encM9_45) ((mget xs k).map encM9_45_val) := look_map (kv := fun k => str k) (ev := encM9_45_val) inj_str xs k
instance : EM encM9_45 := ⟨fun _ => (Imm.lst _ _)⟩
theorem encM9_45_good {xs : List ((List UInt8) × (List Int))} : ∀ p, p ∈ xs.map encM9_45 → isStr p.1 := by
 intro p hp
 obtain ⟨x, _, rfl⟩ := List.mem_map.1 hp
 exact ⟨_, rfl⟩
def encM9_4 (p : (List UInt8) × Bool) : Value × V := (str p.1, (bV p.2))
abbrev encM9_4_val (v : Bool) : V := (bV v)
theorem encM9_4_puts (xs : List ((List UInt8) × Bool)) (k : (List UInt8)) (v : Bool) : Puts (str k) (encM9_4_val v) (xs.map encM9_4) ((mput xs k v).map encM9_4) := puts_map (kv := fun k => str k) (ev := encM9_4_val) inj_str xs k v
theorem encM9_4_dels (xs : List ((List UInt8) × Bool)) (k : (List UInt8)) : Dels (str k) (xs.map encM9_4) ((mdel xs k).map encM9_4) := dels_map (kv := fun k => str k) (ev := encM9_4_val) inj_str xs k
theorem encM9_4_look (xs : List ((List UInt8) × Bool)) (k : (List UInt8)) : Look (str k) (xs.map encM9_4) ((mget xs k).map encM9_4_val) := look_map (kv := fun k => str k) (ev := encM9_4_val) inj_str xs k
theorem encM9_4_imm {xs : List ((List UInt8) × Bool)} : ∀ p, p ∈ xs.map encM9_4 → Imm p.2 := by
 intro p hp
 obtain ⟨x, _, rfl⟩ := List.mem_map.1 hp
 exact (Imm.con _)
theorem encM9_4_im (p : (List UInt8) × Bool) : Imm (encM9_4 p).2 := (Imm.con _)
instance : EM encM9_4 := ⟨fun _ => (Imm.con _)⟩
theorem encM9_4_good {xs : List ((List UInt8) × Bool)} : ∀ p, p ∈ xs.map encM9_4 → isStr p.1 := by
 intro p hp
 obtain ⟨x, _, rfl⟩ := List.mem_map.1 hp
 exact ⟨_, rfl⟩
def encTreach_world (x : Treach_world) : List V := [(V.lst 2 (x.g.Ifaces.map encTIface)), (V.lst 2 (x.g.Types.map encTType)), (V.lst 4 (x.g.Funcs.map encTFunc)), (V.lst 1 (x.g.Entries.map encS)), (V.imap (x.funcs.map encM9_3)), (V.imap (x.types.map encM9_3)), (V.imap (x.fitting.map encM9_45)), (V.imap (x.on.map encM9_4)), (bV x.made)]
theorem imms_encTreach_world (x : Treach_world) : Imms (encTreach_world x) := (.cons (Imm.lst _ _) (.cons (Imm.lst _ _) (.cons (Imm.lst _ _) (.cons (Imm.lst _ _) (.cons (Imm.imap _) (.cons (Imm.imap _) (.cons (Imm.imap _) (.cons (Imm.imap _) (.cons (Imm.con _) .nil)))))))))
theorem one_encTreach_world (x : Treach_world) : (encTreach_world x).all oneV = true := rfl
instance : EI encTreach_world := ⟨imms_encTreach_world, one_encTreach_world⟩
@[simp] theorem len_encTreach_world (x : Treach_world) : (encTreach_world x).length = 9 := rfl
def encTreach_slot (x : Treach_slot) : List V := [(sV x.iface), (sV x.method)]
theorem imms_encTreach_slot (x : Treach_slot) : Imms (encTreach_slot x) := (.cons (Imm.con _) (.cons (Imm.con _) .nil))
theorem one_encTreach_slot (x : Treach_slot) : (encTreach_slot x).all oneV = true := rfl
instance : EI encTreach_slot := ⟨imms_encTreach_slot, one_encTreach_slot⟩
@[simp] theorem len_encTreach_slot (x : Treach_slot) : (encTreach_slot x).length = 2 := rfl
def encM84_4 (p : Treach_slot × Bool) : Value × V := (.agg (cv84 p.1).toArray, (bV p.2))
abbrev encM84_4_val (v : Bool) : V := (bV v)
theorem encM84_4_puts (xs : List (Treach_slot × Bool)) (k : Treach_slot) (v : Bool) : Puts (.agg (cv84 k).toArray) (encM84_4_val v) (xs.map encM84_4) ((mput xs k v).map encM84_4) := puts_map (kv := fun k => .agg (cv84 k).toArray) (ev := encM84_4_val) inj_agg84 xs k v
theorem encM84_4_look (xs : List (Treach_slot × Bool)) (k : Treach_slot) : Look (.agg (cv84 k).toArray) (xs.map encM84_4) ((mget xs k).map encM84_4_val) := look_map (kv := fun k => .agg (cv84 k).toArray) (ev := encM84_4_val) inj_agg84 xs k
theorem encM84_4_imm {xs : List (Treach_slot × Bool)} : ∀ p, p ∈ xs.map encM84_4 → Imm p.2 := by
 intro p hp
 obtain ⟨x, _, rfl⟩ := List.mem_map.1 hp
 exact (Imm.con _)
instance : EM encM84_4 := ⟨fun _ => (Imm.con _)⟩
theorem encM84_4_good {xs : List (Treach_slot × Bool)} : ∀ p, p ∈ xs.map encM84_4 → (isAgg84) p.1 := by
 intro p hp
 obtain ⟨x, _, rfl⟩ := List.mem_map.1 hp
 exact ⟨_, rfl⟩
def encTreach_spread (x : Treach_spread) : List V := [(optr encTreach_world x.w), (V.lst 1 (x.funcs.map encB)), (V.lst 1 (x.made.map encB)), (V.imap (x.slots.map encM84_4)), (V.lst 2 (x.order.map encTreach_slot)), (V.lst 1 (x.types.map encI_i64)), (V.lst 1 (x.queue.map encI_i64))]
theorem imms_encTreach_spread (x : Treach_spread) : Imms (encTreach_spread x) := (.cons (imm_optr _) (.cons (Imm.lst _ _) (.cons (Imm.lst _ _) (.cons (Imm.imap _) (.cons (Imm.lst _ _) (.cons (Imm.lst _ _) (.cons (Imm.lst _ _) .nil)))))))
theorem one_encTreach_spread (x : Treach_spread) : (encTreach_spread x).all oneV = true := by unfold encTreach_spread; simp only [List.all_cons, List.all_nil, one_optr, Bool.true_and]; rfl
instance : EI encTreach_spread := ⟨imms_encTreach_spread, one_encTreach_spread⟩
@[simp] theorem len_encTreach_spread (x : Treach_spread) : (encTreach_spread x).length = 7 := rfl
def encTprovenderref6_sets (x : Tprovenderref6_sets) : List V := [(V.imap (x.reached.map encM9_4)), (V.imap (x.made.map encM9_4))]
theorem imms_encTprovenderref6_sets (x : Tprovenderref6_sets) : Imms (encTprovenderref6_sets x) := (.cons (Imm.imap _) (.cons (Imm.imap _) .nil))
theorem one_encTprovenderref6_sets (x : Tprovenderref6_sets) : (encTprovenderref6_sets x).all oneV = true := rfl
instance : EI encTprovenderref6_sets := ⟨imms_encTprovenderref6_sets, one_encTprovenderref6_sets⟩
@[simp] theorem len_encTprovenderref6_sets (x : Tprovenderref6_sets) : (encTprovenderref6_sets x).length = 2 := rfl
def encTprovenderref6_aim (x : Tprovenderref6_aim) : List V := [(sV x.typ), (sV x.to)]
theorem imms_encTprovenderref6_aim (x : Tprovenderref6_aim) : Imms (encTprovenderref6_aim x) := (.cons (Imm.con _) (.cons (Imm.con _) .nil))
theorem one_encTprovenderref6_aim (x : Tprovenderref6_aim) : (encTprovenderref6_aim x).all oneV = true := rfl
instance : EI encTprovenderref6_aim := ⟨imms_encTprovenderref6_aim, one_encTprovenderref6_aim⟩
@[simp] theorem len_encTprovenderref6_aim (x : Tprovenderref6_aim) : (encTprovenderref6_aim x).length = 2 := rfl
def encTprovenderref6_link (x : Tprovenderref6_link) : List V := [(sV x.site.Func), (iV x.site.Call), (V.lst 2 (x.aims.map encTprovenderref6_aim))]
theorem imms_encTprovenderref6_link (x : Tprovenderref6_link) : Imms (encTprovenderref6_link x) := (.cons (Imm.con _) (.cons (Imm.con _) (.cons (Imm.lst _ _) .nil)))
theorem one_encTprovenderref6_link (x : Tprovenderref6_link) : (encTprovenderref6_link x).all oneV = true := rfl
instance : EI encTprovenderref6_link := ⟨imms_encTprovenderref6_link, one_encTprovenderref6_link⟩
@[simp] theorem len_encTprovenderref6_link (x : Tprovenderref6_link) : (encTprovenderref6_link x).length = 3 := rfl
def encM9_99 (p : (List UInt8) × (List Tprovenderref6_link)) : Value × V := (str p.1, (V.lst 3 (p.2.map encTprovenderref6_link)))
abbrev encM9_99_val (v : (List Tprovenderref6_link)) : V := (V.lst 3 (v.map encTprovenderref6_link))
theorem encM9_99_look (xs : List ((List UInt8) × (List Tprovenderref6_link))) (k : (List UInt8)) : Look (str k) (xs.map encM9_99) ((mget xs k).map encM9_99_val) := look_map (kv := fun k => str k) (ev := encM9_99_val) inj_str xs k
instance : EM encM9_99 := ⟨fun _ => (Imm.lst _ _)⟩
theorem encM9_99_good {xs : List ((List UInt8) × (List Tprovenderref6_link))} : ∀ p, p ∈ xs.map encM9_99 → isStr p.1 := by
 intro p hp
 obtain ⟨x, _, rfl⟩ := List.mem_map.1 hp
 exact ⟨_, rfl⟩
def encM9_62 (p : (List UInt8) × TFunc) : Value × V := (str p.1, (V.agg [(sV p.2.Name), (sV p.2.Component), (V.lst 4 (p.2.Calls.map encTCall)), (V.lst 1 (p.2.Makes.map encS))]))
abbrev encM9_62_val (v : TFunc) : V := (V.agg [(sV v.Name), (sV v.Component), (V.lst 4 (v.Calls.map encTCall)), (V.lst 1 (v.Makes.map encS))])
theorem encM9_62_puts (xs : List ((List UInt8) × TFunc)) (k : (List UInt8)) (v : TFunc) : Puts (str k) (encM9_62_val v) (xs.map encM9_62) ((mput xs k v).map encM9_62) := puts_map (kv := fun k => str k) (ev := encM9_62_val) inj_str xs k v
theorem encM9_62_look (xs : List ((List UInt8) × TFunc)) (k : (List UInt8)) : Look (str k) (xs.map encM9_62) ((mget xs k).map encM9_62_val) := look_map (kv := fun k => str k) (ev := encM9_62_val) inj_str xs k
theorem encM9_62_imm {xs : List ((List UInt8) × TFunc)} : ∀ p, p ∈ xs.map encM9_62 → Imm p.2 := by
 intro p hp
 obtain ⟨x, _, rfl⟩ := List.mem_map.1 hp
 exact (Imm.agg (.cons (Imm.con _) (.cons (Imm.con _) (.cons (Imm.lst _ _) (.cons (Imm.lst _ _) .nil)))))
instance : EM encM9_62 := ⟨fun _ => (Imm.agg (.cons (Imm.con _) (.cons (Imm.con _) (.cons (Imm.lst _ _) (.cons (Imm.lst _ _) .nil)))))⟩
theorem encM9_62_good {xs : List ((List UInt8) × TFunc)} : ∀ p, p ∈ xs.map encM9_62 → isStr p.1 := by
 intro p hp
 obtain ⟨x, _, rfl⟩ := List.mem_map.1 hp
 exact ⟨_, rfl⟩
def encTprovenderref6_net (x : Tprovenderref6_net) : List V := [(V.lst 2 (x.g.Ifaces.map encTIface)), (V.lst 2 (x.g.Types.map encTType)), (V.lst 4 (x.g.Funcs.map encTFunc)), (V.lst 1 (x.g.Entries.map encS)), (V.imap (x.links.map encM9_99)), (V.imap (x.funcs.map encM9_62))]
theorem imms_encTprovenderref6_net (x : Tprovenderref6_net) : Imms (encTprovenderref6_net x) := (.cons (Imm.lst _ _) (.cons (Imm.lst _ _) (.cons (Imm.lst _ _) (.cons (Imm.lst _ _) (.cons (Imm.imap _) (.cons (Imm.imap _) .nil))))))
theorem one_encTprovenderref6_net (x : Tprovenderref6_net) : (encTprovenderref6_net x).all oneV = true := rfl
instance : EI encTprovenderref6_net := ⟨imms_encTprovenderref6_net, one_encTprovenderref6_net⟩
@[simp] theorem len_encTprovenderref6_net (x : Tprovenderref6_net) : (encTprovenderref6_net x).length = 6 := rfl
def encM9_52 (p : (List UInt8) × (List ((List UInt8) × Bool))) : Value × V := (str p.1, (V.imap (p.2.map encM9_4)))
abbrev encM9_52_val (v : (List ((List UInt8) × Bool))) : V := (V.imap (v.map encM9_4))
theorem encM9_52_look (xs : List ((List UInt8) × (List ((List UInt8) × Bool)))) (k : (List UInt8)) : Look (str k) (xs.map encM9_52) ((mget xs k).map encM9_52_val) := look_map (kv := fun k => str k) (ev := encM9_52_val) inj_str xs k
instance : EM encM9_52 := ⟨fun _ => (Imm.imap _)⟩
theorem encM9_52_good {xs : List ((List UInt8) × (List ((List UInt8) × Bool)))} : ∀ p, p ∈ xs.map encM9_52 → isStr p.1 := by
 intro p hp
 obtain ⟨x, _, rfl⟩ := List.mem_map.1 hp
 exact ⟨_, rfl⟩
def encTprovenderref6_names (x : Tprovenderref6_names) : List V := [(V.imap (x.ifaces.map encM9_52)), (V.imap (x.types.map encM9_4)), (V.imap (x.funcs.map encM9_4))]
theorem imms_encTprovenderref6_names (x : Tprovenderref6_names) : Imms (encTprovenderref6_names x) := (.cons (Imm.imap _) (.cons (Imm.imap _) (.cons (Imm.imap _) .nil)))
theorem one_encTprovenderref6_names (x : Tprovenderref6_names) : (encTprovenderref6_names x).all oneV = true := rfl
instance : EI encTprovenderref6_names := ⟨imms_encTprovenderref6_names, one_encTprovenderref6_names⟩
@[simp] theorem len_encTprovenderref6_names (x : Tprovenderref6_names) : (encTprovenderref6_names x).length = 3 := rfl
def encTprovenderref6_checker (x : Tprovenderref6_checker) : List V := [(V.lst 2 (x.g.Ifaces.map encTIface)), (V.lst 2 (x.g.Types.map encTType)), (V.lst 4 (x.g.Funcs.map encTFunc)), (V.lst 1 (x.g.Entries.map encS)), (V.imap (x.n.ifaces.map encM9_52)), (V.imap (x.n.types.map encM9_4)), (V.imap (x.n.funcs.map encM9_4)), (bV x.loose)]
theorem imms_encTprovenderref6_checker (x : Tprovenderref6_checker) : Imms (encTprovenderref6_checker x) := (.cons (Imm.lst _ _) (.cons (Imm.lst _ _) (.cons (Imm.lst _ _) (.cons (Imm.lst _ _) (.cons (Imm.imap _) (.cons (Imm.imap _) (.cons (Imm.imap _) (.cons (Imm.con _) .nil))))))))
theorem one_encTprovenderref6_checker (x : Tprovenderref6_checker) : (encTprovenderref6_checker x).all oneV = true := rfl
instance : EI encTprovenderref6_checker := ⟨imms_encTprovenderref6_checker, one_encTprovenderref6_checker⟩
@[simp] theorem len_encTprovenderref6_checker (x : Tprovenderref6_checker) : (encTprovenderref6_checker x).length = 8 := rfl
def encM9_114 (p : (List UInt8) × TIface) : Value × V := (str p.1, (V.agg [(sV p.2.Name), (V.lst 1 (p.2.Methods.map encS))]))
abbrev encM9_114_val (v : TIface) : V := (V.agg [(sV v.Name), (V.lst 1 (v.Methods.map encS))])
theorem encM9_114_puts (xs : List ((List UInt8) × TIface)) (k : (List UInt8)) (v : TIface) : Puts (str k) (encM9_114_val v) (xs.map encM9_114) ((mput xs k v).map encM9_114) := puts_map (kv := fun k => str k) (ev := encM9_114_val) inj_str xs k v
theorem encM9_114_look (xs : List ((List UInt8) × TIface)) (k : (List UInt8)) : Look (str k) (xs.map encM9_114) ((mget xs k).map encM9_114_val) := look_map (kv := fun k => str k) (ev := encM9_114_val) inj_str xs k
theorem encM9_114_imm {xs : List ((List UInt8) × TIface)} : ∀ p, p ∈ xs.map encM9_114 → Imm p.2 := by
 intro p hp
 obtain ⟨x, _, rfl⟩ := List.mem_map.1 hp
 exact (Imm.agg (.cons (Imm.con _) (.cons (Imm.lst _ _) .nil)))
instance : EM encM9_114 := ⟨fun _ => (Imm.agg (.cons (Imm.con _) (.cons (Imm.lst _ _) .nil)))⟩
theorem encM9_114_good {xs : List ((List UInt8) × TIface)} : ∀ p, p ∈ xs.map encM9_114 → isStr p.1 := by
 intro p hp
 obtain ⟨x, _, rfl⟩ := List.mem_map.1 hp
 exact ⟨_, rfl⟩
def encTreach_checker (x : Treach_checker) : List V := [(bV x.loose), (V.imap (x.ifaces.map encM9_114)), (V.imap (x.types.map encM9_4)), (V.imap (x.funcs.map encM9_4))]
theorem imms_encTreach_checker (x : Treach_checker) : Imms (encTreach_checker x) := (.cons (Imm.con _) (.cons (Imm.imap _) (.cons (Imm.imap _) (.cons (Imm.imap _) .nil))))
theorem one_encTreach_checker (x : Treach_checker) : (encTreach_checker x).all oneV = true := rfl
instance : EI encTreach_checker := ⟨imms_encTreach_checker, one_encTreach_checker⟩
@[simp] theorem len_encTreach_checker (x : Treach_checker) : (encTreach_checker x).length = 4 := rfl
def encM9_153 (p : (List UInt8) × (List Int)) : Value × V := (str p.1, (V.dsl 3 1 (p.2.map encI_i64)))
theorem encM9_153_und (p : (List UInt8) × (List Int)) : (encM9_153 p).1 = (encM9_45 p).1 ∧ Und (encM9_153 p).2 (encM9_45 p).2 ∧ Keep (encM9_153 p).2 := ⟨rfl, und_rows imms_encI_i64 _, Keep.dsl _ _ _⟩
instance : EMK encM9_153 := ⟨fun p => (encM9_153_und p).2.2⟩
theorem encM9_153_good {xs : List ((List UInt8) × (List Int))} : ∀ p, p ∈ xs.map encM9_153 → isStr p.1 := by
 intro p hp
 obtain ⟨x, _, rfl⟩ := List.mem_map.1 hp
 exact ⟨_, rfl⟩
def encM9_154 (p : (List UInt8) × (List ((List UInt8) × Bool))) : Value × V := (str p.1, (V.dmp (p.2.map encM9_4)))
theorem encM9_154_und (p : (List UInt8) × (List ((List UInt8) × Bool))) : (encM9_154 p).1 = (encM9_52 p).1 ∧ Und (encM9_154 p).2 (encM9_52 p).2 ∧ Keep (encM9_154 p).2 := ⟨rfl, und_ents encM9_4_im _, Keep.dmp _⟩
instance : EMK encM9_154 := ⟨fun p => (encM9_154_und p).2.2⟩
theorem encM9_154_good {xs : List ((List UInt8) × (List ((List UInt8) × Bool)))} : ∀ p, p ∈ xs.map encM9_154 → isStr p.1 := by
 intro p hp
 obtain ⟨x, _, rfl⟩ := List.mem_map.1 hp
 exact ⟨_, rfl⟩
def encM9_155 (p : (List UInt8) × (List Tprovenderref6_link)) : Value × V := (str p.1, (V.dsl 103 3 (p.2.map encTprovenderref6_link)))
theorem encM9_155_und (p : (List UInt8) × (List Tprovenderref6_link)) : (encM9_155 p).1 = (encM9_99 p).1 ∧ Und (encM9_155 p).2 (encM9_99 p).2 ∧ Keep (encM9_155 p).2 := ⟨rfl, und_rows imms_encTprovenderref6_link _, Keep.dsl _ _ _⟩
instance : EMK encM9_155 := ⟨fun p => (encM9_155_und p).2.2⟩
theorem encM9_155_good {xs : List ((List UInt8) × (List Tprovenderref6_link))} : ∀ p, p ∈ xs.map encM9_155 → isStr p.1 := by
 intro p hp
 obtain ⟨x, _, rfl⟩ := List.mem_map.1 hp
 exact ⟨_, rfl⟩
def encM59_96 (p : TCall × (List Tprovenderref6_aim)) : Value × V := (.agg (cv59 p.1).toArray, (V.lst 2 (p.2.map encTprovenderref6_aim)))
abbrev encM59_96_val (v : (List Tprovenderref6_aim)) : V := (V.lst 2 (v.map encTprovenderref6_aim))
theorem encM59_96_puts (xs : List (TCall × (List Tprovenderref6_aim))) (k : TCall) (v : (List Tprovenderref6_aim)) : Puts (.agg (cv59 k).toArray) (encM59_96_val v) (xs.map encM59_96) ((mput xs k v).map encM59_96) := puts_map (kv := fun k => .agg (cv59 k).toArray) (ev := encM59_96_val) inj_agg59 xs k v
theorem encM59_96_look (xs : List (TCall × (List Tprovenderref6_aim))) (k : TCall) : Look (.agg (cv59 k).toArray) (xs.map encM59_96) ((mget xs k).map encM59_96_val) := look_map (kv := fun k => .agg (cv59 k).toArray) (ev := encM59_96_val) inj_agg59 xs k
instance : EM encM59_96 := ⟨fun _ => (Imm.lst _ _)⟩
theorem encM59_96_good {xs : List (TCall × (List Tprovenderref6_aim))} : ∀ p, p ∈ xs.map encM59_96 → (isAgg59) p.1 := by
 intro p hp
 obtain ⟨x, _, rfl⟩ := List.mem_map.1 hp
 exact ⟨_, rfl⟩
theorem tS27 : tyS Try.prog 27 4 = true := by kernel_rfl
theorem tA27 : tyA Try.prog 27 4 = true := by kernel_rfl
theorem tZ107 : zeroCells Try.prog 107 = some [.bool false, .map none, .map none, .map none] := by kernel_rfl
theorem tPl107 : tyPlaces Try.prog 107 = some [(0, 1), (1, 1), (2, 1), (3, 1)] := by kernel_rfl
theorem tS107 : tyS Try.prog 107 4 = true := by kernel_rfl
theorem tF27_0 : tyF Try.prog 27 0 0 = true := by kernel_rfl
theorem tC22 : tyC Try.prog 22 = true := by kernel_rfl
theorem tIsSl22 : tySlice Try.prog 22 = true := by kernel_rfl
theorem tSl22 : tySl Try.prog 22 2 = true := by kernel_rfl
theorem tA114 : tyA Try.prog 114 2 = true := by kernel_rfl
theorem tZ114 : zeroCells Try.prog 114 = some [.string ⟨#[]⟩, .slice none 0 0] := by kernel_rfl
theorem tS114 : tyS Try.prog 114 2 = true := by kernel_rfl
theorem tF107_1 : tyF Try.prog 107 1 1 = true := by kernel_rfl
theorem tC105 : tyC Try.prog 105 = true := by kernel_rfl
theorem tF114_0 : tyF Try.prog 114 0 0 = true := by kernel_rfl
theorem tC9 : tyC Try.prog 9 = true := by kernel_rfl
theorem tMap105 : tyMap Try.prog 105 9 114 = true := by kernel_rfl
theorem tKey9 : KeyT Try.prog 9 isStr := keyT_str (by kernel_rfl)
theorem tF27_1 : tyF Try.prog 27 1 1 = true := by kernel_rfl
theorem tC23 : tyC Try.prog 23 = true := by kernel_rfl
theorem tIsSl23 : tySlice Try.prog 23 = true := by kernel_rfl
theorem tSl23 : tySl Try.prog 23 2 = true := by kernel_rfl
theorem tA112 : tyA Try.prog 112 2 = true := by kernel_rfl
theorem tZ112 : zeroCells Try.prog 112 = some [.string ⟨#[]⟩, .slice none 0 0] := by kernel_rfl
theorem tS112 : tyS Try.prog 112 2 = true := by kernel_rfl
theorem tF107_2 : tyF Try.prog 107 2 2 = true := by kernel_rfl
theorem tC52 : tyC Try.prog 52 = true := by kernel_rfl
theorem tF112_0 : tyF Try.prog 112 0 0 = true := by kernel_rfl
theorem tMap52 : tyMap Try.prog 52 9 4 = true := by kernel_rfl
theorem tF27_2 : tyF Try.prog 27 2 2 = true := by kernel_rfl
theorem tC24 : tyC Try.prog 24 = true := by kernel_rfl
theorem tIsSl24 : tySlice Try.prog 24 = true := by kernel_rfl
theorem tSl24 : tySl Try.prog 24 4 = true := by kernel_rfl
theorem tA62 : tyA Try.prog 62 4 = true := by kernel_rfl
theorem tZ62 : zeroCells Try.prog 62 = some [.string ⟨#[]⟩, .string ⟨#[]⟩, .slice none 0 0, .slice none 0 0] := by kernel_rfl
theorem tS62 : tyS Try.prog 62 4 = true := by kernel_rfl
theorem tF107_3 : tyF Try.prog 107 3 3 = true := by kernel_rfl
theorem tF62_0 : tyF Try.prog 62 0 0 = true := by kernel_rfl
theorem tA107 : tyA Try.prog 107 4 = true := by kernel_rfl
theorem fOk40 : fnOk Try.prog 40 = true := by kernel_rfl
theorem tStr9 : tyStr Try.prog 9 = true := by kernel_rfl
theorem fOk56 : fnOk Try.prog 56 = true := by kernel_rfl
theorem fOk42 : fnOk Try.prog 42 = true := by kernel_rfl
theorem tF114_1 : tyF Try.prog 114 1 1 = true := by kernel_rfl
theorem tC25 : tyC Try.prog 25 = true := by kernel_rfl
theorem tIsSl25 : tySlice Try.prog 25 = true := by kernel_rfl
theorem tSl25 : tySl Try.prog 25 1 = true := by kernel_rfl
theorem fOk52 : fnOk Try.prog 52 = true := by kernel_rfl
theorem tF112_1 : tyF Try.prog 112 1 1 = true := by kernel_rfl
theorem tC110 : tyC Try.prog 110 = true := by kernel_rfl
theorem tIsSl110 : tySlice Try.prog 110 = true := by kernel_rfl
theorem tSl110 : tySl Try.prog 110 2 = true := by kernel_rfl
theorem tA129 : tyA Try.prog 129 2 = true := by kernel_rfl
theorem tZ129 : zeroCells Try.prog 129 = some [.string ⟨#[]⟩, .string ⟨#[]⟩] := by kernel_rfl
theorem tS129 : tyS Try.prog 129 2 = true := by kernel_rfl
theorem tF129_0 : tyF Try.prog 129 0 0 = true := by kernel_rfl
theorem tF107_0 : tyF Try.prog 107 0 0 = true := by kernel_rfl
theorem tC4 : tyC Try.prog 4 = true := by kernel_rfl
theorem tF129_1 : tyF Try.prog 129 1 1 = true := by kernel_rfl
theorem tZo4 : (Try.prog.info? 4).bind (·.zero) = some (.bool false) := by kernel_rfl
theorem fOk53 : fnOk Try.prog 53 = true := by kernel_rfl
theorem tF62_1 : tyF Try.prog 62 1 1 = true := by kernel_rfl
theorem tF62_2 : tyF Try.prog 62 2 2 = true := by kernel_rfl
theorem tC60 : tyC Try.prog 60 = true := by kernel_rfl
theorem tIsSl60 : tySlice Try.prog 60 = true := by kernel_rfl
theorem tSl60 : tySl Try.prog 60 4 = true := by kernel_rfl
theorem tA59 : tyA Try.prog 59 4 = true := by kernel_rfl
theorem tZ59 : zeroCells Try.prog 59 = some [.int .i64 0, .string ⟨#[]⟩, .string ⟨#[]⟩, .string ⟨#[]⟩] := by kernel_rfl
theorem tS59 : tyS Try.prog 59 4 = true := by kernel_rfl
theorem tF59_0 : tyF Try.prog 59 0 0 = true := by kernel_rfl
theorem tC3 : tyC Try.prog 3 = true := by kernel_rfl
theorem tF59_1 : tyF Try.prog 59 1 1 = true := by kernel_rfl
theorem tF59_2 : tyF Try.prog 59 2 2 = true := by kernel_rfl
theorem tZo114 : (Try.prog.info? 114).bind (·.zero) = some (.agg #[.string ⟨#[]⟩, .slice none 0 0]) := by kernel_rfl
theorem fOk19 : fnOk Try.prog 19 = true := by kernel_rfl
theorem fOk9 : fnOk Try.prog 9 = true := by kernel_rfl
theorem tF59_3 : tyF Try.prog 59 3 3 = true := by kernel_rfl
theorem fOk61 : fnOk Try.prog 61 = true := by kernel_rfl
theorem tF62_3 : tyF Try.prog 62 3 3 = true := by kernel_rfl
theorem fOk55 : fnOk Try.prog 55 = true := by kernel_rfl
theorem fOk54 : fnOk Try.prog 54 = true := by kernel_rfl
theorem tF27_3 : tyF Try.prog 27 3 3 = true := by kernel_rfl
theorem fOk41 : fnOk Try.prog 41 = true := by kernel_rfl
theorem fOk29 : fnOk Try.prog 29 = true := by kernel_rfl
theorem fOk30 : fnOk Try.prog 30 = true := by kernel_rfl
theorem tZ54 : zeroCells Try.prog 54 = some [.slice none 0 0, .slice none 0 0, .slice none 0 0, .slice none 0 0, .map none, .map none, .map none, .map none, .bool false] := by kernel_rfl
theorem tPl54 : tyPlaces Try.prog 54 = some [(0, 4), (4, 1), (5, 1), (6, 1), (7, 1), (8, 1)] := by kernel_rfl
theorem tS54 : tyS Try.prog 54 9 = true := by kernel_rfl
theorem tF54_1 : tyF Try.prog 54 1 4 = true := by kernel_rfl
theorem tC50 : tyC Try.prog 50 = true := by kernel_rfl
theorem tMap50 : tyMap Try.prog 50 9 3 = true := by kernel_rfl
theorem tF54_2 : tyF Try.prog 54 2 5 = true := by kernel_rfl
theorem tI133 : tyI Try.prog 133 .u64 = true := by kernel_rfl
theorem tUn3 : tyU Try.prog 3 = true := by kernel_rfl
theorem tI3 : tyI Try.prog 3 .i64 = true := by kernel_rfl
theorem tUn133 : tyU Try.prog 133 = true := by kernel_rfl
theorem fOk62 : fnOk Try.prog 62 = true := by kernel_rfl
theorem fOk59 : fnOk Try.prog 59 = true := by kernel_rfl
theorem fOk58 : fnOk Try.prog 58 = true := by kernel_rfl
theorem fOk57 : fnOk Try.prog 57 = true := by kernel_rfl
theorem fOk45 : fnOk Try.prog 45 = true := by kernel_rfl
theorem fOk43 : fnOk Try.prog 43 = true := by kernel_rfl
theorem tF54_3 : tyF Try.prog 54 3 6 = true := by kernel_rfl
theorem tC51 : tyC Try.prog 51 = true := by kernel_rfl
theorem tMap51 : tyMap Try.prog 51 9 45 = true := by kernel_rfl
theorem tZo45 : (Try.prog.info? 45).bind (·.zero) = some (.slice none 0 0) := by kernel_rfl
theorem tEl45 : tyEl Try.prog 45 3 1 8 = true := by kernel_rfl
theorem tZ3 : zeroCells Try.prog 3 = some [.int .i64 0] := by kernel_rfl
theorem tIsSl45 : tySlice Try.prog 45 = true := by kernel_rfl
theorem tF54_4 : tyF Try.prog 54 4 7 = true := by kernel_rfl
theorem fOk31 : fnOk Try.prog 31 = true := by kernel_rfl
theorem fOk18 : fnOk Try.prog 18 = true := by kernel_rfl
theorem tZo3 : (Try.prog.info? 3).bind (·.zero) = some (.int .i64 0) := by kernel_rfl
theorem fOk12 : fnOk Try.prog 12 = true := by kernel_rfl
theorem tF54_0 : tyF Try.prog 54 0 0 = true := by kernel_rfl
theorem tZ47 : zeroCells Try.prog 47 = some [.pointer none, .slice none 0 0, .slice none 0 0, .map none, .slice none 0 0, .slice none 0 0, .slice none 0 0] := by kernel_rfl
theorem tPl47 : tyPlaces Try.prog 47 = some [(0, 1), (1, 1), (2, 1), (3, 1), (4, 1), (5, 1), (6, 1)] := by kernel_rfl
theorem tS47 : tyS Try.prog 47 7 = true := by kernel_rfl
theorem tEl42 : tyEl Try.prog 42 4 1 1 = true := by kernel_rfl
theorem tZ4 : zeroCells Try.prog 4 = some [.bool false] := by kernel_rfl
theorem tF47_1 : tyF Try.prog 47 1 1 = true := by kernel_rfl
theorem tC42 : tyC Try.prog 42 = true := by kernel_rfl
theorem tSl42 : tySl Try.prog 42 1 = true := by kernel_rfl
theorem tS4 : tyS Try.prog 4 1 = true := by kernel_rfl
theorem tF47_6 : tyF Try.prog 47 6 6 = true := by kernel_rfl
theorem tC45 : tyC Try.prog 45 = true := by kernel_rfl
theorem tS45 : tyS Try.prog 45 1 = true := by kernel_rfl
theorem fOk20 : fnOk Try.prog 20 = true := by kernel_rfl
theorem tSl45 : tySl Try.prog 45 1 = true := by kernel_rfl
theorem tF47_2 : tyF Try.prog 47 2 2 = true := by kernel_rfl
theorem tF47_0 : tyF Try.prog 47 0 0 = true := by kernel_rfl
theorem tC39 : tyC Try.prog 39 = true := by kernel_rfl
theorem tF54_5 : tyF Try.prog 54 5 8 = true := by kernel_rfl
theorem tF47_4 : tyF Try.prog 47 4 4 = true := by kernel_rfl
theorem tC44 : tyC Try.prog 44 = true := by kernel_rfl
theorem tIsSl44 : tySlice Try.prog 44 = true := by kernel_rfl
theorem tSl44 : tySl Try.prog 44 2 = true := by kernel_rfl
theorem tA84 : tyA Try.prog 84 2 = true := by kernel_rfl
theorem tZ84 : zeroCells Try.prog 84 = some [.string ⟨#[]⟩, .string ⟨#[]⟩] := by kernel_rfl
theorem tS84 : tyS Try.prog 84 2 = true := by kernel_rfl
theorem tF84_0 : tyF Try.prog 84 0 0 = true := by kernel_rfl
theorem fOk44 : fnOk Try.prog 44 = true := by kernel_rfl
theorem fOk32 : fnOk Try.prog 32 = true := by kernel_rfl
theorem tF84_1 : tyF Try.prog 84 1 1 = true := by kernel_rfl
theorem tPl59 : tyPlaces Try.prog 59 = some [(0, 1), (1, 1), (2, 1), (3, 1)] := by kernel_rfl
theorem fOk33 : fnOk Try.prog 33 = true := by kernel_rfl
theorem fOk21 : fnOk Try.prog 21 = true := by kernel_rfl
theorem tPl84 : tyPlaces Try.prog 84 = some [(0, 1), (1, 1)] := by kernel_rfl
theorem tF47_3 : tyF Try.prog 47 3 3 = true := by kernel_rfl
theorem tC43 : tyC Try.prog 43 = true := by kernel_rfl
theorem tMap43 : tyMap Try.prog 43 84 4 = true := by kernel_rfl
theorem tKey84 : KeyT Try.prog 84 isAgg84 := keyT_agg eqk84 (by kernel_rfl) (fun v ⟨x, hx⟩ => ⟨_, ⟨x, rfl⟩, hx⟩)
theorem tS44 : tyS Try.prog 44 1 = true := by kernel_rfl
theorem tEl44 : tyEl Try.prog 44 84 2 32 = true := by kernel_rfl
theorem fOk22 : fnOk Try.prog 22 = true := by kernel_rfl
theorem fOk13 : fnOk Try.prog 13 = true := by kernel_rfl
theorem tEl25 : tyEl Try.prog 25 9 1 16 = true := by kernel_rfl
theorem fOk11 : fnOk Try.prog 11 = true := by kernel_rfl
theorem tZ9 : zeroCells Try.prog 9 = some [.string ⟨#[]⟩] := by kernel_rfl
theorem tS9 : tyS Try.prog 9 1 = true := by kernel_rfl
theorem fOk14 : fnOk Try.prog 14 = true := by kernel_rfl
theorem fOk4 : fnOk Try.prog 4 = true := by kernel_rfl
theorem tZ89 : zeroCells Try.prog 89 = some [.map none, .map none, .map none] := by kernel_rfl
theorem tPl89 : tyPlaces Try.prog 89 = some [(0, 1), (1, 1), (2, 1)] := by kernel_rfl
theorem tS89 : tyS Try.prog 89 3 = true := by kernel_rfl
theorem tF89_0 : tyF Try.prog 89 0 0 = true := by kernel_rfl
theorem tC87 : tyC Try.prog 87 = true := by kernel_rfl
theorem tMap87 : tyMap Try.prog 87 9 52 = true := by kernel_rfl
theorem tF89_1 : tyF Try.prog 89 1 1 = true := by kernel_rfl
theorem tF89_2 : tyF Try.prog 89 2 2 = true := by kernel_rfl
theorem tA89 : tyA Try.prog 89 3 = true := by kernel_rfl
theorem fOk34 : fnOk Try.prog 34 = true := by kernel_rfl
theorem tZ92 : zeroCells Try.prog 92 = some [.slice none 0 0, .slice none 0 0, .slice none 0 0, .slice none 0 0, .map none, .map none, .map none, .bool false] := by kernel_rfl
theorem tPl92 : tyPlaces Try.prog 92 = some [(0, 4), (4, 3), (7, 1)] := by kernel_rfl
theorem tS92 : tyS Try.prog 92 8 = true := by kernel_rfl
theorem tF92_0 : tyF Try.prog 92 0 0 = true := by kernel_rfl
theorem tA92 : tyA Try.prog 92 8 = true := by kernel_rfl
theorem fOk36 : fnOk Try.prog 36 = true := by kernel_rfl
theorem fOk37 : fnOk Try.prog 37 = true := by kernel_rfl
theorem fOk46 : fnOk Try.prog 46 = true := by kernel_rfl
theorem tF92_2 : tyF Try.prog 92 2 7 = true := by kernel_rfl
theorem tF92_1 : tyF Try.prog 92 1 4 = true := by kernel_rfl
theorem fOk47 : fnOk Try.prog 47 = true := by kernel_rfl
theorem tZo52 : (Try.prog.info? 52).bind (·.zero) = some (.map none) := by kernel_rfl
theorem fOk60 : fnOk Try.prog 60 = true := by kernel_rfl
theorem fOk48 : fnOk Try.prog 48 = true := by kernel_rfl
theorem fOk35 : fnOk Try.prog 35 = true := by kernel_rfl
theorem fOk24 : fnOk Try.prog 24 = true := by kernel_rfl
theorem fOk25 : fnOk Try.prog 25 = true := by kernel_rfl
theorem tPl62 : tyPlaces Try.prog 62 = some [(0, 1), (1, 1), (2, 1), (3, 1)] := by kernel_rfl
theorem fOk26 : fnOk Try.prog 26 = true := by kernel_rfl
theorem fOk16 : fnOk Try.prog 16 = true := by kernel_rfl
theorem tZ79 : zeroCells Try.prog 79 = some [.slice none 0 0, .slice none 0 0, .slice none 0 0, .slice none 0 0, .map none, .map none] := by kernel_rfl
theorem tPl79 : tyPlaces Try.prog 79 = some [(0, 4), (4, 1), (5, 1)] := by kernel_rfl
theorem tS79 : tyS Try.prog 79 6 = true := by kernel_rfl
theorem tF79_2 : tyF Try.prog 79 2 5 = true := by kernel_rfl
theorem tC77 : tyC Try.prog 77 = true := by kernel_rfl
theorem tMap77 : tyMap Try.prog 77 9 62 = true := by kernel_rfl
theorem tMap95 : tyMap Try.prog 95 59 96 = true := by kernel_rfl
theorem tKey59 : KeyT Try.prog 59 isAgg59 := keyT_agg eqk59 (by kernel_rfl) (fun v ⟨x, hx⟩ => ⟨_, ⟨x, rfl⟩, hx⟩)
theorem tZo96 : (Try.prog.info? 96).bind (·.zero) = some (.slice none 0 0) := by kernel_rfl
theorem tZ120 : zeroCells Try.prog 120 = some [.string ⟨#[]⟩, .string ⟨#[]⟩] := by kernel_rfl
theorem tPl120 : tyPlaces Try.prog 120 = some [(0, 1), (1, 1)] := by kernel_rfl
theorem tEl96 : tyEl Try.prog 96 120 2 32 = true := by kernel_rfl
theorem tPl114 : tyPlaces Try.prog 114 = some [(0, 1), (1, 1)] := by kernel_rfl
theorem fOk49 : fnOk Try.prog 49 = true := by kernel_rfl
theorem fOk50 : fnOk Try.prog 50 = true := by kernel_rfl
theorem fOk51 : fnOk Try.prog 51 = true := by kernel_rfl
theorem tIsSl96 : tySlice Try.prog 96 = true := by kernel_rfl
theorem fOk38 : fnOk Try.prog 38 = true := by kernel_rfl
theorem tF79_1 : tyF Try.prog 79 1 4 = true := by kernel_rfl
theorem tC76 : tyC Try.prog 76 = true := by kernel_rfl
theorem tZ101 : zeroCells Try.prog 101 = some [.string ⟨#[]⟩, .int .i64 0] := by kernel_rfl
theorem tPl101 : tyPlaces Try.prog 101 = some [(0, 1), (1, 1)] := by kernel_rfl
theorem tZ103 : zeroCells Try.prog 103 = some [.string ⟨#[]⟩, .int .i64 0, .slice none 0 0] := by kernel_rfl
theorem tPl103 : tyPlaces Try.prog 103 = some [(0, 2), (2, 1)] := by kernel_rfl
theorem tMap76 : tyMap Try.prog 76 9 99 = true := by kernel_rfl
theorem tZo99 : (Try.prog.info? 99).bind (·.zero) = some (.slice none 0 0) := by kernel_rfl
theorem tEl99 : tyEl Try.prog 99 103 3 48 = true := by kernel_rfl
theorem tIsSl99 : tySlice Try.prog 99 = true := by kernel_rfl
theorem tA79 : tyA Try.prog 79 6 = true := by kernel_rfl
theorem fOk27 : fnOk Try.prog 27 = true := by kernel_rfl
theorem tZ75 : zeroCells Try.prog 75 = some [.map none, .map none] := by kernel_rfl
theorem tPl75 : tyPlaces Try.prog 75 = some [(0, 1), (1, 1)] := by kernel_rfl
theorem tS75 : tyS Try.prog 75 2 = true := by kernel_rfl
theorem tA75 : tyA Try.prog 75 2 = true := by kernel_rfl
theorem tF79_0 : tyF Try.prog 79 0 0 = true := by kernel_rfl
theorem tF75_0 : tyF Try.prog 75 0 0 = true := by kernel_rfl
theorem tZo62 : (Try.prog.info? 62).bind (·.zero) = some (.agg #[.string ⟨#[]⟩, .string ⟨#[]⟩, .slice none 0 0, .slice none 0 0]) := by kernel_rfl
theorem tFC62_3 : tyFC Try.prog 62 3 = true := by kernel_rfl
theorem tF75_1 : tyF Try.prog 75 1 1 = true := by kernel_rfl
theorem tSl99 : tySl Try.prog 99 3 = true := by kernel_rfl
theorem tA103 : tyA Try.prog 103 3 = true := by kernel_rfl
theorem tS103 : tyS Try.prog 103 3 = true := by kernel_rfl
theorem tF103_1 : tyF Try.prog 103 1 2 = true := by kernel_rfl
theorem tC96 : tyC Try.prog 96 = true := by kernel_rfl
theorem tSl96 : tySl Try.prog 96 2 = true := by kernel_rfl
theorem tA120 : tyA Try.prog 120 2 = true := by kernel_rfl
theorem tS120 : tyS Try.prog 120 2 = true := by kernel_rfl
theorem tF120_1 : tyF Try.prog 120 1 1 = true := by kernel_rfl
theorem tF120_0 : tyF Try.prog 120 0 0 = true := by kernel_rfl
theorem fOk39 : fnOk Try.prog 39 = true := by kernel_rfl
theorem fOk28 : fnOk Try.prog 28 = true := by kernel_rfl
theorem tFC75_0 : tyFC Try.prog 75 0 = true := by kernel_rfl
theorem fOk17 : fnOk Try.prog 17 = true := by kernel_rfl
theorem fOk5 : fnOk Try.prog 5 = true := by kernel_rfl
theorem tB4 : tyB Try.prog 4 = true := by kernel_rfl
theorem fOk6 : fnOk Try.prog 6 = true := by kernel_rfl
theorem fOk7 : fnOk Try.prog 7 = true := by kernel_rfl
theorem tIsSl42 : tySlice Try.prog 42 = true := by kernel_rfl
theorem fOk8 : fnOk Try.prog 8 = true := by kernel_rfl
theorem fOk10 : fnOk Try.prog 10 = true := by kernel_rfl
def tt : TT := [(3, [.C, .U, .I .i64]), (4, [.C, .S 1, .Fn, .B]), (5, [.Fn]), (6, [.Fn]), (7, [.Fn]), (8, [.Fn]), (9, [.C, .Str, .Fn, .Z 1 [.string ⟨#[]⟩], .S 1]), (13, [.Fn]), (17, [.Fn]), (18, [.Fn]), (19, [.Fn]), (22, [.C, .Sn, .Sl 2]), (23, [.C, .Sn, .Sl 2]), (24, [.C, .Sn, .Sl 4, .Fn]), (25, [.C, .Sn, .Sl 1, .El 9 1 16, .Fn]), (26, [.Fn]), (27, [.S 4, .A 4, .F 0 0, .F 1 1, .F 2 2, .F 3 3, .Fn]), (28, [.Fn]), (29, [.Fn]), (30, [.Fn]), (31, [.Fn]), (32, [.Fn]), (33, [.Fn]), (34, [.Fn]), (35, [.Fn]), (36, [.Fn]), (37, [.Fn]), (38, [.Fn]), (39, [.C, .Fn]), (40, [.Fn]), (41, [.Fn]), (42, [.Fn, .C, .Sl 1, .Sn]), (43, [.Fn, .C]), (44, [.C, .Sn, .Sl 2, .Fn, .S 1]), (45, [.Fn, .C, .El 3 1 8, .Sn, .S 1, .Sl 1]), (46, [.Fn]), (47, [.Z 7 [.pointer none, .slice none 0 0, .slice none 0 0, .map none, .slice none 0 0, .slice none 0 0, .slice none 0 0], .Pl [(0, 1), (1, 1), (2, 1), (3, 1), (4, 1), (5, 1), (6, 1)], .S 7, .F 1 1, .F 6 6, .F 2 2, .F 0 0, .F 4 4, .F 3 3, .Fn]), (48, [.Fn]), (49, [.Fn]), (50, [.C, .Fn]), (51, [.C, .Fn]), (52, [.C, .Fn]), (53, [.Fn]), (54, [.Fn, .Z 9 [.slice none 0 0, .slice none 0 0, .slice none 0 0, .slice none 0 0, .map none, .map none, .map none, .map none, .bool false], .Pl [(0, 4), (4, 1), (5, 1), (6, 1), (7, 1), (8, 1)], .S 9, .F 1 4, .F 2 5, .F 3 6, .F 4 7, .F 0 0, .F 5 8]), (55, [.Fn]), (56, [.Fn]), (57, [.Fn]), (58, [.Fn]), (59, [.A 4, .Z 4 [.int .i64 0, .string ⟨#[]⟩, .string ⟨#[]⟩, .string ⟨#[]⟩], .S 4, .F 0 0, .F 1 1, .F 2 2, .F 3 3, .Fn, .Pl [(0, 1), (1, 1), (2, 1), (3, 1)]]), (60, [.C, .Sn, .Sl 4, .Fn]), (61, [.Fn]), (62, [.A 4, .Z 4 [.string ⟨#[]⟩, .string ⟨#[]⟩, .slice none 0 0, .slice none 0 0], .S 4, .F 0 0, .F 1 1, .F 2 2, .F 3 3, .Fn, .Pl [(0, 1), (1, 1), (2, 1), (3, 1)], .FC 3]), (75, [.Z 2 [.map none, .map none], .Pl [(0, 1), (1, 1)], .S 2, .A 2, .F 0 0, .F 1 1, .FC 0]), (76, [.C]), (77, [.C]), (79, [.Z 6 [.slice none 0 0, .slice none 0 0, .slice none 0 0, .slice none 0 0, .map none, .map none], .Pl [(0, 4), (4, 1), (5, 1)], .S 6, .F 2 5, .F 1 4, .A 6, .F 0 0]), (84, [.A 2, .Z 2 [.string ⟨#[]⟩, .string ⟨#[]⟩], .S 2, .F 0 0, .F 1 1, .Pl [(0, 1), (1, 1)]]), (87, [.C]), (89, [.Z 3 [.map none, .map none, .map none], .Pl [(0, 1), (1, 1), (2, 1)], .S 3, .F 0 0, .F 1 1, .F 2 2, .A 3]), (92, [.Z 8 [.slice none 0 0, .slice none 0 0, .slice none 0 0, .slice none 0 0, .map none, .map none, .map none, .bool false], .Pl [(0, 4), (4, 3), (7, 1)], .S 8, .F 0 0, .A 8, .F 2 7, .F 1 4]), (96, [.El 120 2 32, .Sn, .C, .Sl 2]), (99, [.Sn, .Sl 3]), (101, [.Z 2 [.string ⟨#[]⟩, .int .i64 0], .Pl [(0, 1), (1, 1)]]), (103, [.Z 3 [.string ⟨#[]⟩, .int .i64 0, .slice none 0 0], .Pl [(0, 2), (2, 1)], .A 3, .S 3, .F 1 2]), (105, [.C]), (107, [.Z 4 [.bool false, .map none, .map none, .map none], .Pl [(0, 1), (1, 1), (2, 1), (3, 1)], .S 4, .F 1 1, .F 2 2, .F 3 3, .A 4, .F 0 0]), (110, [.C, .Sn, .Sl 2]), (112, [.A 2, .Z 2 [.string ⟨#[]⟩, .slice none 0 0], .S 2, .F 0 0, .F 1 1]), (114, [.A 2, .Z 2 [.string ⟨#[]⟩, .slice none 0 0], .S 2, .F 0 0, .F 1 1, .Pl [(0, 1), (1, 1)]]), (120, [.Z 2 [.string ⟨#[]⟩, .string ⟨#[]⟩], .Pl [(0, 1), (1, 1)], .A 2, .S 2, .F 1 1, .F 0 0]), (129, [.A 2, .Z 2 [.string ⟨#[]⟩, .string ⟨#[]⟩], .S 2, .F 0 0, .F 1 1]), (133, [.I .u64, .U])]
theorem ok : TTok Try.prog tt := tt_all ⟨⟨tC3, tUn3, tI3, trivial⟩, ⟨tC4, tS4, fOk4, tB4, trivial⟩, ⟨fOk5, trivial⟩, ⟨fOk6, trivial⟩, ⟨fOk7, trivial⟩, ⟨fOk8, trivial⟩, ⟨tC9, tStr9, fOk9, ⟨tZ9, rfl⟩, tS9, trivial⟩, ⟨fOk13, trivial⟩, ⟨fOk17, trivial⟩, ⟨fOk18, trivial⟩, ⟨fOk19, trivial⟩, ⟨tC22, tIsSl22, tSl22, trivial⟩, ⟨tC23, tIsSl23, tSl23, trivial⟩, ⟨tC24, tIsSl24, tSl24, fOk24, trivial⟩, ⟨tC25, tIsSl25, tSl25, tEl25, fOk25, trivial⟩, ⟨fOk26, trivial⟩, ⟨tS27, tA27, tF27_0, tF27_1, tF27_2, tF27_3, fOk27, trivial⟩, ⟨fOk28, trivial⟩, ⟨fOk29, trivial⟩, ⟨fOk30, trivial⟩, ⟨fOk31, trivial⟩, ⟨fOk32, trivial⟩, ⟨fOk33, trivial⟩, ⟨fOk34, trivial⟩, ⟨fOk35, trivial⟩, ⟨fOk36, trivial⟩, ⟨fOk37, trivial⟩, ⟨fOk38, trivial⟩, ⟨tC39, fOk39, trivial⟩, ⟨fOk40, trivial⟩, ⟨fOk41, trivial⟩, ⟨fOk42, tC42, tSl42, tIsSl42, trivial⟩, ⟨fOk43, tC43, trivial⟩, ⟨tC44, tIsSl44, tSl44, fOk44, tS44, trivial⟩, ⟨fOk45, tC45, tEl45, tIsSl45, tS45, tSl45, trivial⟩, ⟨fOk46, trivial⟩, ⟨⟨tZ47, rfl⟩, tPl47, tS47, tF47_1, tF47_6, tF47_2, tF47_0, tF47_4, tF47_3, fOk47, trivial⟩, ⟨fOk48, trivial⟩, ⟨fOk49, trivial⟩, ⟨tC50, fOk50, trivial⟩, ⟨tC51, fOk51, trivial⟩, ⟨tC52, fOk52, trivial⟩, ⟨fOk53, trivial⟩, ⟨fOk54, ⟨tZ54, rfl⟩, tPl54, tS54, tF54_1, tF54_2, tF54_3, tF54_4, tF54_0, tF54_5, trivial⟩, ⟨fOk55, trivial⟩, ⟨fOk56, trivial⟩, ⟨fOk57, trivial⟩, ⟨fOk58, trivial⟩, ⟨tA59, ⟨tZ59, rfl⟩, tS59, tF59_0, tF59_1, tF59_2, tF59_3, fOk59, tPl59, trivial⟩, ⟨tC60, tIsSl60, tSl60, fOk60, trivial⟩, ⟨fOk61, trivial⟩, ⟨tA62, ⟨tZ62, rfl⟩, tS62, tF62_0, tF62_1, tF62_2, tF62_3, fOk62, tPl62, tFC62_3, trivial⟩, ⟨⟨tZ75, rfl⟩, tPl75, tS75, tA75, tF75_0, tF75_1, tFC75_0, trivial⟩, ⟨tC76, trivial⟩, ⟨tC77, trivial⟩, ⟨⟨tZ79, rfl⟩, tPl79, tS79, tF79_2, tF79_1, tA79, tF79_0, trivial⟩, ⟨tA84, ⟨tZ84, rfl⟩, tS84, tF84_0, tF84_1, tPl84, trivial⟩, ⟨tC87, trivial⟩, ⟨⟨tZ89, rfl⟩, tPl89, tS89, tF89_0, tF89_1, tF89_2, tA89, trivial⟩, ⟨⟨tZ92, rfl⟩, tPl92, tS92, tF92_0, tA92, tF92_2, tF92_1, trivial⟩, ⟨tEl96, tIsSl96, tC96, tSl96, trivial⟩, ⟨tIsSl99, tSl99, trivial⟩, ⟨⟨tZ101, rfl⟩, tPl101, trivial⟩, ⟨⟨tZ103, rfl⟩, tPl103, tA103, tS103, tF103_1, trivial⟩, ⟨tC105, trivial⟩, ⟨⟨tZ107, rfl⟩, tPl107, tS107, tF107_1, tF107_2, tF107_3, tA107, tF107_0, trivial⟩, ⟨tC110, tIsSl110, tSl110, trivial⟩, ⟨tA112, ⟨tZ112, rfl⟩, tS112, tF112_0, tF112_1, trivial⟩, ⟨tA114, ⟨tZ114, rfl⟩, tS114, tF114_0, tF114_1, tPl114, trivial⟩, ⟨⟨tZ120, rfl⟩, tPl120, tA120, tS120, tF120_1, tF120_0, trivial⟩, ⟨tA129, ⟨tZ129, rfl⟩, tS129, tF129_0, tF129_1, trivial⟩, ⟨tI133, tUn133, trivial⟩, trivial⟩
instance {N : Nat} {w : World} {m : Mem} {o : Nat → Prop} {p : Nat} {l : Nat → Option (Option (Nat × Cap))} {g : Gl} {h : GlOk g m} : TC ⟨Try.prog, N, w, m, o, p, l, g, h⟩ tt := ⟨ok⟩
end Go.Proofs.Ytcbkgdagiccfmaa
