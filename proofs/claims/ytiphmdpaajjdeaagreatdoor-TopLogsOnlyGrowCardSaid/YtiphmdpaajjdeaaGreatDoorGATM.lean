/- Part of the proof: ATM. -/
import Derived.Test.YtiphmdpaajjdeaaGreatDoorGATT
namespace Go.Proofs.YtiphmdpaajjdeaaGreatDoor
open Go Go.Pv
set_option linter.unusedVariables false
set_option maxRecDepth 100000
noncomputable section
def M14 (F : Nat) : Option Unit :=
  some ()
def M113 (F : Nat) (a1 : Int) : Option (List UInt8) :=
  if (decide (a1 < 10)) = true then if 0 ≤ a1 ∧ 0 ≤ (w64 (a1 + 1)) ∧ a1.toNat ≤ (w64 (a1 + 1)).toNat ∧ (w64 (a1 + 1)).toNat ≤ ([48, 49, 50, 51, 52, 53, 54, 55, 56, 57, 97, 98, 99, 100, 101, 102, 103, 104, 105, 106, 107, 108, 109, 110, 111, 112, 113, 114, 115, 116, 117, 118, 119, 120, 121, 122] : List UInt8).length then some ((([48, 49, 50, 51, 52, 53, 54, 55, 56, 57, 97, 98, 99, 100, 101, 102, 103, 104, 105, 106, 107, 108, 109, 110, 111, 112, 113, 114, 115, 116, 117, 118, 119, 120, 121, 122] : List UInt8).drop a1.toNat).take ((w64 (a1 + 1)).toNat - a1.toNat)) else none
  else if 0 ≤ (w64 (a1 * 2)) ∧ 0 ≤ (w64 ((w64 (a1 * 2)) + 2)) ∧ (w64 (a1 * 2)).toNat ≤ (w64 ((w64 (a1 * 2)) + 2)).toNat ∧ (w64 ((w64 (a1 * 2)) + 2)).toNat ≤ ([48, 48, 48, 49, 48, 50, 48, 51, 48, 52, 48, 53, 48, 54, 48, 55, 48, 56, 48, 57, 49, 48, 49, 49, 49, 50, 49, 51, 49, 52, 49, 53, 49, 54, 49, 55, 49, 56, 49, 57, 50, 48, 50, 49, 50, 50, 50, 51, 50, 52, 50, 53, 50, 54, 50, 55, 50, 56, 50, 57, 51, 48, 51, 49, 51, 50, 51, 51, 51, 52, 51, 53, 51, 54, 51, 55, 51, 56, 51, 57, 52, 48, 52, 49, 52, 50, 52, 51, 52, 52, 52, 53, 52, 54, 52, 55, 52, 56, 52, 57, 53, 48, 53, 49, 53, 50, 53, 51, 53, 52, 53, 53, 53, 54, 53, 55, 53, 56, 53, 57, 54, 48, 54, 49, 54, 50, 54, 51, 54, 52, 54, 53, 54, 54, 54, 55, 54, 56, 54, 57, 55, 48, 55, 49, 55, 50, 55, 51, 55, 52, 55, 53, 55, 54, 55, 55, 55, 56, 55, 57, 56, 48, 56, 49, 56, 50, 56, 51, 56, 52, 56, 53, 56, 54, 56, 55, 56, 56, 56, 57, 57, 48, 57, 49, 57, 50, 57, 51, 57, 52, 57, 53, 57, 54, 57, 55, 57, 56, 57, 57] : List UInt8).length then some ((([48, 48, 48, 49, 48, 50, 48, 51, 48, 52, 48, 53, 48, 54, 48, 55, 48, 56, 48, 57, 49, 48, 49, 49, 49, 50, 49, 51, 49, 52, 49, 53, 49, 54, 49, 55, 49, 56, 49, 57, 50, 48, 50, 49, 50, 50, 50, 51, 50, 52, 50, 53, 50, 54, 50, 55, 50, 56, 50, 57, 51, 48, 51, 49, 51, 50, 51, 51, 51, 52, 51, 53, 51, 54, 51, 55, 51, 56, 51, 57, 52, 48, 52, 49, 52, 50, 52, 51, 52, 52, 52, 53, 52, 54, 52, 55, 52, 56, 52, 57, 53, 48, 53, 49, 53, 50, 53, 51, 53, 52, 53, 53, 53, 54, 53, 55, 53, 56, 53, 57, 54, 48, 54, 49, 54, 50, 54, 51, 54, 52, 54, 53, 54, 54, 54, 55, 54, 56, 54, 57, 55, 48, 55, 49, 55, 50, 55, 51, 55, 52, 55, 53, 55, 54, 55, 55, 55, 56, 55, 57, 56, 48, 56, 49, 56, 50, 56, 51, 56, 52, 56, 53, 56, 54, 56, 55, 56, 56, 56, 57, 57, 48, 57, 49, 57, 50, 57, 51, 57, 52, 57, 53, 57, 54, 57, 55, 57, 56, 57, 57] : List UInt8).drop (w64 (a1 * 2)).toNat).take ((w64 ((w64 (a1 * 2)) + 2)).toNat - (w64 (a1 * 2)).toNat)) else none
def M133 (F : Nat) (a1 : Int) : Option Bool :=
  some ((w64 ((BitVec.ofInt (IntKind.bits .i64) a1 &&& BitVec.ofInt (IntKind.bits .i64) (w64 (a1 - 1))).toNat : Int)) == 0)
def M149 (F : Nat) (a1 : Int) : Option Int :=
  if (a1 == 0) = true then some 64
  else if 0 ≤ (Int.fdiv (IntKind.wrap .u64 ((IntKind.wrap .u64 ((BitVec.ofInt (IntKind.bits .u64) a1 &&& BitVec.ofInt (IntKind.bits .u64) (IntKind.wrap .u64 (0 - a1))).toNat : Int)) * 285870213051353865)) (2 ^ (min (Int.toNat 58) (IntKind.bits .u64)))) ∧ (Int.fdiv (IntKind.wrap .u64 ((IntKind.wrap .u64 ((BitVec.ofInt (IntKind.bits .u64) a1 &&& BitVec.ofInt (IntKind.bits .u64) (IntKind.wrap .u64 (0 - a1))).toNat : Int)) * 285870213051353865)) (2 ^ (min (Int.toNat 58) (IntKind.bits .u64)))).toNat < 64 then some (w64 (tab3 (Int.fdiv (IntKind.wrap .u64 ((IntKind.wrap .u64 ((BitVec.ofInt (IntKind.bits .u64) a1 &&& BitVec.ofInt (IntKind.bits .u64) (IntKind.wrap .u64 (0 - a1))).toNat : Int)) * 285870213051353865)) (2 ^ (min (Int.toNat 58) (IntKind.bits .u64)))).toNat)) else none
def M134 (F : Nat) (a1 : Int) : Option Int :=
  (M149 F a1).bind fun y2 => some y2
def M116_L1 (F : Nat) (a3 : Int) (y18 : Int) (k20 : Int → Int → (Nat → Int) → Option ((List Int) × (List UInt8))) : Nat → Int → Int → (Nat → Int) → Option ((List Int) × (List UInt8))
  | 0, _, _, _ => none
  | n + 1, n27, n28, f29 => if (decide (n27 ≥ (IntKind.wrap .u64 a3))) = true then (idx ([48, 49, 50, 51, 52, 53, 54, 55, 56, 57, 97, 98, 99, 100, 101, 102, 103, 104, 105, 106, 107, 108, 109, 110, 111, 112, 113, 114, 115, 116, 117, 118, 119, 120, 121, 122] : List UInt8) (IntKind.wrap .u64 ((BitVec.ofInt (IntKind.bits .u64) n27 &&& BitVec.ofInt (IntKind.bits .u64) (IntKind.wrap .u64 ((IntKind.wrap .u64 a3) - 1))).toNat : Int))).bind fun c31 => if 0 ≤ (w64 (n28 - 1)) ∧ (w64 (n28 - 1)).toNat < 65 then if 0 ≤ (IntKind.wrap .u64 y18) then M116_L1 F a3 y18 k20 n (Int.fdiv n27 (2 ^ (min (Int.toNat (IntKind.wrap .u64 y18)) (IntKind.bits .u64)))) (w64 (n28 - 1)) (upd f29 (w64 (n28 - 1)).toNat (c31.toNat : Int)) else none else none
  else k20 n27 n28 f29
def M116_L2 (F : Nat) (a3 : Int) (k38 : Int → Int → (Nat → Int) → Option ((List Int) × (List UInt8))) : Nat → Int → Int → (Nat → Int) → Option ((List Int) × (List UInt8))
  | 0, _, _, _ => none
  | n + 1, n45, n46, f47 => if (decide (n45 ≥ (IntKind.wrap .u64 a3))) = true then if (IntKind.wrap .u64 a3) ≠ 0 then (idx ([48, 49, 50, 51, 52, 53, 54, 55, 56, 57, 97, 98, 99, 100, 101, 102, 103, 104, 105, 106, 107, 108, 109, 110, 111, 112, 113, 114, 115, 116, 117, 118, 119, 120, 121, 122] : List UInt8) (IntKind.wrap .u64 (n45 - (IntKind.wrap .u64 ((IntKind.wrap .u64 (Int.tdiv n45 (IntKind.wrap .u64 a3))) * (IntKind.wrap .u64 a3)))))).bind fun c50 => if 0 ≤ (w64 (n46 - 1)) ∧ (w64 (n46 - 1)).toNat < 65 then M116_L2 F a3 k38 n (IntKind.wrap .u64 (Int.tdiv n45 (IntKind.wrap .u64 a3))) (w64 (n46 - 1)) (upd f47 (w64 (n46 - 1)).toNat (c50.toNat : Int)) else none else none
  else k38 n45 n46 f47
def M116 (F : Nat) (a1 : (List Int)) (a2 : Int) (a3 : Int) (a4 : Bool) (a5 : Bool) : Option ((List Int) × (List UInt8)) :=
  if (decide (a3 < 2)) = true then none
  else if (a3 == 10) = true then none
  else if (decide (a3 > 36)) = true then none
  else jn (fun (n10 : Int) => (M133 F a3).bind fun y12 => jn (fun (n15 : Int) (f16 : Nat → Int) => jn (fun (n57 : Int) (f58 : Nat → Int) => if a5 = true then none
  else if 0 ≤ n57 ∧ n57.toNat ≤ 65 then some (([] : List Int), ((((List.range 65).map f58).drop n57.toNat).map fun n => UInt8.ofNat n.toNat)) else none) (fun k56 => if a4 = true then if 0 ≤ (w64 (n15 - 1)) ∧ (w64 (n15 - 1)).toNat < 65 then k56 (w64 (n15 - 1)) (upd f16 (w64 (n15 - 1)).toNat 45) else none
  else k56 n15 f16)) (fun k14 => if y12 = true then (M134 F (IntKind.wrap .u64 a3)).bind fun y18 => jn (fun (n21 : Int) (n22 : Int) (f23 : Nat → Int) => (idx ([48, 49, 50, 51, 52, 53, 54, 55, 56, 57, 97, 98, 99, 100, 101, 102, 103, 104, 105, 106, 107, 108, 109, 110, 111, 112, 113, 114, 115, 116, 117, 118, 119, 120, 121, 122] : List UInt8) n21).bind fun c35 => if 0 ≤ (w64 (n22 - 1)) ∧ (w64 (n22 - 1)).toNat < 65 then k14 (w64 (n22 - 1)) (upd f23 (w64 (n22 - 1)).toNat (c35.toNat : Int)) else none) (fun k20 => M116_L1 F a3 y18 k20 F n10 65 (fun _ => 0))
  else jn (fun (n39 : Int) (n40 : Int) (f41 : Nat → Int) => (idx ([48, 49, 50, 51, 52, 53, 54, 55, 56, 57, 97, 98, 99, 100, 101, 102, 103, 104, 105, 106, 107, 108, 109, 110, 111, 112, 113, 114, 115, 116, 117, 118, 119, 120, 121, 122] : List UInt8) n39).bind fun c53 => if 0 ≤ (w64 (n40 - 1)) ∧ (w64 (n40 - 1)).toNat < 65 then k14 (w64 (n40 - 1)) (upd f41 (w64 (n40 - 1)).toNat (c53.toNat : Int)) else none) (fun k38 => M116_L2 F a3 k38 F n10 65 (fun _ => 0)))) (fun k9 => if a4 = true then k9 (IntKind.wrap .u64 (0 - a2))
  else k9 a2)
def M100 (F : Nat) (a1 : Int) (a2 : Int) : Option (List UInt8) :=
  if (a2 == 10) = true then if (decide (a1 < 100)) = true then (M113 F (w64 a1)).bind fun y5 => some y5
  else none
  else (M116 F ([] : List Int) a1 a2 false false).bind fun y9 => some (y9.2)
def M88 (F : Nat) (a1 : Int) (a2 : Int) : Option (List UInt8) :=
  (M100 F a1 a2).bind fun y3 => some y3
def M89 (F : Nat) (a1 : (List UInt8)) (a2 : Int) : Option (List UInt8) := if 0 ≤ a2 ∧ a2 ≤ 9223372036854775807 ∧ a1.length * a2.toNat ≤ 140737488355328 then some (Lib.repeatL a1 a2.toNat) else none
def M68_L1 (F : Nat) (a1 : (List UInt8)) (k2 : Int → Option (List UInt8)) : Nat → Int → Int → Option (List UInt8)
  | 0, n7, n6 => k2 n6
  | tl1 + 1, n7, n6 => (idx a1 n7).bind fun c9 => M68_L1 F a1 k2 tl1 (n7 + 1) (IntKind.wrap .u64 ((IntKind.wrap .u64 ((BitVec.ofInt (IntKind.bits .u64) n6 ^^^ BitVec.ofInt (IntKind.bits .u64) (IntKind.wrap .u64 (c9.toNat : Int))).toNat : Int)) * 1099511628211))
def M68 (F : Nat) (a1 : (List UInt8)) : Option (List UInt8) :=
  jn (fun (n3 : Int) => (M88 F n3 16).bind fun y12 => (M89 F ([48] : List UInt8) (w64 (16 - (y12.length : Int)))).bind fun y14 => if y14.length + y12.length ≤ 9223372036854775807 then some (y14 ++ y12) else none) (fun k2 => if (a1.length : Int) ≤ 9223372036854775807 then M68_L1 F a1 k2 (((a1.length : Int) : Int).toNat) 0 14695981039346656037 else none)
def M39 (F : Nat) (a1 : (List UInt8)) : Option (List UInt8) :=
  if ([0] : List UInt8).length + a1.length ≤ 9223372036854775807 then (M68 F (([0] : List UInt8) ++ a1)).bind fun y3 => some y3 else none
def M15 (F : Nat) (a1 : (List UInt8)) (a2 : List (List UInt8)) : Option (Int × Int × (List (List UInt8))) :=
  if (decide ((a1.length : Int) > 1000000)) = true then some (0, 3, a2)
  else if (decide (((a2.length : Nat) : Int) ≥ 4096)) = true then some (0, 3, a2)
  else (M39 F a1).bind fun y13 => if (a2 ++ ([y13] : List (List UInt8))).length * 16 ≤ 140737488355328 then some ((w64 ((((a2 ++ ([y13] : List (List UInt8))).length : Nat) : Int) - 1)), 0, (a2 ++ ([y13] : List (List UInt8)))) else none
def M7 (F : Nat) : Option Bool := some true
def M16 (F : Nat) (a1 : List (List UInt8)) : Option Unit :=
  some ()
def M69_L1 (F : Nat) (a1 : Int) (k2 : Int → Option Int) : Nat → Int → Option Int
  | 0, _ => none
  | n + 1, n5 => if (decide ((w64 (2 * n5)) < a1)) = true then M69_L1 F a1 k2 n (w64 (n5 * 2))
  else k2 n5
def M69 (F : Nat) (a1 : Int) : Option Int :=
  jn (fun (n3 : Int) => some n3) (fun k2 => M69_L1 F a1 k2 F 1)
def M70 (F : Nat) (a1 : (List UInt8)) (a2 : (List UInt8)) : Option (List UInt8) :=
  if ([1] : List UInt8).length + a1.length ≤ 9223372036854775807 then if (([1] : List UInt8) ++ a1).length + a2.length ≤ 9223372036854775807 then (M68 F ((([1] : List UInt8) ++ a1) ++ a2)).bind fun y5 => some y5 else none else none
def M40_B (R40 : (List (List UInt8)) → Option (List UInt8)) (F : Nat) (a1 : (List (List UInt8))) : Option (List UInt8) :=
  if (((a1.length : Nat) : Int) == 0) = true then (M68 F ([] : List UInt8)).bind fun y3 => some y3
  else if (((a1.length : Nat) : Int) == 1) = true then (idx a1 0).bind fun x6 => some x6
  else (M69 F ((a1.length : Nat) : Int)).bind fun y8 => if 0 ≤ y8 ∧ y8.toNat ≤ a1.length then (R40 (a1.take y8.toNat)).bind fun y11 => if 0 ≤ y8 ∧ y8.toNat ≤ a1.length then (R40 (a1.drop y8.toNat)).bind fun y14 => (M70 F y11 y14).bind fun y16 => some y16 else none else none
def M40 : Nat → (List (List UInt8)) → Option (List UInt8)
  | 0, _ => none
  | F + 1, a1 => M40_B (M40 F) F a1
def M17 (F : Nat) (a1 : Int) (a2 : List (List UInt8)) : Option ((List UInt8) × Int) :=
  if (decide (a1 < 0)) = true then some (([] : List UInt8), 9)
  else if (decide (a1 > ((a2.length : Nat) : Int))) = true then some (([] : List UInt8), 9)
  else if 0 ≤ a1 ∧ a1.toNat ≤ a2.length then (M40 F (a2.take a1.toNat)).bind fun y13 => some (y13, 0) else none
def M18 (F : Nat) (a1 : (List UInt8)) : Option ((List UInt8) × Int) :=
  if (decide ((a1.length : Int) > 1000000)) = true then some (([] : List UInt8), 3)
  else (M39 F a1).bind fun y3 => some (y3, 0)
def M73_L1 (F : Nat) (a1 : (List UInt8)) (k3 : (Nat → Int) → Option ((Nat → Int) × Bool)) : Nat → Int → (Nat → Int) → Option ((Nat → Int) × Bool)
  | 0, n7, f8 => k3 f8
  | tl1 + 1, n7, f8 => jn (fun (f11 : Nat → Int) => M73_L1 F a1 k3 tl1 (n7 + 1) f11) (fun k10 => (idx a1 n7).bind fun c12 => if (decide ((c12.toNat : Int) ≥ 48)) = true then if (decide ((c12.toNat : Int) ≤ 57)) = true then if (!true) = true then some (f8, false)
 else if 0 ≤ n7 ∧ n7.toNat < 16 then k10 (upd f8 n7.toNat (c12.toNat : Int)) else none
 else if (decide ((c12.toNat : Int) ≥ 97)) = true then if (!(decide ((c12.toNat : Int) ≤ 102))) = true then some (f8, false)
 else if 0 ≤ n7 ∧ n7.toNat < 16 then k10 (upd f8 n7.toNat (c12.toNat : Int)) else none
 else if (!false) = true then some (f8, false)
 else if 0 ≤ n7 ∧ n7.toNat < 16 then k10 (upd f8 n7.toNat (c12.toNat : Int)) else none
 else if (decide ((c12.toNat : Int) ≥ 97)) = true then if (!(decide ((c12.toNat : Int) ≤ 102))) = true then some (f8, false)
 else if 0 ≤ n7 ∧ n7.toNat < 16 then k10 (upd f8 n7.toNat (c12.toNat : Int)) else none
 else if (!false) = true then some (f8, false)
 else if 0 ≤ n7 ∧ n7.toNat < 16 then k10 (upd f8 n7.toNat (c12.toNat : Int)) else none)
def M73 (F : Nat) (a1 : (List UInt8)) : Option ((Nat → Int) × Bool) :=
  if ((a1.length : Int) != 16) = true then some ((arrOf 0 [0, 0, 0, 0, 0, 0, 0, 0, 0, 0, 0, 0, 0, 0, 0, 0]), false)
  else jn (fun (f4 : Nat → Int) => some (f4, true)) (fun k3 => if (a1.length : Int) ≤ 9223372036854775807 then M73_L1 F a1 k3 (((a1.length : Int) : Int).toNat) 0 (fun _ => 0) else none)
def M43 (F : Nat) (a1 : (List UInt8)) : Option Bool :=
  (M73 F a1).bind fun y2 => some (y2.2)
def M44_L1 (F : Nat) (k4 : Option Int) : List (List UInt8) → Option Int
  | [] => k4
  | x8 :: tl1 => (M43 F x8).bind fun y10 => if (!y10) = true then some 2
 else M44_L1 F k4 tl1
def M44 (F : Nat) (a1 : (List (List UInt8))) (a2 : Int) : Option Int :=
  if (decide (((a1.length : Nat) : Int) > a2)) = true then some 3
  else jn (some 0) (fun k4 => M44_L1 F k4 a1)
def M71_B (R71 : (List (List UInt8)) → Int → Option (List (List UInt8))) (F : Nat) (a1 : (List (List UInt8))) (a2 : Int) : Option (List (List UInt8)) :=
  if (((a1.length : Nat) : Int) == 1) = true then some ([] : List (List UInt8))
  else (M69 F ((a1.length : Nat) : Int)).bind fun y23 => if (decide (a2 < y23)) = true then if 0 ≤ y23 ∧ y23.toNat ≤ a1.length then (R71 (a1.take y23.toNat) a2).bind fun y27 => if 0 ≤ y23 ∧ y23.toNat ≤ a1.length then (M40 F (a1.drop y23.toNat)).bind fun y30 => if (y27 ++ ([y30] : List (List UInt8))).length * 16 ≤ 140737488355328 then some (y27 ++ ([y30] : List (List UInt8))) else none else none else none
  else if 0 ≤ y23 ∧ y23.toNat ≤ a1.length then (R71 (a1.drop y23.toNat) (w64 (a2 - y23))).bind fun y34 => if 0 ≤ y23 ∧ y23.toNat ≤ a1.length then (M40 F (a1.take y23.toNat)).bind fun y37 => if (y34 ++ ([y37] : List (List UInt8))).length * 16 ≤ 140737488355328 then some (y34 ++ ([y37] : List (List UInt8))) else none else none else none
def M71 : Nat → (List (List UInt8)) → Int → Option (List (List UInt8))
  | 0, _, _ => none
  | F + 1, a1, a2 => M71_B (M71 F) F a1 a2
def M41 (F : Nat) (a1 : (List (List UInt8))) (a2 : Int) (a3 : Int) : Option (Int × (List (List UInt8))) :=
  (M44 F a1 4096).bind fun y16 => if (y16 != 0) = true then some (y16, ([] : List (List UInt8)))
  else if (decide (a3 < 1)) = true then some (9, ([] : List (List UInt8)))
  else if (decide (a3 > ((a1.length : Nat) : Int))) = true then some (9, ([] : List (List UInt8)))
  else if (decide (a2 < 0)) = true then some (9, ([] : List (List UInt8)))
  else if (decide (a2 ≥ a3)) = true then some (9, ([] : List (List UInt8)))
  else if 0 ≤ a3 ∧ a3.toNat ≤ a1.length then (M71 F (a1.take a3.toNat) a2).bind fun y24 => some (0, y24) else none
def M19 (F : Nat) (a1 : Int) (a2 : Int) (a3 : List (List UInt8)) : Option (Int × (List (List UInt8))) :=
  (M41 F a3 a1 a2).bind fun y8 => some ((y8.1), (y8.2))
def M72_B (R72 : (List (List UInt8)) → Int → Bool → Option (List (List UInt8))) (F : Nat) (a1 : (List (List UInt8))) (a2 : Int) (a3 : Bool) : Option (List (List UInt8)) :=
  if (a2 == ((a1.length : Nat) : Int)) = true then if a3 = true then some ([] : List (List UInt8))
  else (M40 F a1).bind fun y28 => some ([y28] : List (List UInt8))
  else (M69 F ((a1.length : Nat) : Int)).bind fun y30 => if (decide (a2 ≤ y30)) = true then if 0 ≤ y30 ∧ y30.toNat ≤ a1.length then (R72 (a1.take y30.toNat) a2 a3).bind fun y34 => if 0 ≤ y30 ∧ y30.toNat ≤ a1.length then (M40 F (a1.drop y30.toNat)).bind fun y37 => if (y34 ++ ([y37] : List (List UInt8))).length * 16 ≤ 140737488355328 then some (y34 ++ ([y37] : List (List UInt8))) else none else none else none
  else if 0 ≤ y30 ∧ y30.toNat ≤ a1.length then (R72 (a1.drop y30.toNat) (w64 (a2 - y30)) false).bind fun y41 => if 0 ≤ y30 ∧ y30.toNat ≤ a1.length then (M40 F (a1.take y30.toNat)).bind fun y44 => if (y41 ++ ([y44] : List (List UInt8))).length * 16 ≤ 140737488355328 then some (y41 ++ ([y44] : List (List UInt8))) else none else none else none
def M72 : Nat → (List (List UInt8)) → Int → Bool → Option (List (List UInt8))
  | 0, _, _, _ => none
  | F + 1, a1, a2, a3 => M72_B (M72 F) F a1 a2 a3
def M42 (F : Nat) (a1 : (List (List UInt8))) (a2 : Int) (a3 : Int) : Option (Int × (List (List UInt8))) :=
  (M44 F a1 4096).bind fun y16 => if (y16 != 0) = true then some (y16, ([] : List (List UInt8)))
  else if (decide (a3 < 1)) = true then some (9, ([] : List (List UInt8)))
  else if (decide (a3 > ((a1.length : Nat) : Int))) = true then some (9, ([] : List (List UInt8)))
  else if (decide (a2 < 1)) = true then some (9, ([] : List (List UInt8)))
  else if (decide (a2 > a3)) = true then some (9, ([] : List (List UInt8)))
  else if 0 ≤ a3 ∧ a3.toNat ≤ a1.length then (M72 F (a1.take a3.toNat) a2 true).bind fun y24 => some (0, y24) else none
def M20 (F : Nat) (a1 : Int) (a2 : Int) (a3 : List (List UInt8)) : Option (Int × (List (List UInt8))) :=
  (M42 F a3 a1 a2).bind fun y8 => some ((y8.1), (y8.2))
def M45_B (R45 : (List UInt8) → Int → Int → (List (List UInt8)) → Option ((List UInt8) × Bool)) (F : Nat) (a1 : (List UInt8)) (a2 : Int) (a3 : Int) (a4 : (List (List UInt8))) : Option ((List UInt8) × Bool) :=
  if (a3 == 1) = true then some (a1, (decide ((w64 (((a4.length : Nat) : Int) - 1)) < 0)))
  else if (decide ((w64 (((a4.length : Nat) : Int) - 1)) < 0)) = true then some (a1, false)
  else (M69 F a3).bind fun y7 => if (decide (a2 < y7)) = true then if 0 ≤ (w64 (((a4.length : Nat) : Int) - 1)) ∧ (w64 (((a4.length : Nat) : Int) - 1)).toNat ≤ a4.length then (R45 a1 a2 y7 (a4.take (w64 (((a4.length : Nat) : Int) - 1)).toNat)).bind fun y11 => (idx a4 (w64 (((a4.length : Nat) : Int) - 1))).bind fun x13 => (M70 F (y11.1) x13).bind fun y15 => some (y15, (y11.2)) else none
  else if 0 ≤ (w64 (((a4.length : Nat) : Int) - 1)) ∧ (w64 (((a4.length : Nat) : Int) - 1)).toNat ≤ a4.length then (R45 a1 (w64 (a2 - y7)) (w64 (a3 - y7)) (a4.take (w64 (((a4.length : Nat) : Int) - 1)).toNat)).bind fun y18 => (idx a4 (w64 (((a4.length : Nat) : Int) - 1))).bind fun x20 => (M70 F x20 (y18.1)).bind fun y22 => some (y22, (y18.2)) else none
def M45 : Nat → (List UInt8) → Int → Int → (List (List UInt8)) → Option ((List UInt8) × Bool)
  | 0, _, _, _, _ => none
  | F + 1, a1, a2, a3, a4 => M45_B (M45 F) F a1 a2 a3 a4
def M46 (F : Nat) (a1 : (List UInt8)) (a2 : (List UInt8)) : Option Bool :=
  (M73 F a1).bind fun y3 => (M73 F a2).bind fun y5 => if (y3.2) = true then if (y5.2) = true then if (((List.range 16).map (y3.1)).all byteI) = true ∧ (((List.range 16).map (y5.1)).all byteI) = true then some (((List.range 16).map (y3.1)) == ((List.range 16).map (y5.1))) else none
  else some false
  else some false
def M21 (F : Nat) (a1 : (List UInt8)) (a2 : (List UInt8)) (a3 : Int) (a4 : Int) (a5 : (List (List UInt8))) : Option (Bool × Int) :=
  (M43 F a1).bind fun y6 => if (!y6) = true then some (false, 2)
  else (M43 F a2).bind fun y9 => if (!y9) = true then some (false, 2)
  else if (decide (a4 < 1)) = true then some (false, 9)
  else if (decide (a4 > 1073741824)) = true then some (false, 9)
  else if (decide (a3 < 0)) = true then some (false, 9)
  else if (decide (a3 ≥ a4)) = true then some (false, 9)
  else (M44 F a5 64).bind fun y16 => if (y16 != 0) = true then some (false, y16)
  else (M45 F a2 a3 a4 a5).bind fun y19 => if (y19.2) = true then (M46 F (y19.1) a1).bind fun y22 => some (y22, 0)
  else some (false, 0)
def M47_B (R47 : (List UInt8) → Int → Int → Bool → (List (List UInt8)) → Option ((List UInt8) × (List UInt8) × Bool)) (F : Nat) (a1 : (List UInt8)) (a2 : Int) (a3 : Int) (a4 : Bool) (a5 : (List (List UInt8))) : Option ((List UInt8) × (List UInt8) × Bool) :=
  if (a2 == a3) = true then if a4 = true then some (a1, a1, (decide ((w64 (((a5.length : Nat) : Int) - 1)) < 0)))
  else if ((w64 (((a5.length : Nat) : Int) - 1)) == 0) = true then (idx a5 0).bind fun x9 => (idx a5 0).bind fun x11 => some (x9, x11, true)
  else some (([] : List UInt8), ([] : List UInt8), false)
  else if (decide ((w64 (((a5.length : Nat) : Int) - 1)) < 0)) = true then some (([] : List UInt8), ([] : List UInt8), false)
  else (M69 F a3).bind fun y14 => if (decide (a2 ≤ y14)) = true then if 0 ≤ (w64 (((a5.length : Nat) : Int) - 1)) ∧ (w64 (((a5.length : Nat) : Int) - 1)).toNat ≤ a5.length then (R47 a1 a2 y14 a4 (a5.take (w64 (((a5.length : Nat) : Int) - 1)).toNat)).bind fun y18 => (idx a5 (w64 (((a5.length : Nat) : Int) - 1))).bind fun x20 => (M70 F (y18.2.1) x20).bind fun y22 => some ((y18.1), y22, (y18.2.2)) else none
  else if 0 ≤ (w64 (((a5.length : Nat) : Int) - 1)) ∧ (w64 (((a5.length : Nat) : Int) - 1)).toNat ≤ a5.length then (R47 a1 (w64 (a2 - y14)) (w64 (a3 - y14)) false (a5.take (w64 (((a5.length : Nat) : Int) - 1)).toNat)).bind fun y25 => (idx a5 (w64 (((a5.length : Nat) : Int) - 1))).bind fun x27 => (M70 F x27 (y25.1)).bind fun y29 => (idx a5 (w64 (((a5.length : Nat) : Int) - 1))).bind fun x31 => (M70 F x31 (y25.2.1)).bind fun y33 => some (y29, y33, (y25.2.2)) else none
def M47 : Nat → (List UInt8) → Int → Int → Bool → (List (List UInt8)) → Option ((List UInt8) × (List UInt8) × Bool)
  | 0, _, _, _, _, _ => none
  | F + 1, a1, a2, a3, a4, a5 => M47_B (M47 F) F a1 a2 a3 a4 a5
def M22 (F : Nat) (a1 : (List UInt8)) (a2 : (List UInt8)) (a3 : Int) (a4 : Int) (a5 : (List (List UInt8))) : Option (Bool × Int) :=
  (M43 F a1).bind fun y6 => if (!y6) = true then some (false, 2)
  else (M43 F a2).bind fun y9 => if (!y9) = true then some (false, 2)
  else if (decide (a4 < 1)) = true then some (false, 9)
  else if (decide (a4 > 1073741824)) = true then some (false, 9)
  else if (decide (a3 < 1)) = true then some (false, 9)
  else if (decide (a3 > a4)) = true then some (false, 9)
  else (M44 F a5 64).bind fun y16 => if (y16 != 0) = true then some (false, y16)
  else (M47 F a1 a3 a4 true a5).bind fun y19 => if (y19.2.2) = true then (M46 F (y19.1) a1).bind fun y22 => if y22 = true then (M46 F (y19.2.1) a2).bind fun y25 => some (y25, 0)
  else some (false, 0)
  else some (false, 0)
def M74_L1 (F : Nat) (a1 : (List UInt8)) (k3 : Option Bool) : Nat → Int → Option Bool
  | 0, n5 => k3
  | tl1 + 1, n5 => jn (M74_L1 F a1 k3 tl1 (n5 + 1)) (fun k7 => (idx a1 n5).bind fun c8 => if (decide ((c8.toNat : Int) ≥ 48)) = true then (idx a1 n5).bind fun c11 => if (decide ((c11.toNat : Int) ≤ 57)) = true then if (!true) = true then some false
 else k7
 else (idx a1 n5).bind fun c15 => if (decide ((c15.toNat : Int) ≥ 97)) = true then (idx a1 n5).bind fun c18 => if (!(decide ((c18.toNat : Int) ≤ 102))) = true then some false
 else k7
 else if (!false) = true then some false
 else k7
 else (idx a1 n5).bind fun c22 => if (decide ((c22.toNat : Int) ≥ 97)) = true then (idx a1 n5).bind fun c25 => if (!(decide ((c25.toNat : Int) ≤ 102))) = true then some false
 else k7
 else if (!false) = true then some false
 else k7)
def M74 (F : Nat) (a1 : (List UInt8)) (a2 : Int) : Option Bool :=
  jn (some ((a1.length : Int) == a2)) (fun k3 => if (a1.length : Int) ≤ 9223372036854775807 then M74_L1 F a1 k3 (((a1.length : Int) : Int).toNat) 0 else none)
def M48 (F : Nat) (a1 : (List UInt8)) : Option Bool :=
  (M74 F a1 16).bind fun y2 => some y2
def M49_L1 (F : Nat) (k8 : Option Int) : List (List UInt8) → Option Int
  | [] => k8
  | x12 :: tl1 => (M48 F x12).bind fun y14 => if (!y14) = true then some 2
 else M49_L1 F k8 tl1
def M49 (F : Nat) (a1 : Int) (a2 : Bool) (a3 : (List (List UInt8))) : Option Int :=
  if (decide (a1 < 1)) = true then some 9
  else if (decide (a1 > 1073741824)) = true then some 9
  else if (!a2) = true then some 9
  else if (decide (((a3.length : Nat) : Int) > 64)) = true then some 3
  else jn (some 0) (fun k8 => M49_L1 F k8 a3)
def M75_L1 (F : Nat) (a1 : Int) (k2 : Int → Option Int) : Nat → Int → Option Int
  | 0, _ => none
  | n + 1, n5 => if (decide ((w64 (2 * n5)) < a1)) = true then M75_L1 F a1 k2 n (w64 (n5 * 2))
  else k2 n5
def M75 (F : Nat) (a1 : Int) : Option Int :=
  jn (fun (n3 : Int) => some n3) (fun k2 => M75_L1 F a1 k2 F 1)
def M90_L2 (F : Nat) (n3 : Int) (k12 : (List Int) → Option (List UInt8)) : Nat → Int → (List Int) → Option (List UInt8)
  | 0, _, _ => none
  | n + 1, n16, l17 => if (decide (n16 ≥ 0)) = true then if 0 ≤ n16 then (idx ([48, 49, 50, 51, 52, 53, 54, 55, 56, 57, 97, 98, 99, 100, 101, 102] : List UInt8) (IntKind.wrap .u64 ((BitVec.ofInt (IntKind.bits .u64) (Int.fdiv n3 (2 ^ (min (Int.toNat n16) (IntKind.bits .u64)))) &&& BitVec.ofInt (IntKind.bits .u64) 15).toNat : Int))).bind fun c20 => if (l17 ++ ([(c20.toNat : Int)] : List Int)).length * 1 ≤ 140737488355328 then M90_L2 F n3 k12 n (w64 (n16 - 4)) (l17 ++ ([(c20.toNat : Int)] : List Int)) else none else none
  else k12 l17
def M90_L1 (F : Nat) (a1 : (List UInt8)) (k2 : Int → Option (List UInt8)) : Nat → Int → Int → Option (List UInt8)
  | 0, n7, n6 => k2 n6
  | tl1 + 1, n7, n6 => (idx a1 n7).bind fun c9 => M90_L1 F a1 k2 tl1 (n7 + 1) (IntKind.wrap .u64 ((IntKind.wrap .u64 ((BitVec.ofInt (IntKind.bits .u64) n6 ^^^ BitVec.ofInt (IntKind.bits .u64) (IntKind.wrap .u64 (c9.toNat : Int))).toNat : Int)) * 1099511628211))
def M90 (F : Nat) (a1 : (List UInt8)) : Option (List UInt8) :=
  jn (fun (n3 : Int) => jn (fun (l13 : List Int) => some (l13.map fun n => UInt8.ofNat n.toNat)) (fun k12 => M90_L2 F n3 k12 F 60 ([] : List Int))) (fun k2 => if (a1.length : Int) ≤ 9223372036854775807 then M90_L1 F a1 k2 (((a1.length : Int) : Int).toNat) 0 14695981039346656037 else none)
def M76 (F : Nat) (a1 : (List UInt8)) (a2 : (List UInt8)) : Option (List UInt8) :=
  if ([1] : List UInt8).length + a1.length ≤ 9223372036854775807 then if (([1] : List UInt8) ++ a1).length + a2.length ≤ 9223372036854775807 then (M90 F ((([1] : List UInt8) ++ a1) ++ a2)).bind fun y5 => some y5 else none else none
def M50_B (R50 : (List UInt8) → Int → Int → Bool → (List (List UInt8)) → Option ((List UInt8) × (List UInt8) × Bool)) (F : Nat) (a1 : (List UInt8)) (a2 : Int) (a3 : Int) (a4 : Bool) (a5 : (List (List UInt8))) : Option ((List UInt8) × (List UInt8) × Bool) :=
  if (a2 == a3) = true then if a4 = true then some (a1, a1, (((a5.length : Nat) : Int) == 0))
  else if (((a5.length : Nat) : Int) != 1) = true then some (([] : List UInt8), ([] : List UInt8), false)
  else (idx a5 0).bind fun x9 => (idx a5 0).bind fun x11 => some (x9, x11, true)
  else if (((a5.length : Nat) : Int) == 0) = true then some (([] : List UInt8), ([] : List UInt8), false)
  else (idx a5 (w64 (((a5.length : Nat) : Int) - 1))).bind fun x14 => if 0 ≤ (w64 (((a5.length : Nat) : Int) - 1)) ∧ (w64 (((a5.length : Nat) : Int) - 1)).toNat ≤ a5.length then (M75 F a3).bind fun y17 => if (decide (a2 ≤ y17)) = true then (R50 a1 a2 y17 a4 (a5.take (w64 (((a5.length : Nat) : Int) - 1)).toNat)).bind fun y20 => (M76 F (y20.2.1) x14).bind fun y22 => some ((y20.1), y22, (y20.2.2))
  else (R50 a1 (w64 (a2 - y17)) (w64 (a3 - y17)) false (a5.take (w64 (((a5.length : Nat) : Int) - 1)).toNat)).bind fun y24 => (M76 F x14 (y24.1)).bind fun y26 => (M76 F x14 (y24.2.1)).bind fun y28 => some (y26, y28, (y24.2.2)) else none
def M50 : Nat → (List UInt8) → Int → Int → Bool → (List (List UInt8)) → Option ((List UInt8) × (List UInt8) × Bool)
  | 0, _, _, _, _, _ => none
  | F + 1, a1, a2, a3, a4, a5 => M50_B (M50 F) F a1 a2 a3 a4 a5
def M23 (F : Nat) (a1 : (List UInt8)) (a2 : (List UInt8)) (a3 : Int) (a4 : Int) (a5 : (List (List UInt8))) : Option (Bool × Int) :=
  (M48 F a1).bind fun y6 => if (!y6) = true then some (false, 2)
  else (M48 F a2).bind fun y9 => if (!y9) = true then some (false, 2)
  else if (decide (a3 ≥ 1)) = true then (M49 F a4 (decide (a3 ≤ a4)) a5).bind fun y13 => if (y13 != 0) = true then some (false, y13)
  else (M50 F a1 a3 a4 true a5).bind fun y16 => if (y16.2.2) = true then if ((y16.1) == a1) = true then some (((y16.2.1) == a2), 0)
  else some (false, 0)
  else some (false, 0)
  else (M49 F a4 false a5).bind fun y20 => if (y20 != 0) = true then some (false, y20)
  else (M50 F a1 a3 a4 true a5).bind fun y23 => if (y23.2.2) = true then if ((y23.1) == a1) = true then some (((y23.2.1) == a2), 0)
  else some (false, 0)
  else some (false, 0)
def M51_B (R51 : (List UInt8) → Int → Int → (List (List UInt8)) → Option ((List UInt8) × Bool)) (F : Nat) (a1 : (List UInt8)) (a2 : Int) (a3 : Int) (a4 : (List (List UInt8))) : Option ((List UInt8) × Bool) :=
  if (a3 == 1) = true then some (a1, (((a4.length : Nat) : Int) == 0))
  else if (((a4.length : Nat) : Int) == 0) = true then some (([] : List UInt8), false)
  else (idx a4 (w64 (((a4.length : Nat) : Int) - 1))).bind fun x7 => if 0 ≤ (w64 (((a4.length : Nat) : Int) - 1)) ∧ (w64 (((a4.length : Nat) : Int) - 1)).toNat ≤ a4.length then (M75 F a3).bind fun y10 => if (decide (a2 < y10)) = true then (R51 a1 a2 y10 (a4.take (w64 (((a4.length : Nat) : Int) - 1)).toNat)).bind fun y13 => (M76 F (y13.1) x7).bind fun y15 => some (y15, (y13.2))
  else (R51 a1 (w64 (a2 - y10)) (w64 (a3 - y10)) (a4.take (w64 (((a4.length : Nat) : Int) - 1)).toNat)).bind fun y17 => (M76 F x7 (y17.1)).bind fun y19 => some (y19, (y17.2)) else none
def M51 : Nat → (List UInt8) → Int → Int → (List (List UInt8)) → Option ((List UInt8) × Bool)
  | 0, _, _, _, _ => none
  | F + 1, a1, a2, a3, a4 => M51_B (M51 F) F a1 a2 a3 a4
def M24 (F : Nat) (a1 : (List UInt8)) (a2 : (List UInt8)) (a3 : Int) (a4 : Int) (a5 : (List (List UInt8))) : Option (Bool × Int) :=
  (M48 F a1).bind fun y6 => if (!y6) = true then some (false, 2)
  else (M48 F a2).bind fun y9 => if (!y9) = true then some (false, 2)
  else if (decide (a3 ≥ 0)) = true then (M49 F a4 (decide (a3 < a4)) a5).bind fun y13 => if (y13 != 0) = true then some (false, y13)
  else (M51 F a2 a3 a4 a5).bind fun y16 => if (y16.2) = true then some (((y16.1) == a1), 0)
  else some (false, 0)
  else (M49 F a4 false a5).bind fun y19 => if (y19 != 0) = true then some (false, y19)
  else (M51 F a2 a3 a4 a5).bind fun y22 => if (y22.2) = true then some (((y22.1) == a1), 0)
  else some (false, 0)
def M4_L1 (F : Nat) (a1 : (List (List UInt8))) (a2 : Int) (a3 : (List UInt8)) (k10 : (List (List UInt8)) → (List (List UInt8)) → Option Bool) : List (List UInt8) → Int → (List (List UInt8)) → (List (List UInt8)) → Option Bool
  | [], n16, l17, l18 => k10 l17 l18
  | x20 :: tl1, n16, l17, l18 => (M15 F x20 l17).bind fun y22 => jn (fun (s25 : List UInt8) => (M15 F s25 l18).bind fun y27 => if ((y22.2.1) != 0) = true then if (decide ((s25.length : Int) > 1000000)) = true then (M7 F).bind fun y31 => some y31
 else (M16 F (y22.2.2)).bind fun y33 => if (decide ((((y22.2.2).length : Nat) : Int) ≥ 4096)) = true then (M7 F).bind fun y36 => some y36
 else (idx a1 n16).bind fun x38 => if (decide ((x38.length : Int) > 1000000)) = true then (M7 F).bind fun y41 => some y41
 else some false
 else if ((y27.2.1) != 0) = true then if (decide ((s25.length : Int) > 1000000)) = true then (M7 F).bind fun y45 => some y45
 else (M16 F (y22.2.2)).bind fun y47 => if (decide ((((y22.2.2).length : Nat) : Int) ≥ 4096)) = true then (M7 F).bind fun y50 => some y50
 else (idx a1 n16).bind fun x52 => if (decide ((x52.length : Int) > 1000000)) = true then (M7 F).bind fun y55 => some y55
 else some false
 else M4_L1 F a1 a2 a3 k10 tl1 (n16 + 1) (y22.2.2) (y27.2.2)) (fun k24 => if (n16 == a2) = true then k24 a3
 else k24 x20)
def M4 (F : Nat) (a1 : (List (List UInt8))) (a2 : Int) (a3 : (List UInt8)) (a4 : Int) (a5 : Int) : Option Bool :=
  (M14 F).bind fun y6 => (M14 F).bind fun y8 => jn (fun (l11 : List (List UInt8)) (l12 : List (List UInt8)) => (M16 F l11).bind fun y58 => if (((l11.length : Nat) : Int) == 0) = true then (M7 F).bind fun y61 => some y61
  else if (decide (a4 < 1)) = true then (M7 F).bind fun y64 => some y64
  else if (decide (a4 > ((l11.length : Nat) : Int))) = true then (M7 F).bind fun y67 => some y67
  else if (decide (a5 < 0)) = true then (M7 F).bind fun y70 => some y70
  else if (decide (a5 ≥ a4)) = true then (M7 F).bind fun y73 => some y73
  else (M17 F ((l11.length : Nat) : Int) l11).bind fun y75 => (M17 F a4 l11).bind fun y77 => (idx a1 a5).bind fun x79 => (M18 F x79).bind fun y81 => (M19 F a5 ((l11.length : Nat) : Int) l11).bind fun y83 => (M19 F a5 a4 l11).bind fun y85 => (M20 F a4 ((l11.length : Nat) : Int) l11).bind fun y87 => if ((y83.1) != 0) = true then some false
  else if ((y85.1) != 0) = true then some false
  else if ((y87.1) != 0) = true then some false
  else (M21 F (y75.1) (y81.1) a5 ((l11.length : Nat) : Int) (y83.2)).bind fun y92 => (M21 F (y77.1) (y81.1) a5 a4 (y85.2)).bind fun y94 => (M22 F (y77.1) (y75.1) a4 ((l11.length : Nat) : Int) (y87.2)).bind fun y96 => if (!(y92.1)) = true then some false
  else if (!(y94.1)) = true then some false
  else if (!(y96.1)) = true then some false
  else (M17 F ((l11.length : Nat) : Int) l12).bind fun y101 => (M20 F a4 ((l11.length : Nat) : Int) l12).bind fun y103 => (M22 F (y77.1) (y101.1) a4 ((l11.length : Nat) : Int) (y103.2)).bind fun y105 => (M23 F (y77.1) (y101.1) a4 ((l11.length : Nat) : Int) (y103.2)).bind fun y107 => (M21 F (y101.1) (y81.1) a5 ((l11.length : Nat) : Int) (y83.2)).bind fun y109 => (M24 F (y101.1) (y81.1) a5 ((l11.length : Nat) : Int) (y83.2)).bind fun y111 => if ((y105.1) == (y107.1)) = true then if ((y105.2) == (y107.2)) = true then if ((y109.1) == (y111.1)) = true then if ((y109.2) == (y111.2)) = true then (M7 F).bind fun y117 => some y117
  else some false
  else some false
  else some false
  else some false) (fun k10 => M4_L1 F a1 a2 a3 k10 a1 0 ([] : List (List UInt8)) ([] : List (List UInt8)))
end
end Go.Proofs.YtiphmdpaajjdeaaGreatDoor
