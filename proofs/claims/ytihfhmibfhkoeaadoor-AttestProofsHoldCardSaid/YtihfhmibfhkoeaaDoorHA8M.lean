/- Part of the proof: A8M. -/
import Derived.Test.YtihfhmibfhkoeaaDoorHA8T
namespace Go.Proofs.YtihfhmibfhkoeaaDoor
open Go Go.Pv
set_option linter.unusedVariables false
set_option maxRecDepth 100000
noncomputable section
def M61_L1 (F : Nat) (a1 : (List UInt8)) (k2 : Option Bool) : Nat → Int → Option Bool
  | 0, n4 => k2
  | tl1 + 1, n4 => jn (M61_L1 F a1 k2 tl1 (n4 + 1)) (fun k6 => (idx a1 n4).bind fun c7 => if (decide ((c7.toNat : Int) ≥ 97)) = true then if (decide ((c7.toNat : Int) ≤ 122)) = true then if (!true) = true then some false
 else k6
 else if (decide ((c7.toNat : Int) ≥ 65)) = true then if (decide ((c7.toNat : Int) ≤ 90)) = true then if (!true) = true then some false
 else k6
 else if (decide ((c7.toNat : Int) ≥ 48)) = true then if (decide ((c7.toNat : Int) ≤ 57)) = true then if (!true) = true then some false
 else k6
 else if ((c7.toNat : Int) == 45) = true then if (!true) = true then some false
 else k6
 else if ((c7.toNat : Int) == 95) = true then if (!true) = true then some false
 else k6
 else if (!((c7.toNat : Int) == 46)) = true then some false
 else k6
 else if ((c7.toNat : Int) == 45) = true then if (!true) = true then some false
 else k6
 else if ((c7.toNat : Int) == 95) = true then if (!true) = true then some false
 else k6
 else if (!((c7.toNat : Int) == 46)) = true then some false
 else k6
 else if (decide ((c7.toNat : Int) ≥ 48)) = true then if (decide ((c7.toNat : Int) ≤ 57)) = true then if (!true) = true then some false
 else k6
 else if ((c7.toNat : Int) == 45) = true then if (!true) = true then some false
 else k6
 else if ((c7.toNat : Int) == 95) = true then if (!true) = true then some false
 else k6
 else if (!((c7.toNat : Int) == 46)) = true then some false
 else k6
 else if ((c7.toNat : Int) == 45) = true then if (!true) = true then some false
 else k6
 else if ((c7.toNat : Int) == 95) = true then if (!true) = true then some false
 else k6
 else if (!((c7.toNat : Int) == 46)) = true then some false
 else k6
 else if (decide ((c7.toNat : Int) ≥ 65)) = true then if (decide ((c7.toNat : Int) ≤ 90)) = true then if (!true) = true then some false
 else k6
 else if (decide ((c7.toNat : Int) ≥ 48)) = true then if (decide ((c7.toNat : Int) ≤ 57)) = true then if (!true) = true then some false
 else k6
 else if ((c7.toNat : Int) == 45) = true then if (!true) = true then some false
 else k6
 else if ((c7.toNat : Int) == 95) = true then if (!true) = true then some false
 else k6
 else if (!((c7.toNat : Int) == 46)) = true then some false
 else k6
 else if ((c7.toNat : Int) == 45) = true then if (!true) = true then some false
 else k6
 else if ((c7.toNat : Int) == 95) = true then if (!true) = true then some false
 else k6
 else if (!((c7.toNat : Int) == 46)) = true then some false
 else k6
 else if (decide ((c7.toNat : Int) ≥ 48)) = true then if (decide ((c7.toNat : Int) ≤ 57)) = true then if (!true) = true then some false
 else k6
 else if ((c7.toNat : Int) == 45) = true then if (!true) = true then some false
 else k6
 else if ((c7.toNat : Int) == 95) = true then if (!true) = true then some false
 else k6
 else if (!((c7.toNat : Int) == 46)) = true then some false
 else k6
 else if ((c7.toNat : Int) == 45) = true then if (!true) = true then some false
 else k6
 else if ((c7.toNat : Int) == 95) = true then if (!true) = true then some false
 else k6
 else if (!((c7.toNat : Int) == 46)) = true then some false
 else k6)
def M61 (F : Nat) (a1 : (List UInt8)) : Option Bool :=
  jn (if (!(a1 == ([] : List UInt8))) = true then some (decide ((a1.length : Int) ≤ 60))
  else some false) (fun k2 => if (a1.length : Int) ≤ 9223372036854775807 then M61_L1 F a1 k2 (((a1.length : Int)).toNat) 0 else none)
def M146 (F : Nat) (a1 : Int) : Option (List UInt8) :=
  if (decide (a1 < 10)) = true then if 0 ≤ a1 ∧ 0 ≤ (w64 (a1 + 1)) ∧ a1.toNat ≤ (w64 (a1 + 1)).toNat ∧ (w64 (a1 + 1)).toNat ≤ ([48, 49, 50, 51, 52, 53, 54, 55, 56, 57, 97, 98, 99, 100, 101, 102, 103, 104, 105, 106, 107, 108, 109, 110, 111, 112, 113, 114, 115, 116, 117, 118, 119, 120, 121, 122] : List UInt8).length then some ((([48, 49, 50, 51, 52, 53, 54, 55, 56, 57, 97, 98, 99, 100, 101, 102, 103, 104, 105, 106, 107, 108, 109, 110, 111, 112, 113, 114, 115, 116, 117, 118, 119, 120, 121, 122] : List UInt8).drop a1.toNat).take ((w64 (a1 + 1)).toNat - a1.toNat)) else none
  else if 0 ≤ (w64 (a1 * 2)) ∧ 0 ≤ (w64 ((w64 (a1 * 2)) + 2)) ∧ (w64 (a1 * 2)).toNat ≤ (w64 ((w64 (a1 * 2)) + 2)).toNat ∧ (w64 ((w64 (a1 * 2)) + 2)).toNat ≤ ([48, 48, 48, 49, 48, 50, 48, 51, 48, 52, 48, 53, 48, 54, 48, 55, 48, 56, 48, 57, 49, 48, 49, 49, 49, 50, 49, 51, 49, 52, 49, 53, 49, 54, 49, 55, 49, 56, 49, 57, 50, 48, 50, 49, 50, 50, 50, 51, 50, 52, 50, 53, 50, 54, 50, 55, 50, 56, 50, 57, 51, 48, 51, 49, 51, 50, 51, 51, 51, 52, 51, 53, 51, 54, 51, 55, 51, 56, 51, 57, 52, 48, 52, 49, 52, 50, 52, 51, 52, 52, 52, 53, 52, 54, 52, 55, 52, 56, 52, 57, 53, 48, 53, 49, 53, 50, 53, 51, 53, 52, 53, 53, 53, 54, 53, 55, 53, 56, 53, 57, 54, 48, 54, 49, 54, 50, 54, 51, 54, 52, 54, 53, 54, 54, 54, 55, 54, 56, 54, 57, 55, 48, 55, 49, 55, 50, 55, 51, 55, 52, 55, 53, 55, 54, 55, 55, 55, 56, 55, 57, 56, 48, 56, 49, 56, 50, 56, 51, 56, 52, 56, 53, 56, 54, 56, 55, 56, 56, 56, 57, 57, 48, 57, 49, 57, 50, 57, 51, 57, 52, 57, 53, 57, 54, 57, 55, 57, 56, 57, 57] : List UInt8).length then some ((([48, 48, 48, 49, 48, 50, 48, 51, 48, 52, 48, 53, 48, 54, 48, 55, 48, 56, 48, 57, 49, 48, 49, 49, 49, 50, 49, 51, 49, 52, 49, 53, 49, 54, 49, 55, 49, 56, 49, 57, 50, 48, 50, 49, 50, 50, 50, 51, 50, 52, 50, 53, 50, 54, 50, 55, 50, 56, 50, 57, 51, 48, 51, 49, 51, 50, 51, 51, 51, 52, 51, 53, 51, 54, 51, 55, 51, 56, 51, 57, 52, 48, 52, 49, 52, 50, 52, 51, 52, 52, 52, 53, 52, 54, 52, 55, 52, 56, 52, 57, 53, 48, 53, 49, 53, 50, 53, 51, 53, 52, 53, 53, 53, 54, 53, 55, 53, 56, 53, 57, 54, 48, 54, 49, 54, 50, 54, 51, 54, 52, 54, 53, 54, 54, 54, 55, 54, 56, 54, 57, 55, 48, 55, 49, 55, 50, 55, 51, 55, 52, 55, 53, 55, 54, 55, 55, 55, 56, 55, 57, 56, 48, 56, 49, 56, 50, 56, 51, 56, 52, 56, 53, 56, 54, 56, 55, 56, 56, 56, 57, 57, 48, 57, 49, 57, 50, 57, 51, 57, 52, 57, 53, 57, 54, 57, 55, 57, 56, 57, 57] : List UInt8).drop (w64 (a1 * 2)).toNat).take ((w64 ((w64 (a1 * 2)) + 2)).toNat - (w64 (a1 * 2)).toNat)) else none
def M157 (F : Nat) (a1 : Int) : Option Bool :=
  some ((w64 ((BitVec.ofInt (IntKind.bits .i64) a1 &&& BitVec.ofInt (IntKind.bits .i64) (w64 (a1 - 1))).toNat : Int)) == 0)
def M161 (F : Nat) (a1 : Int) : Option Int :=
  if (a1 == 0) = true then some 64
  else if 0 ≤ (Int.fdiv (IntKind.wrap .u64 ((IntKind.wrap .u64 ((BitVec.ofInt (IntKind.bits .u64) a1 &&& BitVec.ofInt (IntKind.bits .u64) (IntKind.wrap .u64 (0 - a1))).toNat : Int)) * 285870213051353865)) (2 ^ (min (Int.toNat 58) (IntKind.bits .u64)))) ∧ (Int.fdiv (IntKind.wrap .u64 ((IntKind.wrap .u64 ((BitVec.ofInt (IntKind.bits .u64) a1 &&& BitVec.ofInt (IntKind.bits .u64) (IntKind.wrap .u64 (0 - a1))).toNat : Int)) * 285870213051353865)) (2 ^ (min (Int.toNat 58) (IntKind.bits .u64)))).toNat < 64 then some (w64 (tab3 (Int.fdiv (IntKind.wrap .u64 ((IntKind.wrap .u64 ((BitVec.ofInt (IntKind.bits .u64) a1 &&& BitVec.ofInt (IntKind.bits .u64) (IntKind.wrap .u64 (0 - a1))).toNat : Int)) * 285870213051353865)) (2 ^ (min (Int.toNat 58) (IntKind.bits .u64)))).toNat)) else none
def M158 (F : Nat) (a1 : Int) : Option Int :=
  (M161 F a1).bind fun y2 => some y2
def M149_L1 (F : Nat) (a3 : Int) (y18 : Int) (k20 : Int → Int → (Nat → Int) → Option ((List Int) × (List UInt8))) : Nat → Int → Int → (Nat → Int) → Option ((List Int) × (List UInt8))
  | 0, _, _, _ => none
  | n + 1, n27, n28, f29 => if (decide (n27 ≥ (IntKind.wrap .u64 a3))) = true then (idx ([48, 49, 50, 51, 52, 53, 54, 55, 56, 57, 97, 98, 99, 100, 101, 102, 103, 104, 105, 106, 107, 108, 109, 110, 111, 112, 113, 114, 115, 116, 117, 118, 119, 120, 121, 122] : List UInt8) (IntKind.wrap .u64 ((BitVec.ofInt (IntKind.bits .u64) n27 &&& BitVec.ofInt (IntKind.bits .u64) (IntKind.wrap .u64 ((IntKind.wrap .u64 a3) - 1))).toNat : Int))).bind fun c31 => if 0 ≤ (w64 (n28 - 1)) ∧ (w64 (n28 - 1)).toNat < 65 then if 0 ≤ (IntKind.wrap .u64 y18) then M149_L1 F a3 y18 k20 n (Int.fdiv n27 (2 ^ (min (Int.toNat (IntKind.wrap .u64 y18)) (IntKind.bits .u64)))) (w64 (n28 - 1)) (upd f29 (w64 (n28 - 1)).toNat (c31.toNat : Int)) else none else none
  else k20 n27 n28 f29
def M149_L2 (F : Nat) (a3 : Int) (k38 : Int → Int → (Nat → Int) → Option ((List Int) × (List UInt8))) : Nat → Int → Int → (Nat → Int) → Option ((List Int) × (List UInt8))
  | 0, _, _, _ => none
  | n + 1, n45, n46, f47 => if (decide (n45 ≥ (IntKind.wrap .u64 a3))) = true then if (IntKind.wrap .u64 a3) ≠ 0 then (idx ([48, 49, 50, 51, 52, 53, 54, 55, 56, 57, 97, 98, 99, 100, 101, 102, 103, 104, 105, 106, 107, 108, 109, 110, 111, 112, 113, 114, 115, 116, 117, 118, 119, 120, 121, 122] : List UInt8) (IntKind.wrap .u64 (n45 - (IntKind.wrap .u64 ((IntKind.wrap .u64 (Int.tdiv n45 (IntKind.wrap .u64 a3))) * (IntKind.wrap .u64 a3)))))).bind fun c50 => if 0 ≤ (w64 (n46 - 1)) ∧ (w64 (n46 - 1)).toNat < 65 then M149_L2 F a3 k38 n (IntKind.wrap .u64 (Int.tdiv n45 (IntKind.wrap .u64 a3))) (w64 (n46 - 1)) (upd f47 (w64 (n46 - 1)).toNat (c50.toNat : Int)) else none else none
  else k38 n45 n46 f47
def M149 (F : Nat) (a1 : (List Int)) (a2 : Int) (a3 : Int) (a4 : Bool) (a5 : Bool) : Option ((List Int) × (List UInt8)) :=
  if (decide (a3 < 2)) = true then none
  else if (a3 == 10) = true then none
  else if (decide (a3 > 36)) = true then none
  else jn (fun (n10 : Int) => (M157 F a3).bind fun y12 => jn (fun (n15 : Int) (f16 : Nat → Int) => jn (fun (n57 : Int) (f58 : Nat → Int) => if a5 = true then none
  else if 0 ≤ n57 ∧ n57.toNat ≤ 65 then some (([] : List Int), ((((List.range 65).map f58).drop n57.toNat).map fun n => UInt8.ofNat n.toNat)) else none) (fun k56 => if a4 = true then if 0 ≤ (w64 (n15 - 1)) ∧ (w64 (n15 - 1)).toNat < 65 then k56 (w64 (n15 - 1)) (upd f16 (w64 (n15 - 1)).toNat 45) else none
  else k56 n15 f16)) (fun k14 => if y12 = true then (M158 F (IntKind.wrap .u64 a3)).bind fun y18 => jn (fun (n21 : Int) (n22 : Int) (f23 : Nat → Int) => (idx ([48, 49, 50, 51, 52, 53, 54, 55, 56, 57, 97, 98, 99, 100, 101, 102, 103, 104, 105, 106, 107, 108, 109, 110, 111, 112, 113, 114, 115, 116, 117, 118, 119, 120, 121, 122] : List UInt8) n21).bind fun c35 => if 0 ≤ (w64 (n22 - 1)) ∧ (w64 (n22 - 1)).toNat < 65 then k14 (w64 (n22 - 1)) (upd f23 (w64 (n22 - 1)).toNat (c35.toNat : Int)) else none) (fun k20 => M149_L1 F a3 y18 k20 F n10 65 (fun _ => 0))
  else jn (fun (n39 : Int) (n40 : Int) (f41 : Nat → Int) => (idx ([48, 49, 50, 51, 52, 53, 54, 55, 56, 57, 97, 98, 99, 100, 101, 102, 103, 104, 105, 106, 107, 108, 109, 110, 111, 112, 113, 114, 115, 116, 117, 118, 119, 120, 121, 122] : List UInt8) n39).bind fun c53 => if 0 ≤ (w64 (n40 - 1)) ∧ (w64 (n40 - 1)).toNat < 65 then k14 (w64 (n40 - 1)) (upd f41 (w64 (n40 - 1)).toNat (c53.toNat : Int)) else none) (fun k38 => M149_L2 F a3 k38 F n10 65 (fun _ => 0)))) (fun k9 => if a4 = true then k9 (IntKind.wrap .u64 (0 - a2))
  else k9 a2)
def M141 (F : Nat) (a1 : Int) (a2 : Int) : Option (List UInt8) :=
  if (a2 == 10) = true then if (decide (a1 < 100)) = true then (M146 F (w64 a1)).bind fun y5 => some y5
  else none
  else (M149 F ([] : List Int) a1 a2 false false).bind fun y9 => some (y9.2)
def M134 (F : Nat) (a1 : Int) (a2 : Int) : Option (List UInt8) :=
  (M141 F a1 a2).bind fun y3 => some y3
def M135 (F : Nat) (a1 : (List UInt8)) (a2 : Int) : Option (List UInt8) := if 0 ≤ a2 ∧ a2 ≤ 9223372036854775807 ∧ a1.length * a2.toNat ≤ 140737488355328 then some (Lib.repeatL a1 a2.toNat) else none
def M114_L1 (F : Nat) (a1 : (List UInt8)) (k2 : Int → Option (List UInt8)) : Nat → Int → Int → Option (List UInt8)
  | 0, n7, n6 => k2 n6
  | tl1 + 1, n7, n6 => (idx a1 n7).bind fun c9 => M114_L1 F a1 k2 tl1 (n7 + 1) (IntKind.wrap .u64 ((IntKind.wrap .u64 ((BitVec.ofInt (IntKind.bits .u64) n6 ^^^ BitVec.ofInt (IntKind.bits .u64) (IntKind.wrap .u64 (c9.toNat : Int))).toNat : Int)) * 1099511628211))
def M114 (F : Nat) (a1 : (List UInt8)) : Option (List UInt8) :=
  jn (fun (n3 : Int) => (M134 F n3 16).bind fun y12 => (M135 F ([48] : List UInt8) (w64 (16 - (y12.length : Int)))).bind fun y14 => if y14.length + y12.length ≤ 9223372036854775807 then some (y14 ++ y12) else none) (fun k2 => if (a1.length : Int) ≤ 9223372036854775807 then M114_L1 F a1 k2 (((a1.length : Int)).toNat) 0 14695981039346656037 else none)
def M62 (F : Nat) (a1 : (List UInt8)) : Option (List UInt8) :=
  if ([112, 117, 98, 108, 105, 99, 58] : List UInt8).length + a1.length ≤ 9223372036854775807 then (M114 F (([112, 117, 98, 108, 105, 99, 58] : List UInt8) ++ a1)).bind fun y3 => some y3 else none
def M12 (F : Nat) (a1 : (List UInt8)) (a2 : (List UInt8)) : Option (TKey × Int) :=
  (M61 F a1).bind fun y3 => if (!y3) = true then some ((TKey.mk ([] : List UInt8) ([] : List UInt8) ([] : List UInt8)), 8)
  else if (a2 == ([] : List UInt8)) = true then some ((TKey.mk ([] : List UInt8) ([] : List UInt8) ([] : List UInt8)), 13)
  else if (decide ((a2.length : Int) > 60)) = true then some ((TKey.mk ([] : List UInt8) ([] : List UInt8) ([] : List UInt8)), 3)
  else (M62 F a2).bind fun y8 => some ((TKey.mk a1 a2 y8), 0)
def M64_L2 (F : Nat) (n3 : Int) (k12 : (List Int) → Option (List UInt8)) : Nat → Int → (List Int) → Option (List UInt8)
  | 0, _, _ => none
  | n + 1, n16, l17 => if (decide (n16 ≥ 0)) = true then if 0 ≤ n16 then (idx ([48, 49, 50, 51, 52, 53, 54, 55, 56, 57, 97, 98, 99, 100, 101, 102] : List UInt8) (IntKind.wrap .u64 ((BitVec.ofInt (IntKind.bits .u64) (Int.fdiv n3 (2 ^ (min (Int.toNat n16) (IntKind.bits .u64)))) &&& BitVec.ofInt (IntKind.bits .u64) 15).toNat : Int))).bind fun c20 => if (l17 ++ ([(c20.toNat : Int)] : List Int)).length * 1 ≤ 140737488355328 then M64_L2 F n3 k12 n (w64 (n16 - 4)) (l17 ++ ([(c20.toNat : Int)] : List Int)) else none else none
  else k12 l17
def M64_L1 (F : Nat) (a1 : (List UInt8)) (k2 : Int → Option (List UInt8)) : Nat → Int → Int → Option (List UInt8)
  | 0, n7, n6 => k2 n6
  | tl1 + 1, n7, n6 => (idx a1 n7).bind fun c9 => M64_L1 F a1 k2 tl1 (n7 + 1) (IntKind.wrap .u64 ((IntKind.wrap .u64 ((BitVec.ofInt (IntKind.bits .u64) n6 ^^^ BitVec.ofInt (IntKind.bits .u64) (IntKind.wrap .u64 (c9.toNat : Int))).toNat : Int)) * 1099511628211))
def M64 (F : Nat) (a1 : (List UInt8)) : Option (List UInt8) :=
  jn (fun (n3 : Int) => jn (fun (l13 : List Int) => some (l13.map fun n => UInt8.ofNat n.toNat)) (fun k12 => M64_L2 F n3 k12 F 60 ([] : List Int))) (fun k2 => if (a1.length : Int) ≤ 9223372036854775807 then M64_L1 F a1 k2 (((a1.length : Int)).toNat) 0 14695981039346656037 else none)
def M115_L1 (F : Nat) (a1 : (List UInt8)) (k3 : (Nat → Int) → Option ((Nat → Int) × Bool)) : Nat → Int → (Nat → Int) → Option ((Nat → Int) × Bool)
  | 0, n7, f8 => k3 f8
  | tl1 + 1, n7, f8 => jn (fun (f11 : Nat → Int) => M115_L1 F a1 k3 tl1 (n7 + 1) f11) (fun k10 => (idx a1 n7).bind fun c12 => if (decide ((c12.toNat : Int) ≥ 48)) = true then if (decide ((c12.toNat : Int) ≤ 57)) = true then if (!true) = true then some (f8, false)
 else if 0 ≤ n7 ∧ n7.toNat < 16 then k10 (upd f8 n7.toNat (c12.toNat : Int)) else none
 else if (decide ((c12.toNat : Int) ≥ 97)) = true then if (!(decide ((c12.toNat : Int) ≤ 102))) = true then some (f8, false)
 else if 0 ≤ n7 ∧ n7.toNat < 16 then k10 (upd f8 n7.toNat (c12.toNat : Int)) else none
 else if (!false) = true then some (f8, false)
 else if 0 ≤ n7 ∧ n7.toNat < 16 then k10 (upd f8 n7.toNat (c12.toNat : Int)) else none
 else if (decide ((c12.toNat : Int) ≥ 97)) = true then if (!(decide ((c12.toNat : Int) ≤ 102))) = true then some (f8, false)
 else if 0 ≤ n7 ∧ n7.toNat < 16 then k10 (upd f8 n7.toNat (c12.toNat : Int)) else none
 else if (!false) = true then some (f8, false)
 else if 0 ≤ n7 ∧ n7.toNat < 16 then k10 (upd f8 n7.toNat (c12.toNat : Int)) else none)
def M115 (F : Nat) (a1 : (List UInt8)) : Option ((Nat → Int) × Bool) :=
  if ((a1.length : Int) != 16) = true then some ((arrOf 0 [0, 0, 0, 0, 0, 0, 0, 0, 0, 0, 0, 0, 0, 0, 0, 0]), false)
  else jn (fun (f4 : Nat → Int) => some (f4, true)) (fun k3 => if (a1.length : Int) ≤ 9223372036854775807 then M115_L1 F a1 k3 (((a1.length : Int)).toNat) 0 (fun _ => 0) else none)
def M73 (F : Nat) (a1 : (List UInt8)) : Option Bool :=
  (M115 F a1).bind fun y2 => some (y2.2)
def M76 (F : Nat) (a1 : (List UInt8)) (a2 : (List UInt8)) : Option Bool :=
  (M115 F a1).bind fun y3 => (M115 F a2).bind fun y5 => if (y3.2) = true then if (y5.2) = true then if (((List.range 16).map (y3.1)).all byteI) = true ∧ (((List.range 16).map (y5.1)).all byteI) = true then some (((List.range 16).map (y3.1)) == ((List.range 16).map (y5.1))) else none
  else some false
  else some false
def M65 (F : Nat) (a1 : TKey) (a2 : (List UInt8)) (a3 : Bool) : Option Int :=
  (M61 F a1.Name).bind fun y4 => jn (some 0) (fun k6 => if (!y4) = true then some 8
  else (M73 F a1.Public).bind fun y8 => if (!y8) = true then some 2
  else if a3 = true then (M62 F a1.Secret).bind fun y12 => (M76 F a1.Public y12).bind fun y14 => if (!y14) = true then some 2
  else if (decide ((a2.length : Int) > 1000000)) = true then some 3
  else k6
  else if (decide ((a2.length : Int) > 1000000)) = true then some 3
  else k6)
def M66 (F : Nat) (a1 : TKey) (a2 : (List UInt8)) : Option TSignature :=
  if a1.Public.length + ([10] : List UInt8).length ≤ 9223372036854775807 then if (a1.Public ++ ([10] : List UInt8)).length + a2.length ≤ 9223372036854775807 then (M114 F ((a1.Public ++ ([10] : List UInt8)) ++ a2)).bind fun y5 => some (TSignature.mk a1.Name y5) else none else none
def M14 (F : Nat) (a1 : TKey) (a2 : (List UInt8)) : Option (TSignature × Int) :=
  (M65 F a1 a2 true).bind fun y3 => if (y3 != 0) = true then some ((TSignature.mk ([] : List UInt8) ([] : List UInt8)), y3)
  else (M66 F a1 a2).bind fun y6 => some (y6, 0)
def M118_L1 (F : Nat) (a1 : (List UInt8)) (k3 : Option Bool) : Nat → Int → Option Bool
  | 0, n5 => k3
  | tl1 + 1, n5 => jn (M118_L1 F a1 k3 tl1 (n5 + 1)) (fun k7 => (idx a1 n5).bind fun c8 => if (decide ((c8.toNat : Int) ≥ 48)) = true then (idx a1 n5).bind fun c11 => if (decide ((c11.toNat : Int) ≤ 57)) = true then if (!true) = true then some false
 else k7
 else (idx a1 n5).bind fun c15 => if (decide ((c15.toNat : Int) ≥ 97)) = true then (idx a1 n5).bind fun c18 => if (!(decide ((c18.toNat : Int) ≤ 102))) = true then some false
 else k7
 else if (!false) = true then some false
 else k7
 else (idx a1 n5).bind fun c22 => if (decide ((c22.toNat : Int) ≥ 97)) = true then (idx a1 n5).bind fun c25 => if (!(decide ((c25.toNat : Int) ≤ 102))) = true then some false
 else k7
 else if (!false) = true then some false
 else k7)
def M118 (F : Nat) (a1 : (List UInt8)) (a2 : Int) : Option Bool :=
  jn (some ((a1.length : Int) == a2)) (fun k3 => if (a1.length : Int) ≤ 9223372036854775807 then M118_L1 F a1 k3 (((a1.length : Int)).toNat) 0 else none)
def M77 (F : Nat) (a1 : (List UInt8)) : Option Bool :=
  (M118 F a1 16).bind fun y2 => some y2
def M16 (F : Nat) (a1 : TKey) (a2 : (List UInt8)) (a3 : TSignature) : Option (Bool × Int) :=
  (M65 F a1 a2 false).bind fun y4 => if (y4 != 0) = true then some (false, y4)
  else (M66 F a1 a2).bind fun y7 => some ((decide (y7 = a3)), 0)
def M18 (F : Nat) : Option Bool :=
  (M12 F ([97, 110, 110] : List UInt8) ([115] : List UInt8)).bind fun y1 => (M14 F (y1.1) ([116] : List UInt8)).bind fun y3 => (M16 F (y1.1) ([116] : List UInt8) (y3.1)).bind fun y5 => if ((y1.2) == 0) = true then if ((y3.2) == 0) = true then if ((y5.2) == 0) = true then if (y5.1) = true then if (!((y1.1).Public == ([] : List UInt8))) = true then some ((y3.1).Key == ([97, 110, 110] : List UInt8))
  else some false
  else some false
  else some false
  else some false
  else some false
def M74_L1 (F : Nat) (k4 : Option Int) : List (List UInt8) → Option Int
  | [] => k4
  | x8 :: tl1 => (M73 F x8).bind fun y10 => if (!y10) = true then some 2
 else M74_L1 F k4 tl1
def M74 (F : Nat) (a1 : (List (List UInt8))) (a2 : Int) : Option Int :=
  if (decide (((a1.length : Nat) : Int) > a2)) = true then some 3
  else jn (some 0) (fun k4 => M74_L1 F k4 a1)
def M116_L1 (F : Nat) (a1 : Int) (k2 : Int → Option Int) : Nat → Int → Option Int
  | 0, _ => none
  | n + 1, n5 => if (decide ((w64 (2 * n5)) < a1)) = true then M116_L1 F a1 k2 n (w64 (n5 * 2))
  else k2 n5
def M116 (F : Nat) (a1 : Int) : Option Int :=
  jn (fun (n3 : Int) => some n3) (fun k2 => M116_L1 F a1 k2 F 1)
def M117 (F : Nat) (a1 : (List UInt8)) (a2 : (List UInt8)) : Option (List UInt8) :=
  if ([1] : List UInt8).length + a1.length ≤ 9223372036854775807 then if (([1] : List UInt8) ++ a1).length + a2.length ≤ 9223372036854775807 then (M114 F ((([1] : List UInt8) ++ a1) ++ a2)).bind fun y5 => some y5 else none else none
def M75_B (R75 : (List UInt8) → Int → Int → (List (List UInt8)) → Option ((List UInt8) × Bool)) (F : Nat) (a1 : (List UInt8)) (a2 : Int) (a3 : Int) (a4 : (List (List UInt8))) : Option ((List UInt8) × Bool) :=
  if (a3 == 1) = true then some (a1, (decide ((w64 (((a4.length : Nat) : Int) - 1)) < 0)))
  else if (decide ((w64 (((a4.length : Nat) : Int) - 1)) < 0)) = true then some (a1, false)
  else (M116 F a3).bind fun y7 => if (decide (a2 < y7)) = true then if 0 ≤ (w64 (((a4.length : Nat) : Int) - 1)) ∧ (w64 (((a4.length : Nat) : Int) - 1)).toNat ≤ a4.length then (R75 a1 a2 y7 (a4.take (w64 (((a4.length : Nat) : Int) - 1)).toNat)).bind fun y11 => (idx a4 (w64 (((a4.length : Nat) : Int) - 1))).bind fun x13 => (M117 F (y11.1) x13).bind fun y15 => some (y15, (y11.2)) else none
  else if 0 ≤ (w64 (((a4.length : Nat) : Int) - 1)) ∧ (w64 (((a4.length : Nat) : Int) - 1)).toNat ≤ a4.length then (R75 a1 (w64 (a2 - y7)) (w64 (a3 - y7)) (a4.take (w64 (((a4.length : Nat) : Int) - 1)).toNat)).bind fun y18 => (idx a4 (w64 (((a4.length : Nat) : Int) - 1))).bind fun x20 => (M117 F x20 (y18.1)).bind fun y22 => some (y22, (y18.2)) else none
def M75 : Nat → (List UInt8) → Int → Int → (List (List UInt8)) → Option ((List UInt8) × Bool)
  | 0, _, _, _, _ => none
  | F + 1, a1, a2, a3, a4 => M75_B (M75 F) F a1 a2 a3 a4
def M23 (F : Nat) (a1 : (List UInt8)) (a2 : (List UInt8)) (a3 : Int) (a4 : Int) (a5 : (List (List UInt8))) : Option (Bool × Int) :=
  (M73 F a1).bind fun y6 => if (!y6) = true then some (false, 2)
  else (M73 F a2).bind fun y9 => if (!y9) = true then some (false, 2)
  else if (decide (a4 < 1)) = true then some (false, 9)
  else if (decide (a4 > 1073741824)) = true then some (false, 9)
  else if (decide (a3 < 0)) = true then some (false, 9)
  else if (decide (a3 ≥ a4)) = true then some (false, 9)
  else (M74 F a5 64).bind fun y16 => if (y16 != 0) = true then some (false, y16)
  else (M75 F a2 a3 a4 a5).bind fun y19 => if (y19.2) = true then (M76 F (y19.1) a1).bind fun y22 => some (y22, 0)
  else some (false, 0)
def M119_L1 (F : Nat) (a1 : Int) (k2 : Int → Option Int) : Nat → Int → Option Int
  | 0, _ => none
  | n + 1, n5 => if (decide ((w64 (2 * n5)) < a1)) = true then M119_L1 F a1 k2 n (w64 (n5 * 2))
  else k2 n5
def M119 (F : Nat) (a1 : Int) : Option Int :=
  jn (fun (n3 : Int) => some n3) (fun k2 => M119_L1 F a1 k2 F 1)
def M120 (F : Nat) (a1 : (List UInt8)) (a2 : (List UInt8)) : Option (List UInt8) :=
  if ([1] : List UInt8).length + a1.length ≤ 9223372036854775807 then if (([1] : List UInt8) ++ a1).length + a2.length ≤ 9223372036854775807 then (M64 F ((([1] : List UInt8) ++ a1) ++ a2)).bind fun y5 => some y5 else none else none
def M80_B (R80 : (List UInt8) → Int → Int → Bool → (List (List UInt8)) → Option ((List UInt8) × (List UInt8) × Bool)) (F : Nat) (a1 : (List UInt8)) (a2 : Int) (a3 : Int) (a4 : Bool) (a5 : (List (List UInt8))) : Option ((List UInt8) × (List UInt8) × Bool) :=
  if (a2 == a3) = true then if a4 = true then some (a1, a1, (decide ((w64 (((a5.length : Nat) : Int) - 1)) < 0)))
  else if ((w64 (((a5.length : Nat) : Int) - 1)) == 0) = true then (idx a5 0).bind fun x9 => (idx a5 0).bind fun x11 => some (x9, x11, true)
  else some (([] : List UInt8), ([] : List UInt8), false)
  else if (decide ((w64 (((a5.length : Nat) : Int) - 1)) < 0)) = true then some (([] : List UInt8), ([] : List UInt8), false)
  else (M116 F a3).bind fun y14 => if (decide (a2 ≤ y14)) = true then if 0 ≤ (w64 (((a5.length : Nat) : Int) - 1)) ∧ (w64 (((a5.length : Nat) : Int) - 1)).toNat ≤ a5.length then (R80 a1 a2 y14 a4 (a5.take (w64 (((a5.length : Nat) : Int) - 1)).toNat)).bind fun y18 => (idx a5 (w64 (((a5.length : Nat) : Int) - 1))).bind fun x20 => (M117 F (y18.2.1) x20).bind fun y22 => some ((y18.1), y22, (y18.2.2)) else none
  else if 0 ≤ (w64 (((a5.length : Nat) : Int) - 1)) ∧ (w64 (((a5.length : Nat) : Int) - 1)).toNat ≤ a5.length then (R80 a1 (w64 (a2 - y14)) (w64 (a3 - y14)) false (a5.take (w64 (((a5.length : Nat) : Int) - 1)).toNat)).bind fun y25 => (idx a5 (w64 (((a5.length : Nat) : Int) - 1))).bind fun x27 => (M117 F x27 (y25.1)).bind fun y29 => (idx a5 (w64 (((a5.length : Nat) : Int) - 1))).bind fun x31 => (M117 F x31 (y25.2.1)).bind fun y33 => some (y29, y33, (y25.2.2)) else none
def M80 : Nat → (List UInt8) → Int → Int → Bool → (List (List UInt8)) → Option ((List UInt8) × (List UInt8) × Bool)
  | 0, _, _, _, _, _ => none
  | F + 1, a1, a2, a3, a4, a5 => M80_B (M80 F) F a1 a2 a3 a4 a5
def M25 (F : Nat) (a1 : (List UInt8)) (a2 : (List UInt8)) (a3 : Int) (a4 : Int) (a5 : (List (List UInt8))) : Option (Bool × Int) :=
  (M73 F a1).bind fun y6 => if (!y6) = true then some (false, 2)
  else (M73 F a2).bind fun y9 => if (!y9) = true then some (false, 2)
  else if (decide (a4 < 1)) = true then some (false, 9)
  else if (decide (a4 > 1073741824)) = true then some (false, 9)
  else if (decide (a3 < 1)) = true then some (false, 9)
  else if (decide (a3 > a4)) = true then some (false, 9)
  else (M74 F a5 64).bind fun y16 => if (y16 != 0) = true then some (false, y16)
  else (M80 F a1 a3 a4 true a5).bind fun y19 => if (y19.2.2) = true then (M76 F (y19.1) a1).bind fun y22 => if y22 = true then (M76 F (y19.2.1) a2).bind fun y25 => some (y25, 0)
  else some (false, 0)
  else some (false, 0)
def M83_B (R83 : (List (List UInt8)) → Option (List UInt8)) (F : Nat) (a1 : (List (List UInt8))) : Option (List UInt8) :=
  if (((a1.length : Nat) : Int) == 0) = true then (M114 F ([] : List UInt8)).bind fun y3 => some y3
  else if (((a1.length : Nat) : Int) == 1) = true then (idx a1 0).bind fun x6 => some x6
  else (M116 F ((a1.length : Nat) : Int)).bind fun y8 => if 0 ≤ y8 ∧ y8.toNat ≤ a1.length then (R83 (a1.take y8.toNat)).bind fun y11 => if 0 ≤ y8 ∧ y8.toNat ≤ a1.length then (R83 (a1.drop y8.toNat)).bind fun y14 => (M117 F y11 y14).bind fun y16 => some y16 else none else none
def M83 : Nat → (List (List UInt8)) → Option (List UInt8)
  | 0, _ => none
  | F + 1, a1 => M83_B (M83 F) F a1
def M29 (F : Nat) (a1 : (List (List UInt8))) : Option ((List UInt8) × Int) :=
  (M74 F a1 4096).bind fun y2 => if (y2 != 0) = true then some (([] : List UInt8), y2)
  else (M83 F a1).bind fun y5 => some (y5, 0)
def M84_L1 (F : Nat) (k3 : Option Int) : List (List UInt8) → Option Int
  | [] => k3
  | x7 :: tl1 => (M77 F x7).bind fun y9 => if (!y9) = true then some 2
 else M84_L1 F k3 tl1
def M84 (F : Nat) (a1 : (List (List UInt8))) : Option Int :=
  if (decide (((a1.length : Nat) : Int) > 4096)) = true then some 3
  else jn (some 0) (fun k3 => M84_L1 F k3 a1)
def M85_B (R85 : (List (List UInt8)) → Option (List UInt8)) (F : Nat) (a1 : (List (List UInt8))) : Option (List UInt8) :=
  if (((a1.length : Nat) : Int) == 0) = true then (M64 F ([] : List UInt8)).bind fun y3 => some y3
  else if (((a1.length : Nat) : Int) == 1) = true then (idx a1 0).bind fun x6 => some x6
  else (M119 F ((a1.length : Nat) : Int)).bind fun y8 => if 0 ≤ y8 ∧ y8.toNat ≤ a1.length then (R85 (a1.take y8.toNat)).bind fun y11 => if 0 ≤ y8 ∧ y8.toNat ≤ a1.length then (R85 (a1.drop y8.toNat)).bind fun y14 => (M120 F y11 y14).bind fun y16 => some y16 else none else none
def M85 : Nat → (List (List UInt8)) → Option (List UInt8)
  | 0, _ => none
  | F + 1, a1 => M85_B (M85 F) F a1
def M86_B (R86 : (List (List UInt8)) → Int → Option (List (List UInt8))) (F : Nat) (a1 : (List (List UInt8))) (a2 : Int) : Option (List (List UInt8)) :=
  if (((a1.length : Nat) : Int) == 1) = true then some ([] : List (List UInt8))
  else (M116 F ((a1.length : Nat) : Int)).bind fun y23 => if (decide (a2 < y23)) = true then if 0 ≤ y23 ∧ y23.toNat ≤ a1.length then (R86 (a1.take y23.toNat) a2).bind fun y27 => if 0 ≤ y23 ∧ y23.toNat ≤ a1.length then (M83 F (a1.drop y23.toNat)).bind fun y30 => if (y27 ++ ([y30] : List (List UInt8))).length * 16 ≤ 140737488355328 then some (y27 ++ ([y30] : List (List UInt8))) else none else none else none
  else if 0 ≤ y23 ∧ y23.toNat ≤ a1.length then (R86 (a1.drop y23.toNat) (w64 (a2 - y23))).bind fun y34 => if 0 ≤ y23 ∧ y23.toNat ≤ a1.length then (M83 F (a1.take y23.toNat)).bind fun y37 => if (y34 ++ ([y37] : List (List UInt8))).length * 16 ≤ 140737488355328 then some (y34 ++ ([y37] : List (List UInt8))) else none else none else none
def M86 : Nat → (List (List UInt8)) → Int → Option (List (List UInt8))
  | 0, _, _ => none
  | F + 1, a1, a2 => M86_B (M86 F) F a1 a2
def M31 (F : Nat) (a1 : (List (List UInt8))) (a2 : Int) (a3 : Int) : Option ((List (List UInt8)) × Int) :=
  (M74 F a1 4096).bind fun y4 => if (y4 != 0) = true then some (([] : List (List UInt8)), y4)
  else if (decide (a3 < 1)) = true then some (([] : List (List UInt8)), 9)
  else if (decide (a3 > ((a1.length : Nat) : Int))) = true then some (([] : List (List UInt8)), 9)
  else if (decide (a2 < 0)) = true then some (([] : List (List UInt8)), 9)
  else if (decide (a2 ≥ a3)) = true then some (([] : List (List UInt8)), 9)
  else if 0 ≤ a3 ∧ a3.toNat ≤ a1.length then (M86 F (a1.take a3.toNat) a2).bind fun y12 => some (y12, 0) else none
def M87_B (R87 : (List (List UInt8)) → Int → Option (List (List UInt8))) (F : Nat) (a1 : (List (List UInt8))) (a2 : Int) : Option (List (List UInt8)) :=
  if (((a1.length : Nat) : Int) == 1) = true then some ([] : List (List UInt8))
  else (M119 F ((a1.length : Nat) : Int)).bind fun y23 => if (decide (a2 < y23)) = true then if 0 ≤ y23 ∧ y23.toNat ≤ a1.length then (R87 (a1.take y23.toNat) a2).bind fun y27 => if 0 ≤ y23 ∧ y23.toNat ≤ a1.length then (M85 F (a1.drop y23.toNat)).bind fun y30 => if (y27 ++ ([y30] : List (List UInt8))).length * 16 ≤ 140737488355328 then some (y27 ++ ([y30] : List (List UInt8))) else none else none else none
  else if 0 ≤ y23 ∧ y23.toNat ≤ a1.length then (R87 (a1.drop y23.toNat) (w64 (a2 - y23))).bind fun y34 => if 0 ≤ y23 ∧ y23.toNat ≤ a1.length then (M85 F (a1.take y23.toNat)).bind fun y37 => if (y34 ++ ([y37] : List (List UInt8))).length * 16 ≤ 140737488355328 then some (y34 ++ ([y37] : List (List UInt8))) else none else none else none
def M87 : Nat → (List (List UInt8)) → Int → Option (List (List UInt8))
  | 0, _, _ => none
  | F + 1, a1, a2 => M87_B (M87 F) F a1 a2
def M32 (F : Nat) (a1 : (List (List UInt8))) (a2 : Int) (a3 : Int) : Option ((List (List UInt8)) × Int) :=
  (M84 F a1).bind fun y4 => if (y4 != 0) = true then some (([] : List (List UInt8)), y4)
  else if (decide (a3 < 1)) = true then some (([] : List (List UInt8)), 9)
  else if (decide (a3 > ((a1.length : Nat) : Int))) = true then some (([] : List (List UInt8)), 9)
  else if (decide (a2 < 0)) = true then some (([] : List (List UInt8)), 9)
  else if (decide (a2 ≥ a3)) = true then some (([] : List (List UInt8)), 9)
  else if 0 ≤ a3 ∧ a3.toNat ≤ a1.length then (M87 F (a1.take a3.toNat) a2).bind fun y12 => some (y12, 0) else none
def M88_B (R88 : (List (List UInt8)) → Int → Bool → Option (List (List UInt8))) (F : Nat) (a1 : (List (List UInt8))) (a2 : Int) (a3 : Bool) : Option (List (List UInt8)) :=
  if (a2 == ((a1.length : Nat) : Int)) = true then if a3 = true then some ([] : List (List UInt8))
  else (M83 F a1).bind fun y28 => some ([y28] : List (List UInt8))
  else (M116 F ((a1.length : Nat) : Int)).bind fun y30 => if (decide (a2 ≤ y30)) = true then if 0 ≤ y30 ∧ y30.toNat ≤ a1.length then (R88 (a1.take y30.toNat) a2 a3).bind fun y34 => if 0 ≤ y30 ∧ y30.toNat ≤ a1.length then (M83 F (a1.drop y30.toNat)).bind fun y37 => if (y34 ++ ([y37] : List (List UInt8))).length * 16 ≤ 140737488355328 then some (y34 ++ ([y37] : List (List UInt8))) else none else none else none
  else if 0 ≤ y30 ∧ y30.toNat ≤ a1.length then (R88 (a1.drop y30.toNat) (w64 (a2 - y30)) false).bind fun y41 => if 0 ≤ y30 ∧ y30.toNat ≤ a1.length then (M83 F (a1.take y30.toNat)).bind fun y44 => if (y41 ++ ([y44] : List (List UInt8))).length * 16 ≤ 140737488355328 then some (y41 ++ ([y44] : List (List UInt8))) else none else none else none
def M88 : Nat → (List (List UInt8)) → Int → Bool → Option (List (List UInt8))
  | 0, _, _, _ => none
  | F + 1, a1, a2, a3 => M88_B (M88 F) F a1 a2 a3
def M33 (F : Nat) (a1 : (List (List UInt8))) (a2 : Int) (a3 : Int) : Option ((List (List UInt8)) × Int) :=
  (M74 F a1 4096).bind fun y4 => if (y4 != 0) = true then some (([] : List (List UInt8)), y4)
  else if (decide (a3 < 1)) = true then some (([] : List (List UInt8)), 9)
  else if (decide (a3 > ((a1.length : Nat) : Int))) = true then some (([] : List (List UInt8)), 9)
  else if (decide (a2 < 1)) = true then some (([] : List (List UInt8)), 9)
  else if (decide (a2 > a3)) = true then some (([] : List (List UInt8)), 9)
  else if 0 ≤ a3 ∧ a3.toNat ≤ a1.length then (M88 F (a1.take a3.toNat) a2 true).bind fun y12 => some (y12, 0) else none
def M89_B (R89 : (List (List UInt8)) → Int → Bool → Option (List (List UInt8))) (F : Nat) (a1 : (List (List UInt8))) (a2 : Int) (a3 : Bool) : Option (List (List UInt8)) :=
  if (a2 == ((a1.length : Nat) : Int)) = true then if a3 = true then some ([] : List (List UInt8))
  else (M85 F a1).bind fun y28 => some ([y28] : List (List UInt8))
  else (M119 F ((a1.length : Nat) : Int)).bind fun y30 => if (decide (a2 ≤ y30)) = true then if 0 ≤ y30 ∧ y30.toNat ≤ a1.length then (R89 (a1.take y30.toNat) a2 a3).bind fun y34 => if 0 ≤ y30 ∧ y30.toNat ≤ a1.length then (M85 F (a1.drop y30.toNat)).bind fun y37 => if (y34 ++ ([y37] : List (List UInt8))).length * 16 ≤ 140737488355328 then some (y34 ++ ([y37] : List (List UInt8))) else none else none else none
  else if 0 ≤ y30 ∧ y30.toNat ≤ a1.length then (R89 (a1.drop y30.toNat) (w64 (a2 - y30)) false).bind fun y41 => if 0 ≤ y30 ∧ y30.toNat ≤ a1.length then (M85 F (a1.take y30.toNat)).bind fun y44 => if (y41 ++ ([y44] : List (List UInt8))).length * 16 ≤ 140737488355328 then some (y41 ++ ([y44] : List (List UInt8))) else none else none else none
def M89 : Nat → (List (List UInt8)) → Int → Bool → Option (List (List UInt8))
  | 0, _, _, _ => none
  | F + 1, a1, a2, a3 => M89_B (M89 F) F a1 a2 a3
def M34 (F : Nat) (a1 : (List (List UInt8))) (a2 : Int) (a3 : Int) : Option ((List (List UInt8)) × Int) :=
  (M84 F a1).bind fun y4 => if (y4 != 0) = true then some (([] : List (List UInt8)), y4)
  else if (decide (a3 < 1)) = true then some (([] : List (List UInt8)), 9)
  else if (decide (a3 > ((a1.length : Nat) : Int))) = true then some (([] : List (List UInt8)), 9)
  else if (decide (a2 < 1)) = true then some (([] : List (List UInt8)), 9)
  else if (decide (a2 > a3)) = true then some (([] : List (List UInt8)), 9)
  else if 0 ≤ a3 ∧ a3.toNat ≤ a1.length then (M89 F (a1.take a3.toNat) a2 true).bind fun y12 => some (y12, 0) else none
def M10 (F : Nat) (a1 : (List (List UInt8))) (a2 : Int) (a3 : Int) (a4 : Int) : Option Bool :=
  (M31 F a1 a2 a4).bind fun y5 => (M33 F a1 a3 a4).bind fun y7 => (M32 F a1 a2 a4).bind fun y9 => (M34 F a1 a3 a4).bind fun y11 => if ((y5.2) != (y9.2)) = true then some false
  else if ((y7.2) != (y11.2)) = true then some false
  else jn (jn ((M18 F).bind fun y41 => some y41) (fun k27 => if ((y7.2) == 0) = true then if 0 ≤ a4 ∧ a4.toNat ≤ a1.length then (M29 F (a1.take a4.toNat)).bind fun y30 => if 0 ≤ a3 ∧ a3.toNat ≤ a1.length then (M29 F (a1.take a3.toNat)).bind fun y33 => (M25 F (y33.1) (y30.1) a3 a4 (y7.1)).bind fun y35 => if ((y30.2) != 0) = true then some false
  else if ((y33.2) != 0) = true then some false
  else if ((y35.2) != 0) = true then some false
  else if (!(y35.1)) = true then some false
  else k27 else none else none
  else k27)) (fun k15 => if ((y5.2) == 0) = true then if 0 ≤ a4 ∧ a4.toNat ≤ a1.length then (M29 F (a1.take a4.toNat)).bind fun y18 => (idx a1 a2).bind fun x20 => (M23 F (y18.1) x20 a2 a4 (y5.1)).bind fun y22 => if ((y18.2) != 0) = true then some false
  else if ((y22.2) != 0) = true then some false
  else if (!(y22.1)) = true then some false
  else k15 else none
  else k15)
end
end Go.Proofs.YtihfhmibfhkoeaaDoor
