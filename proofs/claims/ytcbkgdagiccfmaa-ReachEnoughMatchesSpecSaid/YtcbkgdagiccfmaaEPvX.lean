/- Part of the proof: E3M, Q, X. -/
import Derived.Test.YtcbkgdagiccfmaaEE3T
import Derived.Test.YtcbkgdagiccfmaaEPvU
import Derived.Test.YtcbkgdagiccfmaaEZA
namespace Go.Proofs.Ytcbkgdagiccfmaa
open Go Go.Pv
set_option linter.unusedVariables false
set_option maxRecDepth 100000
noncomputable section
def M40_L3 (F : Nat) (k23 : (List ((List UInt8) × Bool)) → Option Treach_checker) : List TFunc → (List ((List UInt8) × Bool)) → Option Treach_checker
 | [], m28 => k23 m28
 | x30 :: tl3, m28 => M40_L3 F k23 tl3 (mput m28 x30.Name true)
def M40_L2 (F : Nat) (k13 : (List ((List UInt8) × Bool)) → Option Treach_checker) : List TType → (List ((List UInt8) × Bool)) → Option Treach_checker
 | [], m18 => k13 m18
 | x20 :: tl2, m18 => M40_L2 F k13 tl2 (mput m18 x20.Name true)
def M40_L1 (F : Nat) (k3 : (List ((List UInt8) × TIface)) → Option Treach_checker) : List TIface → (List ((List UInt8) × TIface)) → Option Treach_checker
 | [], m8 => k3 m8
 | x10 :: tl1, m8 => M40_L1 F k3 tl1 (mput m8 x10.Name x10)
def M40 (F : Nat) (a1 : TGraph) (a2 : Bool) : Option Treach_checker :=
 jn (fun (m4 : List ((List UInt8) × TIface)) => jn (fun (m14 : List ((List UInt8) × Bool)) => jn (fun (m24 : List ((List UInt8) × Bool)) => some (Treach_checker.mk a2 m4 m14 m24)) (fun k23 => M40_L3 F k23 a1.Funcs ([] : List ((List UInt8) × Bool)))) (fun k13 => M40_L2 F k13 a1.Types ([] : List ((List UInt8) × Bool)))) (fun k3 => M40_L1 F k3 a1.Ifaces ([] : List ((List UInt8) × TIface)))
def M56_L1 (F : Nat) (a1 : (List UInt8)) (k2 : Option Bool) : Nat → Int → Option Bool
  | 0, n4 => k2
  | tl1 + 1, n4 => (idx a1 n4).bind fun c6 => if (decide ((c6.toNat : Int) < 33)) = true then some false
 else (idx a1 n4).bind fun c9 => if (decide ((c9.toNat : Int) > 126)) = true then some false
 else (idx a1 n4).bind fun c12 => if ((c12.toNat : Int) == 35) = true then some false
 else M56_L1 F a1 k2 tl1 (n4 + 1)
def M56 (F : Nat) (a1 : (List UInt8)) : Option Bool :=
 jn (if (!(a1 == ([] : List UInt8))) = true then some (decide ((a1.length : Int) ≤ 100))
 else some false) (fun k2 => if (a1.length : Int) ≤ 9223372036854775807 then M56_L1 F a1 k2 (((a1.length : Int) : Int).toNat) 0 else none)
def M42 (F : Nat) (a1 : (List UInt8)) (a2 : (List UInt8)) (a3 : Bool) : Option Int :=
 (M56 F a1).bind fun y4 => jn (some 0) (fun k6 => if (!y4) = true then some 8
 else if (!a3) = true then if (Op.bytesLess a1 a2 || a1 == a2) = true then some 10
 else k6
 else k6)
def M52_L2 (F : Nat) (k18 : Option Int) : List (List UInt8) → Int → (List UInt8) → Option Int
  | [], n22, s21 => k18
  | x24 :: tl2, n22, s21 => (M42 F x24 s21 (n22 == 0)).bind fun y26 => if (y26 != 0) = true then some y26
 else M52_L2 F k18 tl2 (n22 + 1) x24
def M52_L1 (F : Nat) (k3 : Option Int) : List TIface → Int → (List UInt8) → Option Int
  | [], n7, s6 => k3
  | x11 :: tl1, n7, s6 => jn (fun (s10 : List UInt8) => M52_L1 F k3 tl1 (n7 + 1) s10) (fun k9 => (M42 F x11.Name s6 (n7 == 0)).bind fun y13 => if (y13 != 0) = true then some y13
 else if (((x11.Methods.length : Nat) : Int) == 0) = true then some 13
 else if (decide (((x11.Methods.length : Nat) : Int) > 200)) = true then some 3
 else jn (k9 x11.Name) (fun k18 => M52_L2 F k18 x11.Methods 0 ([] : List UInt8)))
def M52 (F : Nat) (a1 : Treach_checker) (a2 : (List TIface)) : Option Int :=
 jn (some 0) (fun k3 => M52_L1 F k3 a2 0 ([] : List UInt8))
def M53_L2 (F : Nat) (a1 : Treach_checker) (k17 : Option Int) : List TMethod → Int → (List UInt8) → Option Int
  | [], n21, s20 => k17
  | x25 :: tl2, n21, s20 => jn (fun (s24 : List UInt8) => M53_L2 F a1 k17 tl2 (n21 + 1) s24) (fun k23 => (M42 F x25.Name s20 (n21 == 0)).bind fun y27 => if (y27 != 0) = true then some y27
 else if (!a1.loose) = true then if (!((mget a1.funcs x25.Func).getD false)) = true then some 4
 else k23 x25.Name
 else k23 x25.Name)
def M53_L1 (F : Nat) (a1 : Treach_checker) (k3 : Option Int) : List TType → Int → (List UInt8) → Option Int
  | [], n7, s6 => k3
  | x11 :: tl1, n7, s6 => jn (fun (s10 : List UInt8) => M53_L1 F a1 k3 tl1 (n7 + 1) s10) (fun k9 => (M42 F x11.Name s6 (n7 == 0)).bind fun y13 => if (y13 != 0) = true then some y13
 else if (decide (((x11.Methods.length : Nat) : Int) > 200)) = true then some 3
 else jn (k9 x11.Name) (fun k17 => M53_L2 F a1 k17 x11.Methods 0 ([] : List UInt8)))
def M53 (F : Nat) (a1 : Treach_checker) (a2 : (List TType)) : Option Int :=
 jn (some 0) (fun k3 => M53_L1 F a1 k3 a2 0 ([] : List UInt8))
def M19_L1 (F : Nat) (a2 : (List UInt8)) (k3 : Option Int) : List (List UInt8) → Int → Option Int
  | [], n5 => k3
  | x7 :: tl1, n5 => if (a2 == x7) = true then some n5
 else M19_L1 F a2 k3 tl1 (n5 + 1)
def M19 (F : Nat) (a1 : (List (List UInt8))) (a2 : (List UInt8)) : Option Int :=
 jn (some (-1)) (fun k3 => M19_L1 F a2 k3 a1 0)
def M9 (F : Nat) (a1 : (List (List UInt8))) (a2 : (List UInt8)) : Option Bool :=
 (M19 F a1 a2).bind fun y3 => some (decide (y3 ≥ 0))
def M61 (F : Nat) (a1 : Treach_checker) (a2 : TCall) : Option Int :=
 jn (if (!(a2.Feature == ([] : List UInt8))) = true then (M56 F a2.Feature).bind fun y16 => if (!y16) = true then some 8
 else some 0
 else some 0) (fun k3 => if (a2.Kind == 1) = true then if (!a1.loose) = true then if (!((mget a1.funcs a2.Target).getD false)) = true then some 4
 else if (!(a2.Method == ([] : List UInt8))) = true then some 2
 else k3
 else if (!(a2.Method == ([] : List UInt8))) = true then some 2
 else k3
 else if (a2.Kind == 2) = true then if (!a1.loose) = true then if (!((mget a1.ifaces a2.Target).isSome)) = true then some 4
 else (M9 F ((mget a1.ifaces a2.Target).getD (TIface.mk ([] : List UInt8) ([] : (List (List UInt8))))).Methods a2.Method).bind fun y12 => if (!y12) = true then some 4
 else k3
 else k3
 else some 7)
def M55_L1 (F : Nat) (a1 : Treach_checker) (a2 : (List (List UInt8))) (a3 : (List ((List UInt8) × Bool))) (k4 : Option Int) : List (List UInt8) → Int → Option Int
  | [], n6 => k4
  | x8 :: tl1, n6 => jn (M55_L1 F a1 a2 a3 k4 tl1 (n6 + 1)) (fun k10 => if (!a1.loose) = true then jn (k10) (fun k12 => if (!((mget a3 x8).getD false)) = true then some 4
 else if (decide (n6 > 0)) = true then (idx a2 (w64 (n6 - 1))).bind fun x15 => if (Op.bytesLess x8 x15 || x8 == x15) = true then some 10
 else k12
 else k12)
 else if (decide (n6 > 0)) = true then (idx a2 (w64 (n6 - 1))).bind fun x19 => if (Op.bytesLess x8 x19 || x8 == x19) = true then some 10
 else k10
 else k10)
def M55 (F : Nat) (a1 : Treach_checker) (a2 : (List (List UInt8))) (a3 : (List ((List UInt8) × Bool))) : Option Int :=
 jn (some 0) (fun k4 => M55_L1 F a1 a2 a3 k4 a2 0)
def M54_L2 (F : Nat) (a1 : Treach_checker) (k20 : Option Int) : List TCall → Option Int
  | [] => k20
  | x24 :: tl2 => (M61 F a1 x24).bind fun y26 => if (y26 != 0) = true then some y26
 else M54_L2 F a1 k20 tl2
def M54_L1 (F : Nat) (a1 : Treach_checker) (k3 : Option Int) : List TFunc → Int → (List UInt8) → Option Int
  | [], n7, s6 => k3
  | x11 :: tl1, n7, s6 => jn (fun (s10 : List UInt8) => M54_L1 F a1 k3 tl1 (n7 + 1) s10) (fun k9 => (M42 F x11.Name s6 (n7 == 0)).bind fun y13 => if (y13 != 0) = true then some y13
 else (M56 F x11.Component).bind fun y16 => if (!y16) = true then some 8
 else if (decide (((x11.Calls.length : Nat) : Int) > 200)) = true then some 3
 else jn ((M55 F a1 x11.Makes a1.types).bind fun y30 => if (y30 != 0) = true then some y30
 else k9 x11.Name) (fun k20 => M54_L2 F a1 k20 x11.Calls))
def M54 (F : Nat) (a1 : Treach_checker) (a2 : (List TFunc)) : Option Int :=
 jn (some 0) (fun k3 => M54_L1 F a1 k3 a2 0 ([] : List UInt8))
def M41 (F : Nat) (a1 : Treach_checker) (a2 : TGraph) : Option Int :=
 if (decide (((a2.Ifaces.length : Nat) : Int) > 200)) = true then some 3
 else if (decide (((a2.Types.length : Nat) : Int) > 500)) = true then some 3
 else if (decide (((a2.Funcs.length : Nat) : Int) > 3000)) = true then some 3
 else (M52 F a1 a2.Ifaces).bind fun y6 => if (y6 != 0) = true then some y6
 else (M53 F a1 a2.Types).bind fun y9 => if (y9 != 0) = true then some y9
 else (M54 F a1 a2.Funcs).bind fun y12 => if (y12 != 0) = true then some y12
 else (M55 F a1 a2.Entries a1.funcs).bind fun y15 => some y15
def M29 (F : Nat) (a1 : TGraph) : Option Int :=
 (M40 F a1 false).bind fun y2 => (M41 F y2 a1).bind fun y4 => some y4
def M30_L1 (F : Nat) (k3 : Option Int) : List (List UInt8) → Int → (List UInt8) → Option Int
  | [], n7, s6 => k3
  | x9 :: tl1, n7, s6 => (M42 F x9 s6 (n7 == 0)).bind fun y11 => if (y11 != 0) = true then some y11
 else M30_L1 F k3 tl1 (n7 + 1) x9
def M30 (F : Nat) (a1 : (List (List UInt8))) : Option Int :=
 if (decide (((a1.length : Nat) : Int) > 30)) = true then some 3
 else jn (some 0) (fun k3 => M30_L1 F k3 a1 0 ([] : List UInt8))
def M62 (F : Nat) (a1 : (List UInt8)) : Option Bool :=
 some (!(a1 == a1))
def M59 (F : Nat) (a1 : (List UInt8)) (a2 : (List UInt8)) : Option Int :=
 (M62 F a1).bind fun y3 => (M62 F a2).bind fun y5 => if y3 = true then if y5 = true then some 0
 else some (-1)
 else if y5 = true then some 1
 else if (Op.bytesLess a1 a2) = true then some (-1)
 else if (!(Op.bytesLess a1 a2 || a1 == a2)) = true then some 1
 else some 0
def M58 (F : Nat) (a1 : TMethod) (a2 : (List UInt8)) : Option Int :=
 (M59 F a1.Name a2).bind fun y3 => some y3
def M57_L1 (F : Nat) (a1 : (List TMethod)) (a2 : (List UInt8)) (k3 : Int → Option (Int × Bool)) : Nat → Int → Int → Option (Int × Bool)
 | 0, _, _ => none
 | n + 1, n7, n8 => if (decide (n7 < n8)) = true then (idx a1 (w64 (Int.fdiv (IntKind.wrap .u64 (w64 (n7 + n8))) (2 ^ (min (Int.toNat 1) (IntKind.bits .u64)))))).bind fun x10 => (M58 F x10 a2).bind fun y12 => jn (fun (n15 : Int) (n16 : Int) => M57_L1 F a1 a2 k3 n n15 n16) (fun k14 => if (decide (y12 < 0)) = true then k14 (w64 ((w64 (Int.fdiv (IntKind.wrap .u64 (w64 (n7 + n8))) (2 ^ (min (Int.toNat 1) (IntKind.bits .u64))))) + 1)) n8
 else k14 n7 (w64 (Int.fdiv (IntKind.wrap .u64 (w64 (n7 + n8))) (2 ^ (min (Int.toNat 1) (IntKind.bits .u64))))))
 else k3 n7
def M57 (F : Nat) (a1 : (List TMethod)) (a2 : (List UInt8)) : Option (Int × Bool) :=
 jn (fun (n4 : Int) => if (decide (n4 < ((a1.length : Nat) : Int))) = true then (idx a1 n4).bind fun x19 => (M58 F x19 a2).bind fun y21 => some (n4, (y21 == 0))
 else some (n4, false)) (fun k3 => M57_L1 F a1 a2 k3 F 0 ((a1.length : Nat) : Int))
def M45 (F : Nat) (a1 : TType) (a2 : (List UInt8)) : Option ((List UInt8) × Bool) :=
 (M57 F a1.Methods a2).bind fun y3 => if (!(y3.2)) = true then some (([] : List UInt8), false)
 else (idx a1.Methods (y3.1)).bind fun x6 => some (x6.Func, true)
def M43_L1 (F : Nat) (a1 : TType) (k3 : Option Bool) : List (List UInt8) → Option Bool
  | [] => k3
  | x7 :: tl1 => (M45 F a1 x7).bind fun y9 => if (!(y9.2)) = true then some false
 else M43_L1 F a1 k3 tl1
def M43 (F : Nat) (a1 : TType) (a2 : TIface) : Option Bool :=
 jn (some true) (fun k3 => M43_L1 F a1 k3 a2.Methods)
def M31_L5 (F : Nat) (k114 : (List ((List UInt8) × Bool)) → Option ((List ((List UInt8) × Int)) × (List ((List UInt8) × Int)) × (List ((List UInt8) × (List Int))) × (List ((List UInt8) × Bool)))) : List (List UInt8) → (List ((List UInt8) × Bool)) → Option ((List ((List UInt8) × Int)) × (List ((List UInt8) × Int)) × (List ((List UInt8) × (List Int))) × (List ((List UInt8) × Bool)))
 | [], m119 => k114 m119
 | x121 :: tl5, m119 => M31_L5 F k114 tl5 (mput m119 x121 true)
def M31_L4 (F : Nat) (x95 : TIface) (k97 : (List ((List UInt8) × (List Int))) → Option ((List ((List UInt8) × Int)) × (List ((List UInt8) × Int)) × (List ((List UInt8) × (List Int))) × (List ((List UInt8) × Bool)))) : List TType → Int → (List ((List UInt8) × (List Int))) → Option ((List ((List UInt8) × Int)) × (List ((List UInt8) × Int)) × (List ((List UInt8) × (List Int))) × (List ((List UInt8) × Bool)))
  | [], n101, m102 => k97 m102
  | x104 :: tl4, n101, m102 => (M43 F x104 x95).bind fun y106 => jn (fun (m109 : List ((List UInt8) × (List Int))) => M31_L4 F x95 k97 tl4 (n101 + 1) m109) (fun k108 => if y106 = true then if (((mget m102 x95.Name).getD []) ++ ([n101] : List Int)).length * 8 ≤ 140737488355328 then k108 (mput m102 x95.Name (((mget m102 x95.Name).getD []) ++ ([n101] : List Int))) else none
 else k108 m102)
def M31_L3 (F : Nat) (a1 : TGraph) (k86 : (List ((List UInt8) × (List Int))) → Option ((List ((List UInt8) × Int)) × (List ((List UInt8) × Int)) × (List ((List UInt8) × (List Int))) × (List ((List UInt8) × Bool)))) : List TIface → (List ((List UInt8) × (List Int))) → Option ((List ((List UInt8) × Int)) × (List ((List UInt8) × Int)) × (List ((List UInt8) × (List Int))) × (List ((List UInt8) × Bool)))
 | [], m91 => k86 m91
 | x95 :: tl3, m91 => jn (fun (m94 : List ((List UInt8) × (List Int))) => M31_L3 F a1 k86 tl3 m94) (fun k93 => jn (fun (m98 : List ((List UInt8) × (List Int))) => k93 m98) (fun k97 => M31_L4 F x95 k97 a1.Types 0 m91))
def M31_L2 (F : Nat) (k76 : (List ((List UInt8) × Int)) → Option ((List ((List UInt8) × Int)) × (List ((List UInt8) × Int)) × (List ((List UInt8) × (List Int))) × (List ((List UInt8) × Bool)))) : List TType → Int → (List ((List UInt8) × Int)) → Option ((List ((List UInt8) × Int)) × (List ((List UInt8) × Int)) × (List ((List UInt8) × (List Int))) × (List ((List UInt8) × Bool)))
 | [], n80, m81 => k76 m81
 | x83 :: tl2, n80, m81 => M31_L2 F k76 tl2 (n80 + 1) (mput m81 x83.Name n80)
def M31_L1 (F : Nat) (k66 : (List ((List UInt8) × Int)) → Option ((List ((List UInt8) × Int)) × (List ((List UInt8) × Int)) × (List ((List UInt8) × (List Int))) × (List ((List UInt8) × Bool)))) : List TFunc → Int → (List ((List UInt8) × Int)) → Option ((List ((List UInt8) × Int)) × (List ((List UInt8) × Int)) × (List ((List UInt8) × (List Int))) × (List ((List UInt8) × Bool)))
 | [], n70, m71 => k66 m71
 | x73 :: tl1, n70, m71 => M31_L1 F k66 tl1 (n70 + 1) (mput m71 x73.Name n70)
def M31 (F : Nat) (a1 : TGraph) (a2 : Int) (a3 : (List (List UInt8))) : Option ((List ((List UInt8) × Int)) × (List ((List UInt8) × Int)) × (List ((List UInt8) × (List Int))) × (List ((List UInt8) × Bool))) :=
 jn (fun (m67 : List ((List UInt8) × Int)) => jn (fun (m77 : List ((List UInt8) × Int)) => jn (fun (m87 : List ((List UInt8) × (List Int))) => jn (fun (m115 : List ((List UInt8) × Bool)) => some (m67, m77, m87, m115)) (fun k114 => M31_L5 F k114 a3 (mput ([] : List ((List UInt8) × Bool)) ([] : List UInt8) true))) (fun k86 => M31_L3 F a1 k86 a1.Ifaces ([] : List ((List UInt8) × (List Int))))) (fun k76 => M31_L2 F k76 a1.Types 0 ([] : List ((List UInt8) × Int)))) (fun k66 => M31_L1 F k66 a1.Funcs 0 ([] : List ((List UInt8) × Int)))
def M18 (F : Nat) (a1 : TGraph) (a2 : Int) (a3 : (List (List UInt8))) : Option (((List ((List UInt8) × Int)) × (List ((List UInt8) × Int)) × (List ((List UInt8) × (List Int))) × (List ((List UInt8) × Bool))) ⊕ Int) :=
 (M29 F a1).bind fun y21 => if (y21 != 0) = true then some (Sum.inr y21)
 else (M30 F a3).bind fun y24 => if (y24 != 0) = true then some (Sum.inr y24)
 else if (a2 != 1) = true then if (a2 != 2) = true then some (Sum.inr 7)
 else (M31 F a1 a2 a3).bind fun y29 => some (Sum.inl ((y29.1), (y29.2.1), (y29.2.2.1), (y29.2.2.2)))
 else (M31 F a1 a2 a3).bind fun y31 => some (Sum.inl ((y31.1), (y31.2.1), (y31.2.2.1), (y31.2.2.2)))
def M12 (F : Nat) (a1 : TGraph) (a2 : Int) (a3 : (List (List UInt8))) (a4 : (List UInt8)) : Option ((Int × (List ((List UInt8) × Int)) × (List ((List UInt8) × Int)) × (List ((List UInt8) × (List Int))) × (List ((List UInt8) × Bool))) ⊕ Int) :=
 (M18 F a1 a2 a3).bind fun y => sm y (fun z18 => if (0 != 0) = true then some (Sum.inr 0)
 else if (!((mget (z18.1) a4).isSome)) = true then some (Sum.inr 4)
 else some (Sum.inl (((mget (z18.1) a4).getD 0), (z18.1), (z18.2.1), (z18.2.2.1), (z18.2.2.2)))) (fun z19 => if (z19 != 0) = true then some (Sum.inr z19)
 else none)
def M20 (F : Nat) (a1 : Int) (a2 : Treach_world) (a3 : List Bool) (a4 : List Bool) (a5 : List (Treach_slot × Bool)) (a6 : List Treach_slot) (a7 : List Int) (a8 : List Int) : Option ((List Bool) × (List Int)) :=
 (idx a3 a1).bind fun x17 => if (!x17) = true then (idx a3 a1).bind fun x20 => if (a8 ++ ([a1] : List Int)).length * 8 ≤ 140737488355328 then some ((a3.set a1.toNat true), (a8 ++ ([a1] : List Int))) else none
 else some (a3, a8)
def M44_L1 (F : Nat) (a2 : Int) (k3 : Option Int) : List Int → Int → Option Int
  | [], n5 => k3
  | x7 :: tl1, n5 => if (a2 == x7) = true then some n5
 else M44_L1 F a2 k3 tl1 (n5 + 1)
def M44 (F : Nat) (a1 : (List Int)) (a2 : Int) : Option Int :=
 jn (some (-1)) (fun k3 => M44_L1 F a2 k3 a1 0)
def M32 (F : Nat) (a1 : (List Int)) (a2 : Int) : Option Bool :=
 (M44 F a1 a2).bind fun y3 => some (decide (y3 ≥ 0))
def M33 (F : Nat) (a1 : Treach_world) (a2 : TCall) (a3 : Int) : Option Int :=
 (idx a1.g.Types a3).bind fun x4 => (M45 F x4 a2.Method).bind fun y6 => some ((mget a1.funcs (y6.1)).getD 0)
def M21_L1 (F : Nat) (a1 : Int) (a2 : Treach_world) (a4 : List Bool) (a5 : List (Treach_slot × Bool)) (a6 : List Treach_slot) (a7 : List Int) : List Treach_slot → (List Bool) → (List Int) → Option ((List Bool) × (List Bool) × (List Int))
  | [], l48, l49 => some (l48, (a4.set a1.toNat true), l49)
  | x51 :: tl1, l48, l49 => (M32 F ((mget a2.fitting x51.iface).getD ([] : (List Int))) a1).bind fun y53 => jn (fun (l56 : List Bool) (l57 : List Int) => M21_L1 F a1 a2 a4 a5 a6 a7 tl1 l56 l57) (fun k55 => if y53 = true then (M33 F a2 (TCall.mk 0 x51.iface x51.method ([] : List UInt8)) a1).bind fun y59 => (M20 F y59 a2 l48 (a4.set a1.toNat true) a5 a6 a7 l49).bind fun y61 => k55 (y61.1) (y61.2)
 else k55 l48 l49)
def M21 (F : Nat) (a1 : Int) (a2 : Treach_world) (a3 : List Bool) (a4 : List Bool) (a5 : List (Treach_slot × Bool)) (a6 : List Treach_slot) (a7 : List Int) (a8 : List Int) : Option ((List Bool) × (List Bool) × (List Int)) :=
 (idx a4 a1).bind fun x38 => if x38 = true then some (a3, a4, a8)
 else (idx a4 a1).bind fun x41 => if (!a2.made) = true then some (a3, (a4.set a1.toNat true), a8)
 else M21_L1 F a1 a2 a4 a5 a6 a7 a6 a3 a8
def M22_L1 (F : Nat) (a1 : TCall) (a2 : Treach_world) (a4 : List Bool) (a5 : List (Treach_slot × Bool)) (a6 : List Treach_slot) (a7 : List Int) : List Int → (List Bool) → (List Int) → Option ((List Bool) × (List (Treach_slot × Bool)) × (List Treach_slot) × (List Int))
  | [], l55, l56 => some (l55, (mput a5 (Treach_slot.mk a1.Target a1.Method) true), (a6 ++ ([(Treach_slot.mk a1.Target a1.Method)] : List Treach_slot)), l56)
  | x61 :: tl1, l55, l56 => jn (fun (l59 : List Bool) (l60 : List Int) => M22_L1 F a1 a2 a4 a5 a6 a7 tl1 l59 l60) (fun k58 => if (!a2.made) = true then (M33 F a2 a1 x61).bind fun y64 => (M20 F y64 a2 l55 a4 (mput a5 (Treach_slot.mk a1.Target a1.Method) true) (a6 ++ ([(Treach_slot.mk a1.Target a1.Method)] : List Treach_slot)) a7 l56).bind fun y66 => k58 (y66.1) (y66.2)
 else (idx a4 x61).bind fun x68 => jn (fun (l71 : List Bool) (l72 : List Int) => k58 l71 l72) (fun k70 => if x68 = true then (M33 F a2 a1 x61).bind fun y74 => (M20 F y74 a2 l55 a4 (mput a5 (Treach_slot.mk a1.Target a1.Method) true) (a6 ++ ([(Treach_slot.mk a1.Target a1.Method)] : List Treach_slot)) a7 l56).bind fun y76 => k70 (y76.1) (y76.2)
 else k70 l55 l56))
def M22 (F : Nat) (a1 : TCall) (a2 : Treach_world) (a3 : List Bool) (a4 : List Bool) (a5 : List (Treach_slot × Bool)) (a6 : List Treach_slot) (a7 : List Int) (a8 : List Int) : Option ((List Bool) × (List (Treach_slot × Bool)) × (List Treach_slot) × (List Int)) :=
 if (a1.Kind == 1) = true then (M20 F ((mget a2.funcs a1.Target).getD 0) a2 a3 a4 a5 a6 a7 a8).bind fun y47 => some ((y47.1), a5, a6, (y47.2))
 else if ((mget a5 (Treach_slot.mk a1.Target a1.Method)).getD false) = true then some (a3, a5, a6, a8)
 else if (a6 ++ ([(Treach_slot.mk a1.Target a1.Method)] : List Treach_slot)).length * 32 ≤ 140737488355328 then M22_L1 F a1 a2 a4 a5 a6 a7 ((mget a2.fitting a1.Target).getD ([] : (List Int))) a3 a8 else none
def M13_L4 (F : Nat) (a1 : Treach_world) (a2 : Int) (l153 : List Bool) (k122 : (List Bool) → (List Bool) → (List (Treach_slot × Bool)) → (List Treach_slot) → (List Int) → Option ((List Bool) × (List Bool) × (List (Treach_slot × Bool)) × (List Treach_slot) × (List Int))) (k171 : (List Bool) → (List (Treach_slot × Bool)) → (List Treach_slot) → (List Int) → Option ((List Bool) × (List Bool) × (List (Treach_slot × Bool)) × (List Treach_slot) × (List Int))) : List TCall → (List Bool) → (List (Treach_slot × Bool)) → (List Treach_slot) → (List Int) → Option ((List Bool) × (List Bool) × (List (Treach_slot × Bool)) × (List Treach_slot) × (List Int))
  | [], l182, m183, l184, l185 => k171 l182 m183 l184 l185
  | x192 :: tl4, l182, m183, l184, l185 => jn (fun (l188 : List Bool) (m189 : List (Treach_slot × Bool)) (l190 : List Treach_slot) (l191 : List Int) => M13_L4 F a1 a2 l153 k122 k171 tl4 l188 m189 l190 l191) (fun k187 => if (!((mget a1.on x192.Feature).getD false)) = true then k187 l182 m183 l184 l185
 else (M22 F x192 a1 l182 l153 m183 l184 ([] : List Int) l185).bind fun y195 => if (decide (a2 ≥ 0)) = true then (idx (y195.1) a2).bind fun x198 => if x198 = true then k122 (y195.1) l153 (y195.2.1) (y195.2.2.1) (y195.2.2.2)
 else k187 (y195.1) (y195.2.1) (y195.2.2.1) (y195.2.2.2)
 else k187 (y195.1) (y195.2.1) (y195.2.2.1) (y195.2.2.2))
def M13_L3 (F : Nat) (a1 : Treach_world) (m135 : List (Treach_slot × Bool)) (l136 : List Treach_slot) (k151 : (List Bool) → (List Bool) → (List Int) → Option ((List Bool) × (List Bool) × (List (Treach_slot × Bool)) × (List Treach_slot) × (List Int))) : List (List UInt8) → (List Bool) → (List Bool) → (List Int) → Option ((List Bool) × (List Bool) × (List (Treach_slot × Bool)) × (List Treach_slot) × (List Int))
 | [], l160, l161, l162 => k151 l160 l161 l162
 | x164 :: tl3, l160, l161, l162 => (M21 F ((mget a1.types x164).getD 0) a1 l160 l161 m135 l136 ([] : List Int) l162).bind fun y166 => M13_L3 F a1 m135 l136 k151 tl3 (y166.1) (y166.2.1) (y166.2.2)
def M13_L2 (F : Nat) (a1 : Treach_world) (a2 : Int) (k122 : (List Bool) → (List Bool) → (List (Treach_slot × Bool)) → (List Treach_slot) → (List Int) → Option ((List Bool) × (List Bool) × (List (Treach_slot × Bool)) × (List Treach_slot) × (List Int))) : Nat → (List Bool) → (List Bool) → (List (Treach_slot × Bool)) → (List Treach_slot) → (List Int) → Option ((List Bool) × (List Bool) × (List (Treach_slot × Bool)) × (List Treach_slot) × (List Int))
 | 0, _, _, _, _, _ => none
 | n + 1, l133, l134, m135, l136, l137 => if (decide (((l137.length : Nat) : Int) > 0)) = true then jn (fun (l140 : List Bool) (l141 : List Bool) (m142 : List (Treach_slot × Bool)) (l143 : List Treach_slot) (l144 : List Int) => M13_L2 F a1 a2 k122 n l140 l141 m142 l143 l144) (fun k139 => (idx l137 0).bind fun x145 => if 1 ≤ l137.length then if (x145 == a2) = true then k122 l133 l134 m135 l136 (l137.drop 1)
 else (idx a1.g.Funcs x145).bind fun x149 => jn (fun (l152 : List Bool) (l153 : List Bool) (l154 : List Int) => (idx a1.g.Funcs x145).bind fun x169 => jn (fun (l172 : List Bool) (m173 : List (Treach_slot × Bool)) (l174 : List Treach_slot) (l175 : List Int) => k139 l172 l153 m173 l174 l175) (fun k171 => M13_L4 F a1 a2 l153 k122 k171 x169.Calls l152 m135 l136 l154)) (fun k151 => M13_L3 F a1 m135 l136 k151 x149.Makes l133 l134 (l137.drop 1)) else none)
 else k122 l133 l134 m135 l136 l137
def M13_L1 (F : Nat) (a1 : Treach_world) (k107 : (List Bool) → (List Int) → Option ((List Bool) × (List Bool) × (List (Treach_slot × Bool)) × (List Treach_slot) × (List Int))) : List (List UInt8) → (List Bool) → (List Int) → Option ((List Bool) × (List Bool) × (List (Treach_slot × Bool)) × (List Treach_slot) × (List Int))
 | [], l114, l115 => k107 l114 l115
 | x117 :: tl1, l114, l115 => (M20 F ((mget a1.funcs x117).getD 0) a1 l114 (List.replicate (((a1.g.Types.length : Nat) : Int)).toNat (false : Bool)) ([] : List (Treach_slot × Bool)) ([] : List Treach_slot) ([] : List Int) l115).bind fun y119 => M13_L1 F a1 k107 tl1 (y119.1) (y119.2)
def M13 (F : Nat) (a1 : Treach_world) (a2 : Int) : Option ((List Bool) × (List Bool) × (List (Treach_slot × Bool)) × (List Treach_slot) × (List Int)) :=
 if 0 ≤ ((a1.g.Funcs.length : Nat) : Int) ∧ ((1 : Nat) : Int) * ((a1.g.Funcs.length : Nat) : Int) ≤ 140737488355328 ∧ ((a1.g.Funcs.length : Nat) : Int) ≤ 140737488355328 then if 0 ≤ ((a1.g.Types.length : Nat) : Int) ∧ ((1 : Nat) : Int) * ((a1.g.Types.length : Nat) : Int) ≤ 140737488355328 ∧ ((a1.g.Types.length : Nat) : Int) ≤ 140737488355328 then jn (fun (l108 : List Bool) (l109 : List Int) => jn (fun (l123 : List Bool) (l124 : List Bool) (m125 : List (Treach_slot × Bool)) (l126 : List Treach_slot) (l127 : List Int) => some (l123, l124, m125, l126, l127)) (fun k122 => M13_L2 F a1 a2 k122 F l108 (List.replicate (((a1.g.Types.length : Nat) : Int)).toNat (false : Bool)) ([] : List (Treach_slot × Bool)) ([] : List Treach_slot) l109)) (fun k107 => M13_L1 F a1 k107 a1.g.Entries (List.replicate (((a1.g.Funcs.length : Nat) : Int)).toNat (false : Bool)) ([] : List Int)) else none else none
def M11 (F : Nat) (a1 : (List (List UInt8))) : Option (List (List UInt8)) :=
 nilq a1.length (fun b7 => if b7 = true then some ([] : List (List UInt8))
 else if (([] : List (List UInt8)) ++ a1).length * 16 ≤ 140737488355328 then some (([] : List (List UInt8)) ++ a1) else none)
def M14 (F : Nat) (a1 : List UInt8) (a2 : List (List UInt8)) : Option (List (List UInt8)) := if a2 ≠ [] ∧ a2.length ≤ 140737488355328 then some (a2.filter fun y => !(y == a1)) else none
def M4_L1 (F : Nat) (a1 : TGraph) (a2 : Int) (z5 : (Int × (List ((List UInt8) × Int)) × (List ((List UInt8) × Int)) × (List ((List UInt8) × (List Int))) × (List ((List UInt8) × Bool)))) (k17 : (List (List UInt8)) → Option ((List (List UInt8)) × Bool × Int)) : List (List UInt8) → (List (List UInt8)) → (List ((List UInt8) × Bool)) → Option ((List (List UInt8)) × Bool × Int)
  | [], l23, m24 => k17 l23
  | x26 :: tl1, l23, m24 => (M13 F (Treach_world.mk a1 (z5.2.1) (z5.2.2.1) (z5.2.2.2.1) (mdel m24 x26) (a2 == 2)) (z5.1)).bind fun y28 => (idx (y28.1) (z5.1)).bind fun x30 => jn (fun (l33 : List (List UInt8)) (m34 : List ((List UInt8) × Bool)) => M4_L1 F a1 a2 z5 k17 tl1 l33 m34) (fun k32 => if x30 = true then (M14 F x26 l23).bind fun y36 => k32 y36 (mdel m24 x26)
 else k32 l23 (mput (mdel m24 x26) x26 true))
def M4 (F : Nat) (a1 : TGraph) (a2 : Int) (a3 : (List (List UInt8))) (a4 : (List UInt8)) : Option ((List (List UInt8)) × Bool × Int) :=
 (M12 F a1 a2 a3 a4).bind fun y => sm y (fun z5 => if (0 != 0) = true then some (([] : List (List UInt8)), false, 0)
 else (M13 F (Treach_world.mk a1 (z5.2.1) (z5.2.2.1) (z5.2.2.2.1) (z5.2.2.2.2) (a2 == 2)) (z5.1)).bind fun y10 => (idx (y10.1) (z5.1)).bind fun x12 => if (!x12) = true then some (([] : List (List UInt8)), false, 0)
 else (M11 F a3).bind fun y15 => jn (fun (l18 : List (List UInt8)) => some (l18, true, 0)) (fun k17 => M4_L1 F a1 a2 z5 k17 a3 y15 (z5.2.2.2.2))) (fun z6 => if (z6 != 0) = true then some (([] : List (List UInt8)), false, z6)
 else none)
def M34_L4 (F : Nat) (k35 : (List ((List UInt8) × Bool)) → Option Tprovenderref6_names) : List TFunc → (List ((List UInt8) × Bool)) → Option Tprovenderref6_names
 | [], m40 => k35 m40
 | x42 :: tl4, m40 => M34_L4 F k35 tl4 (mput m40 x42.Name true)
def M34_L3 (F : Nat) (k25 : (List ((List UInt8) × Bool)) → Option Tprovenderref6_names) : List TType → (List ((List UInt8) × Bool)) → Option Tprovenderref6_names
 | [], m30 => k25 m30
 | x32 :: tl3, m30 => M34_L3 F k25 tl3 (mput m30 x32.Name true)
def M34_L2 (F : Nat) (x11 : TIface) (k13 : (List ((List UInt8) × (List ((List UInt8) × Bool)))) → Option Tprovenderref6_names) : List (List UInt8) → (List ((List UInt8) × (List ((List UInt8) × Bool)))) → Option Tprovenderref6_names
 | [], m18 => k13 m18
 | x20 :: tl2, m18 => if (mget m18 x11.Name).isSome = true then M34_L2 F x11 k13 tl2 (mput m18 x11.Name (mput ((mget m18 x11.Name).getD []) x20 true)) else none
def M34_L1 (F : Nat) (k2 : (List ((List UInt8) × (List ((List UInt8) × Bool)))) → Option Tprovenderref6_names) : List TIface → (List ((List UInt8) × (List ((List UInt8) × Bool)))) → Option Tprovenderref6_names
 | [], m7 => k2 m7
 | x11 :: tl1, m7 => jn (fun (m10 : List ((List UInt8) × (List ((List UInt8) × Bool)))) => M34_L1 F k2 tl1 m10) (fun k9 => jn (fun (m14 : List ((List UInt8) × (List ((List UInt8) × Bool)))) => k9 m14) (fun k13 => M34_L2 F x11 k13 x11.Methods (mput m7 x11.Name ([] : List ((List UInt8) × Bool)))))
def M34 (F : Nat) (a1 : TGraph) : Option Tprovenderref6_names :=
 jn (fun (m3 : List ((List UInt8) × (List ((List UInt8) × Bool)))) => jn (fun (m26 : List ((List UInt8) × Bool)) => jn (fun (m36 : List ((List UInt8) × Bool)) => some (Tprovenderref6_names.mk m3 m26 m36)) (fun k35 => M34_L4 F k35 a1.Funcs ([] : List ((List UInt8) × Bool)))) (fun k25 => M34_L3 F k25 a1.Types ([] : List ((List UInt8) × Bool)))) (fun k2 => M34_L1 F k2 a1.Ifaces ([] : List ((List UInt8) × (List ((List UInt8) × Bool)))))
def M36_L1 (F : Nat) (a1 : (List UInt8)) (k2 : Option Bool) : Nat → Int → Option Bool
  | 0, n4 => k2
  | tl1 + 1, n4 => (idx a1 n4).bind fun c6 => if (decide ((c6.toNat : Int) < 33)) = true then some false
 else (idx a1 n4).bind fun c9 => if (decide ((c9.toNat : Int) > 126)) = true then some false
 else (idx a1 n4).bind fun c12 => if ((c12.toNat : Int) == 35) = true then some false
 else M36_L1 F a1 k2 tl1 (n4 + 1)
def M36 (F : Nat) (a1 : (List UInt8)) : Option Bool :=
 jn (if (decide ((a1.length : Int) ≥ 1)) = true then some (decide ((a1.length : Int) ≤ 100))
 else some false) (fun k2 => if (a1.length : Int) ≤ 9223372036854775807 then M36_L1 F a1 k2 (((a1.length : Int) : Int).toNat) 0 else none)
def M37 (F : Nat) (a1 : (List (List UInt8))) (a2 : Int) : Option Int :=
 if (decide (a2 > 0)) = true then (idx a1 a2).bind fun x4 => (idx a1 (w64 (a2 - 1))).bind fun x6 => if (Op.bytesLess x4 x6 || x4 == x6) = true then some 10
 else some 0
 else some 0
def M46_L2 (F : Nat) (x10 : TIface) (k18 : Option Int) : List (List UInt8) → Int → Option Int
  | [], n20 => k18
  | x22 :: tl2, n20 => (M36 F x22).bind fun y24 => if (!y24) = true then some 8
 else (M37 F x10.Methods n20).bind fun y27 => if (y27 != 0) = true then some y27
 else M46_L2 F x10 k18 tl2 (n20 + 1)
def M46_L1 (F : Nat) (k2 : Option Int) : List TIface → (List UInt8) → Option Int
  | [], s5 => k2
  | x10 :: tl1, s5 => jn (fun (s9 : List UInt8) => M46_L1 F k2 tl1 s9) (fun k8 => (M36 F x10.Name).bind fun y12 => if (!y12) = true then some 8
 else if (Op.bytesLess x10.Name s5 || x10.Name == s5) = true then some 10
 else if (((x10.Methods.length : Nat) : Int) == 0) = true then some 13
 else if (decide (((x10.Methods.length : Nat) : Int) > 200)) = true then some 3
 else jn (k8 x10.Name) (fun k18 => M46_L2 F x10 k18 x10.Methods 0))
def M46 (F : Nat) (a1 : Tprovenderref6_checker) : Option Int :=
 jn (some 0) (fun k2 => M46_L1 F k2 a1.g.Ifaces ([] : List UInt8))
def M47_L2 (F : Nat) (a1 : Tprovenderref6_checker) (k17 : Option Int) : List TMethod → (List UInt8) → Option Int
  | [], s20 => k17
  | x23 :: tl2, s20 => (M36 F x23.Name).bind fun y25 => jn (M47_L2 F a1 k17 tl2 x23.Name) (fun k27 => if (!y25) = true then some 8
 else if (Op.bytesLess x23.Name s20 || x23.Name == s20) = true then some 10
 else if (!a1.loose) = true then if (!((mget a1.n.funcs x23.Func).getD false)) = true then some 4
 else k27
 else k27)
def M47_L1 (F : Nat) (a1 : Tprovenderref6_checker) (k2 : Option Int) : List TType → (List UInt8) → Option Int
  | [], s5 => k2
  | x10 :: tl1, s5 => jn (fun (s9 : List UInt8) => M47_L1 F a1 k2 tl1 s9) (fun k8 => (M36 F x10.Name).bind fun y12 => if (!y12) = true then some 8
 else if (Op.bytesLess x10.Name s5 || x10.Name == s5) = true then some 10
 else if (decide (((x10.Methods.length : Nat) : Int) > 200)) = true then some 3
 else jn (k8 x10.Name) (fun k17 => M47_L2 F a1 k17 x10.Methods ([] : List UInt8)))
def M47 (F : Nat) (a1 : Tprovenderref6_checker) : Option Int :=
 jn (some 0) (fun k2 => M47_L1 F a1 k2 a1.g.Types ([] : List UInt8))
def M60 (F : Nat) (a1 : Tprovenderref6_checker) (a2 : TCall) : Option Int :=
 jn (if (!(a2.Feature == ([] : List UInt8))) = true then (M36 F a2.Feature).bind fun y15 => if (!y15) = true then some 8
 else some 0
 else some 0) (fun k3 => if (a2.Kind == 1) = true then if (!a1.loose) = true then if (!((mget a1.n.funcs a2.Target).getD false)) = true then some 4
 else if (!(a2.Method == ([] : List UInt8))) = true then some 2
 else k3
 else if (!(a2.Method == ([] : List UInt8))) = true then some 2
 else k3
 else if (a2.Kind == 2) = true then if ((mget a1.n.ifaces a2.Target).isSome) = true then if (!a1.loose) = true then if (!((mget ((mget a1.n.ifaces a2.Target).getD []) a2.Method).getD false)) = true then some 4
 else k3
 else k3
 else if (!a1.loose) = true then some 4
 else k3
 else some 7)
def M48_L3 (F : Nat) (a1 : Tprovenderref6_checker) (x10 : TFunc) (k30 : Option Int) : List (List UInt8) → Int → Option Int
  | [], n32 => k30
  | x35 :: tl3, n32 => jn (M48_L3 F a1 x10 k30 tl3 (n32 + 1)) (fun k34 => if (!a1.loose) = true then if (!((mget a1.n.types x35).getD false)) = true then some 4
 else (M37 F x10.Makes n32).bind fun y39 => if (y39 != 0) = true then some y39
 else k34
 else (M37 F x10.Makes n32).bind fun y42 => if (y42 != 0) = true then some y42
 else k34)
def M48_L2 (F : Nat) (a1 : Tprovenderref6_checker) (k20 : Option Int) : List TCall → Option Int
  | [] => k20
  | x24 :: tl2 => (M60 F a1 x24).bind fun y26 => if (y26 != 0) = true then some y26
 else M48_L2 F a1 k20 tl2
def M48_L1 (F : Nat) (a1 : Tprovenderref6_checker) (k2 : Option Int) : List TFunc → (List UInt8) → Option Int
  | [], s5 => k2
  | x10 :: tl1, s5 => jn (fun (s9 : List UInt8) => M48_L1 F a1 k2 tl1 s9) (fun k8 => (M36 F x10.Name).bind fun y12 => if (!y12) = true then some 8
 else if (Op.bytesLess x10.Name s5 || x10.Name == s5) = true then some 10
 else (M36 F x10.Component).bind fun y16 => if (!y16) = true then some 8
 else if (decide (((x10.Calls.length : Nat) : Int) > 200)) = true then some 3
 else jn (jn (k8 x10.Name) (fun k30 => M48_L3 F a1 x10 k30 x10.Makes 0)) (fun k20 => M48_L2 F a1 k20 x10.Calls))
def M48 (F : Nat) (a1 : Tprovenderref6_checker) : Option Int :=
 jn (some 0) (fun k2 => M48_L1 F a1 k2 a1.g.Funcs ([] : List UInt8))
def M35_L1 (F : Nat) (a1 : Tprovenderref6_checker) (k14 : Option Int) : List (List UInt8) → Int → Option Int
  | [], n16 => k14
  | x19 :: tl1, n16 => jn (M35_L1 F a1 k14 tl1 (n16 + 1)) (fun k18 => if (!a1.loose) = true then if (!((mget a1.n.funcs x19).getD false)) = true then some 4
 else (M37 F a1.g.Entries n16).bind fun y23 => if (y23 != 0) = true then some y23
 else k18
 else (M37 F a1.g.Entries n16).bind fun y26 => if (y26 != 0) = true then some y26
 else k18)
def M35 (F : Nat) (a1 : Tprovenderref6_checker) : Option Int :=
 if (decide (((a1.g.Ifaces.length : Nat) : Int) > 200)) = true then some 3
 else if (decide (((a1.g.Types.length : Nat) : Int) > 500)) = true then some 3
 else if (decide (((a1.g.Funcs.length : Nat) : Int) > 3000)) = true then some 3
 else (M46 F a1).bind fun y5 => if (y5 != 0) = true then some y5
 else (M47 F a1).bind fun y8 => if (y8 != 0) = true then some y8
 else (M48 F a1).bind fun y11 => if (y11 != 0) = true then some y11
 else jn (some 0) (fun k14 => M35_L1 F a1 k14 a1.g.Entries 0)
def M24 (F : Nat) (a1 : TGraph) : Option Int :=
 (M34 F a1).bind fun y2 => (M35 F (Tprovenderref6_checker.mk a1 y2 false)).bind fun y4 => some y4
def M25_L1 (F : Nat) (a1 : (List (List UInt8))) (k3 : Option Int) : List (List UInt8) → Int → Option Int
  | [], n5 => k3
  | x7 :: tl1, n5 => (M36 F x7).bind fun y9 => if (!y9) = true then some 8
 else (M37 F a1 n5).bind fun y12 => if (y12 != 0) = true then some y12
 else M25_L1 F a1 k3 tl1 (n5 + 1)
def M25 (F : Nat) (a1 : (List (List UInt8))) : Option Int :=
 if (decide (((a1.length : Nat) : Int) > 30)) = true then some 3
 else jn (some 0) (fun k3 => M25_L1 F a1 k3 a1 0)
def M26_L1 (F : Nat) (a2 : (List UInt8)) (k3 : Option (TFunc × Bool)) : List TFunc → Option (TFunc × Bool)
  | [] => k3
  | x7 :: tl1 => if (x7.Name == a2) = true then some (x7, true)
 else M26_L1 F a2 k3 tl1
def M26 (F : Nat) (a1 : TGraph) (a2 : (List UInt8)) : Option (TFunc × Bool) :=
 jn (some ((TFunc.mk ([] : List UInt8) ([] : List UInt8) ([] : List TCall) ([] : List (List UInt8))), false)) (fun k3 => M26_L1 F a2 k3 a1.Funcs)
def M16_L1 (F : Nat) (a1 : TGraph) (k13 : Option Int) : List (List UInt8) → Option Int
  | [] => k13
  | x17 :: tl1 => (M26 F a1 x17).bind fun y19 => if (!(y19.2)) = true then some 4
 else M16_L1 F a1 k13 tl1
def M16_L2 (F : Nat) (a1 : TGraph) (k23 : Option Int) : List (List UInt8) → Option Int
  | [] => k23
  | x27 :: tl2 => (M26 F a1 x27).bind fun y29 => if (!(y29.2)) = true then some 4
 else M16_L2 F a1 k23 tl2
def M16 (F : Nat) (a1 : TGraph) (a2 : Int) (a3 : (List (List UInt8))) (a4 : (List (List UInt8))) : Option Int :=
 (M24 F a1).bind fun y5 => if (y5 != 0) = true then some y5
 else (M25 F a3).bind fun y8 => if (y8 != 0) = true then some y8
 else if (a2 != 1) = true then if (a2 != 2) = true then some 7
 else jn (some 0) (fun k13 => M16_L1 F a1 k13 a4)
 else jn (some 0) (fun k23 => M16_L2 F a1 k23 a4)
def M49_L1 (F : Nat) (a2 : (List UInt8)) (k3 : Option (TIface × Bool)) : List TIface → Option (TIface × Bool)
  | [] => k3
  | x7 :: tl1 => if (x7.Name == a2) = true then some (x7, true)
 else M49_L1 F a2 k3 tl1
def M49 (F : Nat) (a1 : TGraph) (a2 : (List UInt8)) : Option (TIface × Bool) :=
 jn (some ((TIface.mk ([] : List UInt8) ([] : List (List UInt8))), false)) (fun k3 => M49_L1 F a2 k3 a1.Ifaces)
def M50_L1 (F : Nat) (a2 : (List UInt8)) (k3 : Option ((List UInt8) × Bool)) : List TMethod → Option ((List UInt8) × Bool)
  | [] => k3
  | x7 :: tl1 => if (x7.Name == a2) = true then some (x7.Func, true)
 else M50_L1 F a2 k3 tl1
def M50 (F : Nat) (a1 : TType) (a2 : (List UInt8)) : Option ((List UInt8) × Bool) :=
 jn (some (([] : List UInt8), false)) (fun k3 => M50_L1 F a2 k3 a1.Methods)
def M51_L1 (F : Nat) (a1 : TType) (k3 : Option Bool) : List (List UInt8) → Option Bool
  | [] => k3
  | x7 :: tl1 => (M50 F a1 x7).bind fun y9 => if (!(y9.2)) = true then some false
 else M51_L1 F a1 k3 tl1
def M51 (F : Nat) (a1 : TType) (a2 : TIface) : Option Bool :=
 jn (some true) (fun k3 => M51_L1 F a1 k3 a2.Methods)
def M38_L1 (F : Nat) (a2 : TCall) (y4 : (TIface × Bool)) (k6 : (List Tprovenderref6_aim) → Option (List Tprovenderref6_aim)) : List TType → (List Tprovenderref6_aim) → Option (List Tprovenderref6_aim)
  | [], l11 => k6 l11
  | x15 :: tl1, l11 => jn (fun (l14 : List Tprovenderref6_aim) => M38_L1 F a2 y4 k6 tl1 l14) (fun k13 => (M50 F x15 a2.Method).bind fun y17 => if (y17.2) = true then (M51 F x15 (y4.1)).bind fun y20 => jn (fun (l23 : List Tprovenderref6_aim) => k13 l23) (fun k22 => if y20 = true then if (l11 ++ ([(Tprovenderref6_aim.mk x15.Name (y17.1))] : List Tprovenderref6_aim)).length * 32 ≤ 140737488355328 then k22 (l11 ++ ([(Tprovenderref6_aim.mk x15.Name (y17.1))] : List Tprovenderref6_aim)) else none
 else k22 l11)
 else k13 l11)
def M38 (F : Nat) (a1 : TGraph) (a2 : TCall) : Option (List Tprovenderref6_aim) :=
 if (a2.Kind == 1) = true then some ([(Tprovenderref6_aim.mk ([] : List UInt8) a2.Target)] : List Tprovenderref6_aim)
 else (M49 F a1 a2.Target).bind fun y4 => jn (fun (l7 : List Tprovenderref6_aim) => some l7) (fun k6 => M38_L1 F a2 y4 k6 a1.Types ([] : List Tprovenderref6_aim))
def M27_L3 (F : Nat) (a1 : TGraph) (m4 : List ((List UInt8) × Bool)) (x29 : TFunc) (k31 : (List (TCall × (List Tprovenderref6_aim))) → (List ((List UInt8) × (List Tprovenderref6_link))) → Option Tprovenderref6_net) : List TCall → Int → (List (TCall × (List Tprovenderref6_aim))) → (List ((List UInt8) × (List Tprovenderref6_link))) → Option Tprovenderref6_net
  | [], n37, m38, m39 => k31 m38 m39
  | x44 :: tl3, n37, m38, m39 => jn (fun (m42 : List (TCall × (List Tprovenderref6_aim))) (m43 : List ((List UInt8) × (List Tprovenderref6_link))) => M27_L3 F a1 m4 x29 k31 tl3 (n37 + 1) m42 m43) (fun k41 => if (!((mget m4 x44.Feature).getD false)) = true then k41 m38 m39
 else jn (fun (l48 : List Tprovenderref6_aim) (m49 : List (TCall × (List Tprovenderref6_aim))) => if (((mget m39 x29.Name).getD []) ++ ([(Tprovenderref6_link.mk (TSite.mk x29.Name n37) l48)] : List Tprovenderref6_link)).length * 48 ≤ 140737488355328 then k41 m49 (mput m39 x29.Name (((mget m39 x29.Name).getD []) ++ ([(Tprovenderref6_link.mk (TSite.mk x29.Name n37) l48)] : List Tprovenderref6_link))) else none) (fun k47 => if (!((mget m38 (TCall.mk x44.Kind x44.Target x44.Method ([] : List UInt8))).isSome)) = true then (M38 F a1 x44).bind fun y51 => k47 y51 (mput m38 (TCall.mk x44.Kind x44.Target x44.Method ([] : List UInt8)) y51)
 else k47 ((mget m38 (TCall.mk x44.Kind x44.Target x44.Method ([] : List UInt8))).getD ([] : (List Tprovenderref6_aim))) m38))
def M27_L2 (F : Nat) (a1 : TGraph) (m4 : List ((List UInt8) × Bool)) (k13 : (List ((List UInt8) × (List Tprovenderref6_link))) → (List ((List UInt8) × TFunc)) → Option Tprovenderref6_net) : List TFunc → (List (TCall × (List Tprovenderref6_aim))) → (List ((List UInt8) × (List Tprovenderref6_link))) → (List ((List UInt8) × TFunc)) → Option Tprovenderref6_net
 | [], m21, m22, m23 => k13 m22 m23
 | x29 :: tl2, m21, m22, m23 => jn (fun (m26 : List (TCall × (List Tprovenderref6_aim))) (m27 : List ((List UInt8) × (List Tprovenderref6_link))) (m28 : List ((List UInt8) × TFunc)) => M27_L2 F a1 m4 k13 tl2 m26 m27 m28) (fun k25 => jn (fun (m32 : List (TCall × (List Tprovenderref6_aim))) (m33 : List ((List UInt8) × (List Tprovenderref6_link))) => k25 m32 m33 (mput m23 x29.Name x29)) (fun k31 => M27_L3 F a1 m4 x29 k31 x29.Calls 0 m21 m22))
def M27_L1 (F : Nat) (k3 : (List ((List UInt8) × Bool)) → Option Tprovenderref6_net) : List (List UInt8) → (List ((List UInt8) × Bool)) → Option Tprovenderref6_net
 | [], m8 => k3 m8
 | x10 :: tl1, m8 => M27_L1 F k3 tl1 (mput m8 x10 true)
def M27 (F : Nat) (a1 : TGraph) (a2 : (List (List UInt8))) : Option Tprovenderref6_net :=
 jn (fun (m4 : List ((List UInt8) × Bool)) => jn (fun (m14 : List ((List UInt8) × (List Tprovenderref6_link))) (m15 : List ((List UInt8) × TFunc)) => some (Tprovenderref6_net.mk a1 m14 m15)) (fun k13 => M27_L2 F a1 m4 k13 a1.Funcs ([] : List (TCall × (List Tprovenderref6_aim))) ([] : List ((List UInt8) × (List Tprovenderref6_link))) ([] : List ((List UInt8) × TFunc)))) (fun k3 => M27_L1 F k3 a2 (mput ([] : List ((List UInt8) × Bool)) ([] : List UInt8) true))
def M39_L5 (F : Nat) (a2 : Int) (a3 : Tprovenderref6_sets) (k46 : (List ((List UInt8) × Bool)) → Option Tprovenderref6_sets) : List Tprovenderref6_aim → (List ((List UInt8) × Bool)) → Option Tprovenderref6_sets
  | [], m51 => k46 m51
  | x55 :: tl5, m51 => jn (fun (m54 : List ((List UInt8) × Bool)) => M39_L5 F a2 a3 k46 tl5 m54) (fun k53 => if (a2 == 1) = true then k53 (canonM (mput m51 x55.to true))
 else if (x55.typ == ([] : List UInt8)) = true then k53 (canonM (mput m51 x55.to true))
 else jn (fun (m60 : List ((List UInt8) × Bool)) => k53 m60) (fun k59 => if ((mget a3.made x55.typ).getD false) = true then k59 (canonM (mput m51 x55.to true))
 else k59 m51))
def M39_L4 (F : Nat) (a2 : Int) (a3 : Tprovenderref6_sets) (k35 : (List ((List UInt8) × Bool)) → Option Tprovenderref6_sets) : List Tprovenderref6_link → (List ((List UInt8) × Bool)) → Option Tprovenderref6_sets
 | [], m40 => k35 m40
 | x44 :: tl4, m40 => jn (fun (m43 : List ((List UInt8) × Bool)) => M39_L4 F a2 a3 k35 tl4 m43) (fun k42 => jn (fun (m47 : List ((List UInt8) × Bool)) => k42 m47) (fun k46 => M39_L5 F a2 a3 k46 x44.aims m40))
def M39_L3 (F : Nat) (k25 : (List ((List UInt8) × Bool)) → Option Tprovenderref6_sets) : List (List UInt8) → (List ((List UInt8) × Bool)) → Option Tprovenderref6_sets
 | [], m30 => k25 m30
 | x32 :: tl3, m30 => M39_L3 F k25 tl3 (canonM (mput m30 x32 true))
def M39_L2 (F : Nat) (a1 : Tprovenderref6_net) (a2 : Int) (a3 : Tprovenderref6_sets) : List ((List UInt8) × Bool) → (List ((List UInt8) × Bool)) → (List ((List UInt8) × Bool)) → Option Tprovenderref6_sets
 | [], m18, m19 => some (Tprovenderref6_sets.mk m18 m19)
 | e20 :: l21, m18, m19 => jn (fun (m23 : List ((List UInt8) × Bool)) (m24 : List ((List UInt8) × Bool)) => M39_L2 F a1 a2 a3 l21 m23 m24) (fun k22 => jn (fun (m26 : List ((List UInt8) × Bool)) => jn (fun (m36 : List ((List UInt8) × Bool)) => k22 m36 m26) (fun k35 => M39_L4 F a2 a3 k35 ((mget a1.links e20.1).getD ([] : (List Tprovenderref6_link))) (canonM (mput m18 e20.1 true)))) (fun k25 => M39_L3 F k25 (((mget a1.funcs e20.1).getD (TFunc.mk ([] : List UInt8) ([] : List UInt8) ([] : (List TCall)) ([] : (List (List UInt8))))).Makes) m19))
def M39_L1 (F : Nat) (k4 : (List ((List UInt8) × Bool)) → Option Tprovenderref6_sets) : List (List UInt8) → (List ((List UInt8) × Bool)) → Option Tprovenderref6_sets
 | [], m9 => k4 m9
 | x11 :: tl1, m9 => M39_L1 F k4 tl1 (canonM (mput m9 x11 true))
def M39 (F : Nat) (a1 : Tprovenderref6_net) (a2 : Int) (a3 : Tprovenderref6_sets) : Option Tprovenderref6_sets :=
 jn (fun (m5 : List ((List UInt8) × Bool)) => M39_L2 F a1 a2 a3 a3.reached m5 ([] : List ((List UInt8) × Bool))) (fun k4 => M39_L1 F k4 a1.g.Entries ([] : List ((List UInt8) × Bool)))
def M28_L1 (F : Nat) (a1 : Tprovenderref6_net) (a2 : Int) : Nat → (List ((List UInt8) × Bool)) → (List ((List UInt8) × Bool)) → Option Tprovenderref6_sets
 | 0, _, _ => none
 | n + 1, m5, m6 => (M39 F a1 a2 (Tprovenderref6_sets.mk m5 m6)).bind fun y7 => if (((y7.reached.length : Nat) : Int) == ((m5.length : Nat) : Int)) = true then if (((y7.made.length : Nat) : Int) == ((m6.length : Nat) : Int)) = true then some y7
 else M28_L1 F a1 a2 n y7.reached y7.made
 else M28_L1 F a1 a2 n y7.reached y7.made
def M28 (F : Nat) (a1 : Tprovenderref6_net) (a2 : Int) : Option Tprovenderref6_sets :=
 M28_L1 F a1 a2 F ([] : List ((List UInt8) × Bool)) ([] : List ((List UInt8) × Bool))
def M17 (F : Nat) (a1 : TGraph) (a2 : Int) (a3 : (List (List UInt8))) (a4 : (List UInt8)) : Option Bool :=
 (M27 F a1 a3).bind fun y5 => (M28 F y5 a2).bind fun y7 => some ((mget y7.reached a4).getD false)
def M5_L2 (F : Nat) (x20 : (List UInt8)) (k22 : (List (List UInt8)) → Option ((List (List UInt8)) × Bool × Int)) : List (List UInt8) → (List (List UInt8)) → Option ((List (List UInt8)) × Bool × Int)
  | [], l27 => k22 l27
  | x29 :: tl2, l27 => jn (fun (l32 : List (List UInt8)) => M5_L2 F x20 k22 tl2 l32) (fun k31 => if (!(x29 == x20)) = true then if (l27 ++ ([x29] : List (List UInt8))).length * 16 ≤ 140737488355328 then k31 (l27 ++ ([x29] : List (List UInt8))) else none
 else k31 l27)
def M5_L1 (F : Nat) (a1 : TGraph) (a2 : Int) (a4 : (List UInt8)) (k11 : (List (List UInt8)) → Option ((List (List UInt8)) × Bool × Int)) : List (List UInt8) → (List (List UInt8)) → Option ((List (List UInt8)) × Bool × Int)
  | [], l15 => k11 l15
  | x20 :: tl1, l15 => jn (fun (l19 : List (List UInt8)) => M5_L1 F a1 a2 a4 k11 tl1 l19) (fun k18 => jn (fun (l23 : List (List UInt8)) => (M17 F a1 a2 l23 a4).bind fun y36 => jn (fun (l39 : List (List UInt8)) => k18 l39) (fun k38 => if y36 = true then k38 l23
 else k38 l15)) (fun k22 => M5_L2 F x20 k22 l15 ([] : List (List UInt8))))
def M5 (F : Nat) (a1 : TGraph) (a2 : Int) (a3 : (List (List UInt8))) (a4 : (List UInt8)) : Option ((List (List UInt8)) × Bool × Int) :=
 (M16 F a1 a2 a3 ([a4] : List (List UInt8))).bind fun y5 => if (y5 != 0) = true then some (([] : List (List UInt8)), false, y5)
 else (M17 F a1 a2 a3 a4).bind fun y8 => if (!y8) = true then some (([] : List (List UInt8)), false, 0)
 else jn (fun (l12 : List (List UInt8)) => if (([] : List (List UInt8)) ++ l12).length * 16 ≤ 140737488355328 then some ((([] : List (List UInt8)) ++ l12), true, 0) else none) (fun k11 => M5_L1 F a1 a2 a4 k11 a3 a3)
def M6_L1 (F : Nat) (a2 : (List (List UInt8))) (k4 : Option Bool) : List (List UInt8) → Int → Option Bool
  | [], n6 => k4
  | x8 :: tl1, n6 => (idx a2 n6).bind fun x10 => if (!(x8 == x10)) = true then some false
 else M6_L1 F a2 k4 tl1 (n6 + 1)
def M6 (F : Nat) (a1 : (List (List UInt8))) (a2 : (List (List UInt8))) : Option Bool :=
 if (((a1.length : Nat) : Int) != ((a2.length : Nat) : Int)) = true then some false
 else jn (some true) (fun k4 => M6_L1 F a2 k4 a1 0)
def M7 (F : Nat) : Option Bool := some true
def M31_1_L5 (F : Nat) (k52 : (List ((List UInt8) × Bool)) → Option (Option Treach_world)) : List (List UInt8) → (List ((List UInt8) × Bool)) → Option (Option Treach_world)
 | [], m57 => k52 m57
 | x59 :: tl5, m57 => M31_1_L5 F k52 tl5 (mput m57 x59 true)
def M31_1_L4 (F : Nat) (x33 : TIface) (k35 : (List ((List UInt8) × (List Int))) → Option (Option Treach_world)) : List TType → Int → (List ((List UInt8) × (List Int))) → Option (Option Treach_world)
  | [], n39, m40 => k35 m40
  | x42 :: tl4, n39, m40 => (M43 F x42 x33).bind fun y44 => jn (fun (m47 : List ((List UInt8) × (List Int))) => M31_1_L4 F x33 k35 tl4 (n39 + 1) m47) (fun k46 => if y44 = true then if (((mget m40 x33.Name).getD []) ++ ([n39] : List Int)).length * 8 ≤ 140737488355328 then k46 (mput m40 x33.Name (((mget m40 x33.Name).getD []) ++ ([n39] : List Int))) else none
 else k46 m40)
def M31_1_L3 (F : Nat) (a1 : TGraph) (k24 : (List ((List UInt8) × (List Int))) → Option (Option Treach_world)) : List TIface → (List ((List UInt8) × (List Int))) → Option (Option Treach_world)
 | [], m29 => k24 m29
 | x33 :: tl3, m29 => jn (fun (m32 : List ((List UInt8) × (List Int))) => M31_1_L3 F a1 k24 tl3 m32) (fun k31 => jn (fun (m36 : List ((List UInt8) × (List Int))) => k31 m36) (fun k35 => M31_1_L4 F x33 k35 a1.Types 0 m29))
def M31_1_L2 (F : Nat) (k14 : (List ((List UInt8) × Int)) → Option (Option Treach_world)) : List TType → Int → (List ((List UInt8) × Int)) → Option (Option Treach_world)
 | [], n18, m19 => k14 m19
 | x21 :: tl2, n18, m19 => M31_1_L2 F k14 tl2 (n18 + 1) (mput m19 x21.Name n18)
def M31_1_L1 (F : Nat) (k4 : (List ((List UInt8) × Int)) → Option (Option Treach_world)) : List TFunc → Int → (List ((List UInt8) × Int)) → Option (Option Treach_world)
 | [], n8, m9 => k4 m9
 | x11 :: tl1, n8, m9 => M31_1_L1 F k4 tl1 (n8 + 1) (mput m9 x11.Name n8)
def M31_1 (F : Nat) (a1 : TGraph) (a2 : Int) (a3 : (List (List UInt8))) : Option (Option Treach_world) :=
 jn (fun (m5 : List ((List UInt8) × Int)) => jn (fun (m15 : List ((List UInt8) × Int)) => jn (fun (m25 : List ((List UInt8) × (List Int))) => jn (fun (m53 : List ((List UInt8) × Bool)) => some (some (Treach_world.mk a1 m5 m15 m25 m53 (a2 == 2)))) (fun k52 => M31_1_L5 F k52 a3 (mput ([] : List ((List UInt8) × Bool)) ([] : List UInt8) true))) (fun k24 => M31_1_L3 F a1 k24 a1.Ifaces ([] : List ((List UInt8) × (List Int))))) (fun k14 => M31_1_L2 F k14 a1.Types 0 ([] : List ((List UInt8) × Int)))) (fun k4 => M31_1_L1 F k4 a1.Funcs 0 ([] : List ((List UInt8) × Int)))
def M18_1 (F : Nat) (a1 : TGraph) (a2 : Int) (a3 : (List (List UInt8))) : Option ((Option Treach_world) × Int) :=
 (M29 F a1).bind fun y4 => if (y4 != 0) = true then some ((none : Option Treach_world), y4)
 else (M30 F a3).bind fun y7 => if (y7 != 0) = true then some ((none : Option Treach_world), y7)
 else if (a2 != 1) = true then if (a2 != 2) = true then some ((none : Option Treach_world), 7)
 else (M31_1 F a1 a2 a3).bind fun y12 => (y12).bind fun x14 => some ((some x14), 0)
 else (M31_1 F a1 a2 a3).bind fun y16 => (y16).bind fun x18 => some ((some x18), 0)
def M13_1_L4 (F : Nat) (a1 : Treach_world) (a2 : Int) (l51 : List Bool) (k20 : (List Bool) → (List Bool) → (List (Treach_slot × Bool)) → (List Treach_slot) → (List Int) → Option (Option Treach_spread)) (k69 : (List Bool) → (List (Treach_slot × Bool)) → (List Treach_slot) → (List Int) → Option (Option Treach_spread)) : List TCall → (List Bool) → (List (Treach_slot × Bool)) → (List Treach_slot) → (List Int) → Option (Option Treach_spread)
  | [], l80, m81, l82, l83 => k69 l80 m81 l82 l83
  | x90 :: tl4, l80, m81, l82, l83 => jn (fun (l86 : List Bool) (m87 : List (Treach_slot × Bool)) (l88 : List Treach_slot) (l89 : List Int) => M13_1_L4 F a1 a2 l51 k20 k69 tl4 l86 m87 l88 l89) (fun k85 => if (!((mget a1.on x90.Feature).getD false)) = true then k85 l80 m81 l82 l83
 else (M22 F x90 a1 l80 l51 m81 l82 ([] : List Int) l83).bind fun y93 => if (decide (a2 ≥ 0)) = true then (idx (y93.1) a2).bind fun x96 => if x96 = true then k20 (y93.1) l51 (y93.2.1) (y93.2.2.1) (y93.2.2.2)
 else k85 (y93.1) (y93.2.1) (y93.2.2.1) (y93.2.2.2)
 else k85 (y93.1) (y93.2.1) (y93.2.2.1) (y93.2.2.2))
def M13_1_L3 (F : Nat) (a1 : Treach_world) (m33 : List (Treach_slot × Bool)) (l34 : List Treach_slot) (k49 : (List Bool) → (List Bool) → (List Int) → Option (Option Treach_spread)) : List (List UInt8) → (List Bool) → (List Bool) → (List Int) → Option (Option Treach_spread)
 | [], l58, l59, l60 => k49 l58 l59 l60
 | x62 :: tl3, l58, l59, l60 => (M21 F ((mget a1.types x62).getD 0) a1 l58 l59 m33 l34 ([] : List Int) l60).bind fun y64 => M13_1_L3 F a1 m33 l34 k49 tl3 (y64.1) (y64.2.1) (y64.2.2)
def M13_1_L2 (F : Nat) (a1 : Treach_world) (a2 : Int) (k20 : (List Bool) → (List Bool) → (List (Treach_slot × Bool)) → (List Treach_slot) → (List Int) → Option (Option Treach_spread)) : Nat → (List Bool) → (List Bool) → (List (Treach_slot × Bool)) → (List Treach_slot) → (List Int) → Option (Option Treach_spread)
 | 0, _, _, _, _, _ => none
 | n + 1, l31, l32, m33, l34, l35 => if (decide (((l35.length : Nat) : Int) > 0)) = true then jn (fun (l38 : List Bool) (l39 : List Bool) (m40 : List (Treach_slot × Bool)) (l41 : List Treach_slot) (l42 : List Int) => M13_1_L2 F a1 a2 k20 n l38 l39 m40 l41 l42) (fun k37 => (idx l35 0).bind fun x43 => if 1 ≤ l35.length then if (x43 == a2) = true then k20 l31 l32 m33 l34 (l35.drop 1)
 else (idx a1.g.Funcs x43).bind fun x47 => jn (fun (l50 : List Bool) (l51 : List Bool) (l52 : List Int) => (idx a1.g.Funcs x43).bind fun x67 => jn (fun (l70 : List Bool) (m71 : List (Treach_slot × Bool)) (l72 : List Treach_slot) (l73 : List Int) => k37 l70 l51 m71 l72 l73) (fun k69 => M13_1_L4 F a1 a2 l51 k20 k69 x67.Calls l50 m33 l34 l52)) (fun k49 => M13_1_L3 F a1 m33 l34 k49 x47.Makes l31 l32 (l35.drop 1)) else none)
 else k20 l31 l32 m33 l34 l35
def M13_1_L1 (F : Nat) (a1 : Treach_world) (k5 : (List Bool) → (List Int) → Option (Option Treach_spread)) : List (List UInt8) → (List Bool) → (List Int) → Option (Option Treach_spread)
 | [], l12, l13 => k5 l12 l13
 | x15 :: tl1, l12, l13 => (M20 F ((mget a1.funcs x15).getD 0) a1 l12 (List.replicate (((a1.g.Types.length : Nat) : Int)).toNat (false : Bool)) ([] : List (Treach_slot × Bool)) ([] : List Treach_slot) ([] : List Int) l13).bind fun y17 => M13_1_L1 F a1 k5 tl1 (y17.1) (y17.2)
def M13_1 (F : Nat) (a1 : Treach_world) (a2 : Int) : Option (Option Treach_spread) :=
 if 0 ≤ ((a1.g.Funcs.length : Nat) : Int) ∧ ((1 : Nat) : Int) * ((a1.g.Funcs.length : Nat) : Int) ≤ 140737488355328 ∧ ((a1.g.Funcs.length : Nat) : Int) ≤ 140737488355328 then if 0 ≤ ((a1.g.Types.length : Nat) : Int) ∧ ((1 : Nat) : Int) * ((a1.g.Types.length : Nat) : Int) ≤ 140737488355328 ∧ ((a1.g.Types.length : Nat) : Int) ≤ 140737488355328 then jn (fun (l6 : List Bool) (l7 : List Int) => jn (fun (l21 : List Bool) (l22 : List Bool) (m23 : List (Treach_slot × Bool)) (l24 : List Treach_slot) (l25 : List Int) => some (some (Treach_spread.mk (some a1) l21 l22 m23 l24 ([] : List Int) l25))) (fun k20 => M13_1_L2 F a1 a2 k20 F l6 (List.replicate (((a1.g.Types.length : Nat) : Int)).toNat (false : Bool)) ([] : List (Treach_slot × Bool)) ([] : List Treach_slot) l7)) (fun k5 => M13_1_L1 F a1 k5 a1.g.Entries (List.replicate (((a1.g.Funcs.length : Nat) : Int)).toNat (false : Bool)) ([] : List Int)) else none else none
def M8_L1 (F : Nat) (a1 : TGraph) (k13 : (List (List UInt8)) → Option ((List (List UInt8)) × Int)) : List Bool → Int → (List (List UInt8)) → Option ((List (List UInt8)) × Int)
  | [], n17, l18 => k13 l18
  | x20 :: tl1, n17, l18 => jn (fun (l23 : List (List UInt8)) => M8_L1 F a1 k13 tl1 (n17 + 1) l23) (fun k22 => if x20 = true then (idx a1.Funcs n17).bind fun x25 => if (l18 ++ ([x25.Name] : List (List UInt8))).length * 16 ≤ 140737488355328 then k22 (l18 ++ ([x25.Name] : List (List UInt8))) else none
 else k22 l18)
def M8 (F : Nat) (a1 : TGraph) (a2 : Int) (a3 : (List (List UInt8))) : Option ((List (List UInt8)) × Int) :=
 (M18_1 F a1 a2 a3).bind fun y4 => if ((y4.2) != 0) = true then some (([] : List (List UInt8)), (y4.2))
 else ((y4.1)).bind fun x7 => (M13_1 F x7 (-1)).bind fun y9 => (y9).bind fun x11 => jn (fun (l14 : List (List UInt8)) => some (l14, 0)) (fun k13 => M8_L1 F a1 k13 x11.funcs 0 ([] : List (List UInt8)))
def M10 (F : Nat) (a1 : Int) (a2 : Int) (a3 : List (List UInt8)) : Option (List (List UInt8)) := if 0 ≤ a1 ∧ a1 ≤ a2 ∧ a2.toNat ≤ a3.length then some (a3.take a1.toNat ++ a3.drop a2.toNat) else none
def M3_L1 (F : Nat) (a1 : TGraph) (a2 : Int) (a4 : (List UInt8)) (y5 : ((List (List UInt8)) × Bool × Int)) (k23 : Option Bool) : Nat → Int → Option Bool
  | 0, n25 => k23
  | tl1 + 1, n25 => (M11 F (y5.1)).bind fun y27 => (M10 F n25 (w64 (n25 + 1)) y27).bind fun y29 => (M8 F a1 a2 y29).bind fun y31 => if ((y31.2) != 0) = true then some false
 else (M9 F (y31.1) a4).bind fun y34 => if y34 = true then some false
 else M3_L1 F a1 a2 a4 y5 k23 tl1 (n25 + 1)
def M3 (F : Nat) (a1 : TGraph) (a2 : Int) (a3 : (List (List UInt8))) (a4 : (List UInt8)) : Option Bool :=
 (M4 F a1 a2 a3 a4).bind fun y5 => (M5 F a1 a2 a3 a4).bind fun y7 => if ((y5.2.1) != (y7.2.1)) = true then some false
 else if ((y5.2.2) != (y7.2.2)) = true then some false
 else (M6 F (y5.1) (y7.1)).bind fun y11 => if (!y11) = true then some false
 else if (!(y5.2.1)) = true then (M7 F).bind fun y15 => some y15
 else (M8 F a1 a2 (y5.1)).bind fun y17 => if ((y17.2) != 0) = true then some false
 else (M9 F (y17.1) a4).bind fun y20 => if (!y20) = true then some false
 else jn ((M7 F).bind fun y38 => some y38) (fun k23 => M3_L1 F a1 a2 a4 y5 k23 (((((y5.1).length : Nat) : Int) : Int).toNat) 0)
end
end Go.Proofs.Ytcbkgdagiccfmaa
namespace Go.Pv
open Go
theorem w64_id {n : Int} (h : -9223372036854775808 ≤ n) (h' : n ≤ 9223372036854775807) : w64 n = n := by
 have : w64 n = if n % 18446744073709551616 ≥ 9223372036854775808 then n % 18446744073709551616 - 18446744073709551616 else n % 18446744073709551616 := by
  simp [w64, IntKind.wrap, IntKind.signed, IntKind.bits]
 rw [this]
 split <;> omega
theorem jn_def {α β : Type} (k : α) (b : α → β) : jn k b = b k := rfl
theorem idx_nat {α : Type} {xs : List α} {j : Nat} (h : j < xs.length) : idx xs (j : Int) = some xs[j] := by
 simp [idx, h]
theorem if_t {α : Type} {p : Prop} [Decidable p] {x y : α} (h : p) : (if decide p = true then x else y) = x := by simp [h]
theorem if_f {α : Type} {p : Prop} [Decidable p] {x y : α} (h : ¬ p) : (if decide p = true then x else y) = y := by simp [h]
theorem mid_nat {a b : Nat} (h : a + b < 4611686018427387904) : w64 (Int.fdiv (IntKind.wrap .u64 (w64 ((a : Int) + (b : Int)))) (2 ^ (min (Int.toNat 1) (IntKind.bits .u64)))) = (((a + b) / 2 : Nat) : Int) := by
 rw [w64_id (n := (a : Int) + b) (by omega) (by omega)]
 have : IntKind.wrap .u64 ((a : Int) + b) = ((a + b : Nat) : Int) := by
  simp only [IntKind.wrap, IntKind.signed, IntKind.bits, Bool.false_and]
  simp
  omega
 rw [this]
 have e : (2 : Int) ^ (min (Int.toNat 1) (IntKind.bits .u64)) = 2 := by decide
 rw [e, Int.fdiv_eq_ediv_of_nonneg _ (by omega)]
 rw [w64_id (by omega) (by omega)]
 omega
theorem mget_mput {α β : Type} [DecidableEq α] (xs : List (α × β)) (k k' : α) (v : β) : mget (mput xs k v) k' = if k = k' then some v else mget xs k' := by
 induction xs with
 | nil => simp [mput, mget]
 | cons p r ih =>
  simp only [mput]
  split
  ·rename_i h
   simp only [mget, h]
   split <;> simp_all
  ·rename_i h
   simp only [mget]
   by_cases h2 : p.1 = k'
   ·rw [if_pos h2, if_pos h2, if_neg (fun e => h (h2.trans e.symm))]
   ·rw [if_neg h2, if_neg h2]; exact ih
theorem bl_cons (x : UInt8) (a : List UInt8) (y : UInt8) (b : List UInt8) : Op.bytesLess (x :: a) (y :: b) = (decide (x < y) || (x == y && Op.bytesLess a b)) := by
 rw [Op.bytesLess]
theorem bl_irrefl : ∀ a : List UInt8, Op.bytesLess a a = false
 | [] => by simp [Op.bytesLess]
 | x :: a => by rw [bl_cons, bl_irrefl a]; simp
theorem bl_trans : ∀ {a b c : List UInt8}, Op.bytesLess a b = true → Op.bytesLess b c = true → Op.bytesLess a c = true
 | [], [], _, h, _ => by simp [Op.bytesLess] at h
 | [], y :: b, [], _, h => by simp [Op.bytesLess] at h
 | [], y :: b, z :: c, _, _ => by simp [Op.bytesLess]
 | x :: a, [], _, h, _ => by simp [Op.bytesLess] at h
 | x :: a, y :: b, [], _, h => by simp [Op.bytesLess] at h
 | x :: a, y :: b, z :: c, h, g => by
  rw [bl_cons] at *
  simp only [Bool.or_eq_true, decide_eq_true_eq, Bool.and_eq_true, beq_iff_eq, UInt8.lt_iff_toNat_lt] at *
  rcases h with h | ⟨rfl, h⟩ <;> rcases g with g | ⟨rfl, g⟩
  ·exact .inl (by omega)
  ·exact .inl h
  ·exact .inl g
  ·exact .inr ⟨rfl, bl_trans h g⟩
theorem bl_tri : ∀ a b : List UInt8, Op.bytesLess a b = true ∨ a = b ∨ Op.bytesLess b a = true
 | [], [] => by simp
 | [], y :: b => by simp [Op.bytesLess]
 | x :: a, [] => by simp [Op.bytesLess]
 | x :: a, y :: b => by
  rw [bl_cons, bl_cons]
  simp only [Bool.or_eq_true, decide_eq_true_eq, Bool.and_eq_true, beq_iff_eq, UInt8.lt_iff_toNat_lt, List.cons.injEq]
  rcases Nat.lt_trichotomy x.toNat y.toNat with h | h | h
  ·exact .inl (.inl h)
  ·have := UInt8.toNat_inj.1 h
   subst this
   rcases bl_tri a b with h | h | h
   ·exact .inl (.inr ⟨rfl, h⟩)
   ·exact .inr (.inl ⟨rfl, h⟩)
   ·exact .inr (.inr (.inr ⟨rfl, h⟩))
  ·exact .inr (.inr (.inl h))
theorem bl_asymm {a b : List UInt8} (h : Op.bytesLess a b = true) : Op.bytesLess b a = false := by
 cases h' : Op.bytesLess b a with
 | false => rfl
 | true => have := bl_trans h h'; rw [bl_irrefl] at this; simp at this
theorem bl_ne {a b : List UInt8} (h : Op.bytesLess a b = true) : a ≠ b := by rintro rfl; rw [bl_irrefl] at h; simp at h
theorem idxL {α : Type} {g : List α → Int → Option Int} {k : Option Int} (p : α → Bool) (h0 : ∀ n, g [] n = k) (h1 : ∀ x l n, g (x :: l) n = if p x = true then some n else g l (n + 1)) :
  ∀ l (n : Nat), g l n = if l.any p = true then some ((n + l.findIdx p : Nat) : Int) else k
 | [], n => by simp [h0]
 | x :: l, n => by
  have e : ((n : Int) + 1) = ((n + 1 : Nat) : Int) := rfl
  rw [h1, e, idxL p h0 h1 l (n + 1)]
  cases h : p x
  ·have e2 : n + 1 + l.findIdx p = n + (l.findIdx p + 1) := by omega
   simp only [List.any_cons, h, Bool.false_or, List.findIdx_cons, cond_false, e2, Bool.false_eq_true, if_false]
  ·simp [List.findIdx_cons, h]
theorem bytesL {β : Type} {g : Nat → Int → Option β} {k : Option β} {f : β} (s : List UInt8) (p : UInt8 → Bool) (h0 : ∀ n, g 0 n = k)
  (h1 : ∀ m n, g (m + 1) n = (idx s n).bind fun c => if p c = true then g m (n + 1) else some f) :
  ∀ (m n : Nat), n + m = s.length → g m n = if (s.drop n).all p = true then k else some f
 | 0, n, h => by rw [h0, List.drop_eq_nil_of_le (by omega)]; simp
 | m + 1, n, h => by
  have hn : n < s.length := by omega
  have e : ((n : Int) + 1) = ((n + 1 : Nat) : Int) := rfl
  rw [h1, idx_nat hn, Option.bind_some, e, bytesL s p h0 h1 m (n + 1) (by omega), List.drop_eq_getElem_cons hn, List.all_cons]
  cases h : p s[n]
  ·simp only [Bool.false_and, Bool.false_eq_true, if_false]
  ·simp only [Bool.true_and, if_true]
theorem ite2 {α : Type} {p q : Prop} [Decidable p] [Decidable q] {x y : Option α} {a b : α} (h : p ↔ q) (h1 : q → x = some a) (h2 : ¬ q → y = some b) : (if p then x else y) = some (if q then a else b) := by
 by_cases hq : q
 ·rw [if_pos (h.2 hq), if_pos hq, h1 hq]
 ·rw [if_neg (fun hp => hq (h.1 hp)), if_neg hq, h2 hq]
theorem ne0 {n : Int} : (n != 0) = true ↔ n ≠ 0 := by simp
end Go.Pv
