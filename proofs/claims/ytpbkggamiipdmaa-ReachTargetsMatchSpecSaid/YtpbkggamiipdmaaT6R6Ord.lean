/- Part of the proof: R6M, Q, X, XR, R6Ord. -/
import Derived.Test.YtpbkggamiipdmaaT6R6T
import Derived.Test.YtpbkggamiipdmaaT6PvU
import Derived.Test.YtpbkggamiipdmaaT6ZA
import Derived.Test.YtpbkggamiipdmaaT6ZC
namespace Go.Proofs.Ytpbkggamiipdmaa
open Go Go.Pv
set_option linter.unusedVariables false
set_option maxRecDepth 100000
noncomputable section
def M77_L3 (F : Nat) (k23 : (List ((List UInt8) × Bool)) → Option Treach_checker) : List TFunc → (List ((List UInt8) × Bool)) → Option Treach_checker
  | [], m28 => k23 m28
  | x30 :: tl3, m28 => M77_L3 F k23 tl3 (mput m28 x30.Name true)
def M77_L2 (F : Nat) (k13 : (List ((List UInt8) × Bool)) → Option Treach_checker) : List TType → (List ((List UInt8) × Bool)) → Option Treach_checker
  | [], m18 => k13 m18
  | x20 :: tl2, m18 => M77_L2 F k13 tl2 (mput m18 x20.Name true)
def M77_L1 (F : Nat) (k3 : (List ((List UInt8) × TIface)) → Option Treach_checker) : List TIface → (List ((List UInt8) × TIface)) → Option Treach_checker
  | [], m8 => k3 m8
  | x10 :: tl1, m8 => M77_L1 F k3 tl1 (mput m8 x10.Name x10)
def M77 (F : Nat) (a1 : TGraph) (a2 : Bool) : Option Treach_checker :=
  jn (fun (m4 : List ((List UInt8) × TIface)) => jn (fun (m14 : List ((List UInt8) × Bool)) => jn (fun (m24 : List ((List UInt8) × Bool)) => some (Treach_checker.mk a2 m4 m14 m24)) (fun k23 => M77_L3 F k23 a1.Funcs ([] : List ((List UInt8) × Bool)))) (fun k13 => M77_L2 F k13 a1.Types ([] : List ((List UInt8) × Bool)))) (fun k3 => M77_L1 F k3 a1.Ifaces ([] : List ((List UInt8) × TIface)))
def M120_L1 (F : Nat) (a1 : (List UInt8)) (k2 : Option Bool) : Nat → Int → Option Bool
  | 0, n4 => k2
  | tl1 + 1, n4 => (idx a1 n4).bind fun c6 => if (decide ((c6.toNat : Int) < 33)) = true then some false
 else (idx a1 n4).bind fun c9 => if (decide ((c9.toNat : Int) > 126)) = true then some false
 else (idx a1 n4).bind fun c12 => if ((c12.toNat : Int) == 35) = true then some false
 else M120_L1 F a1 k2 tl1 (n4 + 1)
def M120 (F : Nat) (a1 : (List UInt8)) : Option Bool :=
  jn (if (!(a1 == ([] : List UInt8))) = true then some (decide ((a1.length : Int) ≤ 100))
  else some false) (fun k2 => if (a1.length : Int) ≤ 9223372036854775807 then M120_L1 F a1 k2 (((a1.length : Int) : Int).toNat) 0 else none)
def M93 (F : Nat) (a1 : (List UInt8)) (a2 : (List UInt8)) (a3 : Bool) : Option Int :=
  (M120 F a1).bind fun y4 => jn (some 0) (fun k6 => if (!y4) = true then some 8
  else if (!a3) = true then if (Op.bytesLess a1 a2 || a1 == a2) = true then some 10
  else k6
  else k6)
def M105_L2 (F : Nat) (k18 : Option Int) : List (List UInt8) → Int → (List UInt8) → Option Int
  | [], n22, s21 => k18
  | x24 :: tl2, n22, s21 => (M93 F x24 s21 (n22 == 0)).bind fun y26 => if (y26 != 0) = true then some y26
 else M105_L2 F k18 tl2 (n22 + 1) x24
def M105_L1 (F : Nat) (k3 : Option Int) : List TIface → Int → (List UInt8) → Option Int
  | [], n7, s6 => k3
  | x11 :: tl1, n7, s6 => jn (fun (s10 : List UInt8) => M105_L1 F k3 tl1 (n7 + 1) s10) (fun k9 => (M93 F x11.Name s6 (n7 == 0)).bind fun y13 => if (y13 != 0) = true then some y13
 else if (((x11.Methods.length : Nat) : Int) == 0) = true then some 13
 else if (decide (((x11.Methods.length : Nat) : Int) > 200)) = true then some 3
 else jn (k9 x11.Name) (fun k18 => M105_L2 F k18 x11.Methods 0 ([] : List UInt8)))
def M105 (F : Nat) (a1 : Treach_checker) (a2 : (List TIface)) : Option Int :=
  jn (some 0) (fun k3 => M105_L1 F k3 a2 0 ([] : List UInt8))
def M106_L2 (F : Nat) (a1 : Treach_checker) (k17 : Option Int) : List TMethod → Int → (List UInt8) → Option Int
  | [], n21, s20 => k17
  | x25 :: tl2, n21, s20 => jn (fun (s24 : List UInt8) => M106_L2 F a1 k17 tl2 (n21 + 1) s24) (fun k23 => (M93 F x25.Name s20 (n21 == 0)).bind fun y27 => if (y27 != 0) = true then some y27
 else if (!a1.loose) = true then if (!((mget a1.funcs x25.Func).getD false)) = true then some 4
 else k23 x25.Name
 else k23 x25.Name)
def M106_L1 (F : Nat) (a1 : Treach_checker) (k3 : Option Int) : List TType → Int → (List UInt8) → Option Int
  | [], n7, s6 => k3
  | x11 :: tl1, n7, s6 => jn (fun (s10 : List UInt8) => M106_L1 F a1 k3 tl1 (n7 + 1) s10) (fun k9 => (M93 F x11.Name s6 (n7 == 0)).bind fun y13 => if (y13 != 0) = true then some y13
 else if (decide (((x11.Methods.length : Nat) : Int) > 200)) = true then some 3
 else jn (k9 x11.Name) (fun k17 => M106_L2 F a1 k17 x11.Methods 0 ([] : List UInt8)))
def M106 (F : Nat) (a1 : Treach_checker) (a2 : (List TType)) : Option Int :=
  jn (some 0) (fun k3 => M106_L1 F a1 k3 a2 0 ([] : List UInt8))
def M41_L1 (F : Nat) (a2 : (List UInt8)) (k3 : Option Int) : List (List UInt8) → Int → Option Int
  | [], n5 => k3
  | x7 :: tl1, n5 => if (a2 == x7) = true then some n5
 else M41_L1 F a2 k3 tl1 (n5 + 1)
def M41 (F : Nat) (a1 : (List (List UInt8))) (a2 : (List UInt8)) : Option Int :=
  jn (some (-1)) (fun k3 => M41_L1 F a2 k3 a1 0)
def M16 (F : Nat) (a1 : (List (List UInt8))) (a2 : (List UInt8)) : Option Bool :=
  (M41 F a1 a2).bind fun y3 => some (decide (y3 ≥ 0))
def M127 (F : Nat) (a1 : Treach_checker) (a2 : TCall) : Option Int :=
  jn (if (!(a2.Feature == ([] : List UInt8))) = true then (M120 F a2.Feature).bind fun y16 => if (!y16) = true then some 8
  else some 0
  else some 0) (fun k3 => if (a2.Kind == 1) = true then if (!a1.loose) = true then if (!((mget a1.funcs a2.Target).getD false)) = true then some 4
  else if (!(a2.Method == ([] : List UInt8))) = true then some 2
  else k3
  else if (!(a2.Method == ([] : List UInt8))) = true then some 2
  else k3
  else if (a2.Kind == 2) = true then if (!a1.loose) = true then if (!((mget a1.ifaces a2.Target).isSome)) = true then some 4
  else (M16 F ((mget a1.ifaces a2.Target).getD (TIface.mk ([] : List UInt8) ([] : (List (List UInt8))))).Methods a2.Method).bind fun y12 => if (!y12) = true then some 4
  else k3
  else k3
  else some 7)
def M108_L1 (F : Nat) (a1 : Treach_checker) (a2 : (List (List UInt8))) (a3 : (List ((List UInt8) × Bool))) (k4 : Option Int) : List (List UInt8) → Int → Option Int
  | [], n6 => k4
  | x8 :: tl1, n6 => jn (M108_L1 F a1 a2 a3 k4 tl1 (n6 + 1)) (fun k10 => if (!a1.loose) = true then jn (k10) (fun k12 => if (!((mget a3 x8).getD false)) = true then some 4
 else if (decide (n6 > 0)) = true then (idx a2 (w64 (n6 - 1))).bind fun x15 => if (Op.bytesLess x8 x15 || x8 == x15) = true then some 10
 else k12
 else k12)
 else if (decide (n6 > 0)) = true then (idx a2 (w64 (n6 - 1))).bind fun x19 => if (Op.bytesLess x8 x19 || x8 == x19) = true then some 10
 else k10
 else k10)
def M108 (F : Nat) (a1 : Treach_checker) (a2 : (List (List UInt8))) (a3 : (List ((List UInt8) × Bool))) : Option Int :=
  jn (some 0) (fun k4 => M108_L1 F a1 a2 a3 k4 a2 0)
def M107_L2 (F : Nat) (a1 : Treach_checker) (k20 : Option Int) : List TCall → Option Int
  | [] => k20
  | x24 :: tl2 => (M127 F a1 x24).bind fun y26 => if (y26 != 0) = true then some y26
 else M107_L2 F a1 k20 tl2
def M107_L1 (F : Nat) (a1 : Treach_checker) (k3 : Option Int) : List TFunc → Int → (List UInt8) → Option Int
  | [], n7, s6 => k3
  | x11 :: tl1, n7, s6 => jn (fun (s10 : List UInt8) => M107_L1 F a1 k3 tl1 (n7 + 1) s10) (fun k9 => (M93 F x11.Name s6 (n7 == 0)).bind fun y13 => if (y13 != 0) = true then some y13
 else (M120 F x11.Component).bind fun y16 => if (!y16) = true then some 8
 else if (decide (((x11.Calls.length : Nat) : Int) > 200)) = true then some 3
 else jn ((M108 F a1 x11.Makes a1.types).bind fun y30 => if (y30 != 0) = true then some y30
 else k9 x11.Name) (fun k20 => M107_L2 F a1 k20 x11.Calls))
def M107 (F : Nat) (a1 : Treach_checker) (a2 : (List TFunc)) : Option Int :=
  jn (some 0) (fun k3 => M107_L1 F a1 k3 a2 0 ([] : List UInt8))
def M78 (F : Nat) (a1 : Treach_checker) (a2 : TGraph) : Option Int :=
  if (decide (((a2.Ifaces.length : Nat) : Int) > 200)) = true then some 3
  else if (decide (((a2.Types.length : Nat) : Int) > 500)) = true then some 3
  else if (decide (((a2.Funcs.length : Nat) : Int) > 3000)) = true then some 3
  else (M105 F a1 a2.Ifaces).bind fun y6 => if (y6 != 0) = true then some y6
  else (M106 F a1 a2.Types).bind fun y9 => if (y9 != 0) = true then some y9
  else (M107 F a1 a2.Funcs).bind fun y12 => if (y12 != 0) = true then some y12
  else (M108 F a1 a2.Entries a1.funcs).bind fun y15 => some y15
def M44 (F : Nat) (a1 : TGraph) : Option Int :=
  (M77 F a1 false).bind fun y2 => (M78 F y2 a1).bind fun y4 => some y4
def M126 (F : Nat) (a1 : (List UInt8)) : Option Bool :=
  some (!(a1 == a1))
def M111 (F : Nat) (a1 : (List UInt8)) (a2 : (List UInt8)) : Option Int :=
  (M126 F a1).bind fun y3 => (M126 F a2).bind fun y5 => if y3 = true then if y5 = true then some 0
  else some (-1)
  else if y5 = true then some 1
  else if (Op.bytesLess a1 a2) = true then some (-1)
  else if (!(Op.bytesLess a1 a2 || a1 == a2)) = true then some 1
  else some 0
def M110 (F : Nat) (a1 : TMethod) (a2 : (List UInt8)) : Option Int :=
  (M111 F a1.Name a2).bind fun y3 => some y3
def M109_L1 (F : Nat) (a1 : (List TMethod)) (a2 : (List UInt8)) (k3 : Int → Option (Int × Bool)) : Nat → Int → Int → Option (Int × Bool)
  | 0, _, _ => none
  | n + 1, n7, n8 => if (decide (n7 < n8)) = true then (idx a1 (w64 (Int.fdiv (IntKind.wrap .u64 (w64 (n7 + n8))) (2 ^ (min (Int.toNat 1) (IntKind.bits .u64)))))).bind fun x10 => (M110 F x10 a2).bind fun y12 => jn (fun (n15 : Int) (n16 : Int) => M109_L1 F a1 a2 k3 n n15 n16) (fun k14 => if (decide (y12 < 0)) = true then k14 (w64 ((w64 (Int.fdiv (IntKind.wrap .u64 (w64 (n7 + n8))) (2 ^ (min (Int.toNat 1) (IntKind.bits .u64))))) + 1)) n8
  else k14 n7 (w64 (Int.fdiv (IntKind.wrap .u64 (w64 (n7 + n8))) (2 ^ (min (Int.toNat 1) (IntKind.bits .u64))))))
  else k3 n7
def M109 (F : Nat) (a1 : (List TMethod)) (a2 : (List UInt8)) : Option (Int × Bool) :=
  jn (fun (n4 : Int) => if (decide (n4 < ((a1.length : Nat) : Int))) = true then (idx a1 n4).bind fun x19 => (M110 F x19 a2).bind fun y21 => some (n4, (y21 == 0))
  else some (n4, false)) (fun k3 => M109_L1 F a1 a2 k3 F 0 ((a1.length : Nat) : Int))
def M79 (F : Nat) (a1 : TType) (a2 : (List UInt8)) : Option ((List UInt8) × Bool) :=
  (M109 F a1.Methods a2).bind fun y3 => if (!(y3.2)) = true then some (([] : List UInt8), false)
  else (idx a1.Methods (y3.1)).bind fun x6 => some (x6.Func, true)
def M49_L1 (F : Nat) (a1 : TType) (k3 : Option Bool) : List (List UInt8) → Option Bool
  | [] => k3
  | x7 :: tl1 => (M79 F a1 x7).bind fun y9 => if (!(y9.2)) = true then some false
 else M49_L1 F a1 k3 tl1
def M49 (F : Nat) (a1 : TType) (a2 : TIface) : Option Bool :=
  jn (some true) (fun k3 => M49_L1 F a1 k3 a2.Methods)
def M54_L5 (F : Nat) (k52 : (List ((List UInt8) × Bool)) → Option (Option Treach_world)) : List (List UInt8) → (List ((List UInt8) × Bool)) → Option (Option Treach_world)
  | [], m57 => k52 m57
  | x59 :: tl5, m57 => M54_L5 F k52 tl5 (mput m57 x59 true)
def M54_L4 (F : Nat) (x33 : TIface) (k35 : (List ((List UInt8) × (List Int))) → Option (Option Treach_world)) : List TType → Int → (List ((List UInt8) × (List Int))) → Option (Option Treach_world)
  | [], n39, m40 => k35 m40
  | x42 :: tl4, n39, m40 => (M49 F x42 x33).bind fun y44 => jn (fun (m47 : List ((List UInt8) × (List Int))) => M54_L4 F x33 k35 tl4 (n39 + 1) m47) (fun k46 => if y44 = true then if (((mget m40 x33.Name).getD []) ++ ([n39] : List Int)).length * 8 ≤ 140737488355328 then k46 (mput m40 x33.Name (((mget m40 x33.Name).getD []) ++ ([n39] : List Int))) else none
 else k46 m40)
def M54_L3 (F : Nat) (a1 : TGraph) (k24 : (List ((List UInt8) × (List Int))) → Option (Option Treach_world)) : List TIface → (List ((List UInt8) × (List Int))) → Option (Option Treach_world)
  | [], m29 => k24 m29
  | x33 :: tl3, m29 => jn (fun (m32 : List ((List UInt8) × (List Int))) => M54_L3 F a1 k24 tl3 m32) (fun k31 => jn (fun (m36 : List ((List UInt8) × (List Int))) => k31 m36) (fun k35 => M54_L4 F x33 k35 a1.Types 0 m29))
def M54_L2 (F : Nat) (k14 : (List ((List UInt8) × Int)) → Option (Option Treach_world)) : List TType → Int → (List ((List UInt8) × Int)) → Option (Option Treach_world)
  | [], n18, m19 => k14 m19
  | x21 :: tl2, n18, m19 => M54_L2 F k14 tl2 (n18 + 1) (mput m19 x21.Name n18)
def M54_L1 (F : Nat) (k4 : (List ((List UInt8) × Int)) → Option (Option Treach_world)) : List TFunc → Int → (List ((List UInt8) × Int)) → Option (Option Treach_world)
  | [], n8, m9 => k4 m9
  | x11 :: tl1, n8, m9 => M54_L1 F k4 tl1 (n8 + 1) (mput m9 x11.Name n8)
def M54 (F : Nat) (a1 : TGraph) (a2 : Int) (a3 : (List (List UInt8))) : Option (Option Treach_world) :=
  jn (fun (m5 : List ((List UInt8) × Int)) => jn (fun (m15 : List ((List UInt8) × Int)) => jn (fun (m25 : List ((List UInt8) × (List Int))) => jn (fun (m53 : List ((List UInt8) × Bool)) => some (some (Treach_world.mk a1 m5 m15 m25 m53 (a2 == 2)))) (fun k52 => M54_L5 F k52 a3 (mput ([] : List ((List UInt8) × Bool)) ([] : List UInt8) true))) (fun k24 => M54_L3 F a1 k24 a1.Ifaces ([] : List ((List UInt8) × (List Int))))) (fun k14 => M54_L2 F k14 a1.Types 0 ([] : List ((List UInt8) × Int)))) (fun k4 => M54_L1 F k4 a1.Funcs 0 ([] : List ((List UInt8) × Int)))
def M82 (F : Nat) (a1 : Treach_world) (a2 : TCall) (a3 : Int) : Option Int :=
  (idx a1.g.Types a3).bind fun x4 => (M79 F x4 a2.Method).bind fun y6 => some ((mget a1.funcs (y6.1)).getD 0)
def M65_L4 (F : Nat) (k35 : (List ((List UInt8) × Bool)) → Option Tprovenderref6_names) : List TFunc → (List ((List UInt8) × Bool)) → Option Tprovenderref6_names
  | [], m40 => k35 m40
  | x42 :: tl4, m40 => M65_L4 F k35 tl4 (mput m40 x42.Name true)
def M65_L3 (F : Nat) (k25 : (List ((List UInt8) × Bool)) → Option Tprovenderref6_names) : List TType → (List ((List UInt8) × Bool)) → Option Tprovenderref6_names
  | [], m30 => k25 m30
  | x32 :: tl3, m30 => M65_L3 F k25 tl3 (mput m30 x32.Name true)
def M65_L2 (F : Nat) (x11 : TIface) (k13 : (List ((List UInt8) × (List ((List UInt8) × Bool)))) → Option Tprovenderref6_names) : List (List UInt8) → (List ((List UInt8) × (List ((List UInt8) × Bool)))) → Option Tprovenderref6_names
  | [], m18 => k13 m18
  | x20 :: tl2, m18 => if (mget m18 x11.Name).isSome = true then M65_L2 F x11 k13 tl2 (mput m18 x11.Name (mput ((mget m18 x11.Name).getD []) x20 true)) else none
def M65_L1 (F : Nat) (k2 : (List ((List UInt8) × (List ((List UInt8) × Bool)))) → Option Tprovenderref6_names) : List TIface → (List ((List UInt8) × (List ((List UInt8) × Bool)))) → Option Tprovenderref6_names
  | [], m7 => k2 m7
  | x11 :: tl1, m7 => jn (fun (m10 : List ((List UInt8) × (List ((List UInt8) × Bool)))) => M65_L1 F k2 tl1 m10) (fun k9 => jn (fun (m14 : List ((List UInt8) × (List ((List UInt8) × Bool)))) => k9 m14) (fun k13 => M65_L2 F x11 k13 x11.Methods (mput m7 x11.Name ([] : List ((List UInt8) × Bool)))))
def M65 (F : Nat) (a1 : TGraph) : Option Tprovenderref6_names :=
  jn (fun (m3 : List ((List UInt8) × (List ((List UInt8) × Bool)))) => jn (fun (m26 : List ((List UInt8) × Bool)) => jn (fun (m36 : List ((List UInt8) × Bool)) => some (Tprovenderref6_names.mk m3 m26 m36)) (fun k35 => M65_L4 F k35 a1.Funcs ([] : List ((List UInt8) × Bool)))) (fun k25 => M65_L3 F k25 a1.Types ([] : List ((List UInt8) × Bool)))) (fun k2 => M65_L1 F k2 a1.Ifaces ([] : List ((List UInt8) × (List ((List UInt8) × Bool)))))
def M91_L1 (F : Nat) (a1 : (List UInt8)) (k2 : Option Bool) : Nat → Int → Option Bool
  | 0, n4 => k2
  | tl1 + 1, n4 => (idx a1 n4).bind fun c6 => if (decide ((c6.toNat : Int) < 33)) = true then some false
 else (idx a1 n4).bind fun c9 => if (decide ((c9.toNat : Int) > 126)) = true then some false
 else (idx a1 n4).bind fun c12 => if ((c12.toNat : Int) == 35) = true then some false
 else M91_L1 F a1 k2 tl1 (n4 + 1)
def M91 (F : Nat) (a1 : (List UInt8)) : Option Bool :=
  jn (if (decide ((a1.length : Int) ≥ 1)) = true then some (decide ((a1.length : Int) ≤ 100))
  else some false) (fun k2 => if (a1.length : Int) ≤ 9223372036854775807 then M91_L1 F a1 k2 (((a1.length : Int) : Int).toNat) 0 else none)
def M92 (F : Nat) (a1 : (List (List UInt8))) (a2 : Int) : Option Int :=
  if (decide (a2 > 0)) = true then (idx a1 a2).bind fun x4 => (idx a1 (w64 (a2 - 1))).bind fun x6 => if (Op.bytesLess x4 x6 || x4 == x6) = true then some 10
  else some 0
  else some 0
def M112_L2 (F : Nat) (x10 : TIface) (k18 : Option Int) : List (List UInt8) → Int → Option Int
  | [], n20 => k18
  | x22 :: tl2, n20 => (M91 F x22).bind fun y24 => if (!y24) = true then some 8
 else (M92 F x10.Methods n20).bind fun y27 => if (y27 != 0) = true then some y27
 else M112_L2 F x10 k18 tl2 (n20 + 1)
def M112_L1 (F : Nat) (k2 : Option Int) : List TIface → (List UInt8) → Option Int
  | [], s5 => k2
  | x10 :: tl1, s5 => jn (fun (s9 : List UInt8) => M112_L1 F k2 tl1 s9) (fun k8 => (M91 F x10.Name).bind fun y12 => if (!y12) = true then some 8
 else if (Op.bytesLess x10.Name s5 || x10.Name == s5) = true then some 10
 else if (((x10.Methods.length : Nat) : Int) == 0) = true then some 13
 else if (decide (((x10.Methods.length : Nat) : Int) > 200)) = true then some 3
 else jn (k8 x10.Name) (fun k18 => M112_L2 F x10 k18 x10.Methods 0))
def M112 (F : Nat) (a1 : Tprovenderref6_checker) : Option Int :=
  jn (some 0) (fun k2 => M112_L1 F k2 a1.g.Ifaces ([] : List UInt8))
def M113_L2 (F : Nat) (a1 : Tprovenderref6_checker) (k17 : Option Int) : List TMethod → (List UInt8) → Option Int
  | [], s20 => k17
  | x23 :: tl2, s20 => (M91 F x23.Name).bind fun y25 => jn (M113_L2 F a1 k17 tl2 x23.Name) (fun k27 => if (!y25) = true then some 8
 else if (Op.bytesLess x23.Name s20 || x23.Name == s20) = true then some 10
 else if (!a1.loose) = true then if (!((mget a1.n.funcs x23.Func).getD false)) = true then some 4
 else k27
 else k27)
def M113_L1 (F : Nat) (a1 : Tprovenderref6_checker) (k2 : Option Int) : List TType → (List UInt8) → Option Int
  | [], s5 => k2
  | x10 :: tl1, s5 => jn (fun (s9 : List UInt8) => M113_L1 F a1 k2 tl1 s9) (fun k8 => (M91 F x10.Name).bind fun y12 => if (!y12) = true then some 8
 else if (Op.bytesLess x10.Name s5 || x10.Name == s5) = true then some 10
 else if (decide (((x10.Methods.length : Nat) : Int) > 200)) = true then some 3
 else jn (k8 x10.Name) (fun k17 => M113_L2 F a1 k17 x10.Methods ([] : List UInt8)))
def M113 (F : Nat) (a1 : Tprovenderref6_checker) : Option Int :=
  jn (some 0) (fun k2 => M113_L1 F a1 k2 a1.g.Types ([] : List UInt8))
def M128 (F : Nat) (a1 : Tprovenderref6_checker) (a2 : TCall) : Option Int :=
  jn (if (!(a2.Feature == ([] : List UInt8))) = true then (M91 F a2.Feature).bind fun y15 => if (!y15) = true then some 8
  else some 0
  else some 0) (fun k3 => if (a2.Kind == 1) = true then if (!a1.loose) = true then if (!((mget a1.n.funcs a2.Target).getD false)) = true then some 4
  else if (!(a2.Method == ([] : List UInt8))) = true then some 2
  else k3
  else if (!(a2.Method == ([] : List UInt8))) = true then some 2
  else k3
  else if (a2.Kind == 2) = true then if ((mget a1.n.ifaces a2.Target).isSome) = true then if (!a1.loose) = true then if (!((mget ((mget a1.n.ifaces a2.Target).getD []) a2.Method).getD false)) = true then some 4
  else k3
  else k3
  else if (!a1.loose) = true then some 4
  else k3
  else some 7)
def M114_L3 (F : Nat) (a1 : Tprovenderref6_checker) (x10 : TFunc) (k30 : Option Int) : List (List UInt8) → Int → Option Int
  | [], n32 => k30
  | x35 :: tl3, n32 => jn (M114_L3 F a1 x10 k30 tl3 (n32 + 1)) (fun k34 => if (!a1.loose) = true then if (!((mget a1.n.types x35).getD false)) = true then some 4
 else (M92 F x10.Makes n32).bind fun y39 => if (y39 != 0) = true then some y39
 else k34
 else (M92 F x10.Makes n32).bind fun y42 => if (y42 != 0) = true then some y42
 else k34)
def M114_L2 (F : Nat) (a1 : Tprovenderref6_checker) (k20 : Option Int) : List TCall → Option Int
  | [] => k20
  | x24 :: tl2 => (M128 F a1 x24).bind fun y26 => if (y26 != 0) = true then some y26
 else M114_L2 F a1 k20 tl2
def M114_L1 (F : Nat) (a1 : Tprovenderref6_checker) (k2 : Option Int) : List TFunc → (List UInt8) → Option Int
  | [], s5 => k2
  | x10 :: tl1, s5 => jn (fun (s9 : List UInt8) => M114_L1 F a1 k2 tl1 s9) (fun k8 => (M91 F x10.Name).bind fun y12 => if (!y12) = true then some 8
 else if (Op.bytesLess x10.Name s5 || x10.Name == s5) = true then some 10
 else (M91 F x10.Component).bind fun y16 => if (!y16) = true then some 8
 else if (decide (((x10.Calls.length : Nat) : Int) > 200)) = true then some 3
 else jn (jn (k8 x10.Name) (fun k30 => M114_L3 F a1 x10 k30 x10.Makes 0)) (fun k20 => M114_L2 F a1 k20 x10.Calls))
def M114 (F : Nat) (a1 : Tprovenderref6_checker) : Option Int :=
  jn (some 0) (fun k2 => M114_L1 F a1 k2 a1.g.Funcs ([] : List UInt8))
def M80_L1 (F : Nat) (a1 : Tprovenderref6_checker) (k14 : Option Int) : List (List UInt8) → Int → Option Int
  | [], n16 => k14
  | x19 :: tl1, n16 => jn (M80_L1 F a1 k14 tl1 (n16 + 1)) (fun k18 => if (!a1.loose) = true then if (!((mget a1.n.funcs x19).getD false)) = true then some 4
 else (M92 F a1.g.Entries n16).bind fun y23 => if (y23 != 0) = true then some y23
 else k18
 else (M92 F a1.g.Entries n16).bind fun y26 => if (y26 != 0) = true then some y26
 else k18)
def M80 (F : Nat) (a1 : Tprovenderref6_checker) : Option Int :=
  if (decide (((a1.g.Ifaces.length : Nat) : Int) > 200)) = true then some 3
  else if (decide (((a1.g.Types.length : Nat) : Int) > 500)) = true then some 3
  else if (decide (((a1.g.Funcs.length : Nat) : Int) > 3000)) = true then some 3
  else (M112 F a1).bind fun y5 => if (y5 != 0) = true then some y5
  else (M113 F a1).bind fun y8 => if (y8 != 0) = true then some y8
  else (M114 F a1).bind fun y11 => if (y11 != 0) = true then some y11
  else jn (some 0) (fun k14 => M80_L1 F a1 k14 a1.g.Entries 0)
def M50 (F : Nat) (a1 : TGraph) : Option Int :=
  (M65 F a1).bind fun y2 => (M80 F (Tprovenderref6_checker.mk a1 y2 false)).bind fun y4 => some y4
def M71_L1 (F : Nat) (a2 : (List UInt8)) (k3 : Option (TFunc × Bool)) : List TFunc → Option (TFunc × Bool)
  | [] => k3
  | x7 :: tl1 => if (x7.Name == a2) = true then some (x7, true)
 else M71_L1 F a2 k3 tl1
def M71 (F : Nat) (a1 : TGraph) (a2 : (List UInt8)) : Option (TFunc × Bool) :=
  jn (some ((TFunc.mk ([] : List UInt8) ([] : List UInt8) ([] : List TCall) ([] : List (List UInt8))), false)) (fun k3 => M71_L1 F a2 k3 a1.Funcs)
def M52_L1 (F : Nat) (a2 : (List UInt8)) (k3 : Option (TIface × Bool)) : List TIface → Option (TIface × Bool)
  | [] => k3
  | x7 :: tl1 => if (x7.Name == a2) = true then some (x7, true)
 else M52_L1 F a2 k3 tl1
def M52 (F : Nat) (a1 : TGraph) (a2 : (List UInt8)) : Option (TIface × Bool) :=
  jn (some ((TIface.mk ([] : List UInt8) ([] : List (List UInt8))), false)) (fun k3 => M52_L1 F a2 k3 a1.Ifaces)
def M81_L1 (F : Nat) (a2 : (List UInt8)) (k3 : Option ((List UInt8) × Bool)) : List TMethod → Option ((List UInt8) × Bool)
  | [] => k3
  | x7 :: tl1 => if (x7.Name == a2) = true then some (x7.Func, true)
 else M81_L1 F a2 k3 tl1
def M81 (F : Nat) (a1 : TType) (a2 : (List UInt8)) : Option ((List UInt8) × Bool) :=
  jn (some (([] : List UInt8), false)) (fun k3 => M81_L1 F a2 k3 a1.Methods)
def M53_L1 (F : Nat) (a1 : TType) (k3 : Option Bool) : List (List UInt8) → Option Bool
  | [] => k3
  | x7 :: tl1 => (M81 F a1 x7).bind fun y9 => if (!(y9.2)) = true then some false
 else M53_L1 F a1 k3 tl1
def M53 (F : Nat) (a1 : TType) (a2 : TIface) : Option Bool :=
  jn (some true) (fun k3 => M53_L1 F a1 k3 a2.Methods)
def M58_L1 (F : Nat) (a2 : TCall) (y4 : (TIface × Bool)) (k6 : (List Tprovenderref6_aim) → Option (List Tprovenderref6_aim)) : List TType → (List Tprovenderref6_aim) → Option (List Tprovenderref6_aim)
  | [], l11 => k6 l11
  | x15 :: tl1, l11 => jn (fun (l14 : List Tprovenderref6_aim) => M58_L1 F a2 y4 k6 tl1 l14) (fun k13 => (M81 F x15 a2.Method).bind fun y17 => if (y17.2) = true then (M53 F x15 (y4.1)).bind fun y20 => jn (fun (l23 : List Tprovenderref6_aim) => k13 l23) (fun k22 => if y20 = true then if (l11 ++ ([(Tprovenderref6_aim.mk x15.Name (y17.1))] : List Tprovenderref6_aim)).length * 32 ≤ 140737488355328 then k22 (l11 ++ ([(Tprovenderref6_aim.mk x15.Name (y17.1))] : List Tprovenderref6_aim)) else none
 else k22 l11)
 else k13 l11)
def M58 (F : Nat) (a1 : TGraph) (a2 : TCall) : Option (List Tprovenderref6_aim) :=
  if (a2.Kind == 1) = true then some ([(Tprovenderref6_aim.mk ([] : List UInt8) a2.Target)] : List Tprovenderref6_aim)
  else (M52 F a1 a2.Target).bind fun y4 => jn (fun (l7 : List Tprovenderref6_aim) => some l7) (fun k6 => M58_L1 F a2 y4 k6 a1.Types ([] : List Tprovenderref6_aim))
def M72_L1 (F : Nat) (k9 : (List (List UInt8)) → Option (List (List UInt8))) : Nat → (List (List UInt8)) → (List (List UInt8)) → (List (List UInt8)) → Option (List (List UInt8))
  | 0, _, _, _ => none
  | n + 1, l14, l15, l16 => if (decide (((l14.length : Nat) : Int) > 0)) = true then if (((l15.length : Nat) : Int) == 0) = true then (idx l14 0).bind fun x19 => if (l16 ++ ([x19] : List (List UInt8))).length * 16 ≤ 140737488355328 then if 1 ≤ l14.length then M72_L1 F k9 n (l14.drop 1) l15 (l16 ++ ([x19] : List (List UInt8))) else none else none
  else (idx l14 0).bind fun x23 => (idx l15 0).bind fun x25 => jn (fun (l28 : List (List UInt8)) (l29 : List (List UInt8)) (l30 : List (List UInt8)) => M72_L1 F k9 n l28 l29 l30) (fun k27 => if (Op.bytesLess x23 x25 || x23 == x25) = true then (idx l14 0).bind fun x32 => if (l16 ++ ([x32] : List (List UInt8))).length * 16 ≤ 140737488355328 then if 1 ≤ l14.length then k27 (l14.drop 1) l15 (l16 ++ ([x32] : List (List UInt8))) else none else none
  else (idx l15 0).bind fun x36 => if (l16 ++ ([x36] : List (List UInt8))).length * 16 ≤ 140737488355328 then if 1 ≤ l15.length then k27 l14 (l15.drop 1) (l16 ++ ([x36] : List (List UInt8))) else none else none)
  else if (decide (((l15.length : Nat) : Int) > 0)) = true then if (((l15.length : Nat) : Int) == 0) = true then (idx l14 0).bind fun x42 => if (l16 ++ ([x42] : List (List UInt8))).length * 16 ≤ 140737488355328 then if 1 ≤ l14.length then M72_L1 F k9 n (l14.drop 1) l15 (l16 ++ ([x42] : List (List UInt8))) else none else none
  else (idx l15 0).bind fun x46 => if (l16 ++ ([x46] : List (List UInt8))).length * 16 ≤ 140737488355328 then if 1 ≤ l15.length then M72_L1 F k9 n l14 (l15.drop 1) (l16 ++ ([x46] : List (List UInt8))) else none else none
  else k9 l16
def M72_B (R72 : (List (List UInt8)) → Option (List (List UInt8))) (F : Nat) (a1 : (List (List UInt8))) : Option (List (List UInt8)) :=
  if (decide (((a1.length : Nat) : Int) < 2)) = true then some a1
  else if 0 ≤ (w64 (Int.tdiv ((a1.length : Nat) : Int) 2)) ∧ (w64 (Int.tdiv ((a1.length : Nat) : Int) 2)).toNat ≤ a1.length then (R72 (a1.take (w64 (Int.tdiv ((a1.length : Nat) : Int) 2)).toNat)).bind fun y4 => if 0 ≤ (w64 (Int.tdiv ((a1.length : Nat) : Int) 2)) ∧ (w64 (Int.tdiv ((a1.length : Nat) : Int) 2)).toNat ≤ a1.length then (R72 (a1.drop (w64 (Int.tdiv ((a1.length : Nat) : Int) 2)).toNat)).bind fun y7 => jn (fun (l10 : List (List UInt8)) => some l10) (fun k9 => M72_L1 F k9 F y4 y7 ([] : List (List UInt8))) else none else none
def M72 : Nat → (List (List UInt8)) → Option (List (List UInt8))
  | 0, _ => none
  | F + 1, a1 => M72_B (M72 F) F a1
def M34_L1 (F : Nat) : List ((List UInt8) × Bool) → (List (List UInt8)) → Option (List (List UInt8))
  | [], l4 => (M72 F l4).bind fun y9 => some y9
  | e6 :: l7, l4 => if (l4 ++ ([e6.1] : List (List UInt8))).length * 16 ≤ 140737488355328 then M34_L1 F l7 (l4 ++ ([e6.1] : List (List UInt8))) else none
def M34 (F : Nat) (a1 : (List ((List UInt8) × Bool))) : Option (List (List UInt8)) :=
  M34_L1 F a1 ([] : List (List UInt8))
def M11 (F : Nat) : Option Bool := some true
def M15_L1 (F : Nat) (a2 : (List (List UInt8))) (k4 : Option Bool) : List (List UInt8) → Int → Option Bool
  | [], n6 => k4
  | x8 :: tl1, n6 => (idx a2 n6).bind fun x10 => if (!(x8 == x10)) = true then some false
 else M15_L1 F a2 k4 tl1 (n6 + 1)
def M15 (F : Nat) (a1 : (List (List UInt8))) (a2 : (List (List UInt8))) : Option Bool :=
  if (((a1.length : Nat) : Int) != ((a2.length : Nat) : Int)) = true then some false
  else jn (some true) (fun k4 => M15_L1 F a2 k4 a1 0)
def M46 (F : Nat) (a1 : TType) (a2 : List UInt8) : Option Bool :=
  some (a1.Name == a2)
def M45_L1 (F : Nat) (a2 : List UInt8) (k3 : Option Int) : List TType → Int → Option Int
  | [], n5 => k3
  | x7 :: tl1, n5 => (M46 F x7 a2).bind fun y9 => if y9 = true then some n5
 else M45_L1 F a2 k3 tl1 (n5 + 1)
def M45 (F : Nat) (a1 : (List TType)) (a2 : List UInt8) : Option Int :=
  jn (some (-1)) (fun k3 => M45_L1 F a2 k3 a1 0)
def M48 (F : Nat) (a1 : TIface) (a2 : List UInt8) : Option Bool :=
  some (a1.Name == a2)
def M47_L1 (F : Nat) (a2 : List UInt8) (k3 : Option Int) : List TIface → Int → Option Int
  | [], n5 => k3
  | x7 :: tl1, n5 => (M48 F x7 a2).bind fun y9 => if y9 = true then some n5
 else M47_L1 F a2 k3 tl1 (n5 + 1)
def M47 (F : Nat) (a1 : (List TIface)) (a2 : List UInt8) : Option Int :=
  jn (some (-1)) (fun k3 => M47_L1 F a2 k3 a1 0)
def M23 (F : Nat) (a1 : TGraph) (a2 : (List UInt8)) (a3 : (List UInt8)) : Option (Bool × Int) :=
  (M44 F a1).bind fun y4 => if (y4 != 0) = true then some (false, y4)
  else (M45 F a1.Types a2).bind fun y7 => (M47 F a1.Ifaces a3).bind fun y9 => if (decide (y7 < 0)) = true then some (false, 4)
  else if (decide (y9 < 0)) = true then some (false, 4)
  else (idx a1.Types y7).bind fun x13 => (idx a1.Ifaces y9).bind fun x15 => (M49 F x13 x15).bind fun y17 => some (y17, 0)
def M51_L1 (F : Nat) (a2 : (List UInt8)) (k3 : Option (TType × Bool)) : List TType → Option (TType × Bool)
  | [] => k3
  | x7 :: tl1 => if (x7.Name == a2) = true then some (x7, true)
 else M51_L1 F a2 k3 tl1
def M51 (F : Nat) (a1 : TGraph) (a2 : (List UInt8)) : Option (TType × Bool) :=
  jn (some ((TType.mk ([] : List UInt8) ([] : List TMethod)), false)) (fun k3 => M51_L1 F a2 k3 a1.Types)
def M24 (F : Nat) (a1 : TGraph) (a2 : (List UInt8)) (a3 : (List UInt8)) : Option (Bool × Int) :=
  (M50 F a1).bind fun y4 => if (y4 != 0) = true then some (false, y4)
  else (M51 F a1 a2).bind fun y7 => (M52 F a1 a3).bind fun y9 => if (!(y7.2)) = true then some (false, 4)
  else if (!(y9.2)) = true then some (false, 4)
  else (M53 F (y7.1) (y9.1)).bind fun y13 => some (y13, 0)
def M83 (F : Nat) (a1 : List Int) : Option (List Int) := if a1.length < 4611686018427387904 then some (isort a1) else none
def M84 (F : Nat) (a1 : List Int) : Option (List Int) := if a1.length ≤ 140737488355328 then some (cpt a1) else none
def M56_L1 (F : Nat) (a1 : Treach_world) (a2 : TCall) (k4 : (List Int) → Option (List Int)) : List Int → (List Int) → Option (List Int)
  | [], l9 => k4 l9
  | x11 :: tl1, l9 => (M82 F a1 a2 x11).bind fun y13 => if (l9 ++ ([y13] : List Int)).length * 8 ≤ 140737488355328 then M56_L1 F a1 a2 k4 tl1 (l9 ++ ([y13] : List Int)) else none
def M56 (F : Nat) (a1 : Treach_world) (a2 : TCall) : Option (List Int) :=
  if (a2.Kind == 1) = true then some ([((mget a1.funcs a2.Target).getD 0)] : List Int)
  else jn (fun (l5 : List Int) => (M83 F l5).bind fun y17 => if y17.length = l5.length then (M84 F y17).bind fun y20 => some y20 else none) (fun k4 => M56_L1 F a1 a2 k4 ((mget a1.fitting a2.Target).getD ([] : (List Int))) ([] : List Int))
def M55_L1 (F : Nat) (a1 : Treach_world) (k3 : (List (List UInt8)) → Option (List (List UInt8))) : List Int → (List (List UInt8)) → Option (List (List UInt8))
  | [], l8 => k3 l8
  | x10 :: tl1, l8 => (idx a1.g.Funcs x10).bind fun x12 => if (l8 ++ ([x12.Name] : List (List UInt8))).length * 16 ≤ 140737488355328 then M55_L1 F a1 k3 tl1 (l8 ++ ([x12.Name] : List (List UInt8))) else none
def M55 (F : Nat) (a1 : Treach_world) (a2 : (List Int)) : Option (List (List UInt8)) :=
  jn (fun (l4 : List (List UInt8)) => some l4) (fun k3 => M55_L1 F a1 k3 a2 ([] : List (List UInt8)))
def M25 (F : Nat) (a1 : TGraph) (a2 : TSite) : Option ((List (List UInt8)) × Int) :=
  (M44 F a1).bind fun y3 => if (y3 != 0) = true then some (([] : List (List UInt8)), y3)
  else (M54 F a1 1 ([] : List (List UInt8))).bind fun y6 => (y6).bind fun x8 => if (!((mget x8.funcs a2.Func).isSome)) = true then some (([] : List (List UInt8)), 4)
  else if (decide (a2.Call < 0)) = true then some (([] : List (List UInt8)), 9)
  else (idx a1.Funcs ((mget x8.funcs a2.Func).getD 0)).bind fun x12 => if (decide (a2.Call ≥ ((x12.Calls.length : Nat) : Int))) = true then some (([] : List (List UInt8)), 9)
  else (idx a1.Funcs ((mget x8.funcs a2.Func).getD 0)).bind fun x15 => (idx x15.Calls a2.Call).bind fun x17 => (M56 F x8 x17).bind fun y19 => (M55 F x8 y19).bind fun y21 => some (y21, 0)
def M57 (F : Nat) (a1 : TGraph) (a2 : TSite) : Option (TCall × Int) :=
  (M71 F a1 a2.Func).bind fun y3 => if (!(y3.2)) = true then some ((TCall.mk 0 ([] : List UInt8) ([] : List UInt8) ([] : List UInt8)), 4)
  else if (decide (a2.Call < 0)) = true then some ((TCall.mk 0 ([] : List UInt8) ([] : List UInt8) ([] : List UInt8)), 9)
  else if (decide (a2.Call ≥ (((y3.1).Calls.length : Nat) : Int))) = true then some ((TCall.mk 0 ([] : List UInt8) ([] : List UInt8) ([] : List UInt8)), 9)
  else (idx (y3.1).Calls a2.Call).bind fun x8 => some (x8, 0)
def M26_L1 (F : Nat) (k11 : (List ((List UInt8) × Bool)) → Option ((List (List UInt8)) × Int)) : List Tprovenderref6_aim → (List ((List UInt8) × Bool)) → Option ((List (List UInt8)) × Int)
  | [], m16 => k11 m16
  | x18 :: tl1, m16 => M26_L1 F k11 tl1 (mput m16 x18.to true)
def M26 (F : Nat) (a1 : TGraph) (a2 : TSite) : Option ((List (List UInt8)) × Int) :=
  (M50 F a1).bind fun y3 => if (y3 != 0) = true then some (([] : List (List UInt8)), y3)
  else (M57 F a1 a2).bind fun y6 => if ((y6.2) != 0) = true then some (([] : List (List UInt8)), (y6.2))
  else (M58 F a1 (y6.1)).bind fun y9 => jn (fun (m12 : List ((List UInt8) × Bool)) => (M34 F m12).bind fun y21 => some (y21, 0)) (fun k11 => M26_L1 F k11 y9 ([] : List ((List UInt8) × Bool)))
def M6 (F : Nat) (a1 : TGraph) (a2 : (List UInt8)) (a3 : (List UInt8)) (a4 : TSite) : Option Bool :=
  (M23 F a1 a2 a3).bind fun y5 => (M24 F a1 a2 a3).bind fun y7 => (M25 F a1 a4).bind fun y9 => (M26 F a1 a4).bind fun y11 => if ((y5.1) == (y7.1)) = true then if ((y5.2) == (y7.2)) = true then (M15 F (y9.1) (y11.1)).bind fun y15 => if y15 = true then if ((y9.2) == (y11.2)) = true then (M11 F).bind fun y19 => some y19
  else some false
  else some false
  else some false
  else some false
end
end Go.Proofs.Ytpbkggamiipdmaa

namespace Go.Pv
open Go
theorem w64_id {n : Int} (h : -9223372036854775808 ≤ n) (h' : n ≤ 9223372036854775807) : w64 n = n := by
  have : w64 n = if n % 18446744073709551616 ≥ 9223372036854775808 then n % 18446744073709551616 - 18446744073709551616 else n % 18446744073709551616 := by
    simp [w64, IntKind.wrap, IntKind.signed, IntKind.bits]
  rw [this]
  split <;> omega
theorem jn_def {α β : Type} (k : α) (b : α → β) : jn k b = b k := rfl
theorem idx_nat {α : Type} {xs : List α} {j : Nat} (h : j < xs.length) : idx xs (j : Int) = some xs[j] := by
  simp [idx, h]
theorem if_t {α : Type} {p : Prop} [Decidable p] {x y : α} (h : p) : (if decide p = true then x else y) = x := by simp [h]
theorem if_f {α : Type} {p : Prop} [Decidable p] {x y : α} (h : ¬ p) : (if decide p = true then x else y) = y := by simp [h]
theorem mid_nat {a b : Nat} (h : a + b < 4611686018427387904) : w64 (Int.fdiv (IntKind.wrap .u64 (w64 ((a : Int) + (b : Int)))) (2 ^ (min (Int.toNat 1) (IntKind.bits .u64)))) = (((a + b) / 2 : Nat) : Int) := by
  rw [w64_id (n := (a : Int) + b) (by omega) (by omega)]
  have : IntKind.wrap .u64 ((a : Int) + b) = ((a + b : Nat) : Int) := by
    simp only [IntKind.wrap, IntKind.signed, IntKind.bits, Bool.false_and]
    simp
    omega
  rw [this]
  have e : (2 : Int) ^ (min (Int.toNat 1) (IntKind.bits .u64)) = 2 := by decide
  rw [e, Int.fdiv_eq_ediv_of_nonneg _ (by omega)]
  rw [w64_id (by omega) (by omega)]
  omega
theorem mget_mput {α β : Type} [DecidableEq α] (xs : List (α × β)) (k k' : α) (v : β) : mget (mput xs k v) k' = if k = k' then some v else mget xs k' := by
  induction xs with
  | nil => simp [mput, mget]
  | cons p r ih =>
    simp only [mput]
    split
    · rename_i h
      simp only [mget, h]
      split <;> simp_all
    · rename_i h
      simp only [mget]
      by_cases h2 : p.1 = k'
      · rw [if_pos h2, if_pos h2, if_neg (fun e => h (h2.trans e.symm))]
      · rw [if_neg h2, if_neg h2]; exact ih
end Go.Pv

namespace Go.Pv
open Go
theorem bl_cons (x : UInt8) (a : List UInt8) (y : UInt8) (b : List UInt8) : Op.bytesLess (x :: a) (y :: b) = (decide (x < y) || (x == y && Op.bytesLess a b)) := by
  rw [Op.bytesLess]
theorem bl_irrefl : ∀ a : List UInt8, Op.bytesLess a a = false
  | [] => by simp [Op.bytesLess]
  | x :: a => by rw [bl_cons, bl_irrefl a]; simp
theorem bl_trans : ∀ {a b c : List UInt8}, Op.bytesLess a b = true → Op.bytesLess b c = true → Op.bytesLess a c = true
  | [], [], _, h, _ => by simp [Op.bytesLess] at h
  | [], y :: b, [], _, h => by simp [Op.bytesLess] at h
  | [], y :: b, z :: c, _, _ => by simp [Op.bytesLess]
  | x :: a, [], _, h, _ => by simp [Op.bytesLess] at h
  | x :: a, y :: b, [], _, h => by simp [Op.bytesLess] at h
  | x :: a, y :: b, z :: c, h, g => by
    rw [bl_cons] at *
    simp only [Bool.or_eq_true, decide_eq_true_eq, Bool.and_eq_true, beq_iff_eq, UInt8.lt_iff_toNat_lt] at *
    rcases h with h | ⟨rfl, h⟩ <;> rcases g with g | ⟨rfl, g⟩
    · exact .inl (by omega)
    · exact .inl h
    · exact .inl g
    · exact .inr ⟨rfl, bl_trans h g⟩
theorem bl_tri : ∀ a b : List UInt8, Op.bytesLess a b = true ∨ a = b ∨ Op.bytesLess b a = true
  | [], [] => by simp
  | [], y :: b => by simp [Op.bytesLess]
  | x :: a, [] => by simp [Op.bytesLess]
  | x :: a, y :: b => by
    rw [bl_cons, bl_cons]
    simp only [Bool.or_eq_true, decide_eq_true_eq, Bool.and_eq_true, beq_iff_eq, UInt8.lt_iff_toNat_lt, List.cons.injEq]
    rcases Nat.lt_trichotomy x.toNat y.toNat with h | h | h
    · exact .inl (.inl h)
    · have := UInt8.toNat_inj.1 h
      subst this
      rcases bl_tri a b with h | h | h
      · exact .inl (.inr ⟨rfl, h⟩)
      · exact .inr (.inl ⟨rfl, h⟩)
      · exact .inr (.inr (.inr ⟨rfl, h⟩))
    · exact .inr (.inr (.inl h))
theorem bl_asymm {a b : List UInt8} (h : Op.bytesLess a b = true) : Op.bytesLess b a = false := by
  cases h' : Op.bytesLess b a with
  | false => rfl
  | true => have := bl_trans h h'; rw [bl_irrefl] at this; simp at this
theorem bl_ne {a b : List UInt8} (h : Op.bytesLess a b = true) : a ≠ b := by rintro rfl; rw [bl_irrefl] at h; simp at h
/-- 'not less nor equal' is 'greater'. -/
theorem bl_gt (a b : List UInt8) : (!(Op.bytesLess a b || a == b)) = Op.bytesLess b a := by
  rcases bl_tri a b with h | h | h
  · rw [h, bl_asymm h]; simp
  · subst h; simp [bl_irrefl]
  · rw [h, bl_asymm h]; simp; exact fun e => bl_ne h e.symm
/-- 'where is the first one?' -/
theorem idxL {α : Type} {g : List α → Int → Option Int} {k : Option Int} (p : α → Bool) (h0 : ∀ n, g [] n = k) (h1 : ∀ x l n, g (x :: l) n = if p x = true then some n else g l (n + 1)) :
    ∀ l (n : Nat), g l n = if l.any p = true then some ((n + l.findIdx p : Nat) : Int) else k
  | [], n => by simp [h0]
  | x :: l, n => by
    have e : ((n : Int) + 1) = ((n + 1 : Nat) : Int) := rfl
    rw [h1, e, idxL p h0 h1 l (n + 1)]
    cases h : p x
    · have e2 : n + 1 + l.findIdx p = n + (l.findIdx p + 1) := by omega
      simp only [List.any_cons, h, Bool.false_or, List.findIdx_cons, cond_false, e2, Bool.false_eq_true, if_false]
    · simp [List.findIdx_cons, h]
/-- A text every byte of which is right: a count over its indices. -/
theorem bytesL {β : Type} {g : Nat → Int → Option β} {k : Option β} {f : β} (s : List UInt8) (p : UInt8 → Bool) (h0 : ∀ n, g 0 n = k)
    (h1 : ∀ m n, g (m + 1) n = (idx s n).bind fun c => if p c = true then g m (n + 1) else some f) :
    ∀ (m n : Nat), n + m = s.length → g m n = if (s.drop n).all p = true then k else some f
  | 0, n, h => by rw [h0, List.drop_eq_nil_of_le (by omega)]; simp
  | m + 1, n, h => by
    have hn : n < s.length := by omega
    have e : ((n : Int) + 1) = ((n + 1 : Nat) : Int) := rfl
    rw [h1, idx_nat hn, Option.bind_some, e, bytesL s p h0 h1 m (n + 1) (by omega), List.drop_eq_getElem_cons hn, List.all_cons]
    cases h : p s[n]
    · simp only [Bool.false_and, Bool.false_eq_true, if_false]
    · simp only [Bool.true_and, if_true]
theorem ite2 {α : Type} {p q : Prop} [Decidable p] [Decidable q] {x y : Option α} {a b : α} (h : p ↔ q) (h1 : q → x = some a) (h2 : ¬ q → y = some b) : (if p then x else y) = some (if q then a else b) := by
  by_cases hq : q
  · rw [if_pos (h.2 hq), if_pos hq, h1 hq]
  · rw [if_neg (fun hp => hq (h.1 hp)), if_neg hq, h2 hq]
theorem ne0 {n : Int} : (n != 0) = true ↔ n ≠ 0 := by simp
end Go.Pv

namespace Go.Pv
open Go
set_option linter.unusedVariables false
set_option linter.unusedSimpArgs false
theorem leT_total (a b : List UInt8) : (leT a b || leT b a) = true := by
  unfold leT
  rcases bl_tri a b with h | h | h
  · simp [bl_asymm h]
  · subst h; simp [bl_irrefl]
  · simp [bl_asymm h]
theorem leT_anti {a b : List UInt8} (h : leT a b = true) (h' : leT b a = true) : a = b := by
  unfold leT at h h'
  rcases bl_tri a b with g | g | g
  · simp [g] at h'
  · exact g
  · simp [g] at h
theorem leT_trans (a b c : List UInt8) (h : leT a b = true) (h' : leT b c = true) : leT a c = true := by
  unfold leT at *
  rcases bl_tri a b with g | g | g
  · rcases bl_tri b c with k | k | k
    · simp [bl_asymm (bl_trans g k)]
    · subst k; simp [bl_asymm g]
    · simp [k] at h'
  · subst g; exact h'
  · simp [g] at h
theorem lt_of_leT {a b : List UInt8} (h : leT a b = true) (hne : a ≠ b) : Op.bytesLess a b = true := by
  rcases bl_tri a b with g | g | g
  · exact g
  · exact absurd g hne
  · simp [leT, g] at h
abbrev leK {α : Type} (a b : List UInt8 × α) : Bool := leT a.1 b.1
theorem canonM_sorted {α : Type} (l : List (List UInt8 × α)) : (canonM l).Pairwise (fun a b => leT a.1 b.1 = true) :=
  List.pairwise_mergeSort (le := leK) (fun a b c => leT_trans a.1 b.1 c.1) (fun a b => leT_total a.1 b.1) l
/-- Texts put into a set that is kept in order. -/
def insAll (m : List (List UInt8 × Bool)) : List (List UInt8) → List (List UInt8 × Bool)
  | [] => m
  | x :: l => insAll (canonM (mput m x true)) l
/-- A set in order: its keys rise, all are in it. -/
structure SetOk (m : List (List UInt8 × Bool)) : Prop where
  srt : (m.map (·.1)).Pairwise (fun a b => Op.bytesLess a b = true)
  all : ∀ p, p ∈ m → p.2 = true
theorem SetOk.nil : SetOk [] := ⟨by simp, by simp⟩
theorem nodup_lt {l : List (List UInt8)} (h : l.Pairwise (fun a b => Op.bytesLess a b = true)) : l.Nodup := h.imp bl_ne
theorem lt_of_sorted {l : List (List UInt8)} (h : l.Pairwise (fun a b => leT a b = true)) (hn : l.Nodup) : l.Pairwise (fun a b => Op.bytesLess a b = true) := by
  induction l with
  | nil => exact .nil
  | cons x l ih =>
    rw [List.pairwise_cons] at h ⊢
    rw [List.nodup_cons] at hn
    exact ⟨fun y hy => lt_of_leT (h.1 y hy) (fun e => hn.1 (by rw [e]; exact hy)), ih h.2 hn.2⟩
theorem mput_keys {α : Type} (x : List UInt8) (v : α) : ∀ m : List (List UInt8 × α), ((mput m x v).map (·.1)) = if x ∈ m.map (·.1) then m.map (·.1) else m.map (·.1) ++ [x]
  | [] => by simp [mput]
  | p :: m => by
    simp only [mput]
    by_cases h : p.1 = x
    · rw [if_pos h]; simp [h]
    · rw [if_neg h, List.map_cons, mput_keys x v m]
      by_cases hx : x ∈ m.map (·.1)
      · rw [if_pos hx, if_pos (by simp at hx ⊢; exact .inr hx)]; rfl
      · rw [if_neg hx, if_neg (by simp at hx ⊢; exact ⟨fun e => h e.symm, hx⟩)]; rfl
theorem mput_all {α : Type} (x : List UInt8) (v : α) : ∀ (m : List (List UInt8 × α)) (p : List UInt8 × α), p ∈ mput m x v → p = (x, v) ∨ p ∈ m
  | [], p, h => by simp [mput] at h; exact .inl h
  | q :: m, p, h => by
    simp only [mput] at h
    split at h
    · rcases List.mem_cons.1 h with h | h
      · exact .inl h
      · exact .inr (List.mem_cons_of_mem _ h)
    · rcases List.mem_cons.1 h with h | h
      · exact .inr (by rw [h]; exact List.mem_cons_self)
      · rcases mput_all x v m p h with h | h
        · exact .inl h
        · exact .inr (List.mem_cons_of_mem _ h)
theorem ins_keys {α : Type} (m : List (List UInt8 × α)) (x : List UInt8) (v : α) (y : List UInt8) : y ∈ (canonM (mput m x v)).map (·.1) ↔ y = x ∨ y ∈ m.map (·.1) := by
  rw [((canonM_perm (mput m x v)).map (·.1)).mem_iff, mput_keys]
  split
  · rename_i h
    refine ⟨.inr, fun hh => ?_⟩
    rcases hh with e | e
    · rw [e]; exact h
    · exact e
  · rw [List.mem_append]; simp [or_comm]
theorem ins_srt {α : Type} {m : List (List UInt8 × α)} (x : List UInt8) (v : α) (h : (m.map (·.1)).Pairwise (fun a b => Op.bytesLess a b = true)) : ((canonM (mput m x v)).map (·.1)).Pairwise (fun a b => Op.bytesLess a b = true) := by
  refine lt_of_sorted ?_ ?_
  · rw [List.pairwise_map]; exact canonM_sorted _
  · refine ((canonM_perm (mput m x v)).map (·.1)).nodup_iff.2 ?_
    rw [mput_keys]
    split
    · exact nodup_lt h
    · rename_i hx
      rw [List.nodup_append]
      exact ⟨nodup_lt h, by simp, fun a ha b hb e => hx (by simp at hb; rw [← hb, ← e]; exact ha)⟩
theorem SetOk.ins {m : List (List UInt8 × Bool)} (h : SetOk m) (x : List UInt8) : SetOk (canonM (mput m x true)) := by
  refine ⟨ins_srt x true h.srt, fun p hp => ?_⟩
  rcases mput_all x true m p ((canonM_perm _).mem_iff.1 hp) with e | e
  · rw [e]
  · exact h.all p e
theorem SetOk.insAll {m : List (List UInt8 × Bool)} (h : SetOk m) : ∀ l, SetOk (insAll m l)
  | [] => h
  | x :: l => SetOk.insAll (h.ins x) l
theorem insAll_keys (y : List UInt8) : ∀ (l : List (List UInt8)) (m : List (List UInt8 × Bool)), y ∈ (insAll m l).map (·.1) ↔ y ∈ l ∨ y ∈ m.map (·.1)
  | [], m => by simp [insAll]
  | x :: l, m => by rw [insAll, insAll_keys y l, ins_keys, List.mem_cons]; exact ⟨fun h => h.elim (fun h => .inl (.inr h)) (fun h => h.elim (fun h => .inl (.inl h)) .inr), fun h => h.elim (fun h => h.elim (fun h => .inr (.inl h)) .inl) (fun h => .inr (.inr h))⟩
theorem mget_mem {α : Type} : ∀ (m : List (List UInt8 × α)) (x : List UInt8), (mget m x).isSome = true ↔ x ∈ m.map (·.1)
  | [], x => by simp [mget]
  | p :: m, x => by
    simp only [mget, List.map_cons, List.mem_cons]
    by_cases h : p.1 = x
    · simp [h]
    · rw [if_neg h, mget_mem m x]
      exact ⟨.inr, fun q => q.elim (fun e => absurd e.symm h) (fun h => h)⟩
theorem mget_in {α : Type} : ∀ (m : List (List UInt8 × α)) (x : List UInt8) (v : α), mget m x = some v → (x, v) ∈ m
  | [], x, v, h => by simp [mget] at h
  | p :: m, x, v, h => by
    simp only [mget] at h
    split at h
    · rename_i e; simp at h; subst e; subst h; exact List.mem_cons_self
    · exact List.mem_cons_of_mem _ (mget_in m x v h)
theorem SetOk.get {m : List (List UInt8 × Bool)} (h : SetOk m) (x : List UInt8) : (mget m x).getD false = true ↔ x ∈ m.map (·.1) := by
  rw [← mget_mem]
  cases hg : mget m x with
  | none => simp
  | some v => simp; exact h.all _ (mget_in m x v hg)
theorem rise_ext {l l' : List (List UInt8)} (h : l.Pairwise (fun a b => Op.bytesLess a b = true)) (h' : l'.Pairwise (fun a b => Op.bytesLess a b = true)) (hm : ∀ x, x ∈ l ↔ x ∈ l') : l = l' :=
  List.Perm.eq_of_pairwise (le := fun a b => Op.bytesLess a b = true) (fun _ _ _ _ g g' => by rw [bl_asymm g] at g'; simp at g') h h' ((List.perm_ext_iff_of_nodup (nodup_lt h) (nodup_lt h')).2 hm)
/-- A list of texts, in order. -/
def srtT (l : List (List UInt8)) : List (List UInt8) := l.mergeSort leT
theorem srtT_perm (l : List (List UInt8)) : (srtT l).Perm l := List.mergeSort_perm _ _
theorem srtT_srt (l : List (List UInt8)) : (srtT l).Pairwise (fun a b => leT a b = true) := List.pairwise_mergeSort leT_trans leT_total l
theorem srt_uniq {l l' : List (List UInt8)} (h : l.Pairwise (fun a b => leT a b = true)) (h' : l'.Pairwise (fun a b => leT a b = true)) (hp : l.Perm l') : l = l' :=
  List.Perm.eq_of_pairwise (le := fun a b => leT a b = true) (fun a b _ _ g g' => leT_anti g g') h h' hp
theorem srtT_congr {l l' : List (List UInt8)} (h : l.Perm l') : srtT l = srtT l' := srt_uniq (srtT_srt l) (srtT_srt l') ((srtT_perm l).trans (h.trans (srtT_perm l').symm))
theorem merge_srtT (a b : List (List UInt8)) : List.merge (srtT a) (srtT b) leT = srtT (a ++ b) :=
  srt_uniq (List.pairwise_merge leT_trans leT_total _ _ (srtT_srt a) (srtT_srt b)) (srtT_srt _) ((List.merge_perm_append _).trans (((srtT_perm a).append (srtT_perm b)).trans (srtT_perm _).symm))
end Go.Pv

namespace Go.Proofs.Ytpbkggamiipdmaa
open Go Go.Pv
set_option linter.unusedVariables false
def cntA (how : Int) (s : Tprovenderref6_sets) (x : Tprovenderref6_aim) : Bool := (how == 1) || (x.typ == ([] : List UInt8)) || (mget s.made x.typ).getD false
def tosL (how : Int) (s : Tprovenderref6_sets) (ls : List Tprovenderref6_link) : List (List UInt8) := ls.flatMap fun l => (l.aims.filter (cntA how s)).map (·.to)
def linksN (n : Tprovenderref6_net) (x : List UInt8) : List Tprovenderref6_link := (mget n.links x).getD []
def funcN (n : Tprovenderref6_net) (x : List UInt8) : TFunc := (mget n.funcs x).getD (TFunc.mk [] [] [] [])
theorem leB (a b : List UInt8) : (Op.bytesLess a b || a == b) = leT a b := by
  have := bl_gt a b
  unfold leT
  rw [← this, Bool.not_not]
theorem M72_L1_eq (F : Nat) (k : List (List UInt8) → Option (List (List UInt8))) : ∀ (n : Nat) (a b o : List (List UInt8)),
    M72_L1 F k n a b o = if a.length + b.length < n ∧ (a.length + b.length = 0 ∨ (o.length + a.length + b.length) * 16 ≤ 140737488355328) then k (o ++ List.merge a b leT) else none
  | 0, a, b, o => by simp [M72_L1]
  | n + 1, [], [], o => by simp [M72_L1]
  | n + 1, [], y :: b, o => by
    rw [M72_L1]
    have e : idx (y :: b) 0 = some y := idx_nat (xs := y :: b) (j := 0) (by simp)
    rw [if_neg (by simp), if_pos (by simp), if_neg (by simp; omega), e, Option.bind_some]
    by_cases h : (o ++ [y]).length * 16 ≤ 140737488355328
    · rw [if_pos h, if_pos (by simp), M72_L1_eq F k n]
      simp only [List.length_append, List.length_cons, List.length_nil, List.drop_one, List.tail_cons] at h ⊢
      by_cases h2 : 0 + b.length < n ∧ (0 + b.length = 0 ∨ (o.length + (0 + 1) + 0 + b.length) * 16 ≤ 140737488355328)
      · rw [if_pos h2, if_pos (by omega)]; simp
      · rw [if_neg h2, if_neg (by omega)]
    · rw [if_neg h, if_neg (by simp at h ⊢; omega)]
  | n + 1, x :: a, [], o => by
    rw [M72_L1]
    have e : idx (x :: a) 0 = some x := idx_nat (xs := x :: a) (j := 0) (by simp)
    rw [if_pos (by simp), if_pos (by simp), e, Option.bind_some]
    by_cases h : (o ++ [x]).length * 16 ≤ 140737488355328
    · rw [if_pos h, if_pos (by simp), M72_L1_eq F k n]
      simp only [List.length_append, List.length_cons, List.length_nil, List.drop_one, List.tail_cons] at h ⊢
      by_cases h2 : a.length + 0 < n ∧ (a.length + 0 = 0 ∨ (o.length + (0 + 1) + a.length + 0) * 16 ≤ 140737488355328)
      · rw [if_pos h2, if_pos (by omega)]; simp [List.merge_right]
      · rw [if_neg h2, if_neg (by omega)]
    · rw [if_neg h, if_neg (by simp at h ⊢; omega)]
  | n + 1, x :: a, y :: b, o => by
    rw [M72_L1]
    have e : idx (x :: a) 0 = some x := idx_nat (xs := x :: a) (j := 0) (by simp)
    have e' : idx (y :: b) 0 = some y := idx_nat (xs := y :: b) (j := 0) (by simp)
    rw [if_pos (by simp), if_neg (by simp; omega), e, Option.bind_some, e', Option.bind_some, jn_def, leB, Option.bind_some, Option.bind_some]
    by_cases hxy : leT x y = true
    · rw [if_pos hxy]
      by_cases h : (o ++ [x]).length * 16 ≤ 140737488355328
      · rw [if_pos h, if_pos (by simp), show (fun l28 l29 l30 => M72_L1 F k n l28 l29 l30) = M72_L1 F k n from rfl, M72_L1_eq F k n, List.cons_merge_cons_pos _ _ _ hxy]
        simp only [List.length_append, List.length_cons, List.length_nil, List.drop_one, List.tail_cons] at h ⊢
        by_cases h2 : a.length + (b.length + 1) < n ∧ (a.length + (b.length + 1) = 0 ∨ (o.length + (0 + 1) + a.length + (b.length + 1)) * 16 ≤ 140737488355328)
        · rw [if_pos h2, if_pos (by omega)]; simp
        · rw [if_neg h2, if_neg (by omega)]
      · rw [if_neg h, if_neg (by simp at h ⊢; omega)]
    · rw [if_neg hxy]
      by_cases h : (o ++ [y]).length * 16 ≤ 140737488355328
      · rw [if_pos h, if_pos (by simp), show (fun l28 l29 l30 => M72_L1 F k n l28 l29 l30) = M72_L1 F k n from rfl, M72_L1_eq F k n, List.cons_merge_cons_neg _ _ _ hxy]
        simp only [List.length_append, List.length_cons, List.length_nil, List.drop_one, List.tail_cons] at h ⊢
        by_cases h2 : (a.length + 1) + b.length < n ∧ ((a.length + 1) + b.length = 0 ∨ (o.length + (0 + 1) + (a.length + 1) + b.length) * 16 ≤ 140737488355328)
        · rw [if_pos h2, if_pos (by omega)]; simp
        · rw [if_neg h2, if_neg (by omega)]
      · rw [if_neg h, if_neg (by simp at h ⊢; omega)]
def hlf (n : Nat) : Int := w64 (Int.tdiv ((n : Nat) : Int) 2)
/-- Is there room and fuel for a list of this length? -/
def okN : Nat → Nat → Bool
  | 0, _ => false
  | F + 1, n => decide (n < 2) || (decide (0 ≤ hlf n ∧ (hlf n).toNat ≤ n) && (okN F (hlf n).toNat && (okN F (n - (hlf n).toNat) && decide (n < F ∧ n * 16 ≤ 140737488355328))))
theorem srtT_short {l : List (List UInt8)} (h : l.length < 2) : srtT l = l := by
  match l, h with
  | [], _ => simp [srtT]
  | [x], _ => simp [srtT]
theorem M72_eq : ∀ (F : Nat) (l : List (List UInt8)), M72 F l = if okN F l.length = true then some (srtT l) else none
  | 0, l => by simp [M72, okN]
  | F + 1, l => by
    have hh : w64 (Int.tdiv ((l.length : Nat) : Int) 2) = hlf l.length := rfl
    rw [M72, M72_B, okN]
    simp only [hh]
    by_cases h : l.length < 2
    · rw [if_pos (by simp; omega), if_pos (by simp [h]), srtT_short h]
    · rw [if_neg (by simp; omega)]
      have hd : decide (l.length < 2) = false := by simp; omega
      rw [hd, Bool.false_or]
      by_cases h2 : 0 ≤ hlf l.length ∧ (hlf l.length).toNat ≤ l.length
      · rw [if_pos h2, M72_eq F]
        have e1 : (l.take (hlf l.length).toNat).length = (hlf l.length).toNat := by rw [List.length_take]; exact Nat.min_eq_left h2.2
        have e2 : (l.drop (hlf l.length).toNat).length = l.length - (hlf l.length).toNat := by rw [List.length_drop]
        rw [e1]
        simp only [decide_eq_true h2, Bool.true_and]
        by_cases h3 : okN F (hlf l.length).toNat = true
        · rw [if_pos h3, Option.bind_some, if_pos h2, M72_eq F, e2, h3, Bool.true_and]
          by_cases h4 : okN F (l.length - (hlf l.length).toNat) = true
          · rw [if_pos h4, Option.bind_some, jn_def, M72_L1_eq, h4, Bool.true_and]
            have e3 : (srtT (l.take (hlf l.length).toNat)).length + (srtT (l.drop (hlf l.length).toNat)).length = l.length := by
              rw [(srtT_perm _).length_eq, (srtT_perm _).length_eq, e1, e2]; omega
            by_cases h5 : l.length < F ∧ l.length * 16 ≤ 140737488355328
            · rw [if_pos ⟨by omega, .inr (by simp; omega)⟩, if_pos (decide_eq_true h5), merge_srtT, List.take_append_drop]; simp
            · rw [if_neg (fun hh => h5 (by have := hh.2; simp only [List.length_nil] at this; exact ⟨by omega, by omega⟩)), if_neg (by rw [decide_eq_false h5]; simp)]
          · rw [if_neg h4, Option.bind_none, if_neg (by simp [h4])]
        · rw [if_neg h3, Option.bind_none, if_neg (by simp [h3])]
      · rw [if_neg h2, if_neg (by simp only [decide_eq_false h2, Bool.false_and]; simp)]
theorem okN_of : ∀ (d F n : Nat), n < 2 ^ d → n + d + 1 ≤ F → n ≤ 100000 → okN F n = true
  | 0, F, n, h, hF, _ => by
    match F with
    | F + 1 => rw [okN]; simp at h; subst h; simp
  | d + 1, F, n, h, hF, hb => by
    match F with
    | F + 1 =>
      rw [okN]
      by_cases h2 : n < 2
      · simp [h2]
      · have e : hlf n = ((n / 2 : Nat) : Int) := by
          unfold hlf
          rw [Int.tdiv_eq_ediv_of_nonneg (by omega), w64_id (by omega) (by omega)]
          omega
        have e2 : (hlf n).toNat = n / 2 := by rw [e]; exact Int.toNat_natCast _
        rw [e2, okN_of d F (n / 2) (by rw [Nat.pow_succ] at h; omega) (by omega) (by omega)]
        by_cases h3 : n - n / 2 < 2 ^ d
        · rw [okN_of d F (n - n / 2) h3 (by omega) (by omega), e]
          simp; omega
        · have : n - n / 2 = 2 ^ d := by rw [Nat.pow_succ] at h; omega
          have h4 : n = 2 ^ d + 2 ^ d - 1 := by rw [Nat.pow_succ] at h; omega
          have h5 : 1 ≤ 2 ^ d := Nat.one_le_two_pow
          rw [okN_of (d + 1) F (n - n / 2) (by rw [this, Nat.pow_succ]; omega) (by omega) (by omega), e]
          simp; omega
termination_by d F n => (F, d)
theorem M34_L1_eq (F : Nat) : ∀ (l : List ((List UInt8) × Bool)) (o : List (List UInt8)), M34_L1 F l o = if l.length = 0 ∨ (o.length + l.length) * 16 ≤ 140737488355328 then M72 F (o ++ l.map (·.1)) else none
  | [], o => by
    rw [M34_L1]
    simp only [List.map_nil, List.append_nil, List.length_nil, true_or, if_true]
    cases M72 F o <;> rfl
  | e :: l, o => by
    rw [M34_L1]
    by_cases h : (o ++ [e.1]).length * 16 ≤ 140737488355328
    · rw [if_pos h, M34_L1_eq F l]
      simp only [List.length_append, List.length_cons, List.length_nil] at h ⊢
      by_cases h2 : l.length = 0 ∨ (o.length + (0 + 1) + l.length) * 16 ≤ 140737488355328
      · rw [if_pos h2, if_pos (by omega)]; simp
      · rw [if_neg h2, if_neg (by omega)]
    · rw [if_neg h, if_neg (by simp at h ⊢; omega)]
theorem ord_M34_L1 {F : Nat} {l l' : List ((List UInt8) × Bool)} {o : List (List UInt8)} {r : List (List UInt8)} (hp : l.Perm l') (h : M34_L1 F l o = some r) : M34_L1 F l' o = some r := by
  rw [← h, M34_L1_eq, M34_L1_eq, hp.length_eq, M72_eq, M72_eq]
  have := (hp.map (·.1)).append_left o
  rw [this.length_eq, srtT_congr this]
end Go.Proofs.Ytpbkggamiipdmaa
