/- Part of the proof: R6M, Q, X, XR, R6Ord. -/
import Derived.Test.YtpbkggamiipdmaaC8R6T
import Derived.Test.YtpbkggamiipdmaaC8PvU
import Derived.Test.YtpbkggamiipdmaaC8ZA
import Derived.Test.YtpbkggamiipdmaaC8ZC
namespace Go.Proofs.Ytpbkggamiipdmaa
open Go Go.Pv
set_option linter.unusedVariables false
set_option maxRecDepth 100000
noncomputable section
def M77_L3 (F : Nat) (k23 : (List ((List UInt8) × Bool)) → Option Treach_checker) : List TFunc → (List ((List UInt8) × Bool)) → Option Treach_checker
 | [], m28 => k23 m28
 | x30 :: tl3, m28 => M77_L3 F k23 tl3 (mput m28 x30.Name true)
def M77_L2 (F : Nat) (k13 : (List ((List UInt8) × Bool)) → Option Treach_checker) : List TType → (List ((List UInt8) × Bool)) → Option Treach_checker
 | [], m18 => k13 m18
 | x20 :: tl2, m18 => M77_L2 F k13 tl2 (mput m18 x20.Name true)
def M77_L1 (F : Nat) (k3 : (List ((List UInt8) × TIface)) → Option Treach_checker) : List TIface → (List ((List UInt8) × TIface)) → Option Treach_checker
 | [], m8 => k3 m8
 | x10 :: tl1, m8 => M77_L1 F k3 tl1 (mput m8 x10.Name x10)
def M77 (F : Nat) (a1 : TGraph) (a2 : Bool) : Option Treach_checker :=
 jn (fun (m4 : List ((List UInt8) × TIface)) => jn (fun (m14 : List ((List UInt8) × Bool)) => jn (fun (m24 : List ((List UInt8) × Bool)) => some (Treach_checker.mk a2 m4 m14 m24)) (fun k23 => M77_L3 F k23 a1.Funcs ([] : List ((List UInt8) × Bool)))) (fun k13 => M77_L2 F k13 a1.Types ([] : List ((List UInt8) × Bool)))) (fun k3 => M77_L1 F k3 a1.Ifaces ([] : List ((List UInt8) × TIface)))
def M120_L1 (F : Nat) (a1 : (List UInt8)) (k2 : Option Bool) : Nat → Int → Option Bool
  | 0, n4 => k2
  | tl1 + 1, n4 => (idx a1 n4).bind fun c6 => if (decide ((c6.toNat : Int) < 33)) = true then some false
 else (idx a1 n4).bind fun c9 => if (decide ((c9.toNat : Int) > 126)) = true then some false
 else (idx a1 n4).bind fun c12 => if ((c12.toNat : Int) == 35) = true then some false
 else M120_L1 F a1 k2 tl1 (n4 + 1)
def M120 (F : Nat) (a1 : (List UInt8)) : Option Bool :=
 jn (if (!(a1 == ([] : List UInt8))) = true then some (decide ((a1.length : Int) ≤ 100))
 else some false) (fun k2 => if (a1.length : Int) ≤ 9223372036854775807 then M120_L1 F a1 k2 (((a1.length : Int) : Int).toNat) 0 else none)
def M93 (F : Nat) (a1 : (List UInt8)) (a2 : (List UInt8)) (a3 : Bool) : Option Int :=
 (M120 F a1).bind fun y4 => jn (some 0) (fun k6 => if (!y4) = true then some 8
 else if (!a3) = true then if (Op.bytesLess a1 a2 || a1 == a2) = true then some 10
 else k6
 else k6)
def M105_L2 (F : Nat) (k18 : Option Int) : List (List UInt8) → Int → (List UInt8) → Option Int
  | [], n22, s21 => k18
  | x24 :: tl2, n22, s21 => (M93 F x24 s21 (n22 == 0)).bind fun y26 => if (y26 != 0) = true then some y26
 else M105_L2 F k18 tl2 (n22 + 1) x24
def M105_L1 (F : Nat) (k3 : Option Int) : List TIface → Int → (List UInt8) → Option Int
  | [], n7, s6 => k3
  | x11 :: tl1, n7, s6 => jn (fun (s10 : List UInt8) => M105_L1 F k3 tl1 (n7 + 1) s10) (fun k9 => (M93 F x11.Name s6 (n7 == 0)).bind fun y13 => if (y13 != 0) = true then some y13
 else if (((x11.Methods.length : Nat) : Int) == 0) = true then some 13
 else if (decide (((x11.Methods.length : Nat) : Int) > 200)) = true then some 3
 else jn (k9 x11.Name) (fun k18 => M105_L2 F k18 x11.Methods 0 ([] : List UInt8)))
def M105 (F : Nat) (a1 : Treach_checker) (a2 : (List TIface)) : Option Int :=
 jn (some 0) (fun k3 => M105_L1 F k3 a2 0 ([] : List UInt8))
def M106_L2 (F : Nat) (a1 : Treach_checker) (k17 : Option Int) : List TMethod → Int → (List UInt8) → Option Int
  | [], n21, s20 => k17
  | x25 :: tl2, n21, s20 => jn (fun (s24 : List UInt8) => M106_L2 F a1 k17 tl2 (n21 + 1) s24) (fun k23 => (M93 F x25.Name s20 (n21 == 0)).bind fun y27 => if (y27 != 0) = true then some y27
 else if (!a1.loose) = true then if (!((mget a1.funcs x25.Func).getD false)) = true then some 4
 else k23 x25.Name
 else k23 x25.Name)
def M106_L1 (F : Nat) (a1 : Treach_checker) (k3 : Option Int) : List TType → Int → (List UInt8) → Option Int
  | [], n7, s6 => k3
  | x11 :: tl1, n7, s6 => jn (fun (s10 : List UInt8) => M106_L1 F a1 k3 tl1 (n7 + 1) s10) (fun k9 => (M93 F x11.Name s6 (n7 == 0)).bind fun y13 => if (y13 != 0) = true then some y13
 else if (decide (((x11.Methods.length : Nat) : Int) > 200)) = true then some 3
 else jn (k9 x11.Name) (fun k17 => M106_L2 F a1 k17 x11.Methods 0 ([] : List UInt8)))
def M106 (F : Nat) (a1 : Treach_checker) (a2 : (List TType)) : Option Int :=
 jn (some 0) (fun k3 => M106_L1 F a1 k3 a2 0 ([] : List UInt8))
def M41_L1 (F : Nat) (a2 : (List UInt8)) (k3 : Option Int) : List (List UInt8) → Int → Option Int
  | [], n5 => k3
  | x7 :: tl1, n5 => if (a2 == x7) = true then some n5
 else M41_L1 F a2 k3 tl1 (n5 + 1)
def M41 (F : Nat) (a1 : (List (List UInt8))) (a2 : (List UInt8)) : Option Int :=
 jn (some (-1)) (fun k3 => M41_L1 F a2 k3 a1 0)
def M16 (F : Nat) (a1 : (List (List UInt8))) (a2 : (List UInt8)) : Option Bool :=
 (M41 F a1 a2).bind fun y3 => some (decide (y3 ≥ 0))
def M127 (F : Nat) (a1 : Treach_checker) (a2 : TCall) : Option Int :=
 jn (if (!(a2.Feature == ([] : List UInt8))) = true then (M120 F a2.Feature).bind fun y16 => if (!y16) = true then some 8
 else some 0
 else some 0) (fun k3 => if (a2.Kind == 1) = true then if (!a1.loose) = true then if (!((mget a1.funcs a2.Target).getD false)) = true then some 4
 else if (!(a2.Method == ([] : List UInt8))) = true then some 2
 else k3
 else if (!(a2.Method == ([] : List UInt8))) = true then some 2
 else k3
 else if (a2.Kind == 2) = true then if (!a1.loose) = true then if (!((mget a1.ifaces a2.Target).isSome)) = true then some 4
 else (M16 F ((mget a1.ifaces a2.Target).getD (TIface.mk ([] : List UInt8) ([] : (List (List UInt8))))).Methods a2.Method).bind fun y12 => if (!y12) = true then some 4
 else k3
 else k3
 else some 7)
def M108_L1 (F : Nat) (a1 : Treach_checker) (a2 : (List (List UInt8))) (a3 : (List ((List UInt8) × Bool))) (k4 : Option Int) : List (List UInt8) → Int → Option Int
  | [], n6 => k4
  | x8 :: tl1, n6 => jn (M108_L1 F a1 a2 a3 k4 tl1 (n6 + 1)) (fun k10 => if (!a1.loose) = true then jn (k10) (fun k12 => if (!((mget a3 x8).getD false)) = true then some 4
 else if (decide (n6 > 0)) = true then (idx a2 (w64 (n6 - 1))).bind fun x15 => if (Op.bytesLess x8 x15 || x8 == x15) = true then some 10
 else k12
 else k12)
 else if (decide (n6 > 0)) = true then (idx a2 (w64 (n6 - 1))).bind fun x19 => if (Op.bytesLess x8 x19 || x8 == x19) = true then some 10
 else k10
 else k10)
def M108 (F : Nat) (a1 : Treach_checker) (a2 : (List (List UInt8))) (a3 : (List ((List UInt8) × Bool))) : Option Int :=
 jn (some 0) (fun k4 => M108_L1 F a1 a2 a3 k4 a2 0)
def M107_L2 (F : Nat) (a1 : Treach_checker) (k20 : Option Int) : List TCall → Option Int
  | [] => k20
  | x24 :: tl2 => (M127 F a1 x24).bind fun y26 => if (y26 != 0) = true then some y26
 else M107_L2 F a1 k20 tl2
def M107_L1 (F : Nat) (a1 : Treach_checker) (k3 : Option Int) : List TFunc → Int → (List UInt8) → Option Int
  | [], n7, s6 => k3
  | x11 :: tl1, n7, s6 => jn (fun (s10 : List UInt8) => M107_L1 F a1 k3 tl1 (n7 + 1) s10) (fun k9 => (M93 F x11.Name s6 (n7 == 0)).bind fun y13 => if (y13 != 0) = true then some y13
 else (M120 F x11.Component).bind fun y16 => if (!y16) = true then some 8
 else if (decide (((x11.Calls.length : Nat) : Int) > 200)) = true then some 3
 else jn ((M108 F a1 x11.Makes a1.types).bind fun y30 => if (y30 != 0) = true then some y30
 else k9 x11.Name) (fun k20 => M107_L2 F a1 k20 x11.Calls))
def M107 (F : Nat) (a1 : Treach_checker) (a2 : (List TFunc)) : Option Int :=
 jn (some 0) (fun k3 => M107_L1 F a1 k3 a2 0 ([] : List UInt8))
def M78 (F : Nat) (a1 : Treach_checker) (a2 : TGraph) : Option Int :=
 if (decide (((a2.Ifaces.length : Nat) : Int) > 200)) = true then some 3
 else if (decide (((a2.Types.length : Nat) : Int) > 500)) = true then some 3
 else if (decide (((a2.Funcs.length : Nat) : Int) > 3000)) = true then some 3
 else (M105 F a1 a2.Ifaces).bind fun y6 => if (y6 != 0) = true then some y6
 else (M106 F a1 a2.Types).bind fun y9 => if (y9 != 0) = true then some y9
 else (M107 F a1 a2.Funcs).bind fun y12 => if (y12 != 0) = true then some y12
 else (M108 F a1 a2.Entries a1.funcs).bind fun y15 => some y15
def M44 (F : Nat) (a1 : TGraph) : Option Int :=
 (M77 F a1 false).bind fun y2 => (M78 F y2 a1).bind fun y4 => some y4
def M67_L1 (F : Nat) (k3 : Option Int) : List (List UInt8) → Int → (List UInt8) → Option Int
  | [], n7, s6 => k3
  | x9 :: tl1, n7, s6 => (M93 F x9 s6 (n7 == 0)).bind fun y11 => if (y11 != 0) = true then some y11
 else M67_L1 F k3 tl1 (n7 + 1) x9
def M67 (F : Nat) (a1 : (List (List UInt8))) : Option Int :=
 if (decide (((a1.length : Nat) : Int) > 30)) = true then some 3
 else jn (some 0) (fun k3 => M67_L1 F k3 a1 0 ([] : List UInt8))
def M126 (F : Nat) (a1 : (List UInt8)) : Option Bool :=
 some (!(a1 == a1))
def M111 (F : Nat) (a1 : (List UInt8)) (a2 : (List UInt8)) : Option Int :=
 (M126 F a1).bind fun y3 => (M126 F a2).bind fun y5 => if y3 = true then if y5 = true then some 0
 else some (-1)
 else if y5 = true then some 1
 else if (Op.bytesLess a1 a2) = true then some (-1)
 else if (!(Op.bytesLess a1 a2 || a1 == a2)) = true then some 1
 else some 0
def M110 (F : Nat) (a1 : TMethod) (a2 : (List UInt8)) : Option Int :=
 (M111 F a1.Name a2).bind fun y3 => some y3
def M109_L1 (F : Nat) (a1 : (List TMethod)) (a2 : (List UInt8)) (k3 : Int → Option (Int × Bool)) : Nat → Int → Int → Option (Int × Bool)
 | 0, _, _ => none
 | n + 1, n7, n8 => if (decide (n7 < n8)) = true then (idx a1 (w64 (Int.fdiv (IntKind.wrap .u64 (w64 (n7 + n8))) (2 ^ (min (Int.toNat 1) (IntKind.bits .u64)))))).bind fun x10 => (M110 F x10 a2).bind fun y12 => jn (fun (n15 : Int) (n16 : Int) => M109_L1 F a1 a2 k3 n n15 n16) (fun k14 => if (decide (y12 < 0)) = true then k14 (w64 ((w64 (Int.fdiv (IntKind.wrap .u64 (w64 (n7 + n8))) (2 ^ (min (Int.toNat 1) (IntKind.bits .u64))))) + 1)) n8
 else k14 n7 (w64 (Int.fdiv (IntKind.wrap .u64 (w64 (n7 + n8))) (2 ^ (min (Int.toNat 1) (IntKind.bits .u64))))))
 else k3 n7
def M109 (F : Nat) (a1 : (List TMethod)) (a2 : (List UInt8)) : Option (Int × Bool) :=
 jn (fun (n4 : Int) => if (decide (n4 < ((a1.length : Nat) : Int))) = true then (idx a1 n4).bind fun x19 => (M110 F x19 a2).bind fun y21 => some (n4, (y21 == 0))
 else some (n4, false)) (fun k3 => M109_L1 F a1 a2 k3 F 0 ((a1.length : Nat) : Int))
def M79 (F : Nat) (a1 : TType) (a2 : (List UInt8)) : Option ((List UInt8) × Bool) :=
 (M109 F a1.Methods a2).bind fun y3 => if (!(y3.2)) = true then some (([] : List UInt8), false)
 else (idx a1.Methods (y3.1)).bind fun x6 => some (x6.Func, true)
def M49_L1 (F : Nat) (a1 : TType) (k3 : Option Bool) : List (List UInt8) → Option Bool
  | [] => k3
  | x7 :: tl1 => (M79 F a1 x7).bind fun y9 => if (!(y9.2)) = true then some false
 else M49_L1 F a1 k3 tl1
def M49 (F : Nat) (a1 : TType) (a2 : TIface) : Option Bool :=
 jn (some true) (fun k3 => M49_L1 F a1 k3 a2.Methods)
def M54_L5 (F : Nat) (k52 : (List ((List UInt8) × Bool)) → Option (Option Treach_world)) : List (List UInt8) → (List ((List UInt8) × Bool)) → Option (Option Treach_world)
 | [], m57 => k52 m57
 | x59 :: tl5, m57 => M54_L5 F k52 tl5 (mput m57 x59 true)
def M54_L4 (F : Nat) (x33 : TIface) (k35 : (List ((List UInt8) × (List Int))) → Option (Option Treach_world)) : List TType → Int → (List ((List UInt8) × (List Int))) → Option (Option Treach_world)
  | [], n39, m40 => k35 m40
  | x42 :: tl4, n39, m40 => (M49 F x42 x33).bind fun y44 => jn (fun (m47 : List ((List UInt8) × (List Int))) => M54_L4 F x33 k35 tl4 (n39 + 1) m47) (fun k46 => if y44 = true then if (((mget m40 x33.Name).getD []) ++ ([n39] : List Int)).length * 8 ≤ 140737488355328 then k46 (mput m40 x33.Name (((mget m40 x33.Name).getD []) ++ ([n39] : List Int))) else none
 else k46 m40)
def M54_L3 (F : Nat) (a1 : TGraph) (k24 : (List ((List UInt8) × (List Int))) → Option (Option Treach_world)) : List TIface → (List ((List UInt8) × (List Int))) → Option (Option Treach_world)
 | [], m29 => k24 m29
 | x33 :: tl3, m29 => jn (fun (m32 : List ((List UInt8) × (List Int))) => M54_L3 F a1 k24 tl3 m32) (fun k31 => jn (fun (m36 : List ((List UInt8) × (List Int))) => k31 m36) (fun k35 => M54_L4 F x33 k35 a1.Types 0 m29))
def M54_L2 (F : Nat) (k14 : (List ((List UInt8) × Int)) → Option (Option Treach_world)) : List TType → Int → (List ((List UInt8) × Int)) → Option (Option Treach_world)
 | [], n18, m19 => k14 m19
 | x21 :: tl2, n18, m19 => M54_L2 F k14 tl2 (n18 + 1) (mput m19 x21.Name n18)
def M54_L1 (F : Nat) (k4 : (List ((List UInt8) × Int)) → Option (Option Treach_world)) : List TFunc → Int → (List ((List UInt8) × Int)) → Option (Option Treach_world)
 | [], n8, m9 => k4 m9
 | x11 :: tl1, n8, m9 => M54_L1 F k4 tl1 (n8 + 1) (mput m9 x11.Name n8)
def M54 (F : Nat) (a1 : TGraph) (a2 : Int) (a3 : (List (List UInt8))) : Option (Option Treach_world) :=
 jn (fun (m5 : List ((List UInt8) × Int)) => jn (fun (m15 : List ((List UInt8) × Int)) => jn (fun (m25 : List ((List UInt8) × (List Int))) => jn (fun (m53 : List ((List UInt8) × Bool)) => some (some (Treach_world.mk a1 m5 m15 m25 m53 (a2 == 2)))) (fun k52 => M54_L5 F k52 a3 (mput ([] : List ((List UInt8) × Bool)) ([] : List UInt8) true))) (fun k24 => M54_L3 F a1 k24 a1.Ifaces ([] : List ((List UInt8) × (List Int))))) (fun k14 => M54_L2 F k14 a1.Types 0 ([] : List ((List UInt8) × Int)))) (fun k4 => M54_L1 F k4 a1.Funcs 0 ([] : List ((List UInt8) × Int)))
def M31 (F : Nat) (a1 : TGraph) (a2 : Int) (a3 : (List (List UInt8))) : Option ((Option Treach_world) × Int) :=
 (M44 F a1).bind fun y4 => if (y4 != 0) = true then some ((none : Option Treach_world), y4)
 else (M67 F a3).bind fun y7 => if (y7 != 0) = true then some ((none : Option Treach_world), y7)
 else if (a2 != 1) = true then if (a2 != 2) = true then some ((none : Option Treach_world), 7)
 else (M54 F a1 a2 a3).bind fun y12 => (y12).bind fun x14 => some ((some x14), 0)
 else (M54 F a1 a2 a3).bind fun y16 => (y16).bind fun x18 => some ((some x18), 0)
def M82 (F : Nat) (a1 : Treach_world) (a2 : TCall) (a3 : Int) : Option Int :=
 (idx a1.g.Types a3).bind fun x4 => (M79 F x4 a2.Method).bind fun y6 => some ((mget a1.funcs (y6.1)).getD 0)
def M65_L4 (F : Nat) (k35 : (List ((List UInt8) × Bool)) → Option Tprovenderref6_names) : List TFunc → (List ((List UInt8) × Bool)) → Option Tprovenderref6_names
 | [], m40 => k35 m40
 | x42 :: tl4, m40 => M65_L4 F k35 tl4 (mput m40 x42.Name true)
def M65_L3 (F : Nat) (k25 : (List ((List UInt8) × Bool)) → Option Tprovenderref6_names) : List TType → (List ((List UInt8) × Bool)) → Option Tprovenderref6_names
 | [], m30 => k25 m30
 | x32 :: tl3, m30 => M65_L3 F k25 tl3 (mput m30 x32.Name true)
def M65_L2 (F : Nat) (x11 : TIface) (k13 : (List ((List UInt8) × (List ((List UInt8) × Bool)))) → Option Tprovenderref6_names) : List (List UInt8) → (List ((List UInt8) × (List ((List UInt8) × Bool)))) → Option Tprovenderref6_names
 | [], m18 => k13 m18
 | x20 :: tl2, m18 => if (mget m18 x11.Name).isSome = true then M65_L2 F x11 k13 tl2 (mput m18 x11.Name (mput ((mget m18 x11.Name).getD []) x20 true)) else none
def M65_L1 (F : Nat) (k2 : (List ((List UInt8) × (List ((List UInt8) × Bool)))) → Option Tprovenderref6_names) : List TIface → (List ((List UInt8) × (List ((List UInt8) × Bool)))) → Option Tprovenderref6_names
 | [], m7 => k2 m7
 | x11 :: tl1, m7 => jn (fun (m10 : List ((List UInt8) × (List ((List UInt8) × Bool)))) => M65_L1 F k2 tl1 m10) (fun k9 => jn (fun (m14 : List ((List UInt8) × (List ((List UInt8) × Bool)))) => k9 m14) (fun k13 => M65_L2 F x11 k13 x11.Methods (mput m7 x11.Name ([] : List ((List UInt8) × Bool)))))
def M65 (F : Nat) (a1 : TGraph) : Option Tprovenderref6_names :=
 jn (fun (m3 : List ((List UInt8) × (List ((List UInt8) × Bool)))) => jn (fun (m26 : List ((List UInt8) × Bool)) => jn (fun (m36 : List ((List UInt8) × Bool)) => some (Tprovenderref6_names.mk m3 m26 m36)) (fun k35 => M65_L4 F k35 a1.Funcs ([] : List ((List UInt8) × Bool)))) (fun k25 => M65_L3 F k25 a1.Types ([] : List ((List UInt8) × Bool)))) (fun k2 => M65_L1 F k2 a1.Ifaces ([] : List ((List UInt8) × (List ((List UInt8) × Bool)))))
def M91_L1 (F : Nat) (a1 : (List UInt8)) (k2 : Option Bool) : Nat → Int → Option Bool
  | 0, n4 => k2
  | tl1 + 1, n4 => (idx a1 n4).bind fun c6 => if (decide ((c6.toNat : Int) < 33)) = true then some false
 else (idx a1 n4).bind fun c9 => if (decide ((c9.toNat : Int) > 126)) = true then some false
 else (idx a1 n4).bind fun c12 => if ((c12.toNat : Int) == 35) = true then some false
 else M91_L1 F a1 k2 tl1 (n4 + 1)
def M91 (F : Nat) (a1 : (List UInt8)) : Option Bool :=
 jn (if (decide ((a1.length : Int) ≥ 1)) = true then some (decide ((a1.length : Int) ≤ 100))
 else some false) (fun k2 => if (a1.length : Int) ≤ 9223372036854775807 then M91_L1 F a1 k2 (((a1.length : Int) : Int).toNat) 0 else none)
def M92 (F : Nat) (a1 : (List (List UInt8))) (a2 : Int) : Option Int :=
 if (decide (a2 > 0)) = true then (idx a1 a2).bind fun x4 => (idx a1 (w64 (a2 - 1))).bind fun x6 => if (Op.bytesLess x4 x6 || x4 == x6) = true then some 10
 else some 0
 else some 0
def M112_L2 (F : Nat) (x10 : TIface) (k18 : Option Int) : List (List UInt8) → Int → Option Int
  | [], n20 => k18
  | x22 :: tl2, n20 => (M91 F x22).bind fun y24 => if (!y24) = true then some 8
 else (M92 F x10.Methods n20).bind fun y27 => if (y27 != 0) = true then some y27
 else M112_L2 F x10 k18 tl2 (n20 + 1)
def M112_L1 (F : Nat) (k2 : Option Int) : List TIface → (List UInt8) → Option Int
  | [], s5 => k2
  | x10 :: tl1, s5 => jn (fun (s9 : List UInt8) => M112_L1 F k2 tl1 s9) (fun k8 => (M91 F x10.Name).bind fun y12 => if (!y12) = true then some 8
 else if (Op.bytesLess x10.Name s5 || x10.Name == s5) = true then some 10
 else if (((x10.Methods.length : Nat) : Int) == 0) = true then some 13
 else if (decide (((x10.Methods.length : Nat) : Int) > 200)) = true then some 3
 else jn (k8 x10.Name) (fun k18 => M112_L2 F x10 k18 x10.Methods 0))
def M112 (F : Nat) (a1 : Tprovenderref6_checker) : Option Int :=
 jn (some 0) (fun k2 => M112_L1 F k2 a1.g.Ifaces ([] : List UInt8))
def M113_L2 (F : Nat) (a1 : Tprovenderref6_checker) (k17 : Option Int) : List TMethod → (List UInt8) → Option Int
  | [], s20 => k17
  | x23 :: tl2, s20 => (M91 F x23.Name).bind fun y25 => jn (M113_L2 F a1 k17 tl2 x23.Name) (fun k27 => if (!y25) = true then some 8
 else if (Op.bytesLess x23.Name s20 || x23.Name == s20) = true then some 10
 else if (!a1.loose) = true then if (!((mget a1.n.funcs x23.Func).getD false)) = true then some 4
 else k27
 else k27)
def M113_L1 (F : Nat) (a1 : Tprovenderref6_checker) (k2 : Option Int) : List TType → (List UInt8) → Option Int
  | [], s5 => k2
  | x10 :: tl1, s5 => jn (fun (s9 : List UInt8) => M113_L1 F a1 k2 tl1 s9) (fun k8 => (M91 F x10.Name).bind fun y12 => if (!y12) = true then some 8
 else if (Op.bytesLess x10.Name s5 || x10.Name == s5) = true then some 10
 else if (decide (((x10.Methods.length : Nat) : Int) > 200)) = true then some 3
 else jn (k8 x10.Name) (fun k17 => M113_L2 F a1 k17 x10.Methods ([] : List UInt8)))
def M113 (F : Nat) (a1 : Tprovenderref6_checker) : Option Int :=
 jn (some 0) (fun k2 => M113_L1 F a1 k2 a1.g.Types ([] : List UInt8))
def M128 (F : Nat) (a1 : Tprovenderref6_checker) (a2 : TCall) : Option Int :=
 jn (if (!(a2.Feature == ([] : List UInt8))) = true then (M91 F a2.Feature).bind fun y15 => if (!y15) = true then some 8
 else some 0
 else some 0) (fun k3 => if (a2.Kind == 1) = true then if (!a1.loose) = true then if (!((mget a1.n.funcs a2.Target).getD false)) = true then some 4
 else if (!(a2.Method == ([] : List UInt8))) = true then some 2
 else k3
 else if (!(a2.Method == ([] : List UInt8))) = true then some 2
 else k3
 else if (a2.Kind == 2) = true then if ((mget a1.n.ifaces a2.Target).isSome) = true then if (!a1.loose) = true then if (!((mget ((mget a1.n.ifaces a2.Target).getD []) a2.Method).getD false)) = true then some 4
 else k3
 else k3
 else if (!a1.loose) = true then some 4
 else k3
 else some 7)
def M114_L3 (F : Nat) (a1 : Tprovenderref6_checker) (x10 : TFunc) (k30 : Option Int) : List (List UInt8) → Int → Option Int
  | [], n32 => k30
  | x35 :: tl3, n32 => jn (M114_L3 F a1 x10 k30 tl3 (n32 + 1)) (fun k34 => if (!a1.loose) = true then if (!((mget a1.n.types x35).getD false)) = true then some 4
 else (M92 F x10.Makes n32).bind fun y39 => if (y39 != 0) = true then some y39
 else k34
 else (M92 F x10.Makes n32).bind fun y42 => if (y42 != 0) = true then some y42
 else k34)
def M114_L2 (F : Nat) (a1 : Tprovenderref6_checker) (k20 : Option Int) : List TCall → Option Int
  | [] => k20
  | x24 :: tl2 => (M128 F a1 x24).bind fun y26 => if (y26 != 0) = true then some y26
 else M114_L2 F a1 k20 tl2
def M114_L1 (F : Nat) (a1 : Tprovenderref6_checker) (k2 : Option Int) : List TFunc → (List UInt8) → Option Int
  | [], s5 => k2
  | x10 :: tl1, s5 => jn (fun (s9 : List UInt8) => M114_L1 F a1 k2 tl1 s9) (fun k8 => (M91 F x10.Name).bind fun y12 => if (!y12) = true then some 8
 else if (Op.bytesLess x10.Name s5 || x10.Name == s5) = true then some 10
 else (M91 F x10.Component).bind fun y16 => if (!y16) = true then some 8
 else if (decide (((x10.Calls.length : Nat) : Int) > 200)) = true then some 3
 else jn (jn (k8 x10.Name) (fun k30 => M114_L3 F a1 x10 k30 x10.Makes 0)) (fun k20 => M114_L2 F a1 k20 x10.Calls))
def M114 (F : Nat) (a1 : Tprovenderref6_checker) : Option Int :=
 jn (some 0) (fun k2 => M114_L1 F a1 k2 a1.g.Funcs ([] : List UInt8))
def M80_L1 (F : Nat) (a1 : Tprovenderref6_checker) (k14 : Option Int) : List (List UInt8) → Int → Option Int
  | [], n16 => k14
  | x19 :: tl1, n16 => jn (M80_L1 F a1 k14 tl1 (n16 + 1)) (fun k18 => if (!a1.loose) = true then if (!((mget a1.n.funcs x19).getD false)) = true then some 4
 else (M92 F a1.g.Entries n16).bind fun y23 => if (y23 != 0) = true then some y23
 else k18
 else (M92 F a1.g.Entries n16).bind fun y26 => if (y26 != 0) = true then some y26
 else k18)
def M80 (F : Nat) (a1 : Tprovenderref6_checker) : Option Int :=
 if (decide (((a1.g.Ifaces.length : Nat) : Int) > 200)) = true then some 3
 else if (decide (((a1.g.Types.length : Nat) : Int) > 500)) = true then some 3
 else if (decide (((a1.g.Funcs.length : Nat) : Int) > 3000)) = true then some 3
 else (M112 F a1).bind fun y5 => if (y5 != 0) = true then some y5
 else (M113 F a1).bind fun y8 => if (y8 != 0) = true then some y8
 else (M114 F a1).bind fun y11 => if (y11 != 0) = true then some y11
 else jn (some 0) (fun k14 => M80_L1 F a1 k14 a1.g.Entries 0)
def M50 (F : Nat) (a1 : TGraph) : Option Int :=
 (M65 F a1).bind fun y2 => (M80 F (Tprovenderref6_checker.mk a1 y2 false)).bind fun y4 => some y4
def M63_L1 (F : Nat) (a1 : (List (List UInt8))) (k3 : Option Int) : List (List UInt8) → Int → Option Int
  | [], n5 => k3
  | x7 :: tl1, n5 => (M91 F x7).bind fun y9 => if (!y9) = true then some 8
 else (M92 F a1 n5).bind fun y12 => if (y12 != 0) = true then some y12
 else M63_L1 F a1 k3 tl1 (n5 + 1)
def M63 (F : Nat) (a1 : (List (List UInt8))) : Option Int :=
 if (decide (((a1.length : Nat) : Int) > 30)) = true then some 3
 else jn (some 0) (fun k3 => M63_L1 F a1 k3 a1 0)
def M52_L1 (F : Nat) (a2 : (List UInt8)) (k3 : Option (TIface × Bool)) : List TIface → Option (TIface × Bool)
  | [] => k3
  | x7 :: tl1 => if (x7.Name == a2) = true then some (x7, true)
 else M52_L1 F a2 k3 tl1
def M52 (F : Nat) (a1 : TGraph) (a2 : (List UInt8)) : Option (TIface × Bool) :=
 jn (some ((TIface.mk ([] : List UInt8) ([] : List (List UInt8))), false)) (fun k3 => M52_L1 F a2 k3 a1.Ifaces)
def M81_L1 (F : Nat) (a2 : (List UInt8)) (k3 : Option ((List UInt8) × Bool)) : List TMethod → Option ((List UInt8) × Bool)
  | [] => k3
  | x7 :: tl1 => if (x7.Name == a2) = true then some (x7.Func, true)
 else M81_L1 F a2 k3 tl1
def M81 (F : Nat) (a1 : TType) (a2 : (List UInt8)) : Option ((List UInt8) × Bool) :=
 jn (some (([] : List UInt8), false)) (fun k3 => M81_L1 F a2 k3 a1.Methods)
def M53_L1 (F : Nat) (a1 : TType) (k3 : Option Bool) : List (List UInt8) → Option Bool
  | [] => k3
  | x7 :: tl1 => (M81 F a1 x7).bind fun y9 => if (!(y9.2)) = true then some false
 else M53_L1 F a1 k3 tl1
def M53 (F : Nat) (a1 : TType) (a2 : TIface) : Option Bool :=
 jn (some true) (fun k3 => M53_L1 F a1 k3 a2.Methods)
def M58_L1 (F : Nat) (a2 : TCall) (y4 : (TIface × Bool)) (k6 : (List Tprovenderref6_aim) → Option (List Tprovenderref6_aim)) : List TType → (List Tprovenderref6_aim) → Option (List Tprovenderref6_aim)
  | [], l11 => k6 l11
  | x15 :: tl1, l11 => jn (fun (l14 : List Tprovenderref6_aim) => M58_L1 F a2 y4 k6 tl1 l14) (fun k13 => (M81 F x15 a2.Method).bind fun y17 => if (y17.2) = true then (M53 F x15 (y4.1)).bind fun y20 => jn (fun (l23 : List Tprovenderref6_aim) => k13 l23) (fun k22 => if y20 = true then if (l11 ++ ([(Tprovenderref6_aim.mk x15.Name (y17.1))] : List Tprovenderref6_aim)).length * 32 ≤ 140737488355328 then k22 (l11 ++ ([(Tprovenderref6_aim.mk x15.Name (y17.1))] : List Tprovenderref6_aim)) else none
 else k22 l11)
 else k13 l11)
def M58 (F : Nat) (a1 : TGraph) (a2 : TCall) : Option (List Tprovenderref6_aim) :=
 if (a2.Kind == 1) = true then some ([(Tprovenderref6_aim.mk ([] : List UInt8) a2.Target)] : List Tprovenderref6_aim)
 else (M52 F a1 a2.Target).bind fun y4 => jn (fun (l7 : List Tprovenderref6_aim) => some l7) (fun k6 => M58_L1 F a2 y4 k6 a1.Types ([] : List Tprovenderref6_aim))
def M35_L3 (F : Nat) (a1 : TGraph) (m4 : List ((List UInt8) × Bool)) (x29 : TFunc) (k31 : (List (TCall × (List Tprovenderref6_aim))) → (List ((List UInt8) × (List Tprovenderref6_link))) → Option Tprovenderref6_net) : List TCall → Int → (List (TCall × (List Tprovenderref6_aim))) → (List ((List UInt8) × (List Tprovenderref6_link))) → Option Tprovenderref6_net
  | [], n37, m38, m39 => k31 m38 m39
  | x44 :: tl3, n37, m38, m39 => jn (fun (m42 : List (TCall × (List Tprovenderref6_aim))) (m43 : List ((List UInt8) × (List Tprovenderref6_link))) => M35_L3 F a1 m4 x29 k31 tl3 (n37 + 1) m42 m43) (fun k41 => if (!((mget m4 x44.Feature).getD false)) = true then k41 m38 m39
 else jn (fun (l48 : List Tprovenderref6_aim) (m49 : List (TCall × (List Tprovenderref6_aim))) => if (((mget m39 x29.Name).getD []) ++ ([(Tprovenderref6_link.mk (TSite.mk x29.Name n37) l48)] : List Tprovenderref6_link)).length * 48 ≤ 140737488355328 then k41 m49 (mput m39 x29.Name (((mget m39 x29.Name).getD []) ++ ([(Tprovenderref6_link.mk (TSite.mk x29.Name n37) l48)] : List Tprovenderref6_link))) else none) (fun k47 => if (!((mget m38 (TCall.mk x44.Kind x44.Target x44.Method ([] : List UInt8))).isSome)) = true then (M58 F a1 x44).bind fun y51 => k47 y51 (mput m38 (TCall.mk x44.Kind x44.Target x44.Method ([] : List UInt8)) y51)
 else k47 ((mget m38 (TCall.mk x44.Kind x44.Target x44.Method ([] : List UInt8))).getD ([] : (List Tprovenderref6_aim))) m38))
def M35_L2 (F : Nat) (a1 : TGraph) (m4 : List ((List UInt8) × Bool)) (k13 : (List ((List UInt8) × (List Tprovenderref6_link))) → (List ((List UInt8) × TFunc)) → Option Tprovenderref6_net) : List TFunc → (List (TCall × (List Tprovenderref6_aim))) → (List ((List UInt8) × (List Tprovenderref6_link))) → (List ((List UInt8) × TFunc)) → Option Tprovenderref6_net
 | [], m21, m22, m23 => k13 m22 m23
 | x29 :: tl2, m21, m22, m23 => jn (fun (m26 : List (TCall × (List Tprovenderref6_aim))) (m27 : List ((List UInt8) × (List Tprovenderref6_link))) (m28 : List ((List UInt8) × TFunc)) => M35_L2 F a1 m4 k13 tl2 m26 m27 m28) (fun k25 => jn (fun (m32 : List (TCall × (List Tprovenderref6_aim))) (m33 : List ((List UInt8) × (List Tprovenderref6_link))) => k25 m32 m33 (mput m23 x29.Name x29)) (fun k31 => M35_L3 F a1 m4 x29 k31 x29.Calls 0 m21 m22))
def M35_L1 (F : Nat) (k3 : (List ((List UInt8) × Bool)) → Option Tprovenderref6_net) : List (List UInt8) → (List ((List UInt8) × Bool)) → Option Tprovenderref6_net
 | [], m8 => k3 m8
 | x10 :: tl1, m8 => M35_L1 F k3 tl1 (mput m8 x10 true)
def M35 (F : Nat) (a1 : TGraph) (a2 : (List (List UInt8))) : Option Tprovenderref6_net :=
 jn (fun (m4 : List ((List UInt8) × Bool)) => jn (fun (m14 : List ((List UInt8) × (List Tprovenderref6_link))) (m15 : List ((List UInt8) × TFunc)) => some (Tprovenderref6_net.mk a1 m14 m15)) (fun k13 => M35_L2 F a1 m4 k13 a1.Funcs ([] : List (TCall × (List Tprovenderref6_aim))) ([] : List ((List UInt8) × (List Tprovenderref6_link))) ([] : List ((List UInt8) × TFunc)))) (fun k3 => M35_L1 F k3 a2 (mput ([] : List ((List UInt8) × Bool)) ([] : List UInt8) true))
def M72_L1 (F : Nat) (k9 : (List (List UInt8)) → Option (List (List UInt8))) : Nat → (List (List UInt8)) → (List (List UInt8)) → (List (List UInt8)) → Option (List (List UInt8))
 | 0, _, _, _ => none
 | n + 1, l14, l15, l16 => if (decide (((l14.length : Nat) : Int) > 0)) = true then if (((l15.length : Nat) : Int) == 0) = true then (idx l14 0).bind fun x19 => if (l16 ++ ([x19] : List (List UInt8))).length * 16 ≤ 140737488355328 then if 1 ≤ l14.length then M72_L1 F k9 n (l14.drop 1) l15 (l16 ++ ([x19] : List (List UInt8))) else none else none
 else (idx l14 0).bind fun x23 => (idx l15 0).bind fun x25 => jn (fun (l28 : List (List UInt8)) (l29 : List (List UInt8)) (l30 : List (List UInt8)) => M72_L1 F k9 n l28 l29 l30) (fun k27 => if (Op.bytesLess x23 x25 || x23 == x25) = true then (idx l14 0).bind fun x32 => if (l16 ++ ([x32] : List (List UInt8))).length * 16 ≤ 140737488355328 then if 1 ≤ l14.length then k27 (l14.drop 1) l15 (l16 ++ ([x32] : List (List UInt8))) else none else none
 else (idx l15 0).bind fun x36 => if (l16 ++ ([x36] : List (List UInt8))).length * 16 ≤ 140737488355328 then if 1 ≤ l15.length then k27 l14 (l15.drop 1) (l16 ++ ([x36] : List (List UInt8))) else none else none)
 else if (decide (((l15.length : Nat) : Int) > 0)) = true then if (((l15.length : Nat) : Int) == 0) = true then (idx l14 0).bind fun x42 => if (l16 ++ ([x42] : List (List UInt8))).length * 16 ≤ 140737488355328 then if 1 ≤ l14.length then M72_L1 F k9 n (l14.drop 1) l15 (l16 ++ ([x42] : List (List UInt8))) else none else none
 else (idx l15 0).bind fun x46 => if (l16 ++ ([x46] : List (List UInt8))).length * 16 ≤ 140737488355328 then if 1 ≤ l15.length then M72_L1 F k9 n l14 (l15.drop 1) (l16 ++ ([x46] : List (List UInt8))) else none else none
 else k9 l16
def M72_B (R72 : (List (List UInt8)) → Option (List (List UInt8))) (F : Nat) (a1 : (List (List UInt8))) : Option (List (List UInt8)) :=
 if (decide (((a1.length : Nat) : Int) < 2)) = true then some a1
 else if 0 ≤ (w64 (Int.tdiv ((a1.length : Nat) : Int) 2)) ∧ (w64 (Int.tdiv ((a1.length : Nat) : Int) 2)).toNat ≤ a1.length then (R72 (a1.take (w64 (Int.tdiv ((a1.length : Nat) : Int) 2)).toNat)).bind fun y4 => if 0 ≤ (w64 (Int.tdiv ((a1.length : Nat) : Int) 2)) ∧ (w64 (Int.tdiv ((a1.length : Nat) : Int) 2)).toNat ≤ a1.length then (R72 (a1.drop (w64 (Int.tdiv ((a1.length : Nat) : Int) 2)).toNat)).bind fun y7 => jn (fun (l10 : List (List UInt8)) => some l10) (fun k9 => M72_L1 F k9 F y4 y7 ([] : List (List UInt8))) else none else none
def M72 : Nat → (List (List UInt8)) → Option (List (List UInt8))
 | 0, _ => none
 | F + 1, a1 => M72_B (M72 F) F a1
def M34_L1 (F : Nat) : List ((List UInt8) × Bool) → (List (List UInt8)) → Option (List (List UInt8))
 | [], l4 => (M72 F l4).bind fun y9 => some y9
 | e6 :: l7, l4 => if (l4 ++ ([e6.1] : List (List UInt8))).length * 16 ≤ 140737488355328 then M34_L1 F l7 (l4 ++ ([e6.1] : List (List UInt8))) else none
def M34 (F : Nat) (a1 : (List ((List UInt8) × Bool))) : Option (List (List UInt8)) :=
 M34_L1 F a1 ([] : List (List UInt8))
def M11 (F : Nat) : Option Bool := some true
def M15_L1 (F : Nat) (a2 : (List (List UInt8))) (k4 : Option Bool) : List (List UInt8) → Int → Option Bool
  | [], n6 => k4
  | x8 :: tl1, n6 => (idx a2 n6).bind fun x10 => if (!(x8 == x10)) = true then some false
 else M15_L1 F a2 k4 tl1 (n6 + 1)
def M15 (F : Nat) (a1 : (List (List UInt8))) (a2 : (List (List UInt8))) : Option Bool :=
 if (((a1.length : Nat) : Int) != ((a2.length : Nat) : Int)) = true then some false
 else jn (some true) (fun k4 => M15_L1 F a2 k4 a1 0)
def M83 (F : Nat) (a1 : List Int) : Option (List Int) := if a1.length < 4611686018427387904 then some (isort a1) else none
def M84 (F : Nat) (a1 : List Int) : Option (List Int) := if a1.length ≤ 140737488355328 then some (cpt a1) else none
def M56_L1 (F : Nat) (a1 : Treach_world) (a2 : TCall) (k4 : (List Int) → Option (List Int)) : List Int → (List Int) → Option (List Int)
 | [], l9 => k4 l9
 | x11 :: tl1, l9 => (M82 F a1 a2 x11).bind fun y13 => if (l9 ++ ([y13] : List Int)).length * 8 ≤ 140737488355328 then M56_L1 F a1 a2 k4 tl1 (l9 ++ ([y13] : List Int)) else none
def M56 (F : Nat) (a1 : Treach_world) (a2 : TCall) : Option (List Int) :=
 if (a2.Kind == 1) = true then some ([((mget a1.funcs a2.Target).getD 0)] : List Int)
 else jn (fun (l5 : List Int) => (M83 F l5).bind fun y17 => if y17.length = l5.length then (M84 F y17).bind fun y20 => some y20 else none) (fun k4 => M56_L1 F a1 a2 k4 ((mget a1.fitting a2.Target).getD ([] : (List Int))) ([] : List Int))
def M119 (F : Nat) (a1 : TIface) (a2 : List UInt8) (a3 : List UInt8) : Option Bool :=
 if (a1.Name == a2) = true then (M16 F a1.Methods a3).bind fun y5 => some y5
 else some false
def M47_1_L1 (F : Nat) (a2 : List UInt8) (a3 : List UInt8) (k4 : Option Int) : List TIface → Int → Option Int
  | [], n6 => k4
  | x8 :: tl1, n6 => (M119 F x8 a2 a3).bind fun y10 => if y10 = true then some n6
 else M47_1_L1 F a2 a3 k4 tl1 (n6 + 1)
def M47_1 (F : Nat) (a1 : (List TIface)) (a2 : List UInt8) (a3 : List UInt8) : Option Int :=
 jn (some (-1)) (fun k4 => M47_1_L1 F a2 a3 k4 a1 0)
def M118 (F : Nat) (a1 : (List TIface)) (a2 : List UInt8) (a3 : List UInt8) : Option Bool :=
 (M47_1 F a1 a2 a3).bind fun y4 => some (decide (y4 ≥ 0))
def M90 (F : Nat) (a1 : Treach_world) (a2 : (List UInt8)) (a3 : (List UInt8)) : Option Bool :=
 (M118 F a1.g.Ifaces a2 a3).bind fun y4 => some y4
def M61_L2 (F : Nat) (a1 : Treach_world) (k13 : Option Int) : List TOuter → Option Int
  | [] => k13
  | x24 :: tl2 => jn (fun (s18 : List UInt8) (b19 : Bool) (b20 : Bool) (b21 : Bool) (s22 : List UInt8) (s23 : List UInt8) => M61_L2 F a1 k13 tl2 ) (fun k17 => if (x24.Method == ([] : List UInt8)) = true then if (!((mget a1.funcs x24.Target).isSome)) = true then some 4
 else if (!(x24.Method == ([] : List UInt8))) = true then (M90 F a1 x24.Target x24.Method).bind fun y29 => if (!y29) = true then some 4
 else k17 x24.Method (!(x24.Method == ([] : List UInt8))) true (!y29) x24.Target x24.Method
 else k17 x24.Method (!(x24.Method == ([] : List UInt8))) false false x24.Target x24.Method
 else if (!(x24.Method == ([] : List UInt8))) = true then (M90 F a1 x24.Target x24.Method).bind fun y33 => if (!y33) = true then some 4
 else k17 x24.Method (!(x24.Method == ([] : List UInt8))) true (!y33) x24.Target x24.Method
 else k17 x24.Method (!(x24.Method == ([] : List UInt8))) false false x24.Target x24.Method)
def M61_L1 (F : Nat) (a1 : Treach_world) (k5 : Option Int) : List (List UInt8) → Option Int
  | [] => k5
  | x9 :: tl1 => if (!((mget a1.funcs x9).isSome)) = true then some 4
 else M61_L1 F a1 k5 tl1
def M61 (F : Nat) (a1 : Treach_world) (a2 : TSummary) (a3 : (List ((List UInt8) × TSummary))) : Option Int :=
 if (([a2.Func] : List (List UInt8)) ++ a2.Within).length * 16 ≤ 140737488355328 then jn (jn (if ((mget a3 a2.Func).isSome) = true then some 5
 else some 0) (fun k13 => M61_L2 F a1 k13 a2.Outer)) (fun k5 => M61_L1 F a1 k5 (([a2.Func] : List (List UInt8)) ++ a2.Within)) else none
def M62_L1 (F : Nat) (a1 : Treach_world) (k9 : (List Int) → Option (List Int)) : List TCall → (List Int) → Option (List Int)
  | [], l14 => k9 l14
  | x16 :: tl1, l14 => jn (fun (l19 : List Int) => M62_L1 F a1 k9 tl1 l19) (fun k18 => if ((mget a1.on x16.Feature).getD false) = true then (M56 F a1 x16).bind fun y21 => if (l14 ++ y21).length * 8 ≤ 140737488355328 then k18 (l14 ++ y21) else none
 else k18 l14)
def M62_L3 (F : Nat) (a1 : Treach_world) (k36 : (List Int) → Option (List Int)) : List TOuter → (List Int) → Option (List Int)
  | [], l41 => k36 l41
  | x43 :: tl3, l41 => jn (fun (n46 : Int) => (M56 F a1 (TCall.mk n46 x43.Target x43.Method ([] : List UInt8))).bind fun y48 => if (l41 ++ y48).length * 8 ≤ 140737488355328 then M62_L3 F a1 k36 tl3 (l41 ++ y48) else none) (fun k45 => if (!(x43.Method == ([] : List UInt8))) = true then k45 2
 else k45 1)
def M62_L2 (F : Nat) (a1 : Treach_world) (k25 : (List Int) → Option (List Int)) : List (List UInt8) → (List Int) → Option (List Int)
 | [], l30 => k25 l30
 | x32 :: tl2, l30 => if (l30 ++ ([((mget a1.funcs x32).getD 0)] : List Int)).length * 8 ≤ 140737488355328 then M62_L2 F a1 k25 tl2 (l30 ++ ([((mget a1.funcs x32).getD 0)] : List Int)) else none
def M62 (F : Nat) (a1 : Treach_world) (a2 : Int) (a3 : (List ((List UInt8) × TSummary))) : Option (List Int) :=
 (idx a1.g.Funcs a2).bind fun x4 => if (!((mget a3 x4.Name).isSome)) = true then (idx a1.g.Funcs a2).bind fun x7 => jn (fun (l10 : List Int) => some l10) (fun k9 => M62_L1 F a1 k9 x7.Calls ([] : List Int))
 else jn (fun (l26 : List Int) => jn (fun (l37 : List Int) => some l37) (fun k36 => M62_L3 F a1 k36 (((mget a3 x4.Name).getD (TSummary.mk ([] : List UInt8) ([] : (List (List UInt8))) ([] : (List TOuter)))).Outer) l26)) (fun k25 => M62_L2 F a1 k25 (((mget a3 x4.Name).getD (TSummary.mk ([] : List UInt8) ([] : (List (List UInt8))) ([] : (List TOuter)))).Within) ([] : List Int))
def M29_L5 (F : Nat) (a1 : TGraph) (k73 : (List (List UInt8)) → Option ((List (List UInt8)) × Int)) : List Bool → Int → (List (List UInt8)) → Option ((List (List UInt8)) × Int)
  | [], n77, l78 => k73 l78
  | x80 :: tl5, n77, l78 => jn (fun (l83 : List (List UInt8)) => M29_L5 F a1 k73 tl5 (n77 + 1) l83) (fun k82 => if x80 = true then (idx a1.Funcs n77).bind fun x85 => if (l78 ++ ([x85.Name] : List (List UInt8))).length * 16 ≤ 140737488355328 then k82 (l78 ++ ([x85.Name] : List (List UInt8))) else none
 else k82 l78)
def M29_L4 (F : Nat) (l8 : List TIface) (l9 : List TType) (l10 : List TFunc) (l11 : List (List UInt8)) (m12 : List ((List UInt8) × Int)) (m13 : List ((List UInt8) × Int)) (m14 : List ((List UInt8) × (List Int))) (m15 : List ((List UInt8) × Bool)) (b16 : Bool) (m17 : List ((List UInt8) × TSummary)) (k55 : (List Bool) → Option ((List (List UInt8)) × Int)) : Nat → (List Bool) → (List Int) → Option ((List (List UInt8)) × Int)
 | 0, _, _ => none
 | n + 1, l59, l60 => if (decide (((l60.length : Nat) : Int) > 0)) = true then (idx l60 0).bind fun x62 => if 1 ≤ l60.length then (idx l59 x62).bind fun x65 => if x65 = true then M29_L4 F l8 l9 l10 l11 m12 m13 m14 m15 b16 m17 k55 n l59 (l60.drop 1)
 else (idx l59 x62).bind fun x68 => (M62 F (Treach_world.mk (TGraph.mk l8 l9 l10 l11) m12 m13 m14 m15 b16) x62 m17).bind fun y70 => if ((l60.drop 1) ++ y70).length * 8 ≤ 140737488355328 then M29_L4 F l8 l9 l10 l11 m12 m13 m14 m15 b16 m17 k55 n (l59.set x62.toNat true) ((l60.drop 1) ++ y70) else none else none
 else k55 l59
def M29_L3 (F : Nat) (m12 : List ((List UInt8) × Int)) (k44 : (List Int) → Option ((List (List UInt8)) × Int)) : List (List UInt8) → (List Int) → Option ((List (List UInt8)) × Int)
 | [], l49 => k44 l49
 | x51 :: tl3, l49 => if (l49 ++ ([((mget m12 x51).getD 0)] : List Int)).length * 8 ≤ 140737488355328 then M29_L3 F m12 k44 tl3 (l49 ++ ([((mget m12 x51).getD 0)] : List Int)) else none
def M29_L2 (F : Nat) (x18 : Treach_world) (k29 : (List ((List UInt8) × TSummary)) → Option ((List (List UInt8)) × Int)) : List TSummary → (List ((List UInt8) × TSummary)) → Option ((List (List UInt8)) × Int)
  | [], m34 => k29 m34
  | x36 :: tl2, m34 => (M61 F x18 x36 m34).bind fun y38 => if (y38 != 0) = true then some (([] : List (List UInt8)), y38)
 else M29_L2 F x18 k29 tl2 (mput m34 x36.Func x36)
def M29_L1 (F : Nat) (x18 : Treach_world) (k7 : (List TIface) → (List TType) → (List TFunc) → (List (List UInt8)) → (List ((List UInt8) × Int)) → (List ((List UInt8) × Int)) → (List ((List UInt8) × (List Int))) → (List ((List UInt8) × Bool)) → Bool → (List ((List UInt8) × TSummary)) → Option ((List (List UInt8)) × Int)) : List (List TSummary) → (List ((List UInt8) × TSummary)) → Option ((List (List UInt8)) × Int)
 | [], m23 => k7 x18.g.Ifaces x18.g.Types x18.g.Funcs x18.g.Entries x18.funcs x18.types x18.fitting x18.on x18.made m23
 | x27 :: tl1, m23 => jn (fun (m26 : List ((List UInt8) × TSummary)) => M29_L1 F x18 k7 tl1 m26) (fun k25 => jn (fun (m30 : List ((List UInt8) × TSummary)) => k25 m30) (fun k29 => M29_L2 F x18 k29 x27 m23))
def M29 (F : Nat) (a1 : TGraph) (a2 : (List (List UInt8))) (a3 : (List (List TSummary))) : Option ((List (List UInt8)) × Int) :=
 (M31 F a1 1 a2).bind fun y4 => if ((y4.2) != 0) = true then some (([] : List (List UInt8)), (y4.2))
 else jn (fun (l8 : List TIface) (l9 : List TType) (l10 : List TFunc) (l11 : List (List UInt8)) (m12 : List ((List UInt8) × Int)) (m13 : List ((List UInt8) × Int)) (m14 : List ((List UInt8) × (List Int))) (m15 : List ((List UInt8) × Bool)) (b16 : Bool) (m17 : List ((List UInt8) × TSummary)) => if 0 ≤ ((a1.Funcs.length : Nat) : Int) ∧ ((1 : Nat) : Int) * ((a1.Funcs.length : Nat) : Int) ≤ 140737488355328 ∧ ((a1.Funcs.length : Nat) : Int) ≤ 140737488355328 then jn (fun (l45 : List Int) => jn (fun (l56 : List Bool) => jn (fun (l74 : List (List UInt8)) => some (l74, 0)) (fun k73 => M29_L5 F a1 k73 l56 0 ([] : List (List UInt8)))) (fun k55 => M29_L4 F l8 l9 l10 l11 m12 m13 m14 m15 b16 m17 k55 F (List.replicate (((a1.Funcs.length : Nat) : Int)).toNat (false : Bool)) l45)) (fun k44 => M29_L3 F m12 k44 a1.Entries ([] : List Int)) else none) (fun k7 => ((y4.1)).bind fun x18 => M29_L1 F x18 k7 a3 ([] : List ((List UInt8) × TSummary)))
def M64_L2 (F : Nat) (a1 : Tprovenderref6_names) (k12 : Option Int) : List TOuter → Option Int
  | [] => k12
  | x23 :: tl2 => jn (fun (s17 : List UInt8) (b18 : Bool) (b19 : Bool) (b20 : Bool) (s21 : List UInt8) (s22 : List UInt8) => M64_L2 F a1 k12 tl2 ) (fun k16 => if (x23.Method == ([] : List UInt8)) = true then if (!((mget a1.funcs x23.Target).getD false)) = true then some 4
 else if (!(x23.Method == ([] : List UInt8))) = true then if ((mget a1.ifaces x23.Target).isSome) = true then if (!((mget ((mget a1.ifaces x23.Target).getD []) x23.Method).getD false)) = true then some 4
 else k16 x23.Method (!(x23.Method == ([] : List UInt8))) true (!((mget ((mget a1.ifaces x23.Target).getD []) x23.Method).getD false)) x23.Target x23.Method
 else some 4
 else k16 x23.Method (!(x23.Method == ([] : List UInt8))) false false x23.Target x23.Method
 else if (!(x23.Method == ([] : List UInt8))) = true then if ((mget a1.ifaces x23.Target).isSome) = true then if (!((mget ((mget a1.ifaces x23.Target).getD []) x23.Method).getD false)) = true then some 4
 else k16 x23.Method (!(x23.Method == ([] : List UInt8))) true (!((mget ((mget a1.ifaces x23.Target).getD []) x23.Method).getD false)) x23.Target x23.Method
 else some 4
 else k16 x23.Method (!(x23.Method == ([] : List UInt8))) false false x23.Target x23.Method)
def M64_L1 (F : Nat) (a1 : Tprovenderref6_names) (k4 : Option Int) : List (List UInt8) → Option Int
  | [] => k4
  | x8 :: tl1 => if (!((mget a1.funcs x8).getD false)) = true then some 4
 else M64_L1 F a1 k4 tl1
def M64 (F : Nat) (a1 : Tprovenderref6_names) (a2 : TSummary) : Option Int :=
 if (!((mget a1.funcs a2.Func).getD false)) = true then some 4
 else jn (jn (some 0) (fun k12 => M64_L2 F a1 k12 a2.Outer)) (fun k4 => M64_L1 F a1 k4 a2.Within)
def M66 (F : Nat) (a1 : (List UInt8)) (a2 : List ((List UInt8) × Bool)) (a3 : List (List UInt8)) : Option ((List ((List UInt8) × Bool)) × (List (List UInt8))) :=
 if (!((mget a2 a1).getD false)) = true then if (a3 ++ ([a1] : List (List UInt8))).length * 16 ≤ 140737488355328 then some ((mput a2 a1 true), (a3 ++ ([a1] : List (List UInt8)))) else none
 else some (a2, a3)
def M30_L6 (F : Nat) (k88 : (List ((List UInt8) × Bool)) → (List (List UInt8)) → Option ((List (List UInt8)) × Int)) : List Tprovenderref6_aim → (List ((List UInt8) × Bool)) → (List (List UInt8)) → Option ((List (List UInt8)) × Int)
 | [], m95, l96 => k88 m95 l96
 | x98 :: tl6, m95, l96 => (M66 F x98.to m95 l96).bind fun y100 => M30_L6 F k88 tl6 (y100.1) (y100.2)
def M30_L5 (F : Nat) (k73 : (List ((List UInt8) × Bool)) → (List (List UInt8)) → Option ((List (List UInt8)) × Int)) : List Tprovenderref6_link → (List ((List UInt8) × Bool)) → (List (List UInt8)) → Option ((List (List UInt8)) × Int)
 | [], m80, l81 => k73 m80 l81
 | x86 :: tl5, m80, l81 => jn (fun (m84 : List ((List UInt8) × Bool)) (l85 : List (List UInt8)) => M30_L5 F k73 tl5 m84 l85) (fun k83 => jn (fun (m89 : List ((List UInt8) × Bool)) (l90 : List (List UInt8)) => k83 m89 l90) (fun k88 => M30_L6 F k88 x86.aims m80 l81))
def M30_L9 (F : Nat) (k140 : (List ((List UInt8) × Bool)) → (List (List UInt8)) → Option ((List (List UInt8)) × Int)) : List Tprovenderref6_aim → (List ((List UInt8) × Bool)) → (List (List UInt8)) → Option ((List (List UInt8)) × Int)
 | [], m147, l148 => k140 m147 l148
 | x150 :: tl9, m147, l148 => (M66 F x150.to m147 l148).bind fun y152 => M30_L9 F k140 tl9 (y152.1) (y152.2)
def M30_L8 (F : Nat) (a1 : TGraph) (k119 : (List ((List UInt8) × Bool)) → (List (List UInt8)) → Option ((List (List UInt8)) × Int)) : List TOuter → (List ((List UInt8) × Bool)) → (List (List UInt8)) → Option ((List (List UInt8)) × Int)
  | [], m126, l127 => k119 m126 l127
  | x132 :: tl8, m126, l127 => jn (fun (m130 : List ((List UInt8) × Bool)) (l131 : List (List UInt8)) => M30_L8 F a1 k119 tl8 m130 l131) (fun k129 => jn (fun (n135 : Int) (s136 : List UInt8) => (M58 F a1 (TCall.mk n135 x132.Target s136 ([] : List UInt8))).bind fun y138 => jn (fun (m141 : List ((List UInt8) × Bool)) (l142 : List (List UInt8)) => k129 m141 l142) (fun k140 => M30_L9 F k140 y138 m126 l127)) (fun k134 => if (!(x132.Method == ([] : List UInt8))) = true then k134 2 x132.Method
 else k134 1 ([] : List UInt8)))
def M30_L7 (F : Nat) (k104 : (List ((List UInt8) × Bool)) → (List (List UInt8)) → Option ((List (List UInt8)) × Int)) : List (List UInt8) → (List ((List UInt8) × Bool)) → (List (List UInt8)) → Option ((List (List UInt8)) × Int)
 | [], m111, l112 => k104 m111 l112
 | x114 :: tl7, m111, l112 => (M66 F x114 m111 l112).bind fun y116 => M30_L7 F k104 tl7 (y116.1) (y116.2)
def M30_L4 (F : Nat) (a1 : TGraph) (m11 : List ((List UInt8) × TSummary)) (y38 : Tprovenderref6_net) (k55 : (List ((List UInt8) × Bool)) → (List (List UInt8)) → Option ((List (List UInt8)) × Int)) : Nat → Int → (List ((List UInt8) × Bool)) → (List (List UInt8)) → Option ((List (List UInt8)) × Int)
 | 0, _, _, _ => none
 | n + 1, n61, m62, l63 => if (decide (n61 < ((l63.length : Nat) : Int))) = true then jn (fun (m66 : List ((List UInt8) × Bool)) (l67 : List (List UInt8)) => M30_L4 F a1 m11 y38 k55 n (w64 (n61 + 1)) m66 l67) (fun k65 => (idx l63 n61).bind fun x68 => if (!((mget m11 x68).isSome)) = true then (idx l63 n61).bind fun x71 => jn (fun (m74 : List ((List UInt8) × Bool)) (l75 : List (List UInt8)) => k65 m74 l75) (fun k73 => M30_L5 F k73 ((mget y38.links x71).getD ([] : (List Tprovenderref6_link))) m62 l63)
 else jn (fun (m105 : List ((List UInt8) × Bool)) (l106 : List (List UInt8)) => jn (fun (m120 : List ((List UInt8) × Bool)) (l121 : List (List UInt8)) => k65 m120 l121) (fun k119 => M30_L8 F a1 k119 (((mget m11 x68).getD (TSummary.mk ([] : List UInt8) ([] : (List (List UInt8))) ([] : (List TOuter)))).Outer) m105 l106)) (fun k104 => M30_L7 F k104 (((mget m11 x68).getD (TSummary.mk ([] : List UInt8) ([] : (List (List UInt8))) ([] : (List TOuter)))).Within) m62 l63))
 else k55 m62 l63
def M30_L3 (F : Nat) (k40 : (List ((List UInt8) × Bool)) → (List (List UInt8)) → Option ((List (List UInt8)) × Int)) : List (List UInt8) → (List ((List UInt8) × Bool)) → (List (List UInt8)) → Option ((List (List UInt8)) × Int)
 | [], m47, l48 => k40 m47 l48
 | x50 :: tl3, m47, l48 => (M66 F x50 m47 l48).bind fun y52 => M30_L3 F k40 tl3 (y52.1) (y52.2)
def M30_L2 (F : Nat) (a1 : TGraph) (k21 : (List ((List UInt8) × TSummary)) → Option ((List (List UInt8)) × Int)) : List TSummary → (List ((List UInt8) × TSummary)) → Option ((List (List UInt8)) × Int)
  | [], m26 => k21 m26
  | x28 :: tl2, m26 => (M65 F a1).bind fun y30 => (M64 F y30 x28).bind fun y32 => if (y32 != 0) = true then some (([] : List (List UInt8)), y32)
 else if ((mget m26 x28.Func).isSome) = true then some (([] : List (List UInt8)), 5)
 else M30_L2 F a1 k21 tl2 (mput m26 x28.Func x28)
def M30_L1 (F : Nat) (a1 : TGraph) (k10 : (List ((List UInt8) × TSummary)) → Option ((List (List UInt8)) × Int)) : List (List TSummary) → (List ((List UInt8) × TSummary)) → Option ((List (List UInt8)) × Int)
 | [], m15 => k10 m15
 | x19 :: tl1, m15 => jn (fun (m18 : List ((List UInt8) × TSummary)) => M30_L1 F a1 k10 tl1 m18) (fun k17 => jn (fun (m22 : List ((List UInt8) × TSummary)) => k17 m22) (fun k21 => M30_L2 F a1 k21 x19 m15))
def M30 (F : Nat) (a1 : TGraph) (a2 : (List (List UInt8))) (a3 : (List (List TSummary))) : Option ((List (List UInt8)) × Int) :=
 (M50 F a1).bind fun y4 => if (y4 != 0) = true then some (([] : List (List UInt8)), y4)
 else (M63 F a2).bind fun y7 => if (y7 != 0) = true then some (([] : List (List UInt8)), y7)
 else jn (fun (m11 : List ((List UInt8) × TSummary)) => (M35 F a1 a2).bind fun y38 => jn (fun (m41 : List ((List UInt8) × Bool)) (l42 : List (List UInt8)) => jn (fun (m56 : List ((List UInt8) × Bool)) (l57 : List (List UInt8)) => (M34 F m56).bind fun y156 => some (y156, 0)) (fun k55 => M30_L4 F a1 m11 y38 k55 F 0 m41 l42)) (fun k40 => M30_L3 F k40 a1.Entries ([] : List ((List UInt8) × Bool)) ([] : List (List UInt8)))) (fun k10 => M30_L1 F a1 k10 a3 ([] : List ((List UInt8) × TSummary)))
def M8 (F : Nat) (a1 : TGraph) (a2 : (List (List UInt8))) (a3 : (List (List TSummary))) : Option Bool :=
 (M29 F a1 a2 a3).bind fun y4 => (M30 F a1 a2 a3).bind fun y6 => if ((y4.2) == (y6.2)) = true then (M15 F (y4.1) (y6.1)).bind fun y9 => if y9 = true then (M11 F).bind fun y12 => some y12
 else some false
 else some false
end
end Go.Proofs.Ytpbkggamiipdmaa
namespace Go.Pv
open Go
theorem w64_id {n : Int} (h : -9223372036854775808 ≤ n) (h' : n ≤ 9223372036854775807) : w64 n = n := by
 have : w64 n = if n % 18446744073709551616 ≥ 9223372036854775808 then n % 18446744073709551616 - 18446744073709551616 else n % 18446744073709551616 := by
  simp [w64, IntKind.wrap, IntKind.signed, IntKind.bits]
 rw [this]
 split <;> omega
theorem jn_def {α β : Type} (k : α) (b : α → β) : jn k b = b k := rfl
theorem idx_nat {α : Type} {xs : List α} {j : Nat} (h : j < xs.length) : idx xs (j : Int) = some xs[j] := by
 simp [idx, h]
theorem if_t {α : Type} {p : Prop} [Decidable p] {x y : α} (h : p) : (if decide p = true then x else y) = x := by simp [h]
theorem if_f {α : Type} {p : Prop} [Decidable p] {x y : α} (h : ¬ p) : (if decide p = true then x else y) = y := by simp [h]
theorem mid_nat {a b : Nat} (h : a + b < 4611686018427387904) : w64 (Int.fdiv (IntKind.wrap .u64 (w64 ((a : Int) + (b : Int)))) (2 ^ (min (Int.toNat 1) (IntKind.bits .u64)))) = (((a + b) / 2 : Nat) : Int) := by
 rw [w64_id (n := (a : Int) + b) (by omega) (by omega)]
 have : IntKind.wrap .u64 ((a : Int) + b) = ((a + b : Nat) : Int) := by
  simp only [IntKind.wrap, IntKind.signed, IntKind.bits, Bool.false_and]
  simp
  omega
 rw [this]
 have e : (2 : Int) ^ (min (Int.toNat 1) (IntKind.bits .u64)) = 2 := by decide
 rw [e, Int.fdiv_eq_ediv_of_nonneg _ (by omega)]
 rw [w64_id (by omega) (by omega)]
 omega
theorem mget_mput {α β : Type} [DecidableEq α] (xs : List (α × β)) (k k' : α) (v : β) : mget (mput xs k v) k' = if k = k' then some v else mget xs k' := by
 induction xs with
 | nil => simp [mput, mget]
 | cons p r ih =>
  simp only [mput]
  split
  ·rename_i h
   simp only [mget, h]
   split <;> simp_all
  ·rename_i h
   simp only [mget]
   by_cases h2 : p.1 = k'
   ·rw [if_pos h2, if_pos h2, if_neg (fun e => h (h2.trans e.symm))]
   ·rw [if_neg h2, if_neg h2]; exact ih
theorem bl_cons (x : UInt8) (a : List UInt8) (y : UInt8) (b : List UInt8) : Op.bytesLess (x :: a) (y :: b) = (decide (x < y) || (x == y && Op.bytesLess a b)) := by
 rw [Op.bytesLess]
theorem bl_irrefl : ∀ a : List UInt8, Op.bytesLess a a = false
 | [] => by simp [Op.bytesLess]
 | x :: a => by rw [bl_cons, bl_irrefl a]; simp
theorem bl_trans : ∀ {a b c : List UInt8}, Op.bytesLess a b = true → Op.bytesLess b c = true → Op.bytesLess a c = true
 | [], [], _, h, _ => by simp [Op.bytesLess] at h
 | [], y :: b, [], _, h => by simp [Op.bytesLess] at h
 | [], y :: b, z :: c, _, _ => by simp [Op.bytesLess]
 | x :: a, [], _, h, _ => by simp [Op.bytesLess] at h
 | x :: a, y :: b, [], _, h => by simp [Op.bytesLess] at h
 | x :: a, y :: b, z :: c, h, g => by
  rw [bl_cons] at *
  simp only [Bool.or_eq_true, decide_eq_true_eq, Bool.and_eq_true, beq_iff_eq, UInt8.lt_iff_toNat_lt] at *
  rcases h with h | ⟨rfl, h⟩ <;> rcases g with g | ⟨rfl, g⟩
  ·exact .inl (by omega)
  ·exact .inl h
  ·exact .inl g
  ·exact .inr ⟨rfl, bl_trans h g⟩
theorem bl_tri : ∀ a b : List UInt8, Op.bytesLess a b = true ∨ a = b ∨ Op.bytesLess b a = true
 | [], [] => by simp
 | [], y :: b => by simp [Op.bytesLess]
 | x :: a, [] => by simp [Op.bytesLess]
 | x :: a, y :: b => by
  rw [bl_cons, bl_cons]
  simp only [Bool.or_eq_true, decide_eq_true_eq, Bool.and_eq_true, beq_iff_eq, UInt8.lt_iff_toNat_lt, List.cons.injEq]
  rcases Nat.lt_trichotomy x.toNat y.toNat with h | h | h
  ·exact .inl (.inl h)
  ·have := UInt8.toNat_inj.1 h
   subst this
   rcases bl_tri a b with h | h | h
   ·exact .inl (.inr ⟨rfl, h⟩)
   ·exact .inr (.inl ⟨rfl, h⟩)
   ·exact .inr (.inr (.inr ⟨rfl, h⟩))
  ·exact .inr (.inr (.inl h))
theorem bl_asymm {a b : List UInt8} (h : Op.bytesLess a b = true) : Op.bytesLess b a = false := by
 cases h' : Op.bytesLess b a with
 | false => rfl
 | true => have := bl_trans h h'; rw [bl_irrefl] at this; simp at this
theorem bl_ne {a b : List UInt8} (h : Op.bytesLess a b = true) : a ≠ b := by rintro rfl; rw [bl_irrefl] at h; simp at h
theorem bl_gt (a b : List UInt8) : (!(Op.bytesLess a b || a == b)) = Op.bytesLess b a := by
 rcases bl_tri a b with h | h | h
 ·rw [h, bl_asymm h]; simp
 ·subst h; simp [bl_irrefl]
 ·rw [h, bl_asymm h]; simp; exact fun e => bl_ne h e.symm
theorem idxL {α : Type} {g : List α → Int → Option Int} {k : Option Int} (p : α → Bool) (h0 : ∀ n, g [] n = k) (h1 : ∀ x l n, g (x :: l) n = if p x = true then some n else g l (n + 1)) :
  ∀ l (n : Nat), g l n = if l.any p = true then some ((n + l.findIdx p : Nat) : Int) else k
 | [], n => by simp [h0]
 | x :: l, n => by
  have e : ((n : Int) + 1) = ((n + 1 : Nat) : Int) := rfl
  rw [h1, e, idxL p h0 h1 l (n + 1)]
  cases h : p x
  ·have e2 : n + 1 + l.findIdx p = n + (l.findIdx p + 1) := by omega
   simp only [List.any_cons, h, Bool.false_or, List.findIdx_cons, cond_false, e2, Bool.false_eq_true, if_false]
  ·simp [List.findIdx_cons, h]
theorem bytesL {β : Type} {g : Nat → Int → Option β} {k : Option β} {f : β} (s : List UInt8) (p : UInt8 → Bool) (h0 : ∀ n, g 0 n = k)
  (h1 : ∀ m n, g (m + 1) n = (idx s n).bind fun c => if p c = true then g m (n + 1) else some f) :
  ∀ (m n : Nat), n + m = s.length → g m n = if (s.drop n).all p = true then k else some f
 | 0, n, h => by rw [h0, List.drop_eq_nil_of_le (by omega)]; simp
 | m + 1, n, h => by
  have hn : n < s.length := by omega
  have e : ((n : Int) + 1) = ((n + 1 : Nat) : Int) := rfl
  rw [h1, idx_nat hn, Option.bind_some, e, bytesL s p h0 h1 m (n + 1) (by omega), List.drop_eq_getElem_cons hn, List.all_cons]
  cases h : p s[n]
  ·simp only [Bool.false_and, Bool.false_eq_true, if_false]
  ·simp only [Bool.true_and, if_true]
theorem ite2 {α : Type} {p q : Prop} [Decidable p] [Decidable q] {x y : Option α} {a b : α} (h : p ↔ q) (h1 : q → x = some a) (h2 : ¬ q → y = some b) : (if p then x else y) = some (if q then a else b) := by
 by_cases hq : q
 ·rw [if_pos (h.2 hq), if_pos hq, h1 hq]
 ·rw [if_neg (fun hp => hq (h.1 hp)), if_neg hq, h2 hq]
theorem ne0 {n : Int} : (n != 0) = true ↔ n ≠ 0 := by simp
set_option linter.unusedVariables false
set_option linter.unusedSimpArgs false
theorem leT_total (a b : List UInt8) : (leT a b || leT b a) = true := by
 unfold leT
 rcases bl_tri a b with h | h | h
 ·simp [bl_asymm h]
 ·subst h; simp [bl_irrefl]
 ·simp [bl_asymm h]
theorem leT_anti {a b : List UInt8} (h : leT a b = true) (h' : leT b a = true) : a = b := by
 unfold leT at h h'
 rcases bl_tri a b with g | g | g
 ·simp [g] at h'
 ·exact g
 ·simp [g] at h
theorem leT_trans (a b c : List UInt8) (h : leT a b = true) (h' : leT b c = true) : leT a c = true := by
 unfold leT at *
 rcases bl_tri a b with g | g | g
 ·rcases bl_tri b c with k | k | k
  ·simp [bl_asymm (bl_trans g k)]
  ·subst k; simp [bl_asymm g]
  ·simp [k] at h'
 ·subst g; exact h'
 ·simp [g] at h
theorem lt_of_leT {a b : List UInt8} (h : leT a b = true) (hne : a ≠ b) : Op.bytesLess a b = true := by
 rcases bl_tri a b with g | g | g
 ·exact g
 ·exact absurd g hne
 ·simp [leT, g] at h
theorem nodup_lt {l : List (List UInt8)} (h : l.Pairwise (fun a b => Op.bytesLess a b = true)) : l.Nodup := h.imp bl_ne
theorem lt_of_sorted {l : List (List UInt8)} (h : l.Pairwise (fun a b => leT a b = true)) (hn : l.Nodup) : l.Pairwise (fun a b => Op.bytesLess a b = true) := by
 induction l with
 | nil => exact .nil
 | cons x l ih =>
  rw [List.pairwise_cons] at h ⊢
  rw [List.nodup_cons] at hn
  exact ⟨fun y hy => lt_of_leT (h.1 y hy) (fun e => hn.1 (by rw [e]; exact hy)), ih h.2 hn.2⟩
theorem rise_ext {l l' : List (List UInt8)} (h : l.Pairwise (fun a b => Op.bytesLess a b = true)) (h' : l'.Pairwise (fun a b => Op.bytesLess a b = true)) (hm : ∀ x, x ∈ l ↔ x ∈ l') : l = l' :=
 List.Perm.eq_of_pairwise (le := fun a b => Op.bytesLess a b = true) (fun _ _ _ _ g g' => by rw [bl_asymm g] at g'; simp at g') h h' ((List.perm_ext_iff_of_nodup (nodup_lt h) (nodup_lt h')).2 hm)
def srtT (l : List (List UInt8)) : List (List UInt8) := l.mergeSort leT
theorem srtT_perm (l : List (List UInt8)) : (srtT l).Perm l := List.mergeSort_perm _ _
theorem srtT_srt (l : List (List UInt8)) : (srtT l).Pairwise (fun a b => leT a b = true) := List.pairwise_mergeSort leT_trans leT_total l
theorem srt_uniq {l l' : List (List UInt8)} (h : l.Pairwise (fun a b => leT a b = true)) (h' : l'.Pairwise (fun a b => leT a b = true)) (hp : l.Perm l') : l = l' :=
 List.Perm.eq_of_pairwise (le := fun a b => leT a b = true) (fun a b _ _ g g' => leT_anti g g') h h' hp
theorem srtT_congr {l l' : List (List UInt8)} (h : l.Perm l') : srtT l = srtT l' := srt_uniq (srtT_srt l) (srtT_srt l') ((srtT_perm l).trans (h.trans (srtT_perm l').symm))
theorem merge_srtT (a b : List (List UInt8)) : List.merge (srtT a) (srtT b) leT = srtT (a ++ b) :=
 srt_uniq (List.pairwise_merge leT_trans leT_total _ _ (srtT_srt a) (srtT_srt b)) (srtT_srt _) ((List.merge_perm_append _).trans (((srtT_perm a).append (srtT_perm b)).trans (srtT_perm _).symm))
end Go.Pv
namespace Go.Proofs.Ytpbkggamiipdmaa
open Go Go.Pv
set_option linter.unusedVariables false
def linksN (n : Tprovenderref6_net) (x : List UInt8) : List Tprovenderref6_link := (mget n.links x).getD []
def funcN (n : Tprovenderref6_net) (x : List UInt8) : TFunc := (mget n.funcs x).getD (TFunc.mk [] [] [] [])
theorem leB (a b : List UInt8) : (Op.bytesLess a b || a == b) = leT a b := by
 have := bl_gt a b
 unfold leT
 rw [← this, Bool.not_not]
theorem M72_L1_eq (F : Nat) (k : List (List UInt8) → Option (List (List UInt8))) : ∀ (n : Nat) (a b o : List (List UInt8)),
  M72_L1 F k n a b o = if a.length + b.length < n ∧ (a.length + b.length = 0 ∨ (o.length + a.length + b.length) * 16 ≤ 140737488355328) then k (o ++ List.merge a b leT) else none
 | 0, a, b, o => by simp [M72_L1]
 | n + 1, [], [], o => by simp [M72_L1]
 | n + 1, [], y :: b, o => by
  rw [M72_L1]
  have e : idx (y :: b) 0 = some y := idx_nat (xs := y :: b) (j := 0) (by simp)
  rw [if_neg (by simp), if_pos (by simp), if_neg (by simp; omega), e, Option.bind_some]
  by_cases h : (o ++ [y]).length * 16 ≤ 140737488355328
  ·rw [if_pos h, if_pos (by simp), M72_L1_eq F k n]
   simp only [List.length_append, List.length_cons, List.length_nil, List.drop_one, List.tail_cons] at h ⊢
   by_cases h2 : 0 + b.length < n ∧ (0 + b.length = 0 ∨ (o.length + (0 + 1) + 0 + b.length) * 16 ≤ 140737488355328)
   ·rw [if_pos h2, if_pos (by omega)]; simp
   ·rw [if_neg h2, if_neg (by omega)]
  ·rw [if_neg h, if_neg (by simp at h ⊢; omega)]
 | n + 1, x :: a, [], o => by
  rw [M72_L1]
  have e : idx (x :: a) 0 = some x := idx_nat (xs := x :: a) (j := 0) (by simp)
  rw [if_pos (by simp), if_pos (by simp), e, Option.bind_some]
  by_cases h : (o ++ [x]).length * 16 ≤ 140737488355328
  ·rw [if_pos h, if_pos (by simp), M72_L1_eq F k n]
   simp only [List.length_append, List.length_cons, List.length_nil, List.drop_one, List.tail_cons] at h ⊢
   by_cases h2 : a.length + 0 < n ∧ (a.length + 0 = 0 ∨ (o.length + (0 + 1) + a.length + 0) * 16 ≤ 140737488355328)
   ·rw [if_pos h2, if_pos (by omega)]; simp [List.merge_right]
   ·rw [if_neg h2, if_neg (by omega)]
  ·rw [if_neg h, if_neg (by simp at h ⊢; omega)]
 | n + 1, x :: a, y :: b, o => by
  rw [M72_L1]
  have e : idx (x :: a) 0 = some x := idx_nat (xs := x :: a) (j := 0) (by simp)
  have e' : idx (y :: b) 0 = some y := idx_nat (xs := y :: b) (j := 0) (by simp)
  rw [if_pos (by simp), if_neg (by simp; omega), e, Option.bind_some, e', Option.bind_some, jn_def, leB, Option.bind_some, Option.bind_some]
  by_cases hxy : leT x y = true
  ·rw [if_pos hxy]
   by_cases h : (o ++ [x]).length * 16 ≤ 140737488355328
   ·rw [if_pos h, if_pos (by simp), show (fun l28 l29 l30 => M72_L1 F k n l28 l29 l30) = M72_L1 F k n from rfl, M72_L1_eq F k n, List.cons_merge_cons_pos _ _ _ hxy]
    simp only [List.length_append, List.length_cons, List.length_nil, List.drop_one, List.tail_cons] at h ⊢
    by_cases h2 : a.length + (b.length + 1) < n ∧ (a.length + (b.length + 1) = 0 ∨ (o.length + (0 + 1) + a.length + (b.length + 1)) * 16 ≤ 140737488355328)
    ·rw [if_pos h2, if_pos (by omega)]; simp
    ·rw [if_neg h2, if_neg (by omega)]
   ·rw [if_neg h, if_neg (by simp at h ⊢; omega)]
  ·rw [if_neg hxy]
   by_cases h : (o ++ [y]).length * 16 ≤ 140737488355328
   ·rw [if_pos h, if_pos (by simp), show (fun l28 l29 l30 => M72_L1 F k n l28 l29 l30) = M72_L1 F k n from rfl, M72_L1_eq F k n, List.cons_merge_cons_neg _ _ _ hxy]
    simp only [List.length_append, List.length_cons, List.length_nil, List.drop_one, List.tail_cons] at h ⊢
    by_cases h2 : (a.length + 1) + b.length < n ∧ ((a.length + 1) + b.length = 0 ∨ (o.length + (0 + 1) + (a.length + 1) + b.length) * 16 ≤ 140737488355328)
    ·rw [if_pos h2, if_pos (by omega)]; simp
    ·rw [if_neg h2, if_neg (by omega)]
   ·rw [if_neg h, if_neg (by simp at h ⊢; omega)]
def hlf (n : Nat) : Int := w64 (Int.tdiv ((n : Nat) : Int) 2)
def okN : Nat → Nat → Bool
 | 0, _ => false
 | F + 1, n => decide (n < 2) || (decide (0 ≤ hlf n ∧ (hlf n).toNat ≤ n) && (okN F (hlf n).toNat && (okN F (n - (hlf n).toNat) && decide (n < F ∧ n * 16 ≤ 140737488355328))))
theorem srtT_short {l : List (List UInt8)} (h : l.length < 2) : srtT l = l := by
 match l, h with
 | [], _ => simp [srtT]
 | [x], _ => simp [srtT]
theorem M72_eq : ∀ (F : Nat) (l : List (List UInt8)), M72 F l = if okN F l.length = true then some (srtT l) else none
 | 0, l => by simp [M72, okN]
 | F + 1, l => by
  have hh : w64 (Int.tdiv ((l.length : Nat) : Int) 2) = hlf l.length := rfl
  rw [M72, M72_B, okN]
  simp only [hh]
  by_cases h : l.length < 2
  ·rw [if_pos (by simp; omega), if_pos (by simp [h]), srtT_short h]
  ·rw [if_neg (by simp; omega)]
   have hd : decide (l.length < 2) = false := by simp; omega
   rw [hd, Bool.false_or]
   by_cases h2 : 0 ≤ hlf l.length ∧ (hlf l.length).toNat ≤ l.length
   ·rw [if_pos h2, M72_eq F]
    have e1 : (l.take (hlf l.length).toNat).length = (hlf l.length).toNat := by rw [List.length_take]; exact Nat.min_eq_left h2.2
    have e2 : (l.drop (hlf l.length).toNat).length = l.length - (hlf l.length).toNat := by rw [List.length_drop]
    rw [e1]
    simp only [decide_eq_true h2, Bool.true_and]
    by_cases h3 : okN F (hlf l.length).toNat = true
    ·rw [if_pos h3, Option.bind_some, if_pos h2, M72_eq F, e2, h3, Bool.true_and]
     by_cases h4 : okN F (l.length - (hlf l.length).toNat) = true
     ·rw [if_pos h4, Option.bind_some, jn_def, M72_L1_eq, h4, Bool.true_and]
      have e3 : (srtT (l.take (hlf l.length).toNat)).length + (srtT (l.drop (hlf l.length).toNat)).length = l.length := by
       rw [(srtT_perm _).length_eq, (srtT_perm _).length_eq, e1, e2]; omega
      by_cases h5 : l.length < F ∧ l.length * 16 ≤ 140737488355328
      ·rw [if_pos ⟨by omega, .inr (by simp; omega)⟩, if_pos (decide_eq_true h5), merge_srtT, List.take_append_drop]; simp
      ·rw [if_neg (fun hh => h5 (by have := hh.2; simp only [List.length_nil] at this; exact ⟨by omega, by omega⟩)), if_neg (by rw [decide_eq_false h5]; simp)]
     ·rw [if_neg h4, Option.bind_none, if_neg (by simp [h4])]
    ·rw [if_neg h3, Option.bind_none, if_neg (by simp [h3])]
   ·rw [if_neg h2, if_neg (by simp only [decide_eq_false h2, Bool.false_and]; simp)]
theorem okN_of : ∀ (d F n : Nat), n < 2 ^ d → n + d + 1 ≤ F → n ≤ 100000 → okN F n = true
 | 0, F, n, h, hF, _ => by
  match F with
  | F + 1 => rw [okN]; simp at h; subst h; simp
 | d + 1, F, n, h, hF, hb => by
  match F with
  | F + 1 =>
   rw [okN]
   by_cases h2 : n < 2
   ·simp [h2]
   ·have e : hlf n = ((n / 2 : Nat) : Int) := by
     unfold hlf
     rw [Int.tdiv_eq_ediv_of_nonneg (by omega), w64_id (by omega) (by omega)]
     omega
    have e2 : (hlf n).toNat = n / 2 := by rw [e]; exact Int.toNat_natCast _
    rw [e2, okN_of d F (n / 2) (by rw [Nat.pow_succ] at h; omega) (by omega) (by omega)]
    by_cases h3 : n - n / 2 < 2 ^ d
    ·rw [okN_of d F (n - n / 2) h3 (by omega) (by omega), e]
     simp; omega
    ·have : n - n / 2 = 2 ^ d := by rw [Nat.pow_succ] at h; omega
     have h4 : n = 2 ^ d + 2 ^ d - 1 := by rw [Nat.pow_succ] at h; omega
     have h5 : 1 ≤ 2 ^ d := Nat.one_le_two_pow
     rw [okN_of (d + 1) F (n - n / 2) (by rw [this, Nat.pow_succ]; omega) (by omega) (by omega), e]
     simp; omega
termination_by d F n => (F, d)
theorem M34_L1_eq (F : Nat) : ∀ (l : List ((List UInt8) × Bool)) (o : List (List UInt8)), M34_L1 F l o = if l.length = 0 ∨ (o.length + l.length) * 16 ≤ 140737488355328 then M72 F (o ++ l.map (·.1)) else none
 | [], o => by
  rw [M34_L1]
  simp only [List.map_nil, List.append_nil, List.length_nil, true_or, if_true]
  cases M72 F o <;> rfl
 | e :: l, o => by
  rw [M34_L1]
  by_cases h : (o ++ [e.1]).length * 16 ≤ 140737488355328
  ·rw [if_pos h, M34_L1_eq F l]
   simp only [List.length_append, List.length_cons, List.length_nil] at h ⊢
   by_cases h2 : l.length = 0 ∨ (o.length + (0 + 1) + l.length) * 16 ≤ 140737488355328
   ·rw [if_pos h2, if_pos (by omega)]; simp
   ·rw [if_neg h2, if_neg (by omega)]
  ·rw [if_neg h, if_neg (by simp at h ⊢; omega)]
theorem ord_M34_L1 {F : Nat} {l l' : List ((List UInt8) × Bool)} {o : List (List UInt8)} {r : List (List UInt8)} (hp : l.Perm l') (h : M34_L1 F l o = some r) : M34_L1 F l' o = some r := by
 rw [← h, M34_L1_eq, M34_L1_eq, hp.length_eq, M72_eq, M72_eq]
 have := (hp.map (·.1)).append_left o
 rw [this.length_eq, srtT_congr this]
end Go.Proofs.Ytpbkggamiipdmaa
