/- Part of the proof: R6M, Q. -/
import Derived.Test.YtpbkggamiipdmaaH7R6T
import Derived.Test.YtpbkggamiipdmaaH7PvU
namespace Go.Proofs.Ytpbkggamiipdmaa
open Go Go.Pv
set_option linter.unusedVariables false
set_option maxRecDepth 100000
noncomputable section
def M77_L3 (F : Nat) (k23 : (List ((List UInt8) × Bool)) → Option Treach_checker) : List TFunc → (List ((List UInt8) × Bool)) → Option Treach_checker
 | [], m28 => k23 m28
 | x30 :: tl3, m28 => M77_L3 F k23 tl3 (mput m28 x30.Name true)
def M77_L2 (F : Nat) (k13 : (List ((List UInt8) × Bool)) → Option Treach_checker) : List TType → (List ((List UInt8) × Bool)) → Option Treach_checker
 | [], m18 => k13 m18
 | x20 :: tl2, m18 => M77_L2 F k13 tl2 (mput m18 x20.Name true)
def M77_L1 (F : Nat) (k3 : (List ((List UInt8) × TIface)) → Option Treach_checker) : List TIface → (List ((List UInt8) × TIface)) → Option Treach_checker
 | [], m8 => k3 m8
 | x10 :: tl1, m8 => M77_L1 F k3 tl1 (mput m8 x10.Name x10)
def M77 (F : Nat) (a1 : TGraph) (a2 : Bool) : Option Treach_checker :=
 jn (fun (m4 : List ((List UInt8) × TIface)) => jn (fun (m14 : List ((List UInt8) × Bool)) => jn (fun (m24 : List ((List UInt8) × Bool)) => some (Treach_checker.mk a2 m4 m14 m24)) (fun k23 => M77_L3 F k23 a1.Funcs ([] : List ((List UInt8) × Bool)))) (fun k13 => M77_L2 F k13 a1.Types ([] : List ((List UInt8) × Bool)))) (fun k3 => M77_L1 F k3 a1.Ifaces ([] : List ((List UInt8) × TIface)))
def M120_L1 (F : Nat) (a1 : (List UInt8)) (k2 : Option Bool) : Nat → Int → Option Bool
  | 0, n4 => k2
  | tl1 + 1, n4 => (idx a1 n4).bind fun c6 => if (decide ((c6.toNat : Int) < 33)) = true then some false
 else (idx a1 n4).bind fun c9 => if (decide ((c9.toNat : Int) > 126)) = true then some false
 else (idx a1 n4).bind fun c12 => if ((c12.toNat : Int) == 35) = true then some false
 else M120_L1 F a1 k2 tl1 (n4 + 1)
def M120 (F : Nat) (a1 : (List UInt8)) : Option Bool :=
 jn (if (!(a1 == ([] : List UInt8))) = true then some (decide ((a1.length : Int) ≤ 100))
 else some false) (fun k2 => if (a1.length : Int) ≤ 9223372036854775807 then M120_L1 F a1 k2 (((a1.length : Int) : Int).toNat) 0 else none)
def M93 (F : Nat) (a1 : (List UInt8)) (a2 : (List UInt8)) (a3 : Bool) : Option Int :=
 (M120 F a1).bind fun y4 => jn (some 0) (fun k6 => if (!y4) = true then some 8
 else if (!a3) = true then if (Op.bytesLess a1 a2 || a1 == a2) = true then some 10
 else k6
 else k6)
def M105_L2 (F : Nat) (k18 : Option Int) : List (List UInt8) → Int → (List UInt8) → Option Int
  | [], n22, s21 => k18
  | x24 :: tl2, n22, s21 => (M93 F x24 s21 (n22 == 0)).bind fun y26 => if (y26 != 0) = true then some y26
 else M105_L2 F k18 tl2 (n22 + 1) x24
def M105_L1 (F : Nat) (k3 : Option Int) : List TIface → Int → (List UInt8) → Option Int
  | [], n7, s6 => k3
  | x11 :: tl1, n7, s6 => jn (fun (s10 : List UInt8) => M105_L1 F k3 tl1 (n7 + 1) s10) (fun k9 => (M93 F x11.Name s6 (n7 == 0)).bind fun y13 => if (y13 != 0) = true then some y13
 else if (((x11.Methods.length : Nat) : Int) == 0) = true then some 13
 else if (decide (((x11.Methods.length : Nat) : Int) > 200)) = true then some 3
 else jn (k9 x11.Name) (fun k18 => M105_L2 F k18 x11.Methods 0 ([] : List UInt8)))
def M105 (F : Nat) (a1 : Treach_checker) (a2 : (List TIface)) : Option Int :=
 jn (some 0) (fun k3 => M105_L1 F k3 a2 0 ([] : List UInt8))
def M106_L2 (F : Nat) (a1 : Treach_checker) (k17 : Option Int) : List TMethod → Int → (List UInt8) → Option Int
  | [], n21, s20 => k17
  | x25 :: tl2, n21, s20 => jn (fun (s24 : List UInt8) => M106_L2 F a1 k17 tl2 (n21 + 1) s24) (fun k23 => (M93 F x25.Name s20 (n21 == 0)).bind fun y27 => if (y27 != 0) = true then some y27
 else if (!a1.loose) = true then if (!((mget a1.funcs x25.Func).getD false)) = true then some 4
 else k23 x25.Name
 else k23 x25.Name)
def M106_L1 (F : Nat) (a1 : Treach_checker) (k3 : Option Int) : List TType → Int → (List UInt8) → Option Int
  | [], n7, s6 => k3
  | x11 :: tl1, n7, s6 => jn (fun (s10 : List UInt8) => M106_L1 F a1 k3 tl1 (n7 + 1) s10) (fun k9 => (M93 F x11.Name s6 (n7 == 0)).bind fun y13 => if (y13 != 0) = true then some y13
 else if (decide (((x11.Methods.length : Nat) : Int) > 200)) = true then some 3
 else jn (k9 x11.Name) (fun k17 => M106_L2 F a1 k17 x11.Methods 0 ([] : List UInt8)))
def M106 (F : Nat) (a1 : Treach_checker) (a2 : (List TType)) : Option Int :=
 jn (some 0) (fun k3 => M106_L1 F a1 k3 a2 0 ([] : List UInt8))
def M41_L1 (F : Nat) (a2 : (List UInt8)) (k3 : Option Int) : List (List UInt8) → Int → Option Int
  | [], n5 => k3
  | x7 :: tl1, n5 => if (a2 == x7) = true then some n5
 else M41_L1 F a2 k3 tl1 (n5 + 1)
def M41 (F : Nat) (a1 : (List (List UInt8))) (a2 : (List UInt8)) : Option Int :=
 jn (some (-1)) (fun k3 => M41_L1 F a2 k3 a1 0)
def M16 (F : Nat) (a1 : (List (List UInt8))) (a2 : (List UInt8)) : Option Bool :=
 (M41 F a1 a2).bind fun y3 => some (decide (y3 ≥ 0))
def M127 (F : Nat) (a1 : Treach_checker) (a2 : TCall) : Option Int :=
 jn (if (!(a2.Feature == ([] : List UInt8))) = true then (M120 F a2.Feature).bind fun y16 => if (!y16) = true then some 8
 else some 0
 else some 0) (fun k3 => if (a2.Kind == 1) = true then if (!a1.loose) = true then if (!((mget a1.funcs a2.Target).getD false)) = true then some 4
 else if (!(a2.Method == ([] : List UInt8))) = true then some 2
 else k3
 else if (!(a2.Method == ([] : List UInt8))) = true then some 2
 else k3
 else if (a2.Kind == 2) = true then if (!a1.loose) = true then if (!((mget a1.ifaces a2.Target).isSome)) = true then some 4
 else (M16 F ((mget a1.ifaces a2.Target).getD (TIface.mk ([] : List UInt8) ([] : (List (List UInt8))))).Methods a2.Method).bind fun y12 => if (!y12) = true then some 4
 else k3
 else k3
 else some 7)
def M108_L1 (F : Nat) (a1 : Treach_checker) (a2 : (List (List UInt8))) (a3 : (List ((List UInt8) × Bool))) (k4 : Option Int) : List (List UInt8) → Int → Option Int
  | [], n6 => k4
  | x8 :: tl1, n6 => jn (M108_L1 F a1 a2 a3 k4 tl1 (n6 + 1)) (fun k10 => if (!a1.loose) = true then jn (k10) (fun k12 => if (!((mget a3 x8).getD false)) = true then some 4
 else if (decide (n6 > 0)) = true then (idx a2 (w64 (n6 - 1))).bind fun x15 => if (Op.bytesLess x8 x15 || x8 == x15) = true then some 10
 else k12
 else k12)
 else if (decide (n6 > 0)) = true then (idx a2 (w64 (n6 - 1))).bind fun x19 => if (Op.bytesLess x8 x19 || x8 == x19) = true then some 10
 else k10
 else k10)
def M108 (F : Nat) (a1 : Treach_checker) (a2 : (List (List UInt8))) (a3 : (List ((List UInt8) × Bool))) : Option Int :=
 jn (some 0) (fun k4 => M108_L1 F a1 a2 a3 k4 a2 0)
def M107_L2 (F : Nat) (a1 : Treach_checker) (k20 : Option Int) : List TCall → Option Int
  | [] => k20
  | x24 :: tl2 => (M127 F a1 x24).bind fun y26 => if (y26 != 0) = true then some y26
 else M107_L2 F a1 k20 tl2
def M107_L1 (F : Nat) (a1 : Treach_checker) (k3 : Option Int) : List TFunc → Int → (List UInt8) → Option Int
  | [], n7, s6 => k3
  | x11 :: tl1, n7, s6 => jn (fun (s10 : List UInt8) => M107_L1 F a1 k3 tl1 (n7 + 1) s10) (fun k9 => (M93 F x11.Name s6 (n7 == 0)).bind fun y13 => if (y13 != 0) = true then some y13
 else (M120 F x11.Component).bind fun y16 => if (!y16) = true then some 8
 else if (decide (((x11.Calls.length : Nat) : Int) > 200)) = true then some 3
 else jn ((M108 F a1 x11.Makes a1.types).bind fun y30 => if (y30 != 0) = true then some y30
 else k9 x11.Name) (fun k20 => M107_L2 F a1 k20 x11.Calls))
def M107 (F : Nat) (a1 : Treach_checker) (a2 : (List TFunc)) : Option Int :=
 jn (some 0) (fun k3 => M107_L1 F a1 k3 a2 0 ([] : List UInt8))
def M78 (F : Nat) (a1 : Treach_checker) (a2 : TGraph) : Option Int :=
 if (decide (((a2.Ifaces.length : Nat) : Int) > 200)) = true then some 3
 else if (decide (((a2.Types.length : Nat) : Int) > 500)) = true then some 3
 else if (decide (((a2.Funcs.length : Nat) : Int) > 3000)) = true then some 3
 else (M105 F a1 a2.Ifaces).bind fun y6 => if (y6 != 0) = true then some y6
 else (M106 F a1 a2.Types).bind fun y9 => if (y9 != 0) = true then some y9
 else (M107 F a1 a2.Funcs).bind fun y12 => if (y12 != 0) = true then some y12
 else (M108 F a1 a2.Entries a1.funcs).bind fun y15 => some y15
def M44 (F : Nat) (a1 : TGraph) : Option Int :=
 (M77 F a1 false).bind fun y2 => (M78 F y2 a1).bind fun y4 => some y4
def M67_L1 (F : Nat) (k3 : Option Int) : List (List UInt8) → Int → (List UInt8) → Option Int
  | [], n7, s6 => k3
  | x9 :: tl1, n7, s6 => (M93 F x9 s6 (n7 == 0)).bind fun y11 => if (y11 != 0) = true then some y11
 else M67_L1 F k3 tl1 (n7 + 1) x9
def M67 (F : Nat) (a1 : (List (List UInt8))) : Option Int :=
 if (decide (((a1.length : Nat) : Int) > 30)) = true then some 3
 else jn (some 0) (fun k3 => M67_L1 F k3 a1 0 ([] : List UInt8))
def M126 (F : Nat) (a1 : (List UInt8)) : Option Bool :=
 some (!(a1 == a1))
def M111 (F : Nat) (a1 : (List UInt8)) (a2 : (List UInt8)) : Option Int :=
 (M126 F a1).bind fun y3 => (M126 F a2).bind fun y5 => if y3 = true then if y5 = true then some 0
 else some (-1)
 else if y5 = true then some 1
 else if (Op.bytesLess a1 a2) = true then some (-1)
 else if (!(Op.bytesLess a1 a2 || a1 == a2)) = true then some 1
 else some 0
def M110 (F : Nat) (a1 : TMethod) (a2 : (List UInt8)) : Option Int :=
 (M111 F a1.Name a2).bind fun y3 => some y3
def M109_L1 (F : Nat) (a1 : (List TMethod)) (a2 : (List UInt8)) (k3 : Int → Option (Int × Bool)) : Nat → Int → Int → Option (Int × Bool)
 | 0, _, _ => none
 | n + 1, n7, n8 => if (decide (n7 < n8)) = true then (idx a1 (w64 (Int.fdiv (IntKind.wrap .u64 (w64 (n7 + n8))) (2 ^ (min (Int.toNat 1) (IntKind.bits .u64)))))).bind fun x10 => (M110 F x10 a2).bind fun y12 => jn (fun (n15 : Int) (n16 : Int) => M109_L1 F a1 a2 k3 n n15 n16) (fun k14 => if (decide (y12 < 0)) = true then k14 (w64 ((w64 (Int.fdiv (IntKind.wrap .u64 (w64 (n7 + n8))) (2 ^ (min (Int.toNat 1) (IntKind.bits .u64))))) + 1)) n8
 else k14 n7 (w64 (Int.fdiv (IntKind.wrap .u64 (w64 (n7 + n8))) (2 ^ (min (Int.toNat 1) (IntKind.bits .u64))))))
 else k3 n7
def M109 (F : Nat) (a1 : (List TMethod)) (a2 : (List UInt8)) : Option (Int × Bool) :=
 jn (fun (n4 : Int) => if (decide (n4 < ((a1.length : Nat) : Int))) = true then (idx a1 n4).bind fun x19 => (M110 F x19 a2).bind fun y21 => some (n4, (y21 == 0))
 else some (n4, false)) (fun k3 => M109_L1 F a1 a2 k3 F 0 ((a1.length : Nat) : Int))
def M79 (F : Nat) (a1 : TType) (a2 : (List UInt8)) : Option ((List UInt8) × Bool) :=
 (M109 F a1.Methods a2).bind fun y3 => if (!(y3.2)) = true then some (([] : List UInt8), false)
 else (idx a1.Methods (y3.1)).bind fun x6 => some (x6.Func, true)
def M49_L1 (F : Nat) (a1 : TType) (k3 : Option Bool) : List (List UInt8) → Option Bool
  | [] => k3
  | x7 :: tl1 => (M79 F a1 x7).bind fun y9 => if (!(y9.2)) = true then some false
 else M49_L1 F a1 k3 tl1
def M49 (F : Nat) (a1 : TType) (a2 : TIface) : Option Bool :=
 jn (some true) (fun k3 => M49_L1 F a1 k3 a2.Methods)
def M54_L5 (F : Nat) (k52 : (List ((List UInt8) × Bool)) → Option (Option Treach_world)) : List (List UInt8) → (List ((List UInt8) × Bool)) → Option (Option Treach_world)
 | [], m57 => k52 m57
 | x59 :: tl5, m57 => M54_L5 F k52 tl5 (mput m57 x59 true)
def M54_L4 (F : Nat) (x33 : TIface) (k35 : (List ((List UInt8) × (List Int))) → Option (Option Treach_world)) : List TType → Int → (List ((List UInt8) × (List Int))) → Option (Option Treach_world)
  | [], n39, m40 => k35 m40
  | x42 :: tl4, n39, m40 => (M49 F x42 x33).bind fun y44 => jn (fun (m47 : List ((List UInt8) × (List Int))) => M54_L4 F x33 k35 tl4 (n39 + 1) m47) (fun k46 => if y44 = true then if (((mget m40 x33.Name).getD []) ++ ([n39] : List Int)).length * 8 ≤ 140737488355328 then k46 (mput m40 x33.Name (((mget m40 x33.Name).getD []) ++ ([n39] : List Int))) else none
 else k46 m40)
def M54_L3 (F : Nat) (a1 : TGraph) (k24 : (List ((List UInt8) × (List Int))) → Option (Option Treach_world)) : List TIface → (List ((List UInt8) × (List Int))) → Option (Option Treach_world)
 | [], m29 => k24 m29
 | x33 :: tl3, m29 => jn (fun (m32 : List ((List UInt8) × (List Int))) => M54_L3 F a1 k24 tl3 m32) (fun k31 => jn (fun (m36 : List ((List UInt8) × (List Int))) => k31 m36) (fun k35 => M54_L4 F x33 k35 a1.Types 0 m29))
def M54_L2 (F : Nat) (k14 : (List ((List UInt8) × Int)) → Option (Option Treach_world)) : List TType → Int → (List ((List UInt8) × Int)) → Option (Option Treach_world)
 | [], n18, m19 => k14 m19
 | x21 :: tl2, n18, m19 => M54_L2 F k14 tl2 (n18 + 1) (mput m19 x21.Name n18)
def M54_L1 (F : Nat) (k4 : (List ((List UInt8) × Int)) → Option (Option Treach_world)) : List TFunc → Int → (List ((List UInt8) × Int)) → Option (Option Treach_world)
 | [], n8, m9 => k4 m9
 | x11 :: tl1, n8, m9 => M54_L1 F k4 tl1 (n8 + 1) (mput m9 x11.Name n8)
def M54 (F : Nat) (a1 : TGraph) (a2 : Int) (a3 : (List (List UInt8))) : Option (Option Treach_world) :=
 jn (fun (m5 : List ((List UInt8) × Int)) => jn (fun (m15 : List ((List UInt8) × Int)) => jn (fun (m25 : List ((List UInt8) × (List Int))) => jn (fun (m53 : List ((List UInt8) × Bool)) => some (some (Treach_world.mk a1 m5 m15 m25 m53 (a2 == 2)))) (fun k52 => M54_L5 F k52 a3 (mput ([] : List ((List UInt8) × Bool)) ([] : List UInt8) true))) (fun k24 => M54_L3 F a1 k24 a1.Ifaces ([] : List ((List UInt8) × (List Int))))) (fun k14 => M54_L2 F k14 a1.Types 0 ([] : List ((List UInt8) × Int)))) (fun k4 => M54_L1 F k4 a1.Funcs 0 ([] : List ((List UInt8) × Int)))
def M31 (F : Nat) (a1 : TGraph) (a2 : Int) (a3 : (List (List UInt8))) : Option ((Option Treach_world) × Int) :=
 (M44 F a1).bind fun y4 => if (y4 != 0) = true then some ((none : Option Treach_world), y4)
 else (M67 F a3).bind fun y7 => if (y7 != 0) = true then some ((none : Option Treach_world), y7)
 else if (a2 != 1) = true then if (a2 != 2) = true then some ((none : Option Treach_world), 7)
 else (M54 F a1 a2 a3).bind fun y12 => (y12).bind fun x14 => some ((some x14), 0)
 else (M54 F a1 a2 a3).bind fun y16 => (y16).bind fun x18 => some ((some x18), 0)
def M68 (F : Nat) (a1 : Int) (a2 : Treach_world) (a3 : List Bool) (a4 : List Bool) (a5 : List (Treach_slot × Bool)) (a6 : List Treach_slot) (a7 : List Int) (a8 : List Int) : Option ((List Bool) × (List Int)) :=
 (idx a3 a1).bind fun x17 => if (!x17) = true then (idx a3 a1).bind fun x20 => if (a8 ++ ([a1] : List Int)).length * 8 ≤ 140737488355328 then some ((a3.set a1.toNat true), (a8 ++ ([a1] : List Int))) else none
 else some (a3, a8)
def M116_L1 (F : Nat) (a2 : Int) (k3 : Option Int) : List Int → Int → Option Int
  | [], n5 => k3
  | x7 :: tl1, n5 => if (a2 == x7) = true then some n5
 else M116_L1 F a2 k3 tl1 (n5 + 1)
def M116 (F : Nat) (a1 : (List Int)) (a2 : Int) : Option Int :=
 jn (some (-1)) (fun k3 => M116_L1 F a2 k3 a1 0)
def M87 (F : Nat) (a1 : (List Int)) (a2 : Int) : Option Bool :=
 (M116 F a1 a2).bind fun y3 => some (decide (y3 ≥ 0))
def M82 (F : Nat) (a1 : Treach_world) (a2 : TCall) (a3 : Int) : Option Int :=
 (idx a1.g.Types a3).bind fun x4 => (M79 F x4 a2.Method).bind fun y6 => some ((mget a1.funcs (y6.1)).getD 0)
def M69_L1 (F : Nat) (a1 : Int) (a2 : Treach_world) (a4 : List Bool) (a5 : List (Treach_slot × Bool)) (a6 : List Treach_slot) (a7 : List Int) : List Treach_slot → (List Bool) → (List Int) → Option ((List Bool) × (List Bool) × (List Int))
  | [], l48, l49 => some (l48, (a4.set a1.toNat true), l49)
  | x51 :: tl1, l48, l49 => (M87 F ((mget a2.fitting x51.iface).getD ([] : (List Int))) a1).bind fun y53 => jn (fun (l56 : List Bool) (l57 : List Int) => M69_L1 F a1 a2 a4 a5 a6 a7 tl1 l56 l57) (fun k55 => if y53 = true then (M82 F a2 (TCall.mk 0 x51.iface x51.method ([] : List UInt8)) a1).bind fun y59 => (M68 F y59 a2 l48 (a4.set a1.toNat true) a5 a6 a7 l49).bind fun y61 => k55 (y61.1) (y61.2)
 else k55 l48 l49)
def M69 (F : Nat) (a1 : Int) (a2 : Treach_world) (a3 : List Bool) (a4 : List Bool) (a5 : List (Treach_slot × Bool)) (a6 : List Treach_slot) (a7 : List Int) (a8 : List Int) : Option ((List Bool) × (List Bool) × (List Int)) :=
 (idx a4 a1).bind fun x38 => if x38 = true then some (a3, a4, a8)
 else (idx a4 a1).bind fun x41 => if (!a2.made) = true then some (a3, (a4.set a1.toNat true), a8)
 else M69_L1 F a1 a2 a4 a5 a6 a7 a6 a3 a8
def M70_L1 (F : Nat) (a1 : TCall) (a2 : Treach_world) (a4 : List Bool) (a5 : List (Treach_slot × Bool)) (a6 : List Treach_slot) (a7 : List Int) : List Int → (List Bool) → (List Int) → Option ((List Bool) × (List (Treach_slot × Bool)) × (List Treach_slot) × (List Int))
  | [], l55, l56 => some (l55, (mput a5 (Treach_slot.mk a1.Target a1.Method) true), (a6 ++ ([(Treach_slot.mk a1.Target a1.Method)] : List Treach_slot)), l56)
  | x61 :: tl1, l55, l56 => jn (fun (l59 : List Bool) (l60 : List Int) => M70_L1 F a1 a2 a4 a5 a6 a7 tl1 l59 l60) (fun k58 => if (!a2.made) = true then (M82 F a2 a1 x61).bind fun y64 => (M68 F y64 a2 l55 a4 (mput a5 (Treach_slot.mk a1.Target a1.Method) true) (a6 ++ ([(Treach_slot.mk a1.Target a1.Method)] : List Treach_slot)) a7 l56).bind fun y66 => k58 (y66.1) (y66.2)
 else (idx a4 x61).bind fun x68 => jn (fun (l71 : List Bool) (l72 : List Int) => k58 l71 l72) (fun k70 => if x68 = true then (M82 F a2 a1 x61).bind fun y74 => (M68 F y74 a2 l55 a4 (mput a5 (Treach_slot.mk a1.Target a1.Method) true) (a6 ++ ([(Treach_slot.mk a1.Target a1.Method)] : List Treach_slot)) a7 l56).bind fun y76 => k70 (y76.1) (y76.2)
 else k70 l55 l56))
def M70 (F : Nat) (a1 : TCall) (a2 : Treach_world) (a3 : List Bool) (a4 : List Bool) (a5 : List (Treach_slot × Bool)) (a6 : List Treach_slot) (a7 : List Int) (a8 : List Int) : Option ((List Bool) × (List (Treach_slot × Bool)) × (List Treach_slot) × (List Int)) :=
 if (a1.Kind == 1) = true then (M68 F ((mget a2.funcs a1.Target).getD 0) a2 a3 a4 a5 a6 a7 a8).bind fun y47 => some ((y47.1), a5, a6, (y47.2))
 else if ((mget a5 (Treach_slot.mk a1.Target a1.Method)).getD false) = true then some (a3, a5, a6, a8)
 else if (a6 ++ ([(Treach_slot.mk a1.Target a1.Method)] : List Treach_slot)).length * 32 ≤ 140737488355328 then M70_L1 F a1 a2 a4 a5 a6 a7 ((mget a2.fitting a1.Target).getD ([] : (List Int))) a3 a8 else none
def M32_L4 (F : Nat) (a1 : Treach_world) (a2 : Int) (l51 : List Bool) (k20 : (List Bool) → (List Bool) → (List (Treach_slot × Bool)) → (List Treach_slot) → (List Int) → Option (Option Treach_spread)) (k69 : (List Bool) → (List (Treach_slot × Bool)) → (List Treach_slot) → (List Int) → Option (Option Treach_spread)) : List TCall → (List Bool) → (List (Treach_slot × Bool)) → (List Treach_slot) → (List Int) → Option (Option Treach_spread)
  | [], l80, m81, l82, l83 => k69 l80 m81 l82 l83
  | x90 :: tl4, l80, m81, l82, l83 => jn (fun (l86 : List Bool) (m87 : List (Treach_slot × Bool)) (l88 : List Treach_slot) (l89 : List Int) => M32_L4 F a1 a2 l51 k20 k69 tl4 l86 m87 l88 l89) (fun k85 => if (!((mget a1.on x90.Feature).getD false)) = true then k85 l80 m81 l82 l83
 else (M70 F x90 a1 l80 l51 m81 l82 ([] : List Int) l83).bind fun y93 => if (decide (a2 ≥ 0)) = true then (idx (y93.1) a2).bind fun x96 => if x96 = true then k20 (y93.1) l51 (y93.2.1) (y93.2.2.1) (y93.2.2.2)
 else k85 (y93.1) (y93.2.1) (y93.2.2.1) (y93.2.2.2)
 else k85 (y93.1) (y93.2.1) (y93.2.2.1) (y93.2.2.2))
def M32_L3 (F : Nat) (a1 : Treach_world) (m33 : List (Treach_slot × Bool)) (l34 : List Treach_slot) (k49 : (List Bool) → (List Bool) → (List Int) → Option (Option Treach_spread)) : List (List UInt8) → (List Bool) → (List Bool) → (List Int) → Option (Option Treach_spread)
 | [], l58, l59, l60 => k49 l58 l59 l60
 | x62 :: tl3, l58, l59, l60 => (M69 F ((mget a1.types x62).getD 0) a1 l58 l59 m33 l34 ([] : List Int) l60).bind fun y64 => M32_L3 F a1 m33 l34 k49 tl3 (y64.1) (y64.2.1) (y64.2.2)
def M32_L2 (F : Nat) (a1 : Treach_world) (a2 : Int) (k20 : (List Bool) → (List Bool) → (List (Treach_slot × Bool)) → (List Treach_slot) → (List Int) → Option (Option Treach_spread)) : Nat → (List Bool) → (List Bool) → (List (Treach_slot × Bool)) → (List Treach_slot) → (List Int) → Option (Option Treach_spread)
 | 0, _, _, _, _, _ => none
 | n + 1, l31, l32, m33, l34, l35 => if (decide (((l35.length : Nat) : Int) > 0)) = true then jn (fun (l38 : List Bool) (l39 : List Bool) (m40 : List (Treach_slot × Bool)) (l41 : List Treach_slot) (l42 : List Int) => M32_L2 F a1 a2 k20 n l38 l39 m40 l41 l42) (fun k37 => (idx l35 0).bind fun x43 => if 1 ≤ l35.length then if (x43 == a2) = true then k20 l31 l32 m33 l34 (l35.drop 1)
 else (idx a1.g.Funcs x43).bind fun x47 => jn (fun (l50 : List Bool) (l51 : List Bool) (l52 : List Int) => (idx a1.g.Funcs x43).bind fun x67 => jn (fun (l70 : List Bool) (m71 : List (Treach_slot × Bool)) (l72 : List Treach_slot) (l73 : List Int) => k37 l70 l51 m71 l72 l73) (fun k69 => M32_L4 F a1 a2 l51 k20 k69 x67.Calls l50 m33 l34 l52)) (fun k49 => M32_L3 F a1 m33 l34 k49 x47.Makes l31 l32 (l35.drop 1)) else none)
 else k20 l31 l32 m33 l34 l35
def M32_L1 (F : Nat) (a1 : Treach_world) (k5 : (List Bool) → (List Int) → Option (Option Treach_spread)) : List (List UInt8) → (List Bool) → (List Int) → Option (Option Treach_spread)
 | [], l12, l13 => k5 l12 l13
 | x15 :: tl1, l12, l13 => (M68 F ((mget a1.funcs x15).getD 0) a1 l12 (List.replicate (((a1.g.Types.length : Nat) : Int)).toNat (false : Bool)) ([] : List (Treach_slot × Bool)) ([] : List Treach_slot) ([] : List Int) l13).bind fun y17 => M32_L1 F a1 k5 tl1 (y17.1) (y17.2)
def M32 (F : Nat) (a1 : Treach_world) (a2 : Int) : Option (Option Treach_spread) :=
 if 0 ≤ ((a1.g.Funcs.length : Nat) : Int) ∧ ((1 : Nat) : Int) * ((a1.g.Funcs.length : Nat) : Int) ≤ 140737488355328 ∧ ((a1.g.Funcs.length : Nat) : Int) ≤ 140737488355328 then if 0 ≤ ((a1.g.Types.length : Nat) : Int) ∧ ((1 : Nat) : Int) * ((a1.g.Types.length : Nat) : Int) ≤ 140737488355328 ∧ ((a1.g.Types.length : Nat) : Int) ≤ 140737488355328 then jn (fun (l6 : List Bool) (l7 : List Int) => jn (fun (l21 : List Bool) (l22 : List Bool) (m23 : List (Treach_slot × Bool)) (l24 : List Treach_slot) (l25 : List Int) => some (some (Treach_spread.mk (some a1) l21 l22 m23 l24 ([] : List Int) l25))) (fun k20 => M32_L2 F a1 a2 k20 F l6 (List.replicate (((a1.g.Types.length : Nat) : Int)).toNat (false : Bool)) ([] : List (Treach_slot × Bool)) ([] : List Treach_slot) l7)) (fun k5 => M32_L1 F a1 k5 a1.g.Entries (List.replicate (((a1.g.Funcs.length : Nat) : Int)).toNat (false : Bool)) ([] : List Int)) else none else none
def M9_L1 (F : Nat) (a1 : TGraph) (k13 : (List (List UInt8)) → Option ((List (List UInt8)) × Int)) : List Bool → Int → (List (List UInt8)) → Option ((List (List UInt8)) × Int)
  | [], n17, l18 => k13 l18
  | x20 :: tl1, n17, l18 => jn (fun (l23 : List (List UInt8)) => M9_L1 F a1 k13 tl1 (n17 + 1) l23) (fun k22 => if x20 = true then (idx a1.Funcs n17).bind fun x25 => if (l18 ++ ([x25.Name] : List (List UInt8))).length * 16 ≤ 140737488355328 then k22 (l18 ++ ([x25.Name] : List (List UInt8))) else none
 else k22 l18)
def M9 (F : Nat) (a1 : TGraph) (a2 : Int) (a3 : (List (List UInt8))) : Option ((List (List UInt8)) × Int) :=
 (M31 F a1 a2 a3).bind fun y4 => if ((y4.2) != 0) = true then some (([] : List (List UInt8)), (y4.2))
 else ((y4.1)).bind fun x7 => (M32 F x7 (-1)).bind fun y9 => (y9).bind fun x11 => jn (fun (l14 : List (List UInt8)) => some (l14, 0)) (fun k13 => M9_L1 F a1 k13 x11.funcs 0 ([] : List (List UInt8)))
def M65_L4 (F : Nat) (k35 : (List ((List UInt8) × Bool)) → Option Tprovenderref6_names) : List TFunc → (List ((List UInt8) × Bool)) → Option Tprovenderref6_names
 | [], m40 => k35 m40
 | x42 :: tl4, m40 => M65_L4 F k35 tl4 (mput m40 x42.Name true)
def M65_L3 (F : Nat) (k25 : (List ((List UInt8) × Bool)) → Option Tprovenderref6_names) : List TType → (List ((List UInt8) × Bool)) → Option Tprovenderref6_names
 | [], m30 => k25 m30
 | x32 :: tl3, m30 => M65_L3 F k25 tl3 (mput m30 x32.Name true)
def M65_L2 (F : Nat) (x11 : TIface) (k13 : (List ((List UInt8) × (List ((List UInt8) × Bool)))) → Option Tprovenderref6_names) : List (List UInt8) → (List ((List UInt8) × (List ((List UInt8) × Bool)))) → Option Tprovenderref6_names
 | [], m18 => k13 m18
 | x20 :: tl2, m18 => if (mget m18 x11.Name).isSome = true then M65_L2 F x11 k13 tl2 (mput m18 x11.Name (mput ((mget m18 x11.Name).getD []) x20 true)) else none
def M65_L1 (F : Nat) (k2 : (List ((List UInt8) × (List ((List UInt8) × Bool)))) → Option Tprovenderref6_names) : List TIface → (List ((List UInt8) × (List ((List UInt8) × Bool)))) → Option Tprovenderref6_names
 | [], m7 => k2 m7
 | x11 :: tl1, m7 => jn (fun (m10 : List ((List UInt8) × (List ((List UInt8) × Bool)))) => M65_L1 F k2 tl1 m10) (fun k9 => jn (fun (m14 : List ((List UInt8) × (List ((List UInt8) × Bool)))) => k9 m14) (fun k13 => M65_L2 F x11 k13 x11.Methods (mput m7 x11.Name ([] : List ((List UInt8) × Bool)))))
def M65 (F : Nat) (a1 : TGraph) : Option Tprovenderref6_names :=
 jn (fun (m3 : List ((List UInt8) × (List ((List UInt8) × Bool)))) => jn (fun (m26 : List ((List UInt8) × Bool)) => jn (fun (m36 : List ((List UInt8) × Bool)) => some (Tprovenderref6_names.mk m3 m26 m36)) (fun k35 => M65_L4 F k35 a1.Funcs ([] : List ((List UInt8) × Bool)))) (fun k25 => M65_L3 F k25 a1.Types ([] : List ((List UInt8) × Bool)))) (fun k2 => M65_L1 F k2 a1.Ifaces ([] : List ((List UInt8) × (List ((List UInt8) × Bool)))))
def M91_L1 (F : Nat) (a1 : (List UInt8)) (k2 : Option Bool) : Nat → Int → Option Bool
  | 0, n4 => k2
  | tl1 + 1, n4 => (idx a1 n4).bind fun c6 => if (decide ((c6.toNat : Int) < 33)) = true then some false
 else (idx a1 n4).bind fun c9 => if (decide ((c9.toNat : Int) > 126)) = true then some false
 else (idx a1 n4).bind fun c12 => if ((c12.toNat : Int) == 35) = true then some false
 else M91_L1 F a1 k2 tl1 (n4 + 1)
def M91 (F : Nat) (a1 : (List UInt8)) : Option Bool :=
 jn (if (decide ((a1.length : Int) ≥ 1)) = true then some (decide ((a1.length : Int) ≤ 100))
 else some false) (fun k2 => if (a1.length : Int) ≤ 9223372036854775807 then M91_L1 F a1 k2 (((a1.length : Int) : Int).toNat) 0 else none)
def M92 (F : Nat) (a1 : (List (List UInt8))) (a2 : Int) : Option Int :=
 if (decide (a2 > 0)) = true then (idx a1 a2).bind fun x4 => (idx a1 (w64 (a2 - 1))).bind fun x6 => if (Op.bytesLess x4 x6 || x4 == x6) = true then some 10
 else some 0
 else some 0
def M112_L2 (F : Nat) (x10 : TIface) (k18 : Option Int) : List (List UInt8) → Int → Option Int
  | [], n20 => k18
  | x22 :: tl2, n20 => (M91 F x22).bind fun y24 => if (!y24) = true then some 8
 else (M92 F x10.Methods n20).bind fun y27 => if (y27 != 0) = true then some y27
 else M112_L2 F x10 k18 tl2 (n20 + 1)
def M112_L1 (F : Nat) (k2 : Option Int) : List TIface → (List UInt8) → Option Int
  | [], s5 => k2
  | x10 :: tl1, s5 => jn (fun (s9 : List UInt8) => M112_L1 F k2 tl1 s9) (fun k8 => (M91 F x10.Name).bind fun y12 => if (!y12) = true then some 8
 else if (Op.bytesLess x10.Name s5 || x10.Name == s5) = true then some 10
 else if (((x10.Methods.length : Nat) : Int) == 0) = true then some 13
 else if (decide (((x10.Methods.length : Nat) : Int) > 200)) = true then some 3
 else jn (k8 x10.Name) (fun k18 => M112_L2 F x10 k18 x10.Methods 0))
def M112 (F : Nat) (a1 : Tprovenderref6_checker) : Option Int :=
 jn (some 0) (fun k2 => M112_L1 F k2 a1.g.Ifaces ([] : List UInt8))
def M113_L2 (F : Nat) (a1 : Tprovenderref6_checker) (k17 : Option Int) : List TMethod → (List UInt8) → Option Int
  | [], s20 => k17
  | x23 :: tl2, s20 => (M91 F x23.Name).bind fun y25 => jn (M113_L2 F a1 k17 tl2 x23.Name) (fun k27 => if (!y25) = true then some 8
 else if (Op.bytesLess x23.Name s20 || x23.Name == s20) = true then some 10
 else if (!a1.loose) = true then if (!((mget a1.n.funcs x23.Func).getD false)) = true then some 4
 else k27
 else k27)
def M113_L1 (F : Nat) (a1 : Tprovenderref6_checker) (k2 : Option Int) : List TType → (List UInt8) → Option Int
  | [], s5 => k2
  | x10 :: tl1, s5 => jn (fun (s9 : List UInt8) => M113_L1 F a1 k2 tl1 s9) (fun k8 => (M91 F x10.Name).bind fun y12 => if (!y12) = true then some 8
 else if (Op.bytesLess x10.Name s5 || x10.Name == s5) = true then some 10
 else if (decide (((x10.Methods.length : Nat) : Int) > 200)) = true then some 3
 else jn (k8 x10.Name) (fun k17 => M113_L2 F a1 k17 x10.Methods ([] : List UInt8)))
def M113 (F : Nat) (a1 : Tprovenderref6_checker) : Option Int :=
 jn (some 0) (fun k2 => M113_L1 F a1 k2 a1.g.Types ([] : List UInt8))
def M128 (F : Nat) (a1 : Tprovenderref6_checker) (a2 : TCall) : Option Int :=
 jn (if (!(a2.Feature == ([] : List UInt8))) = true then (M91 F a2.Feature).bind fun y15 => if (!y15) = true then some 8
 else some 0
 else some 0) (fun k3 => if (a2.Kind == 1) = true then if (!a1.loose) = true then if (!((mget a1.n.funcs a2.Target).getD false)) = true then some 4
 else if (!(a2.Method == ([] : List UInt8))) = true then some 2
 else k3
 else if (!(a2.Method == ([] : List UInt8))) = true then some 2
 else k3
 else if (a2.Kind == 2) = true then if ((mget a1.n.ifaces a2.Target).isSome) = true then if (!a1.loose) = true then if (!((mget ((mget a1.n.ifaces a2.Target).getD []) a2.Method).getD false)) = true then some 4
 else k3
 else k3
 else if (!a1.loose) = true then some 4
 else k3
 else some 7)
def M114_L3 (F : Nat) (a1 : Tprovenderref6_checker) (x10 : TFunc) (k30 : Option Int) : List (List UInt8) → Int → Option Int
  | [], n32 => k30
  | x35 :: tl3, n32 => jn (M114_L3 F a1 x10 k30 tl3 (n32 + 1)) (fun k34 => if (!a1.loose) = true then if (!((mget a1.n.types x35).getD false)) = true then some 4
 else (M92 F x10.Makes n32).bind fun y39 => if (y39 != 0) = true then some y39
 else k34
 else (M92 F x10.Makes n32).bind fun y42 => if (y42 != 0) = true then some y42
 else k34)
def M114_L2 (F : Nat) (a1 : Tprovenderref6_checker) (k20 : Option Int) : List TCall → Option Int
  | [] => k20
  | x24 :: tl2 => (M128 F a1 x24).bind fun y26 => if (y26 != 0) = true then some y26
 else M114_L2 F a1 k20 tl2
def M114_L1 (F : Nat) (a1 : Tprovenderref6_checker) (k2 : Option Int) : List TFunc → (List UInt8) → Option Int
  | [], s5 => k2
  | x10 :: tl1, s5 => jn (fun (s9 : List UInt8) => M114_L1 F a1 k2 tl1 s9) (fun k8 => (M91 F x10.Name).bind fun y12 => if (!y12) = true then some 8
 else if (Op.bytesLess x10.Name s5 || x10.Name == s5) = true then some 10
 else (M91 F x10.Component).bind fun y16 => if (!y16) = true then some 8
 else if (decide (((x10.Calls.length : Nat) : Int) > 200)) = true then some 3
 else jn (jn (k8 x10.Name) (fun k30 => M114_L3 F a1 x10 k30 x10.Makes 0)) (fun k20 => M114_L2 F a1 k20 x10.Calls))
def M114 (F : Nat) (a1 : Tprovenderref6_checker) : Option Int :=
 jn (some 0) (fun k2 => M114_L1 F a1 k2 a1.g.Funcs ([] : List UInt8))
def M80_L1 (F : Nat) (a1 : Tprovenderref6_checker) (k14 : Option Int) : List (List UInt8) → Int → Option Int
  | [], n16 => k14
  | x19 :: tl1, n16 => jn (M80_L1 F a1 k14 tl1 (n16 + 1)) (fun k18 => if (!a1.loose) = true then if (!((mget a1.n.funcs x19).getD false)) = true then some 4
 else (M92 F a1.g.Entries n16).bind fun y23 => if (y23 != 0) = true then some y23
 else k18
 else (M92 F a1.g.Entries n16).bind fun y26 => if (y26 != 0) = true then some y26
 else k18)
def M80 (F : Nat) (a1 : Tprovenderref6_checker) : Option Int :=
 if (decide (((a1.g.Ifaces.length : Nat) : Int) > 200)) = true then some 3
 else if (decide (((a1.g.Types.length : Nat) : Int) > 500)) = true then some 3
 else if (decide (((a1.g.Funcs.length : Nat) : Int) > 3000)) = true then some 3
 else (M112 F a1).bind fun y5 => if (y5 != 0) = true then some y5
 else (M113 F a1).bind fun y8 => if (y8 != 0) = true then some y8
 else (M114 F a1).bind fun y11 => if (y11 != 0) = true then some y11
 else jn (some 0) (fun k14 => M80_L1 F a1 k14 a1.g.Entries 0)
def M50 (F : Nat) (a1 : TGraph) : Option Int :=
 (M65 F a1).bind fun y2 => (M80 F (Tprovenderref6_checker.mk a1 y2 false)).bind fun y4 => some y4
def M63_L1 (F : Nat) (a1 : (List (List UInt8))) (k3 : Option Int) : List (List UInt8) → Int → Option Int
  | [], n5 => k3
  | x7 :: tl1, n5 => (M91 F x7).bind fun y9 => if (!y9) = true then some 8
 else (M92 F a1 n5).bind fun y12 => if (y12 != 0) = true then some y12
 else M63_L1 F a1 k3 tl1 (n5 + 1)
def M63 (F : Nat) (a1 : (List (List UInt8))) : Option Int :=
 if (decide (((a1.length : Nat) : Int) > 30)) = true then some 3
 else jn (some 0) (fun k3 => M63_L1 F a1 k3 a1 0)
def M71_L1 (F : Nat) (a2 : (List UInt8)) (k3 : Option (TFunc × Bool)) : List TFunc → Option (TFunc × Bool)
  | [] => k3
  | x7 :: tl1 => if (x7.Name == a2) = true then some (x7, true)
 else M71_L1 F a2 k3 tl1
def M71 (F : Nat) (a1 : TGraph) (a2 : (List UInt8)) : Option (TFunc × Bool) :=
 jn (some ((TFunc.mk ([] : List UInt8) ([] : List UInt8) ([] : List TCall) ([] : List (List UInt8))), false)) (fun k3 => M71_L1 F a2 k3 a1.Funcs)
def M33_L1 (F : Nat) (a1 : TGraph) (k13 : Option Int) : List (List UInt8) → Option Int
  | [] => k13
  | x17 :: tl1 => (M71 F a1 x17).bind fun y19 => if (!(y19.2)) = true then some 4
 else M33_L1 F a1 k13 tl1
def M33_L2 (F : Nat) (a1 : TGraph) (k23 : Option Int) : List (List UInt8) → Option Int
  | [] => k23
  | x27 :: tl2 => (M71 F a1 x27).bind fun y29 => if (!(y29.2)) = true then some 4
 else M33_L2 F a1 k23 tl2
def M33 (F : Nat) (a1 : TGraph) (a2 : Int) (a3 : (List (List UInt8))) (a4 : (List (List UInt8))) : Option Int :=
 (M50 F a1).bind fun y5 => if (y5 != 0) = true then some y5
 else (M63 F a3).bind fun y8 => if (y8 != 0) = true then some y8
 else if (a2 != 1) = true then if (a2 != 2) = true then some 7
 else jn (some 0) (fun k13 => M33_L1 F a1 k13 a4)
 else jn (some 0) (fun k23 => M33_L2 F a1 k23 a4)
def M52_L1 (F : Nat) (a2 : (List UInt8)) (k3 : Option (TIface × Bool)) : List TIface → Option (TIface × Bool)
  | [] => k3
  | x7 :: tl1 => if (x7.Name == a2) = true then some (x7, true)
 else M52_L1 F a2 k3 tl1
def M52 (F : Nat) (a1 : TGraph) (a2 : (List UInt8)) : Option (TIface × Bool) :=
 jn (some ((TIface.mk ([] : List UInt8) ([] : List (List UInt8))), false)) (fun k3 => M52_L1 F a2 k3 a1.Ifaces)
def M81_L1 (F : Nat) (a2 : (List UInt8)) (k3 : Option ((List UInt8) × Bool)) : List TMethod → Option ((List UInt8) × Bool)
  | [] => k3
  | x7 :: tl1 => if (x7.Name == a2) = true then some (x7.Func, true)
 else M81_L1 F a2 k3 tl1
def M81 (F : Nat) (a1 : TType) (a2 : (List UInt8)) : Option ((List UInt8) × Bool) :=
 jn (some (([] : List UInt8), false)) (fun k3 => M81_L1 F a2 k3 a1.Methods)
def M53_L1 (F : Nat) (a1 : TType) (k3 : Option Bool) : List (List UInt8) → Option Bool
  | [] => k3
  | x7 :: tl1 => (M81 F a1 x7).bind fun y9 => if (!(y9.2)) = true then some false
 else M53_L1 F a1 k3 tl1
def M53 (F : Nat) (a1 : TType) (a2 : TIface) : Option Bool :=
 jn (some true) (fun k3 => M53_L1 F a1 k3 a2.Methods)
def M58_L1 (F : Nat) (a2 : TCall) (y4 : (TIface × Bool)) (k6 : (List Tprovenderref6_aim) → Option (List Tprovenderref6_aim)) : List TType → (List Tprovenderref6_aim) → Option (List Tprovenderref6_aim)
  | [], l11 => k6 l11
  | x15 :: tl1, l11 => jn (fun (l14 : List Tprovenderref6_aim) => M58_L1 F a2 y4 k6 tl1 l14) (fun k13 => (M81 F x15 a2.Method).bind fun y17 => if (y17.2) = true then (M53 F x15 (y4.1)).bind fun y20 => jn (fun (l23 : List Tprovenderref6_aim) => k13 l23) (fun k22 => if y20 = true then if (l11 ++ ([(Tprovenderref6_aim.mk x15.Name (y17.1))] : List Tprovenderref6_aim)).length * 32 ≤ 140737488355328 then k22 (l11 ++ ([(Tprovenderref6_aim.mk x15.Name (y17.1))] : List Tprovenderref6_aim)) else none
 else k22 l11)
 else k13 l11)
def M58 (F : Nat) (a1 : TGraph) (a2 : TCall) : Option (List Tprovenderref6_aim) :=
 if (a2.Kind == 1) = true then some ([(Tprovenderref6_aim.mk ([] : List UInt8) a2.Target)] : List Tprovenderref6_aim)
 else (M52 F a1 a2.Target).bind fun y4 => jn (fun (l7 : List Tprovenderref6_aim) => some l7) (fun k6 => M58_L1 F a2 y4 k6 a1.Types ([] : List Tprovenderref6_aim))
def M35_L3 (F : Nat) (a1 : TGraph) (m4 : List ((List UInt8) × Bool)) (x29 : TFunc) (k31 : (List (TCall × (List Tprovenderref6_aim))) → (List ((List UInt8) × (List Tprovenderref6_link))) → Option Tprovenderref6_net) : List TCall → Int → (List (TCall × (List Tprovenderref6_aim))) → (List ((List UInt8) × (List Tprovenderref6_link))) → Option Tprovenderref6_net
  | [], n37, m38, m39 => k31 m38 m39
  | x44 :: tl3, n37, m38, m39 => jn (fun (m42 : List (TCall × (List Tprovenderref6_aim))) (m43 : List ((List UInt8) × (List Tprovenderref6_link))) => M35_L3 F a1 m4 x29 k31 tl3 (n37 + 1) m42 m43) (fun k41 => if (!((mget m4 x44.Feature).getD false)) = true then k41 m38 m39
 else jn (fun (l48 : List Tprovenderref6_aim) (m49 : List (TCall × (List Tprovenderref6_aim))) => if (((mget m39 x29.Name).getD []) ++ ([(Tprovenderref6_link.mk (TSite.mk x29.Name n37) l48)] : List Tprovenderref6_link)).length * 48 ≤ 140737488355328 then k41 m49 (mput m39 x29.Name (((mget m39 x29.Name).getD []) ++ ([(Tprovenderref6_link.mk (TSite.mk x29.Name n37) l48)] : List Tprovenderref6_link))) else none) (fun k47 => if (!((mget m38 (TCall.mk x44.Kind x44.Target x44.Method ([] : List UInt8))).isSome)) = true then (M58 F a1 x44).bind fun y51 => k47 y51 (mput m38 (TCall.mk x44.Kind x44.Target x44.Method ([] : List UInt8)) y51)
 else k47 ((mget m38 (TCall.mk x44.Kind x44.Target x44.Method ([] : List UInt8))).getD ([] : (List Tprovenderref6_aim))) m38))
def M35_L2 (F : Nat) (a1 : TGraph) (m4 : List ((List UInt8) × Bool)) (k13 : (List ((List UInt8) × (List Tprovenderref6_link))) → (List ((List UInt8) × TFunc)) → Option Tprovenderref6_net) : List TFunc → (List (TCall × (List Tprovenderref6_aim))) → (List ((List UInt8) × (List Tprovenderref6_link))) → (List ((List UInt8) × TFunc)) → Option Tprovenderref6_net
 | [], m21, m22, m23 => k13 m22 m23
 | x29 :: tl2, m21, m22, m23 => jn (fun (m26 : List (TCall × (List Tprovenderref6_aim))) (m27 : List ((List UInt8) × (List Tprovenderref6_link))) (m28 : List ((List UInt8) × TFunc)) => M35_L2 F a1 m4 k13 tl2 m26 m27 m28) (fun k25 => jn (fun (m32 : List (TCall × (List Tprovenderref6_aim))) (m33 : List ((List UInt8) × (List Tprovenderref6_link))) => k25 m32 m33 (mput m23 x29.Name x29)) (fun k31 => M35_L3 F a1 m4 x29 k31 x29.Calls 0 m21 m22))
def M35_L1 (F : Nat) (k3 : (List ((List UInt8) × Bool)) → Option Tprovenderref6_net) : List (List UInt8) → (List ((List UInt8) × Bool)) → Option Tprovenderref6_net
 | [], m8 => k3 m8
 | x10 :: tl1, m8 => M35_L1 F k3 tl1 (mput m8 x10 true)
def M35 (F : Nat) (a1 : TGraph) (a2 : (List (List UInt8))) : Option Tprovenderref6_net :=
 jn (fun (m4 : List ((List UInt8) × Bool)) => jn (fun (m14 : List ((List UInt8) × (List Tprovenderref6_link))) (m15 : List ((List UInt8) × TFunc)) => some (Tprovenderref6_net.mk a1 m14 m15)) (fun k13 => M35_L2 F a1 m4 k13 a1.Funcs ([] : List (TCall × (List Tprovenderref6_aim))) ([] : List ((List UInt8) × (List Tprovenderref6_link))) ([] : List ((List UInt8) × TFunc)))) (fun k3 => M35_L1 F k3 a2 (mput ([] : List ((List UInt8) × Bool)) ([] : List UInt8) true))
def M73_L5 (F : Nat) (a2 : Int) (a3 : Tprovenderref6_sets) (k46 : (List ((List UInt8) × Bool)) → Option Tprovenderref6_sets) : List Tprovenderref6_aim → (List ((List UInt8) × Bool)) → Option Tprovenderref6_sets
  | [], m51 => k46 m51
  | x55 :: tl5, m51 => jn (fun (m54 : List ((List UInt8) × Bool)) => M73_L5 F a2 a3 k46 tl5 m54) (fun k53 => if (a2 == 1) = true then k53 (canonM (mput m51 x55.to true))
 else if (x55.typ == ([] : List UInt8)) = true then k53 (canonM (mput m51 x55.to true))
 else jn (fun (m60 : List ((List UInt8) × Bool)) => k53 m60) (fun k59 => if ((mget a3.made x55.typ).getD false) = true then k59 (canonM (mput m51 x55.to true))
 else k59 m51))
def M73_L4 (F : Nat) (a2 : Int) (a3 : Tprovenderref6_sets) (k35 : (List ((List UInt8) × Bool)) → Option Tprovenderref6_sets) : List Tprovenderref6_link → (List ((List UInt8) × Bool)) → Option Tprovenderref6_sets
 | [], m40 => k35 m40
 | x44 :: tl4, m40 => jn (fun (m43 : List ((List UInt8) × Bool)) => M73_L4 F a2 a3 k35 tl4 m43) (fun k42 => jn (fun (m47 : List ((List UInt8) × Bool)) => k42 m47) (fun k46 => M73_L5 F a2 a3 k46 x44.aims m40))
def M73_L3 (F : Nat) (k25 : (List ((List UInt8) × Bool)) → Option Tprovenderref6_sets) : List (List UInt8) → (List ((List UInt8) × Bool)) → Option Tprovenderref6_sets
 | [], m30 => k25 m30
 | x32 :: tl3, m30 => M73_L3 F k25 tl3 (canonM (mput m30 x32 true))
def M73_L2 (F : Nat) (a1 : Tprovenderref6_net) (a2 : Int) (a3 : Tprovenderref6_sets) : List ((List UInt8) × Bool) → (List ((List UInt8) × Bool)) → (List ((List UInt8) × Bool)) → Option Tprovenderref6_sets
 | [], m18, m19 => some (Tprovenderref6_sets.mk m18 m19)
 | e20 :: l21, m18, m19 => jn (fun (m23 : List ((List UInt8) × Bool)) (m24 : List ((List UInt8) × Bool)) => M73_L2 F a1 a2 a3 l21 m23 m24) (fun k22 => jn (fun (m26 : List ((List UInt8) × Bool)) => jn (fun (m36 : List ((List UInt8) × Bool)) => k22 m36 m26) (fun k35 => M73_L4 F a2 a3 k35 ((mget a1.links e20.1).getD ([] : (List Tprovenderref6_link))) (canonM (mput m18 e20.1 true)))) (fun k25 => M73_L3 F k25 (((mget a1.funcs e20.1).getD (TFunc.mk ([] : List UInt8) ([] : List UInt8) ([] : (List TCall)) ([] : (List (List UInt8))))).Makes) m19))
def M73_L1 (F : Nat) (k4 : (List ((List UInt8) × Bool)) → Option Tprovenderref6_sets) : List (List UInt8) → (List ((List UInt8) × Bool)) → Option Tprovenderref6_sets
 | [], m9 => k4 m9
 | x11 :: tl1, m9 => M73_L1 F k4 tl1 (canonM (mput m9 x11 true))
def M73 (F : Nat) (a1 : Tprovenderref6_net) (a2 : Int) (a3 : Tprovenderref6_sets) : Option Tprovenderref6_sets :=
 jn (fun (m5 : List ((List UInt8) × Bool)) => M73_L2 F a1 a2 a3 a3.reached m5 ([] : List ((List UInt8) × Bool))) (fun k4 => M73_L1 F k4 a1.g.Entries ([] : List ((List UInt8) × Bool)))
def M36_L1 (F : Nat) (a1 : Tprovenderref6_net) (a2 : Int) : Nat → (List ((List UInt8) × Bool)) → (List ((List UInt8) × Bool)) → Option Tprovenderref6_sets
 | 0, _, _ => none
 | n + 1, m5, m6 => (M73 F a1 a2 (Tprovenderref6_sets.mk m5 m6)).bind fun y7 => if (((y7.reached.length : Nat) : Int) == ((m5.length : Nat) : Int)) = true then if (((y7.made.length : Nat) : Int) == ((m6.length : Nat) : Int)) = true then some y7
 else M36_L1 F a1 a2 n y7.reached y7.made
 else M36_L1 F a1 a2 n y7.reached y7.made
def M36 (F : Nat) (a1 : Tprovenderref6_net) (a2 : Int) : Option Tprovenderref6_sets :=
 M36_L1 F a1 a2 F ([] : List ((List UInt8) × Bool)) ([] : List ((List UInt8) × Bool))
def M11 (F : Nat) : Option Bool := some true
def M19_L1 (F : Nat) (a1 : TGraph) (k13 : (List (List UInt8)) → Option ((List (List UInt8)) × Int)) : List Bool → Int → (List (List UInt8)) → Option ((List (List UInt8)) × Int)
  | [], n17, l18 => k13 l18
  | x20 :: tl1, n17, l18 => jn (fun (l23 : List (List UInt8)) => M19_L1 F a1 k13 tl1 (n17 + 1) l23) (fun k22 => if x20 = true then (idx a1.Types n17).bind fun x25 => if (l18 ++ ([x25.Name] : List (List UInt8))).length * 16 ≤ 140737488355328 then k22 (l18 ++ ([x25.Name] : List (List UInt8))) else none
 else k22 l18)
def M19 (F : Nat) (a1 : TGraph) (a2 : Int) (a3 : (List (List UInt8))) : Option ((List (List UInt8)) × Int) :=
 (M31 F a1 a2 a3).bind fun y4 => if ((y4.2) != 0) = true then some (([] : List (List UInt8)), (y4.2))
 else ((y4.1)).bind fun x7 => (M32 F x7 (-1)).bind fun y9 => (y9).bind fun x11 => jn (fun (l14 : List (List UInt8)) => some (l14, 0)) (fun k13 => M19_L1 F a1 k13 x11.made 0 ([] : List (List UInt8)))
def M42 (F : Nat) (a1 : List (List UInt8)) : Option (List (List UInt8)) := if a1.length < 4611686018427387904 then some (tsort a1) else none
def M43 (F : Nat) (a1 : List (List UInt8)) : Option (List (List UInt8)) := if a1.length ≤ 140737488355328 then some (cpt a1) else none
def M21_L1 (F : Nat) (a1 : TGraph) (k13 : (List (List UInt8)) → Option ((List (List UInt8)) × Int)) : List Bool → Int → (List (List UInt8)) → Option ((List (List UInt8)) × Int)
  | [], n17, l18 => k13 l18
  | x20 :: tl1, n17, l18 => jn (fun (l23 : List (List UInt8)) => M21_L1 F a1 k13 tl1 (n17 + 1) l23) (fun k22 => if x20 = true then (idx a1.Funcs n17).bind fun x25 => if (l18 ++ ([x25.Component] : List (List UInt8))).length * 16 ≤ 140737488355328 then k22 (l18 ++ ([x25.Component] : List (List UInt8))) else none
 else k22 l18)
def M21 (F : Nat) (a1 : TGraph) (a2 : Int) (a3 : (List (List UInt8))) : Option ((List (List UInt8)) × Int) :=
 (M31 F a1 a2 a3).bind fun y4 => if ((y4.2) != 0) = true then some (([] : List (List UInt8)), (y4.2))
 else ((y4.1)).bind fun x7 => (M32 F x7 (-1)).bind fun y9 => (y9).bind fun x11 => jn (fun (l14 : List (List UInt8)) => (M42 F l14).bind fun y29 => if y29.length = l14.length then (M43 F y29).bind fun y32 => some (y32, 0) else none) (fun k13 => M21_L1 F a1 k13 x11.funcs 0 ([] : List (List UInt8)))
def M83 (F : Nat) (a1 : List Int) : Option (List Int) := if a1.length < 4611686018427387904 then some (isort a1) else none
def M84 (F : Nat) (a1 : List Int) : Option (List Int) := if a1.length ≤ 140737488355328 then some (cpt a1) else none
def M56_L1 (F : Nat) (a1 : Treach_world) (a2 : TCall) (k4 : (List Int) → Option (List Int)) : List Int → (List Int) → Option (List Int)
 | [], l9 => k4 l9
 | x11 :: tl1, l9 => (M82 F a1 a2 x11).bind fun y13 => if (l9 ++ ([y13] : List Int)).length * 8 ≤ 140737488355328 then M56_L1 F a1 a2 k4 tl1 (l9 ++ ([y13] : List Int)) else none
def M56 (F : Nat) (a1 : Treach_world) (a2 : TCall) : Option (List Int) :=
 if (a2.Kind == 1) = true then some ([((mget a1.funcs a2.Target).getD 0)] : List Int)
 else jn (fun (l5 : List Int) => (M83 F l5).bind fun y17 => if y17.length = l5.length then (M84 F y17).bind fun y20 => some y20 else none) (fun k4 => M56_L1 F a1 a2 k4 ((mget a1.fitting a2.Target).getD ([] : (List Int))) ([] : List Int))
def M37 (F : Nat) (a1 : TGraph) (a2 : Int) (a3 : (List (List UInt8))) (a4 : (List UInt8)) : Option ((Option Treach_world) × Int × Int) :=
 (M31 F a1 a2 a3).bind fun y5 => if ((y5.2) != 0) = true then some ((none : Option Treach_world), 0, (y5.2))
 else ((y5.1)).bind fun x8 => if (!((mget x8.funcs a4).isSome)) = true then some ((none : Option Treach_world), 0, 4)
 else some ((some x8), ((mget x8.funcs a4).getD 0), 0)
def M85_L1 (F : Nat) (a1 : Treach_world) (a2 : Treach_spread) (a3 : (List TMadeBy)) (k4 : Option Bool) : List TMadeBy → Int → Option Bool
  | [], n6 => k4
  | x32 :: tl1, n6 => jn (fun (b9 : Bool) (b10 : Bool) (b11 : Bool) (b12 : Bool) (n13 : Int) (b14 : Bool) (b15 : Bool) (b16 : Bool) (n17 : Int) (s18 : List UInt8) (s19 : List UInt8) (l20 : List TCall) (l21 : List (List UInt8)) (s22 : List UInt8) (s23 : List UInt8) (l24 : List TCall) (l25 : List (List UInt8)) (l26 : List (List UInt8)) (s27 : List UInt8) (b28 : Bool) (b29 : Bool) (s30 : List UInt8) (s31 : List UInt8) => M85_L1 F a1 a2 a3 k4 tl1 (n6 + 1)) (fun k8 => if (!((mget a1.funcs x32.Func).isSome)) = true then some false
 else if (!((mget a1.types x32.Type_).isSome)) = true then some false
 else if (decide (n6 > 0)) = true then (idx a3 (w64 (n6 - 1))).bind fun x37 => if (Op.bytesLess x32.Type_ x37.Type_ || x32.Type_ == x37.Type_) = true then some false
 else (idx a2.funcs ((mget a1.funcs x32.Func).getD 0)).bind fun x40 => if (!x40) = true then some false
 else (idx a1.g.Funcs ((mget a1.funcs x32.Func).getD 0)).bind fun x43 => (M16 F x43.Makes x32.Type_).bind fun y45 => if (!y45) = true then some false
 else k8 ((mget a1.types x32.Type_).isSome) (!((mget a1.types x32.Type_).isSome)) true (Op.bytesLess x32.Type_ x37.Type_ || x32.Type_ == x37.Type_) ((mget a1.funcs x32.Func).getD 0) x40 x40 (!x40) ((mget a1.funcs x32.Func).getD 0) x43.Name x43.Component x43.Calls x43.Makes x43.Name x43.Component x43.Calls x43.Makes x43.Makes x32.Type_ y45 (!y45) x32.Type_ x32.Func
 else (idx a2.funcs ((mget a1.funcs x32.Func).getD 0)).bind fun x48 => if (!x48) = true then some false
 else (idx a1.g.Funcs ((mget a1.funcs x32.Func).getD 0)).bind fun x51 => (M16 F x51.Makes x32.Type_).bind fun y53 => if (!y53) = true then some false
 else k8 ((mget a1.types x32.Type_).isSome) (!((mget a1.types x32.Type_).isSome)) false false ((mget a1.funcs x32.Func).getD 0) x48 x48 (!x48) ((mget a1.funcs x32.Func).getD 0) x51.Name x51.Component x51.Calls x51.Makes x51.Name x51.Component x51.Calls x51.Makes x51.Makes x32.Type_ y53 (!y53) x32.Type_ x32.Func)
def M85 (F : Nat) (a1 : Treach_world) (a2 : Treach_spread) (a3 : (List TMadeBy)) : Option Bool :=
 jn (some true) (fun k4 => M85_L1 F a1 a2 a3 k4 a3 0)
def M86 (F : Nat) (a1 : Treach_world) (a2 : THop) (a3 : (List UInt8)) : Option (TCall × Bool) :=
 if (!((mget a1.funcs a3).isSome)) = true then some ((TCall.mk 0 ([] : List UInt8) ([] : List UInt8) ([] : List UInt8)), false)
 else if (!(a2.Site.Func == a3)) = true then some ((TCall.mk 0 ([] : List UInt8) ([] : List UInt8) ([] : List UInt8)), false)
 else if (decide (a2.Site.Call < 0)) = true then some ((TCall.mk 0 ([] : List UInt8) ([] : List UInt8) ([] : List UInt8)), false)
 else (idx a1.g.Funcs ((mget a1.funcs a3).getD 0)).bind fun x7 => if (decide (a2.Site.Call ≥ ((x7.Calls.length : Nat) : Int))) = true then some ((TCall.mk 0 ([] : List UInt8) ([] : List UInt8) ([] : List UInt8)), false)
 else (idx a1.g.Funcs ((mget a1.funcs a3).getD 0)).bind fun x10 => (idx x10.Calls a2.Site.Call).bind fun x12 => some (x12, ((mget a1.on x12.Feature).getD false))
def M88_L1 (F : Nat) (a1 : Treach_world) (a3 : TCall) (a4 : Int) (k5 : (List Int) → Option (List Int)) : List TMadeBy → Int → (List Int) → Option (List Int)
  | [], n9, l10 => k5 l10
  | x14 :: tl1, n9, l10 => jn (fun (l13 : List Int) => M88_L1 F a1 a3 a4 k5 tl1 (n9 + 1) l13) (fun k12 => (M87 F ((mget a1.fitting a3.Target).getD ([] : (List Int))) ((mget a1.types x14.Type_).getD 0)).bind fun y16 => if y16 = true then (M82 F a1 a3 ((mget a1.types x14.Type_).getD 0)).bind fun y19 => jn (fun (l22 : List Int) => k12 l22) (fun k21 => if (y19 == a4) = true then if (l10 ++ ([n9] : List Int)).length * 8 ≤ 140737488355328 then k21 (l10 ++ ([n9] : List Int)) else none
 else k21 l10)
 else k12 l10)
def M88 (F : Nat) (a1 : Treach_world) (a2 : (List TMadeBy)) (a3 : TCall) (a4 : Int) : Option (List Int) :=
 jn (fun (l6 : List Int) => some l6) (fun k5 => M88_L1 F a1 a3 a4 k5 a2 0 ([] : List Int))
def M117_L1 (F : Nat) (a2 : Bool) (k3 : Option Int) : List Bool → Int → Option Int
  | [], n5 => k3
  | x7 :: tl1, n5 => if (a2 == x7) = true then some n5
 else M117_L1 F a2 k3 tl1 (n5 + 1)
def M117 (F : Nat) (a1 : (List Bool)) (a2 : Bool) : Option Int :=
 jn (some (-1)) (fun k3 => M117_L1 F a2 k3 a1 0)
def M89 (F : Nat) (a1 : (List Bool)) (a2 : Bool) : Option Bool :=
 (M117 F a1 a2).bind fun y3 => some (decide (y3 ≥ 0))
def M59_L2 (F : Nat) (k58 : (List Bool) → Option Bool) : List Int → (List Bool) → Option Bool
 | [], l63 => k58 l63
 | x65 :: tl2, l63 => (idx l63 x65).bind fun x67 => M59_L2 F k58 tl2 (l63.set x65.toNat true)
def M59_L1 (F : Nat) (a1 : Treach_world) (a3 : TWitness) (k17 : (List UInt8) → (List Bool) → Option Bool) : List THop → (List UInt8) → (List Bool) → Option Bool
  | [], s23, l25 => k17 s23 l25
  | x40 :: tl1, s23, l25 => jn (fun (s28 : List UInt8) (b29 : Bool) (b30 : Bool) (n31 : Int) (s32 : List UInt8) (s33 : List UInt8) (s34 : List UInt8) (l35 : List Int) (n36 : Int) (b37 : Bool) (b38 : Bool) (l39 : List Bool) => M59_L1 F a1 a3 k17 tl1 s28 l39) (fun k27 => (M86 F a1 x40 s23).bind fun y42 => if (!(y42.2)) = true then some false
 else if (!((mget a1.funcs x40.To).isSome)) = true then some false
 else (M56 F a1 (y42.1)).bind fun y46 => (M87 F y46 ((mget a1.funcs x40.To).getD 0)).bind fun y48 => if (!y48) = true then some false
 else if a1.made = true then jn (fun (l53 : List Bool) => k27 x40.To ((mget a1.funcs x40.To).isSome) (!((mget a1.funcs x40.To).isSome)) ((y42.1).Kind) ((y42.1).Target) ((y42.1).Method) ((y42.1).Feature) y46 ((mget a1.funcs x40.To).getD 0) y48 (!y48) l53) (fun k52 => if ((y42.1).Kind == 2) = true then (M88 F a1 a3.Made (y42.1) ((mget a1.funcs x40.To).getD 0)).bind fun y55 => if (((y55.length : Nat) : Int) == 0) = true then some false
 else jn (fun (l59 : List Bool) => k52 l59) (fun k58 => M59_L2 F k58 y55 l25)
 else k52 l25)
 else k27 x40.To ((mget a1.funcs x40.To).isSome) (!((mget a1.funcs x40.To).isSome)) ((y42.1).Kind) ((y42.1).Target) ((y42.1).Method) ((y42.1).Feature) y46 ((mget a1.funcs x40.To).getD 0) y48 (!y48) l25)
def M59_L4 (F : Nat) (k116 : (List Bool) → Option Bool) : List Int → (List Bool) → Option Bool
 | [], l121 => k116 l121
 | x123 :: tl4, l121 => (idx l121 x123).bind fun x125 => M59_L4 F k116 tl4 (l121.set x123.toNat true)
def M59_L3 (F : Nat) (a1 : Treach_world) (a3 : TWitness) (k75 : (List UInt8) → (List Bool) → Option Bool) : List THop → (List UInt8) → (List Bool) → Option Bool
  | [], s81, l83 => k75 s81 l83
  | x98 :: tl3, s81, l83 => jn (fun (s86 : List UInt8) (b87 : Bool) (b88 : Bool) (n89 : Int) (s90 : List UInt8) (s91 : List UInt8) (s92 : List UInt8) (l93 : List Int) (n94 : Int) (b95 : Bool) (b96 : Bool) (l97 : List Bool) => M59_L3 F a1 a3 k75 tl3 s86 l97) (fun k85 => (M86 F a1 x98 s81).bind fun y100 => if (!(y100.2)) = true then some false
 else if (!((mget a1.funcs x98.To).isSome)) = true then some false
 else (M56 F a1 (y100.1)).bind fun y104 => (M87 F y104 ((mget a1.funcs x98.To).getD 0)).bind fun y106 => if (!y106) = true then some false
 else if a1.made = true then jn (fun (l111 : List Bool) => k85 x98.To ((mget a1.funcs x98.To).isSome) (!((mget a1.funcs x98.To).isSome)) ((y100.1).Kind) ((y100.1).Target) ((y100.1).Method) ((y100.1).Feature) y104 ((mget a1.funcs x98.To).getD 0) y106 (!y106) l111) (fun k110 => if ((y100.1).Kind == 2) = true then (M88 F a1 a3.Made (y100.1) ((mget a1.funcs x98.To).getD 0)).bind fun y113 => if (((y113.length : Nat) : Int) == 0) = true then some false
 else jn (fun (l117 : List Bool) => k110 l117) (fun k116 => M59_L4 F k116 y113 l83)
 else k110 l83)
 else k85 x98.To ((mget a1.funcs x98.To).isSome) (!((mget a1.funcs x98.To).isSome)) ((y100.1).Kind) ((y100.1).Target) ((y100.1).Method) ((y100.1).Feature) y104 ((mget a1.funcs x98.To).getD 0) y106 (!y106) l83)
def M59 (F : Nat) (a1 : Treach_world) (a2 : (List UInt8)) (a3 : TWitness) : Option Bool :=
 (M32 F a1 (-1)).bind fun y4 => (y4).bind fun x6 => (M16 F a1.g.Entries a3.Entry).bind fun y8 => if (!y8) = true then some false
 else (M85 F a1 x6 a3.Made).bind fun y11 => if (!y11) = true then some false
 else if (!a1.made) = true then if (decide (((a3.Made.length : Nat) : Int) > 0)) = true then some false
 else if 0 ≤ ((a3.Made.length : Nat) : Int) ∧ ((1 : Nat) : Int) * ((a3.Made.length : Nat) : Int) ≤ 140737488355328 ∧ ((a3.Made.length : Nat) : Int) ≤ 140737488355328 then jn (fun (s18 : List UInt8) (l19 : List Bool) => if (s18 == a2) = true then (M89 F l19 false).bind fun y72 => some (!y72)
 else some false) (fun k17 => M59_L1 F a1 a3 k17 a3.Hops a3.Entry (List.replicate (((a3.Made.length : Nat) : Int)).toNat (false : Bool))) else none
 else if 0 ≤ ((a3.Made.length : Nat) : Int) ∧ ((1 : Nat) : Int) * ((a3.Made.length : Nat) : Int) ≤ 140737488355328 ∧ ((a3.Made.length : Nat) : Int) ≤ 140737488355328 then jn (fun (s76 : List UInt8) (l77 : List Bool) => if (s76 == a2) = true then (M89 F l77 false).bind fun y130 => some (!y130)
 else some false) (fun k75 => M59_L3 F a1 a3 k75 a3.Hops a3.Entry (List.replicate (((a3.Made.length : Nat) : Int)).toNat (false : Bool))) else none
def M27 (F : Nat) (a1 : TGraph) (a2 : Int) (a3 : (List (List UInt8))) (a4 : (List UInt8)) (a5 : TWitness) : Option (Bool × Int) :=
 (M37 F a1 a2 a3 a4).bind fun y6 => if ((y6.2.2) != 0) = true then some (false, (y6.2.2))
 else ((y6.1)).bind fun x9 => (M59 F x9 a4 a5).bind fun y11 => some (y11, 0)
def M60_L2 (F : Nat) (x14 : TMadeBy) (k21 : Bool → Option Bool) : List (List UInt8) → Bool → Option Bool
  | [], b25 => k21 b25
  | x30 :: tl2, b25 => jn (fun (b29 : Bool) => M60_L2 F x14 k21 tl2 b29) (fun k28 => if b25 = true then k28 true
 else k28 (x30 == x14.Type_))
def M60_L3 (F : Nat) (x14 : TMadeBy) (k36 : Bool → Option Bool) : List (List UInt8) → Bool → Option Bool
  | [], b40 => k36 b40
  | x45 :: tl3, b40 => jn (fun (b44 : Bool) => M60_L3 F x14 k36 tl3 b44) (fun k43 => if b40 = true then k43 true
 else k43 (x45 == x14.Type_))
def M60_L1 (F : Nat) (a1 : Tprovenderref6_net) (a2 : Tprovenderref6_sets) (a3 : (List TMadeBy)) (k4 : Option Bool) : List TMadeBy → Int → Option Bool
  | [], n6 => k4
  | x14 :: tl1, n6 => jn (fun (s9 : List UInt8) (b10 : Bool) (b11 : Bool) (s12 : List UInt8) (s13 : List UInt8) => M60_L1 F a1 a2 a3 k4 tl1 (n6 + 1)) (fun k8 => if (decide (n6 > 0)) = true then (idx a3 (w64 (n6 - 1))).bind fun x17 => if (Op.bytesLess x14.Type_ x17.Type_ || x14.Type_ == x17.Type_) = true then some false
 else if (!((mget a2.reached x14.Func).getD false)) = true then some false
 else jn (fun (b22 : Bool) => if (!b22) = true then some false
 else k8 x14.Func ((mget a2.reached x14.Func).getD false) (!((mget a2.reached x14.Func).getD false)) x14.Type_ x14.Func) (fun k21 => M60_L2 F x14 k21 (((mget a1.funcs x14.Func).getD (TFunc.mk ([] : List UInt8) ([] : List UInt8) ([] : (List TCall)) ([] : (List (List UInt8))))).Makes) false)
 else if (!((mget a2.reached x14.Func).getD false)) = true then some false
 else jn (fun (b37 : Bool) => if (!b37) = true then some false
 else k8 x14.Func ((mget a2.reached x14.Func).getD false) (!((mget a2.reached x14.Func).getD false)) x14.Type_ x14.Func) (fun k36 => M60_L3 F x14 k36 (((mget a1.funcs x14.Func).getD (TFunc.mk ([] : List UInt8) ([] : List UInt8) ([] : (List TCall)) ([] : (List (List UInt8))))).Makes) false))
def M60 (F : Nat) (a1 : Tprovenderref6_net) (a2 : Tprovenderref6_sets) (a3 : (List TMadeBy)) : Option Bool :=
 jn (some true) (fun k4 => M60_L1 F a1 a2 a3 k4 a3 0)
def M28_L7 (F : Nat) (k122 : Option (Bool × Int)) : List Bool → Option (Bool × Int)
  | [] => k122
  | x126 :: tl7 => if (!x126) = true then some (false, 0)
 else M28_L7 F k122 tl7
def M28_L5 (F : Nat) (x78 : Tprovenderref6_aim) (k82 : (List Bool) → Option (Bool × Int)) : List TMadeBy → Int → (List Bool) → Option (Bool × Int)
  | [], n86, l87 => k82 l87
  | x91 :: tl5, n86, l87 => jn (fun (l90 : List Bool) => M28_L5 F x78 k82 tl5 (n86 + 1) l90) (fun k89 => if (!(x78.typ == ([] : List UInt8))) = true then jn (fun (l95 : List Bool) => k89 l95) (fun k94 => if (x91.Type_ == x78.typ) = true then (idx l87 n86).bind fun x97 => k94 (l87.set n86.toNat true)
 else k94 l87)
 else k89 l87)
def M28_L6 (F : Nat) (x78 : Tprovenderref6_aim) (k100 : (List Bool) → Option (Bool × Int)) : List TMadeBy → Int → (List Bool) → Option (Bool × Int)
  | [], n104, l105 => k100 l105
  | x109 :: tl6, n104, l105 => jn (fun (l108 : List Bool) => M28_L6 F x78 k100 tl6 (n104 + 1) l108) (fun k107 => if (!(x78.typ == ([] : List UInt8))) = true then jn (fun (l113 : List Bool) => k107 l113) (fun k112 => if (x109.Type_ == x78.typ) = true then (idx l105 n104).bind fun x115 => k112 (l105.set n104.toNat true)
 else k112 l105)
 else k107 l105)
def M28_L4 (F : Nat) (a5 : TWitness) (x46 : THop) (k65 : Bool → (List Bool) → Option (Bool × Int)) : List Tprovenderref6_aim → Bool → (List Bool) → Option (Bool × Int)
  | [], b71, l73 => k65 b71 l73
  | x78 :: tl4, b71, l73 => jn (fun (b76 : Bool) (l77 : List Bool) => M28_L4 F a5 x46 k65 tl4 b76 l77) (fun k75 => if (!(x78.to == x46.To)) = true then k75 b71 l73
 else if b71 = true then jn (fun (l83 : List Bool) => k75 true l83) (fun k82 => M28_L5 F x78 k82 a5.Made 0 l73)
 else jn (fun (l101 : List Bool) => k75 true l101) (fun k100 => M28_L6 F x78 k100 a5.Made 0 l73))
def M28_L3 (F : Nat) (a5 : TWitness) (x46 : THop) (k49 : Bool → (List Bool) → Option (Bool × Int)) : List Tprovenderref6_link → Bool → (List Bool) → Option (Bool × Int)
  | [], b55, l57 => k49 b55 l57
  | x62 :: tl3, b55, l57 => jn (fun (b60 : Bool) (l61 : List Bool) => M28_L3 F a5 x46 k49 tl3 b60 l61) (fun k59 => if (!(decide (x62.site = x46.Site))) = true then k59 b55 l57
 else jn (fun (b66 : Bool) (l67 : List Bool) => k59 b66 l67) (fun k65 => M28_L4 F a5 x46 k65 x62.aims b55 l57))
def M28_L2 (F : Nat) (a5 : TWitness) (y9 : Tprovenderref6_net) (k33 : (List UInt8) → (List Bool) → Option (Bool × Int)) : List THop → (List UInt8) → (List Bool) → Option (Bool × Int)
  | [], s39, l41 => k33 s39 l41
  | x46 :: tl2, s39, l41 => jn (fun (s44 : List UInt8) (l45 : List Bool) => M28_L2 F a5 y9 k33 tl2 s44 l45) (fun k43 => if (!(x46.Site.Func == s39)) = true then some (false, 0)
 else jn (fun (b50 : Bool) (l51 : List Bool) => if (!b50) = true then some (false, 0)
 else k43 x46.To l51) (fun k49 => M28_L3 F a5 x46 k49 ((mget y9.links s39).getD ([] : (List Tprovenderref6_link))) false l41))
def M28_L13 (F : Nat) (k230 : Option (Bool × Int)) : List Bool → Option (Bool × Int)
  | [] => k230
  | x234 :: tl13 => if (!x234) = true then some (false, 0)
 else M28_L13 F k230 tl13
def M28_L11 (F : Nat) (x181 : Tprovenderref6_aim) (k185 : (List Bool) → Option (Bool × Int)) : List TMadeBy → Int → (List Bool) → Option (Bool × Int)
  | [], n189, l190 => k185 l190
  | x194 :: tl11, n189, l190 => jn (fun (l193 : List Bool) => M28_L11 F x181 k185 tl11 (n189 + 1) l193) (fun k192 => if (!(x181.typ == ([] : List UInt8))) = true then jn (fun (l198 : List Bool) => k192 l198) (fun k197 => if (x194.Type_ == x181.typ) = true then (idx l190 n189).bind fun x200 => k197 (l190.set n189.toNat true)
 else k197 l190)
 else k192 l190)
def M28_L12 (F : Nat) (x181 : Tprovenderref6_aim) (k203 : Bool → (List Bool) → Option (Bool × Int)) : List TMadeBy → Int → Bool → (List Bool) → Option (Bool × Int)
  | [], n210, b209, l211 => k203 b209 l211
  | x216 :: tl12, n210, b209, l211 => jn (fun (b214 : Bool) (l215 : List Bool) => M28_L12 F x181 k203 tl12 (n210 + 1) b214 l215) (fun k213 => if (!(x181.typ == ([] : List UInt8))) = true then jn (fun (b220 : Bool) (l221 : List Bool) => k213 b220 l221) (fun k219 => if (x216.Type_ == x181.typ) = true then (idx l211 n210).bind fun x223 => k219 true (l211.set n210.toNat true)
 else k219 b209 l211)
 else k213 b209 l211)
def M28_L10 (F : Nat) (a5 : TWitness) (x149 : THop) (k168 : Bool → (List Bool) → Option (Bool × Int)) : List Tprovenderref6_aim → Bool → (List Bool) → Option (Bool × Int)
  | [], b174, l176 => k168 b174 l176
  | x181 :: tl10, b174, l176 => jn (fun (b179 : Bool) (l180 : List Bool) => M28_L10 F a5 x149 k168 tl10 b179 l180) (fun k178 => if (!(x181.to == x149.To)) = true then k178 b174 l176
 else if b174 = true then jn (fun (l186 : List Bool) => k178 true l186) (fun k185 => M28_L11 F x181 k185 a5.Made 0 l176)
 else jn (fun (b204 : Bool) (l205 : List Bool) => k178 b204 l205) (fun k203 => M28_L12 F x181 k203 a5.Made 0 (x181.typ == ([] : List UInt8)) l176))
def M28_L9 (F : Nat) (a5 : TWitness) (x149 : THop) (k152 : Bool → (List Bool) → Option (Bool × Int)) : List Tprovenderref6_link → Bool → (List Bool) → Option (Bool × Int)
  | [], b158, l160 => k152 b158 l160
  | x165 :: tl9, b158, l160 => jn (fun (b163 : Bool) (l164 : List Bool) => M28_L9 F a5 x149 k152 tl9 b163 l164) (fun k162 => if (!(decide (x165.site = x149.Site))) = true then k162 b158 l160
 else jn (fun (b169 : Bool) (l170 : List Bool) => k162 b169 l170) (fun k168 => M28_L10 F a5 x149 k168 x165.aims b158 l160))
def M28_L8 (F : Nat) (a5 : TWitness) (y9 : Tprovenderref6_net) (k136 : (List UInt8) → (List Bool) → Option (Bool × Int)) : List THop → (List UInt8) → (List Bool) → Option (Bool × Int)
  | [], s142, l144 => k136 s142 l144
  | x149 :: tl8, s142, l144 => jn (fun (s147 : List UInt8) (l148 : List Bool) => M28_L8 F a5 y9 k136 tl8 s147 l148) (fun k146 => if (!(x149.Site.Func == s142)) = true then some (false, 0)
 else jn (fun (b153 : Bool) (l154 : List Bool) => if (!b153) = true then some (false, 0)
 else k146 x149.To l154) (fun k152 => M28_L9 F a5 x149 k152 ((mget y9.links s142).getD ([] : (List Tprovenderref6_link))) false l144))
def M28_L1 (F : Nat) (a5 : TWitness) (k11 : Bool → Option (Bool × Int)) : List (List UInt8) → Bool → Option (Bool × Int)
  | [], b15 => k11 b15
  | x20 :: tl1, b15 => jn (fun (b19 : Bool) => M28_L1 F a5 k11 tl1 b19) (fun k18 => if b15 = true then k18 true
 else k18 (x20 == a5.Entry))
def M28 (F : Nat) (a1 : TGraph) (a2 : Int) (a3 : (List (List UInt8))) (a4 : (List UInt8)) (a5 : TWitness) : Option (Bool × Int) :=
 (M33 F a1 a2 a3 ([a4] : List (List UInt8))).bind fun y6 => if (y6 != 0) = true then some (false, y6)
 else (M35 F a1 a3).bind fun y9 => jn (fun (b12 : Bool) => if (!b12) = true then some (false, 0)
 else if (a2 == 1) = true then if (decide (((a5.Made.length : Nat) : Int) > 0)) = true then some (false, 0)
 else (M36 F y9 a2).bind fun y27 => (M60 F y9 y27 a5.Made).bind fun y29 => if (!y29) = true then some (false, 0)
 else if 0 ≤ ((a5.Made.length : Nat) : Int) ∧ ((1 : Nat) : Int) * ((a5.Made.length : Nat) : Int) ≤ 140737488355328 ∧ ((a5.Made.length : Nat) : Int) ≤ 140737488355328 then jn (fun (s34 : List UInt8) (l35 : List Bool) => jn (some ((s34 == a4), 0)) (fun k122 => M28_L7 F k122 l35)) (fun k33 => M28_L2 F a5 y9 k33 a5.Hops a5.Entry (List.replicate (((a5.Made.length : Nat) : Int)).toNat (false : Bool))) else none
 else (M36 F y9 a2).bind fun y130 => (M60 F y9 y130 a5.Made).bind fun y132 => if (!y132) = true then some (false, 0)
 else if 0 ≤ ((a5.Made.length : Nat) : Int) ∧ ((1 : Nat) : Int) * ((a5.Made.length : Nat) : Int) ≤ 140737488355328 ∧ ((a5.Made.length : Nat) : Int) ≤ 140737488355328 then jn (fun (s137 : List UInt8) (l138 : List Bool) => jn (some ((s137 == a4), 0)) (fun k230 => M28_L13 F k230 l138)) (fun k136 => M28_L8 F a5 y9 k136 a5.Hops a5.Entry (List.replicate (((a5.Made.length : Nat) : Int)).toNat (false : Bool))) else none) (fun k11 => M28_L1 F a5 k11 a1.Entries false)
def M7 (F : Nat) (a1 : TGraph) (a2 : Int) (a3 : (List (List UInt8))) (a4 : (List UInt8)) (a5 : TWitness) : Option Bool :=
 (M27 F a1 a2 a3 a4 a5).bind fun y6 => (M28 F a1 a2 a3 a4 a5).bind fun y8 => if ((y6.1) != (y8.1)) = true then some false
 else if ((y6.2) != (y8.2)) = true then some false
 else jn ((M11 F).bind fun y20 => some y20) (fun k12 => if (y6.1) = true then (M9 F a1 a2 a3).bind fun y14 => if ((y14.2) != 0) = true then some false
 else (M16 F (y14.1) a4).bind fun y17 => if (!y17) = true then some false
 else k12
 else k12)
end
end Go.Proofs.Ytpbkggamiipdmaa
namespace Go.Pv
open Go
theorem w64_id {n : Int} (h : -9223372036854775808 ≤ n) (h' : n ≤ 9223372036854775807) : w64 n = n := by
 have : w64 n = if n % 18446744073709551616 ≥ 9223372036854775808 then n % 18446744073709551616 - 18446744073709551616 else n % 18446744073709551616 := by
  simp [w64, IntKind.wrap, IntKind.signed, IntKind.bits]
 rw [this]
 split <;> omega
theorem jn_def {α β : Type} (k : α) (b : α → β) : jn k b = b k := rfl
theorem idx_nat {α : Type} {xs : List α} {j : Nat} (h : j < xs.length) : idx xs (j : Int) = some xs[j] := by
 simp [idx, h]
theorem if_t {α : Type} {p : Prop} [Decidable p] {x y : α} (h : p) : (if decide p = true then x else y) = x := by simp [h]
theorem if_f {α : Type} {p : Prop} [Decidable p] {x y : α} (h : ¬ p) : (if decide p = true then x else y) = y := by simp [h]
theorem mid_nat {a b : Nat} (h : a + b < 4611686018427387904) : w64 (Int.fdiv (IntKind.wrap .u64 (w64 ((a : Int) + (b : Int)))) (2 ^ (min (Int.toNat 1) (IntKind.bits .u64)))) = (((a + b) / 2 : Nat) : Int) := by
 rw [w64_id (n := (a : Int) + b) (by omega) (by omega)]
 have : IntKind.wrap .u64 ((a : Int) + b) = ((a + b : Nat) : Int) := by
  simp only [IntKind.wrap, IntKind.signed, IntKind.bits, Bool.false_and]
  simp
  omega
 rw [this]
 have e : (2 : Int) ^ (min (Int.toNat 1) (IntKind.bits .u64)) = 2 := by decide
 rw [e, Int.fdiv_eq_ediv_of_nonneg _ (by omega)]
 rw [w64_id (by omega) (by omega)]
 omega
theorem mget_mput {α β : Type} [DecidableEq α] (xs : List (α × β)) (k k' : α) (v : β) : mget (mput xs k v) k' = if k = k' then some v else mget xs k' := by
 induction xs with
 | nil => simp [mput, mget]
 | cons p r ih =>
  simp only [mput]
  split
  ·rename_i h
   simp only [mget, h]
   split <;> simp_all
  ·rename_i h
   simp only [mget]
   by_cases h2 : p.1 = k'
   ·rw [if_pos h2, if_pos h2, if_neg (fun e => h (h2.trans e.symm))]
   ·rw [if_neg h2, if_neg h2]; exact ih
end Go.Pv
