/- Part of the proof: Z5M, Q, X, XR, Z5OrdA. -/
import Derived.Test.YtpbkggamiipdmaaGreatS5Z5T
import Derived.Test.YtpbkggamiipdmaaGreatS5PvS
import Derived.Test.YtpbkggamiipdmaaGreatS5PvW
import Derived.Test.YtpbkggamiipdmaaGreatS5ZC
namespace Go.Proofs.YtpbkggamiipdmaaGreat
open Go Go.Pv
set_option linter.unusedVariables false
set_option maxRecDepth 100000
noncomputable section
def M59_L3 (F : Nat) (k23 : (List ((List UInt8) × Bool)) → Option Treach_checker) : List TFunc → (List ((List UInt8) × Bool)) → Option Treach_checker
 | [], m28 => k23 m28
 | x30 :: tl3, m28 => M59_L3 F k23 tl3 (mput m28 x30.Name true)
def M59_L2 (F : Nat) (k13 : (List ((List UInt8) × Bool)) → Option Treach_checker) : List TType → (List ((List UInt8) × Bool)) → Option Treach_checker
 | [], m18 => k13 m18
 | x20 :: tl2, m18 => M59_L2 F k13 tl2 (mput m18 x20.Name true)
def M59_L1 (F : Nat) (k3 : (List ((List UInt8) × TIface)) → Option Treach_checker) : List TIface → (List ((List UInt8) × TIface)) → Option Treach_checker
 | [], m8 => k3 m8
 | x10 :: tl1, m8 => M59_L1 F k3 tl1 (mput m8 x10.Name x10)
def M59 (F : Nat) (a1 : TGraph) (a2 : Bool) : Option Treach_checker :=
 jn (fun (m4 : List ((List UInt8) × TIface)) => jn (fun (m14 : List ((List UInt8) × Bool)) => jn (fun (m24 : List ((List UInt8) × Bool)) => some (Treach_checker.mk a2 m4 m14 m24)) (fun k23 => M59_L3 F k23 a1.Funcs ([] : List ((List UInt8) × Bool)))) (fun k13 => M59_L2 F k13 a1.Types ([] : List ((List UInt8) × Bool)))) (fun k3 => M59_L1 F k3 a1.Ifaces ([] : List ((List UInt8) × TIface)))
def M79_L1 (F : Nat) (a1 : (List UInt8)) (k2 : Option Bool) : Nat → Int → Option Bool
  | 0, n4 => k2
  | tl1 + 1, n4 => (idx a1 n4).bind fun c6 => if (decide ((c6.toNat : Int) < 33)) = true then some false
 else (idx a1 n4).bind fun c9 => if (decide ((c9.toNat : Int) > 126)) = true then some false
 else (idx a1 n4).bind fun c12 => if ((c12.toNat : Int) == 35) = true then some false
 else M79_L1 F a1 k2 tl1 (n4 + 1)
def M79 (F : Nat) (a1 : (List UInt8)) : Option Bool :=
 jn (if (!(a1 == ([] : List UInt8))) = true then some (decide ((a1.length : Int) ≤ 100))
 else some false) (fun k2 => if (a1.length : Int) ≤ 9223372036854775807 then M79_L1 F a1 k2 (((a1.length : Int) : Int).toNat) 0 else none)
def M173 (F : Nat) (a1 : (List UInt8)) (a2 : (List UInt8)) (a3 : Bool) : Option Int :=
 (M79 F a1).bind fun y4 => jn (some 0) (fun k6 => if (!y4) = true then some 8
 else if (!a3) = true then if (Op.bytesLess a1 a2 || a1 == a2) = true then some 10
 else k6
 else k6)
def M127_L2 (F : Nat) (k18 : Option Int) : List (List UInt8) → Int → (List UInt8) → Option Int
  | [], n22, s21 => k18
  | x24 :: tl2, n22, s21 => (M173 F x24 s21 (n22 == 0)).bind fun y26 => if (y26 != 0) = true then some y26
 else M127_L2 F k18 tl2 (n22 + 1) x24
def M127_L1 (F : Nat) (k3 : Option Int) : List TIface → Int → (List UInt8) → Option Int
  | [], n7, s6 => k3
  | x11 :: tl1, n7, s6 => jn (fun (s10 : List UInt8) => M127_L1 F k3 tl1 (n7 + 1) s10) (fun k9 => (M173 F x11.Name s6 (n7 == 0)).bind fun y13 => if (y13 != 0) = true then some y13
 else if (((x11.Methods.length : Nat) : Int) == 0) = true then some 13
 else if (decide (((x11.Methods.length : Nat) : Int) > 200)) = true then some 3
 else jn (k9 x11.Name) (fun k18 => M127_L2 F k18 x11.Methods 0 ([] : List UInt8)))
def M127 (F : Nat) (a1 : Treach_checker) (a2 : (List TIface)) : Option Int :=
 jn (some 0) (fun k3 => M127_L1 F k3 a2 0 ([] : List UInt8))
def M128_L2 (F : Nat) (a1 : Treach_checker) (k17 : Option Int) : List TMethod → Int → (List UInt8) → Option Int
  | [], n21, s20 => k17
  | x25 :: tl2, n21, s20 => jn (fun (s24 : List UInt8) => M128_L2 F a1 k17 tl2 (n21 + 1) s24) (fun k23 => (M173 F x25.Name s20 (n21 == 0)).bind fun y27 => if (y27 != 0) = true then some y27
 else if (!a1.loose) = true then if (!((mget a1.funcs x25.Func).getD false)) = true then some 4
 else k23 x25.Name
 else k23 x25.Name)
def M128_L1 (F : Nat) (a1 : Treach_checker) (k3 : Option Int) : List TType → Int → (List UInt8) → Option Int
  | [], n7, s6 => k3
  | x11 :: tl1, n7, s6 => jn (fun (s10 : List UInt8) => M128_L1 F a1 k3 tl1 (n7 + 1) s10) (fun k9 => (M173 F x11.Name s6 (n7 == 0)).bind fun y13 => if (y13 != 0) = true then some y13
 else if (decide (((x11.Methods.length : Nat) : Int) > 200)) = true then some 3
 else jn (k9 x11.Name) (fun k17 => M128_L2 F a1 k17 x11.Methods 0 ([] : List UInt8)))
def M128 (F : Nat) (a1 : Treach_checker) (a2 : (List TType)) : Option Int :=
 jn (some 0) (fun k3 => M128_L1 F a1 k3 a2 0 ([] : List UInt8))
def M86_L1 (F : Nat) (a2 : (List UInt8)) (k3 : Option Int) : List (List UInt8) → Int → Option Int
  | [], n5 => k3
  | x7 :: tl1, n5 => if (a2 == x7) = true then some n5
 else M86_L1 F a2 k3 tl1 (n5 + 1)
def M86 (F : Nat) (a1 : (List (List UInt8))) (a2 : (List UInt8)) : Option Int :=
 jn (some (-1)) (fun k3 => M86_L1 F a2 k3 a1 0)
def M23 (F : Nat) (a1 : (List (List UInt8))) (a2 : (List UInt8)) : Option Bool :=
 (M86 F a1 a2).bind fun y3 => some (decide (y3 ≥ 0))
def M174 (F : Nat) (a1 : Treach_checker) (a2 : TCall) : Option Int :=
 jn (if (!(a2.Feature == ([] : List UInt8))) = true then (M79 F a2.Feature).bind fun y16 => if (!y16) = true then some 8
 else some 0
 else some 0) (fun k3 => if (a2.Kind == 1) = true then if (!a1.loose) = true then if (!((mget a1.funcs a2.Target).getD false)) = true then some 4
 else if (!(a2.Method == ([] : List UInt8))) = true then some 2
 else k3
 else if (!(a2.Method == ([] : List UInt8))) = true then some 2
 else k3
 else if (a2.Kind == 2) = true then if (!a1.loose) = true then if (!((mget a1.ifaces a2.Target).isSome)) = true then some 4
 else (M23 F ((mget a1.ifaces a2.Target).getD (TIface.mk ([] : List UInt8) ([] : (List (List UInt8))))).Methods a2.Method).bind fun y12 => if (!y12) = true then some 4
 else k3
 else k3
 else some 7)
def M130_L1 (F : Nat) (a1 : Treach_checker) (a2 : (List (List UInt8))) (a3 : (List ((List UInt8) × Bool))) (k4 : Option Int) : List (List UInt8) → Int → Option Int
  | [], n6 => k4
  | x8 :: tl1, n6 => jn (M130_L1 F a1 a2 a3 k4 tl1 (n6 + 1)) (fun k10 => if (!a1.loose) = true then jn (k10) (fun k12 => if (!((mget a3 x8).getD false)) = true then some 4
 else if (decide (n6 > 0)) = true then (idx a2 (w64 (n6 - 1))).bind fun x15 => if (Op.bytesLess x8 x15 || x8 == x15) = true then some 10
 else k12
 else k12)
 else if (decide (n6 > 0)) = true then (idx a2 (w64 (n6 - 1))).bind fun x19 => if (Op.bytesLess x8 x19 || x8 == x19) = true then some 10
 else k10
 else k10)
def M130 (F : Nat) (a1 : Treach_checker) (a2 : (List (List UInt8))) (a3 : (List ((List UInt8) × Bool))) : Option Int :=
 jn (some 0) (fun k4 => M130_L1 F a1 a2 a3 k4 a2 0)
def M129_L2 (F : Nat) (a1 : Treach_checker) (k20 : Option Int) : List TCall → Option Int
  | [] => k20
  | x24 :: tl2 => (M174 F a1 x24).bind fun y26 => if (y26 != 0) = true then some y26
 else M129_L2 F a1 k20 tl2
def M129_L1 (F : Nat) (a1 : Treach_checker) (k3 : Option Int) : List TFunc → Int → (List UInt8) → Option Int
  | [], n7, s6 => k3
  | x11 :: tl1, n7, s6 => jn (fun (s10 : List UInt8) => M129_L1 F a1 k3 tl1 (n7 + 1) s10) (fun k9 => (M173 F x11.Name s6 (n7 == 0)).bind fun y13 => if (y13 != 0) = true then some y13
 else (M79 F x11.Component).bind fun y16 => if (!y16) = true then some 8
 else if (decide (((x11.Calls.length : Nat) : Int) > 200)) = true then some 3
 else jn ((M130 F a1 x11.Makes a1.types).bind fun y30 => if (y30 != 0) = true then some y30
 else k9 x11.Name) (fun k20 => M129_L2 F a1 k20 x11.Calls))
def M129 (F : Nat) (a1 : Treach_checker) (a2 : (List TFunc)) : Option Int :=
 jn (some 0) (fun k3 => M129_L1 F a1 k3 a2 0 ([] : List UInt8))
def M60 (F : Nat) (a1 : Treach_checker) (a2 : TGraph) : Option Int :=
 if (decide (((a2.Ifaces.length : Nat) : Int) > 200)) = true then some 3
 else if (decide (((a2.Types.length : Nat) : Int) > 500)) = true then some 3
 else if (decide (((a2.Funcs.length : Nat) : Int) > 3000)) = true then some 3
 else (M127 F a1 a2.Ifaces).bind fun y6 => if (y6 != 0) = true then some y6
 else (M128 F a1 a2.Types).bind fun y9 => if (y9 != 0) = true then some y9
 else (M129 F a1 a2.Funcs).bind fun y12 => if (y12 != 0) = true then some y12
 else (M130 F a1 a2.Entries a1.funcs).bind fun y15 => some y15
def M17 (F : Nat) (a1 : TGraph) : Option Int :=
 (M59 F a1 false).bind fun y2 => (M60 F y2 a1).bind fun y4 => some y4
def M143_L1 (F : Nat) (k3 : Option Int) : List (List UInt8) → Int → (List UInt8) → Option Int
  | [], n7, s6 => k3
  | x9 :: tl1, n7, s6 => (M173 F x9 s6 (n7 == 0)).bind fun y11 => if (y11 != 0) = true then some y11
 else M143_L1 F k3 tl1 (n7 + 1) x9
def M143 (F : Nat) (a1 : (List (List UInt8))) : Option Int :=
 if (decide (((a1.length : Nat) : Int) > 30)) = true then some 3
 else jn (some 0) (fun k3 => M143_L1 F k3 a1 0 ([] : List UInt8))
def M158 (F : Nat) (a1 : (List UInt8)) : Option Bool :=
 some (!(a1 == a1))
def M100 (F : Nat) (a1 : (List UInt8)) (a2 : (List UInt8)) : Option Int :=
 (M158 F a1).bind fun y3 => (M158 F a2).bind fun y5 => if y3 = true then if y5 = true then some 0
 else some (-1)
 else if y5 = true then some 1
 else if (Op.bytesLess a1 a2) = true then some (-1)
 else if (!(Op.bytesLess a1 a2 || a1 == a2)) = true then some 1
 else some 0
def M208 (F : Nat) (a1 : TMethod) (a2 : (List UInt8)) : Option Int :=
 (M100 F a1.Name a2).bind fun y3 => some y3
def M207_L1 (F : Nat) (a1 : (List TMethod)) (a2 : (List UInt8)) (k3 : Int → Option (Int × Bool)) : Nat → Int → Int → Option (Int × Bool)
 | 0, _, _ => none
 | n + 1, n7, n8 => if (decide (n7 < n8)) = true then (idx a1 (w64 (Int.fdiv (IntKind.wrap .u64 (w64 (n7 + n8))) (2 ^ (min (Int.toNat 1) (IntKind.bits .u64)))))).bind fun x10 => (M208 F x10 a2).bind fun y12 => jn (fun (n15 : Int) (n16 : Int) => M207_L1 F a1 a2 k3 n n15 n16) (fun k14 => if (decide (y12 < 0)) = true then k14 (w64 ((w64 (Int.fdiv (IntKind.wrap .u64 (w64 (n7 + n8))) (2 ^ (min (Int.toNat 1) (IntKind.bits .u64))))) + 1)) n8
 else k14 n7 (w64 (Int.fdiv (IntKind.wrap .u64 (w64 (n7 + n8))) (2 ^ (min (Int.toNat 1) (IntKind.bits .u64))))))
 else k3 n7
def M207 (F : Nat) (a1 : (List TMethod)) (a2 : (List UInt8)) : Option (Int × Bool) :=
 jn (fun (n4 : Int) => if (decide (n4 < ((a1.length : Nat) : Int))) = true then (idx a1 n4).bind fun x19 => (M208 F x19 a2).bind fun y21 => some (n4, (y21 == 0))
 else some (n4, false)) (fun k3 => M207_L1 F a1 a2 k3 F 0 ((a1.length : Nat) : Int))
def M169 (F : Nat) (a1 : TType) (a2 : (List UInt8)) : Option ((List UInt8) × Bool) :=
 (M207 F a1.Methods a2).bind fun y3 => if (!(y3.2)) = true then some (([] : List UInt8), false)
 else (idx a1.Methods (y3.1)).bind fun x6 => some (x6.Func, true)
def M117_L1 (F : Nat) (a1 : TType) (k3 : Option Bool) : List (List UInt8) → Option Bool
  | [] => k3
  | x7 :: tl1 => (M169 F a1 x7).bind fun y9 => if (!(y9.2)) = true then some false
 else M117_L1 F a1 k3 tl1
def M117 (F : Nat) (a1 : TType) (a2 : TIface) : Option Bool :=
 jn (some true) (fun k3 => M117_L1 F a1 k3 a2.Methods)
def M41_L5 (F : Nat) (k52 : (List ((List UInt8) × Bool)) → Option (Option Treach_world)) : List (List UInt8) → (List ((List UInt8) × Bool)) → Option (Option Treach_world)
 | [], m57 => k52 m57
 | x59 :: tl5, m57 => M41_L5 F k52 tl5 (mput m57 x59 true)
def M41_L4 (F : Nat) (x33 : TIface) (k35 : (List ((List UInt8) × (List Int))) → Option (Option Treach_world)) : List TType → Int → (List ((List UInt8) × (List Int))) → Option (Option Treach_world)
  | [], n39, m40 => k35 m40
  | x42 :: tl4, n39, m40 => (M117 F x42 x33).bind fun y44 => jn (fun (m47 : List ((List UInt8) × (List Int))) => M41_L4 F x33 k35 tl4 (n39 + 1) m47) (fun k46 => if y44 = true then if (((mget m40 x33.Name).getD []) ++ ([n39] : List Int)).length * 8 ≤ 140737488355328 then k46 (mput m40 x33.Name (((mget m40 x33.Name).getD []) ++ ([n39] : List Int))) else none
 else k46 m40)
def M41_L3 (F : Nat) (a1 : TGraph) (k24 : (List ((List UInt8) × (List Int))) → Option (Option Treach_world)) : List TIface → (List ((List UInt8) × (List Int))) → Option (Option Treach_world)
 | [], m29 => k24 m29
 | x33 :: tl3, m29 => jn (fun (m32 : List ((List UInt8) × (List Int))) => M41_L3 F a1 k24 tl3 m32) (fun k31 => jn (fun (m36 : List ((List UInt8) × (List Int))) => k31 m36) (fun k35 => M41_L4 F x33 k35 a1.Types 0 m29))
def M41_L2 (F : Nat) (k14 : (List ((List UInt8) × Int)) → Option (Option Treach_world)) : List TType → Int → (List ((List UInt8) × Int)) → Option (Option Treach_world)
 | [], n18, m19 => k14 m19
 | x21 :: tl2, n18, m19 => M41_L2 F k14 tl2 (n18 + 1) (mput m19 x21.Name n18)
def M41_L1 (F : Nat) (k4 : (List ((List UInt8) × Int)) → Option (Option Treach_world)) : List TFunc → Int → (List ((List UInt8) × Int)) → Option (Option Treach_world)
 | [], n8, m9 => k4 m9
 | x11 :: tl1, n8, m9 => M41_L1 F k4 tl1 (n8 + 1) (mput m9 x11.Name n8)
def M41 (F : Nat) (a1 : TGraph) (a2 : Int) (a3 : (List (List UInt8))) : Option (Option Treach_world) :=
 jn (fun (m5 : List ((List UInt8) × Int)) => jn (fun (m15 : List ((List UInt8) × Int)) => jn (fun (m25 : List ((List UInt8) × (List Int))) => jn (fun (m53 : List ((List UInt8) × Bool)) => some (some (Treach_world.mk a1 m5 m15 m25 m53 (a2 == 2)))) (fun k52 => M41_L5 F k52 a3 (mput ([] : List ((List UInt8) × Bool)) ([] : List UInt8) true))) (fun k24 => M41_L3 F a1 k24 a1.Ifaces ([] : List ((List UInt8) × (List Int))))) (fun k14 => M41_L2 F k14 a1.Types 0 ([] : List ((List UInt8) × Int)))) (fun k4 => M41_L1 F k4 a1.Funcs 0 ([] : List ((List UInt8) × Int)))
def M78 (F : Nat) (a1 : TGraph) (a2 : Int) (a3 : (List (List UInt8))) : Option ((Option Treach_world) × Int) :=
 (M17 F a1).bind fun y4 => if (y4 != 0) = true then some ((none : Option Treach_world), y4)
 else (M143 F a3).bind fun y7 => if (y7 != 0) = true then some ((none : Option Treach_world), y7)
 else if (a2 != 1) = true then if (a2 != 2) = true then some ((none : Option Treach_world), 7)
 else (M41 F a1 a2 a3).bind fun y12 => (y12).bind fun x14 => some ((some x14), 0)
 else (M41 F a1 a2 a3).bind fun y16 => (y16).bind fun x18 => some ((some x18), 0)
def M151 (F : Nat) (a1 : Treach_world) (a2 : TCall) (a3 : Int) : Option Int :=
 (idx a1.g.Types a3).bind fun x4 => (M169 F x4 a2.Method).bind fun y6 => some ((mget a1.funcs (y6.1)).getD 0)
def M152 (F : Nat) (a1 : List Int) : Option (List Int) := if a1.length < 4611686018427387904 then some (isort a1) else none
def M153 (F : Nat) (a1 : List Int) : Option (List Int) := if a1.length ≤ 140737488355328 then some (cpt a1) else none
def M92_L1 (F : Nat) (a1 : Treach_world) (a2 : TCall) (k4 : (List Int) → Option (List Int)) : List Int → (List Int) → Option (List Int)
 | [], l9 => k4 l9
 | x11 :: tl1, l9 => (M151 F a1 a2 x11).bind fun y13 => if (l9 ++ ([y13] : List Int)).length * 8 ≤ 140737488355328 then M92_L1 F a1 a2 k4 tl1 (l9 ++ ([y13] : List Int)) else none
def M92 (F : Nat) (a1 : Treach_world) (a2 : TCall) : Option (List Int) :=
 if (a2.Kind == 1) = true then some ([((mget a1.funcs a2.Target).getD 0)] : List Int)
 else jn (fun (l5 : List Int) => (M152 F l5).bind fun y17 => if y17.length = l5.length then (M153 F y17).bind fun y20 => some y20 else none) (fun k4 => M92_L1 F a1 a2 k4 ((mget a1.fitting a2.Target).getD ([] : (List Int))) ([] : List Int))
def M70 (F : Nat) (a1 : List (List UInt8)) : Option (List (List UInt8)) := if a1.length < 4611686018427387904 then some (tsort a1) else none
def M118_L1 (F : Nat) (k2 : Option Int) : List Int → Option Int
  | [] => k2
  | x6 :: tl1 => if (x6 != 0) = true then some x6
 else M118_L1 F k2 tl1
def M118 (F : Nat) (a1 : (List Int)) : Option Int :=
 jn (some 0) (fun k2 => M118_L1 F k2 a1)
def M145 (F : Nat) (a1 : TOuter) (a2 : TOuter) : Option Int :=
 (M100 F a1.Target a2.Target).bind fun y3 => (M100 F a1.Method a2.Method).bind fun y5 => (M118 F ([y3, y5] : List Int)).bind fun y7 => some y7
def M144 (F : Nat) (a1 : List TOuter) : Option (List TOuter) := srtM (fun x3 y4 => M145 F x3 y4) a1
def M80_L5 (F : Nat) (x91 : TFunc) (l96 : List (List UInt8)) : List (TOuter × Bool) → (List TOuter) → Option TSummary
 | [], l105 => (M70 F l96).bind fun y109 => if y109.length = l96.length then (M144 F l105).bind fun y112 => if y112.length = l105.length then some (TSummary.mk x91.Name y109 y112) else none else none
 | e106 :: l107, l105 => if (l105 ++ ([e106.1] : List TOuter)).length * 32 ≤ 140737488355328 then M80_L5 F x91 l96 l107 (l105 ++ ([e106.1] : List TOuter)) else none
def M80_L4 (F : Nat) (a1 : Treach_world) (m7 : List (TOuter × Bool)) (x91 : TFunc) : List (Int × Bool) → (List (List UInt8)) → Option TSummary
 | [], l96 => M80_L5 F x91 l96 m7 ([] : List TOuter)
 | e97 :: l98, l96 => (idx a1.g.Funcs e97.1).bind fun x99 => if (l96 ++ ([x99.Name] : List (List UInt8))).length * 16 ≤ 140737488355328 then M80_L4 F a1 m7 x91 l98 (l96 ++ ([x99.Name] : List (List UInt8))) else none
def M80_L3 (F : Nat) (a1 : Treach_world) (x3 : TFunc) (x41 : TCall) (k49 : (List (Int × Bool)) → (List (TOuter × Bool)) → (List Int) → Option TSummary) : List Int → (List (Int × Bool)) → (List (TOuter × Bool)) → (List Int) → Option TSummary
  | [], m58, m59, l60 => k49 m58 m59 l60
  | x62 :: tl3, m58, m59, l60 => jn (fun (m65 : List (Int × Bool)) (m66 : List (TOuter × Bool)) (l67 : List Int) => M80_L3 F a1 x3 x41 k49 tl3 m65 m66 l67) (fun k64 => (idx a1.g.Funcs x62).bind fun x68 => if (!(x68.Component == x3.Component)) = true then jn (fun (m72 : List (Int × Bool)) (m73 : List (TOuter × Bool)) (l74 : List Int) => k64 m72 m73 l74) (fun k71 => if (x41.Kind == 1) = true then k71 m58 (mput m59 (TOuter.mk x41.Target ([] : List UInt8)) true) l60
 else (idx a1.g.Funcs x62).bind fun x76 => if (x76.Component == x3.Component) = true then if (!((mget m58 x62).getD false)) = true then if (l60 ++ ([x62] : List Int)).length * 8 ≤ 140737488355328 then k71 (mput m58 x62 true) m59 (l60 ++ ([x62] : List Int)) else none
 else k71 m58 m59 l60
 else k71 m58 m59 l60)
 else (idx a1.g.Funcs x62).bind fun x81 => if (x81.Component == x3.Component) = true then jn (fun (m85 : List (Int × Bool)) (l86 : List Int) => k64 m85 m59 l86) (fun k84 => if (!((mget m58 x62).getD false)) = true then if (l60 ++ ([x62] : List Int)).length * 8 ≤ 140737488355328 then k84 (mput m58 x62 true) (l60 ++ ([x62] : List Int)) else none
 else k84 m58 l60)
 else k64 m58 m59 l60)
def M80_L2 (F : Nat) (a1 : Treach_world) (x3 : TFunc) (k24 : (List (Int × Bool)) → (List (TOuter × Bool)) → (List Int) → Option TSummary) : List TCall → (List (Int × Bool)) → (List (TOuter × Bool)) → (List Int) → Option TSummary
  | [], m33, m34, l35 => k24 m33 m34 l35
  | x41 :: tl2, m33, m34, l35 => jn (fun (m38 : List (Int × Bool)) (m39 : List (TOuter × Bool)) (l40 : List Int) => M80_L2 F a1 x3 k24 tl2 m38 m39 l40) (fun k37 => if (!((mget a1.on x41.Feature).getD false)) = true then k37 m33 m34 l35
 else jn (fun (m45 : List (TOuter × Bool)) => (M92 F a1 x41).bind fun y47 => jn (fun (m50 : List (Int × Bool)) (m51 : List (TOuter × Bool)) (l52 : List Int) => k37 m50 m51 l52) (fun k49 => M80_L3 F a1 x3 x41 k49 y47 m33 m45 l35)) (fun k44 => if (x41.Kind == 2) = true then k44 (mput m34 (TOuter.mk x41.Target x41.Method) true)
 else k44 m34))
def M80_L1 (F : Nat) (a1 : Treach_world) (x3 : TFunc) (k5 : (List (Int × Bool)) → (List (TOuter × Bool)) → Option TSummary) : Nat → (List (Int × Bool)) → (List (TOuter × Bool)) → (List Int) → Option TSummary
 | 0, _, _, _ => none
 | n + 1, m11, m12, l13 => if (decide (((l13.length : Nat) : Int) > 0)) = true then jn (fun (m16 : List (Int × Bool)) (m17 : List (TOuter × Bool)) (l18 : List Int) => M80_L1 F a1 x3 k5 n m16 m17 l18) (fun k15 => (idx l13 0).bind fun x19 => if 1 ≤ l13.length then (idx a1.g.Funcs x19).bind fun x22 => jn (fun (m25 : List (Int × Bool)) (m26 : List (TOuter × Bool)) (l27 : List Int) => k15 m25 m26 l27) (fun k24 => M80_L2 F a1 x3 k24 x22.Calls m11 m12 (l13.drop 1)) else none)
 else k5 m11 m12
def M80 (F : Nat) (a1 : Treach_world) (a2 : Int) : Option TSummary :=
 (idx a1.g.Funcs a2).bind fun x3 => jn (fun (m6 : List (Int × Bool)) (m7 : List (TOuter × Bool)) => (idx a1.g.Funcs a2).bind fun x91 => M80_L4 F a1 m7 x91 m6 ([] : List (List UInt8))) (fun k5 => M80_L1 F a1 x3 k5 F (mput ([] : List (Int × Bool)) a2 true) ([] : List (TOuter × Bool)) ([a2] : List Int))
def M19_L1 (F : Nat) (a2 : (List UInt8)) (x12 : Treach_world) (k10 : (List TSummary) → Option ((List TSummary) × Int)) : List TFunc → Int → (List TSummary) → Option ((List TSummary) × Int)
  | [], n16, l17 => k10 l17
  | x19 :: tl1, n16, l17 => jn (fun (l22 : List TSummary) => M19_L1 F a2 x12 k10 tl1 (n16 + 1) l22) (fun k21 => if (x19.Component == a2) = true then (M80 F x12 n16).bind fun y24 => if (l17 ++ ([y24] : List TSummary)).length * 64 ≤ 140737488355328 then k21 (l17 ++ ([y24] : List TSummary)) else none
 else k21 l17)
def M19 (F : Nat) (a1 : TGraph) (a2 : (List UInt8)) (a3 : (List (List UInt8))) : Option ((List TSummary) × Int) :=
 (M78 F a1 1 a3).bind fun y4 => if ((y4.2) != 0) = true then some (([] : List TSummary), (y4.2))
 else (M79 F a2).bind fun y7 => if (!y7) = true then some (([] : List TSummary), 8)
 else jn (fun (l11 : List TSummary) => some (l11, 0)) (fun k10 => ((y4.1)).bind fun x12 => M19_L1 F a2 x12 k10 a1.Funcs 0 ([] : List TSummary))
def M72_L4 (F : Nat) (k35 : (List ((List UInt8) × Bool)) → Option Tprovenderref6_names) : List TFunc → (List ((List UInt8) × Bool)) → Option Tprovenderref6_names
 | [], m40 => k35 m40
 | x42 :: tl4, m40 => M72_L4 F k35 tl4 (mput m40 x42.Name true)
def M72_L3 (F : Nat) (k25 : (List ((List UInt8) × Bool)) → Option Tprovenderref6_names) : List TType → (List ((List UInt8) × Bool)) → Option Tprovenderref6_names
 | [], m30 => k25 m30
 | x32 :: tl3, m30 => M72_L3 F k25 tl3 (mput m30 x32.Name true)
def M72_L2 (F : Nat) (x11 : TIface) (k13 : (List ((List UInt8) × (List ((List UInt8) × Bool)))) → Option Tprovenderref6_names) : List (List UInt8) → (List ((List UInt8) × (List ((List UInt8) × Bool)))) → Option Tprovenderref6_names
 | [], m18 => k13 m18
 | x20 :: tl2, m18 => if (mget m18 x11.Name).isSome = true then M72_L2 F x11 k13 tl2 (mput m18 x11.Name (mput ((mget m18 x11.Name).getD []) x20 true)) else none
def M72_L1 (F : Nat) (k2 : (List ((List UInt8) × (List ((List UInt8) × Bool)))) → Option Tprovenderref6_names) : List TIface → (List ((List UInt8) × (List ((List UInt8) × Bool)))) → Option Tprovenderref6_names
 | [], m7 => k2 m7
 | x11 :: tl1, m7 => jn (fun (m10 : List ((List UInt8) × (List ((List UInt8) × Bool)))) => M72_L1 F k2 tl1 m10) (fun k9 => jn (fun (m14 : List ((List UInt8) × (List ((List UInt8) × Bool)))) => k9 m14) (fun k13 => M72_L2 F x11 k13 x11.Methods (mput m7 x11.Name ([] : List ((List UInt8) × Bool)))))
def M72 (F : Nat) (a1 : TGraph) : Option Tprovenderref6_names :=
 jn (fun (m3 : List ((List UInt8) × (List ((List UInt8) × Bool)))) => jn (fun (m26 : List ((List UInt8) × Bool)) => jn (fun (m36 : List ((List UInt8) × Bool)) => some (Tprovenderref6_names.mk m3 m26 m36)) (fun k35 => M72_L4 F k35 a1.Funcs ([] : List ((List UInt8) × Bool)))) (fun k25 => M72_L3 F k25 a1.Types ([] : List ((List UInt8) × Bool)))) (fun k2 => M72_L1 F k2 a1.Ifaces ([] : List ((List UInt8) × (List ((List UInt8) × Bool)))))
def M82_L1 (F : Nat) (a1 : (List UInt8)) (k2 : Option Bool) : Nat → Int → Option Bool
  | 0, n4 => k2
  | tl1 + 1, n4 => (idx a1 n4).bind fun c6 => if (decide ((c6.toNat : Int) < 33)) = true then some false
 else (idx a1 n4).bind fun c9 => if (decide ((c9.toNat : Int) > 126)) = true then some false
 else (idx a1 n4).bind fun c12 => if ((c12.toNat : Int) == 35) = true then some false
 else M82_L1 F a1 k2 tl1 (n4 + 1)
def M82 (F : Nat) (a1 : (List UInt8)) : Option Bool :=
 jn (if (decide ((a1.length : Int) ≥ 1)) = true then some (decide ((a1.length : Int) ≤ 100))
 else some false) (fun k2 => if (a1.length : Int) ≤ 9223372036854775807 then M82_L1 F a1 k2 (((a1.length : Int) : Int).toNat) 0 else none)
def M139 (F : Nat) (a1 : (List (List UInt8))) (a2 : Int) : Option Int :=
 if (decide (a2 > 0)) = true then (idx a1 a2).bind fun x4 => (idx a1 (w64 (a2 - 1))).bind fun x6 => if (Op.bytesLess x4 x6 || x4 == x6) = true then some 10
 else some 0
 else some 0
def M136_L2 (F : Nat) (x10 : TIface) (k18 : Option Int) : List (List UInt8) → Int → Option Int
  | [], n20 => k18
  | x22 :: tl2, n20 => (M82 F x22).bind fun y24 => if (!y24) = true then some 8
 else (M139 F x10.Methods n20).bind fun y27 => if (y27 != 0) = true then some y27
 else M136_L2 F x10 k18 tl2 (n20 + 1)
def M136_L1 (F : Nat) (k2 : Option Int) : List TIface → (List UInt8) → Option Int
  | [], s5 => k2
  | x10 :: tl1, s5 => jn (fun (s9 : List UInt8) => M136_L1 F k2 tl1 s9) (fun k8 => (M82 F x10.Name).bind fun y12 => if (!y12) = true then some 8
 else if (Op.bytesLess x10.Name s5 || x10.Name == s5) = true then some 10
 else if (((x10.Methods.length : Nat) : Int) == 0) = true then some 13
 else if (decide (((x10.Methods.length : Nat) : Int) > 200)) = true then some 3
 else jn (k8 x10.Name) (fun k18 => M136_L2 F x10 k18 x10.Methods 0))
def M136 (F : Nat) (a1 : Tprovenderref6_checker) : Option Int :=
 jn (some 0) (fun k2 => M136_L1 F k2 a1.g.Ifaces ([] : List UInt8))
def M137_L2 (F : Nat) (a1 : Tprovenderref6_checker) (k17 : Option Int) : List TMethod → (List UInt8) → Option Int
  | [], s20 => k17
  | x23 :: tl2, s20 => (M82 F x23.Name).bind fun y25 => jn (M137_L2 F a1 k17 tl2 x23.Name) (fun k27 => if (!y25) = true then some 8
 else if (Op.bytesLess x23.Name s20 || x23.Name == s20) = true then some 10
 else if (!a1.loose) = true then if (!((mget a1.n.funcs x23.Func).getD false)) = true then some 4
 else k27
 else k27)
def M137_L1 (F : Nat) (a1 : Tprovenderref6_checker) (k2 : Option Int) : List TType → (List UInt8) → Option Int
  | [], s5 => k2
  | x10 :: tl1, s5 => jn (fun (s9 : List UInt8) => M137_L1 F a1 k2 tl1 s9) (fun k8 => (M82 F x10.Name).bind fun y12 => if (!y12) = true then some 8
 else if (Op.bytesLess x10.Name s5 || x10.Name == s5) = true then some 10
 else if (decide (((x10.Methods.length : Nat) : Int) > 200)) = true then some 3
 else jn (k8 x10.Name) (fun k17 => M137_L2 F a1 k17 x10.Methods ([] : List UInt8)))
def M137 (F : Nat) (a1 : Tprovenderref6_checker) : Option Int :=
 jn (some 0) (fun k2 => M137_L1 F a1 k2 a1.g.Types ([] : List UInt8))
def M187 (F : Nat) (a1 : Tprovenderref6_checker) (a2 : TCall) : Option Int :=
 jn (if (!(a2.Feature == ([] : List UInt8))) = true then (M82 F a2.Feature).bind fun y15 => if (!y15) = true then some 8
 else some 0
 else some 0) (fun k3 => if (a2.Kind == 1) = true then if (!a1.loose) = true then if (!((mget a1.n.funcs a2.Target).getD false)) = true then some 4
 else if (!(a2.Method == ([] : List UInt8))) = true then some 2
 else k3
 else if (!(a2.Method == ([] : List UInt8))) = true then some 2
 else k3
 else if (a2.Kind == 2) = true then if ((mget a1.n.ifaces a2.Target).isSome) = true then if (!a1.loose) = true then if (!((mget ((mget a1.n.ifaces a2.Target).getD []) a2.Method).getD false)) = true then some 4
 else k3
 else k3
 else if (!a1.loose) = true then some 4
 else k3
 else some 7)
def M138_L3 (F : Nat) (a1 : Tprovenderref6_checker) (x10 : TFunc) (k30 : Option Int) : List (List UInt8) → Int → Option Int
  | [], n32 => k30
  | x35 :: tl3, n32 => jn (M138_L3 F a1 x10 k30 tl3 (n32 + 1)) (fun k34 => if (!a1.loose) = true then if (!((mget a1.n.types x35).getD false)) = true then some 4
 else (M139 F x10.Makes n32).bind fun y39 => if (y39 != 0) = true then some y39
 else k34
 else (M139 F x10.Makes n32).bind fun y42 => if (y42 != 0) = true then some y42
 else k34)
def M138_L2 (F : Nat) (a1 : Tprovenderref6_checker) (k20 : Option Int) : List TCall → Option Int
  | [] => k20
  | x24 :: tl2 => (M187 F a1 x24).bind fun y26 => if (y26 != 0) = true then some y26
 else M138_L2 F a1 k20 tl2
def M138_L1 (F : Nat) (a1 : Tprovenderref6_checker) (k2 : Option Int) : List TFunc → (List UInt8) → Option Int
  | [], s5 => k2
  | x10 :: tl1, s5 => jn (fun (s9 : List UInt8) => M138_L1 F a1 k2 tl1 s9) (fun k8 => (M82 F x10.Name).bind fun y12 => if (!y12) = true then some 8
 else if (Op.bytesLess x10.Name s5 || x10.Name == s5) = true then some 10
 else (M82 F x10.Component).bind fun y16 => if (!y16) = true then some 8
 else if (decide (((x10.Calls.length : Nat) : Int) > 200)) = true then some 3
 else jn (jn (k8 x10.Name) (fun k30 => M138_L3 F a1 x10 k30 x10.Makes 0)) (fun k20 => M138_L2 F a1 k20 x10.Calls))
def M138 (F : Nat) (a1 : Tprovenderref6_checker) : Option Int :=
 jn (some 0) (fun k2 => M138_L1 F a1 k2 a1.g.Funcs ([] : List UInt8))
def M73_L1 (F : Nat) (a1 : Tprovenderref6_checker) (k14 : Option Int) : List (List UInt8) → Int → Option Int
  | [], n16 => k14
  | x19 :: tl1, n16 => jn (M73_L1 F a1 k14 tl1 (n16 + 1)) (fun k18 => if (!a1.loose) = true then if (!((mget a1.n.funcs x19).getD false)) = true then some 4
 else (M139 F a1.g.Entries n16).bind fun y23 => if (y23 != 0) = true then some y23
 else k18
 else (M139 F a1.g.Entries n16).bind fun y26 => if (y26 != 0) = true then some y26
 else k18)
def M73 (F : Nat) (a1 : Tprovenderref6_checker) : Option Int :=
 if (decide (((a1.g.Ifaces.length : Nat) : Int) > 200)) = true then some 3
 else if (decide (((a1.g.Types.length : Nat) : Int) > 500)) = true then some 3
 else if (decide (((a1.g.Funcs.length : Nat) : Int) > 3000)) = true then some 3
 else (M136 F a1).bind fun y5 => if (y5 != 0) = true then some y5
 else (M137 F a1).bind fun y8 => if (y8 != 0) = true then some y8
 else (M138 F a1).bind fun y11 => if (y11 != 0) = true then some y11
 else jn (some 0) (fun k14 => M73_L1 F a1 k14 a1.g.Entries 0)
def M18 (F : Nat) (a1 : TGraph) : Option Int :=
 (M72 F a1).bind fun y2 => (M73 F (Tprovenderref6_checker.mk a1 y2 false)).bind fun y4 => some y4
def M81_L1 (F : Nat) (a1 : (List (List UInt8))) (k3 : Option Int) : List (List UInt8) → Int → Option Int
  | [], n5 => k3
  | x7 :: tl1, n5 => (M82 F x7).bind fun y9 => if (!y9) = true then some 8
 else (M139 F a1 n5).bind fun y12 => if (y12 != 0) = true then some y12
 else M81_L1 F a1 k3 tl1 (n5 + 1)
def M81 (F : Nat) (a1 : (List (List UInt8))) : Option Int :=
 if (decide (((a1.length : Nat) : Int) > 30)) = true then some 3
 else jn (some 0) (fun k3 => M81_L1 F a1 k3 a1 0)
def M190_L1 (F : Nat) (a2 : (List UInt8)) (k3 : Option (TIface × Bool)) : List TIface → Option (TIface × Bool)
  | [] => k3
  | x7 :: tl1 => if (x7.Name == a2) = true then some (x7, true)
 else M190_L1 F a2 k3 tl1
def M190 (F : Nat) (a1 : TGraph) (a2 : (List UInt8)) : Option (TIface × Bool) :=
 jn (some ((TIface.mk ([] : List UInt8) ([] : List (List UInt8))), false)) (fun k3 => M190_L1 F a2 k3 a1.Ifaces)
def M191_L1 (F : Nat) (a2 : (List UInt8)) (k3 : Option ((List UInt8) × Bool)) : List TMethod → Option ((List UInt8) × Bool)
  | [] => k3
  | x7 :: tl1 => if (x7.Name == a2) = true then some (x7.Func, true)
 else M191_L1 F a2 k3 tl1
def M191 (F : Nat) (a1 : TType) (a2 : (List UInt8)) : Option ((List UInt8) × Bool) :=
 jn (some (([] : List UInt8), false)) (fun k3 => M191_L1 F a2 k3 a1.Methods)
def M192_L1 (F : Nat) (a1 : TType) (k3 : Option Bool) : List (List UInt8) → Option Bool
  | [] => k3
  | x7 :: tl1 => (M191 F a1 x7).bind fun y9 => if (!(y9.2)) = true then some false
 else M192_L1 F a1 k3 tl1
def M192 (F : Nat) (a1 : TType) (a2 : TIface) : Option Bool :=
 jn (some true) (fun k3 => M192_L1 F a1 k3 a2.Methods)
def M146_L1 (F : Nat) (a2 : TCall) (y4 : (TIface × Bool)) (k6 : (List Tprovenderref6_aim) → Option (List Tprovenderref6_aim)) : List TType → (List Tprovenderref6_aim) → Option (List Tprovenderref6_aim)
  | [], l11 => k6 l11
  | x15 :: tl1, l11 => jn (fun (l14 : List Tprovenderref6_aim) => M146_L1 F a2 y4 k6 tl1 l14) (fun k13 => (M191 F x15 a2.Method).bind fun y17 => if (y17.2) = true then (M192 F x15 (y4.1)).bind fun y20 => jn (fun (l23 : List Tprovenderref6_aim) => k13 l23) (fun k22 => if y20 = true then if (l11 ++ ([(Tprovenderref6_aim.mk x15.Name (y17.1))] : List Tprovenderref6_aim)).length * 32 ≤ 140737488355328 then k22 (l11 ++ ([(Tprovenderref6_aim.mk x15.Name (y17.1))] : List Tprovenderref6_aim)) else none
 else k22 l11)
 else k13 l11)
def M146 (F : Nat) (a1 : TGraph) (a2 : TCall) : Option (List Tprovenderref6_aim) :=
 if (a2.Kind == 1) = true then some ([(Tprovenderref6_aim.mk ([] : List UInt8) a2.Target)] : List Tprovenderref6_aim)
 else (M190 F a1 a2.Target).bind fun y4 => jn (fun (l7 : List Tprovenderref6_aim) => some l7) (fun k6 => M146_L1 F a2 y4 k6 a1.Types ([] : List Tprovenderref6_aim))
def M83_L3 (F : Nat) (a1 : TGraph) (m4 : List ((List UInt8) × Bool)) (x29 : TFunc) (k31 : (List (TCall × (List Tprovenderref6_aim))) → (List ((List UInt8) × (List Tprovenderref6_link))) → Option Tprovenderref6_net) : List TCall → Int → (List (TCall × (List Tprovenderref6_aim))) → (List ((List UInt8) × (List Tprovenderref6_link))) → Option Tprovenderref6_net
  | [], n37, m38, m39 => k31 m38 m39
  | x44 :: tl3, n37, m38, m39 => jn (fun (m42 : List (TCall × (List Tprovenderref6_aim))) (m43 : List ((List UInt8) × (List Tprovenderref6_link))) => M83_L3 F a1 m4 x29 k31 tl3 (n37 + 1) m42 m43) (fun k41 => if (!((mget m4 x44.Feature).getD false)) = true then k41 m38 m39
 else jn (fun (l48 : List Tprovenderref6_aim) (m49 : List (TCall × (List Tprovenderref6_aim))) => if (((mget m39 x29.Name).getD []) ++ ([(Tprovenderref6_link.mk (TSite.mk x29.Name n37) l48)] : List Tprovenderref6_link)).length * 48 ≤ 140737488355328 then k41 m49 (mput m39 x29.Name (((mget m39 x29.Name).getD []) ++ ([(Tprovenderref6_link.mk (TSite.mk x29.Name n37) l48)] : List Tprovenderref6_link))) else none) (fun k47 => if (!((mget m38 (TCall.mk x44.Kind x44.Target x44.Method ([] : List UInt8))).isSome)) = true then (M146 F a1 x44).bind fun y51 => k47 y51 (mput m38 (TCall.mk x44.Kind x44.Target x44.Method ([] : List UInt8)) y51)
 else k47 ((mget m38 (TCall.mk x44.Kind x44.Target x44.Method ([] : List UInt8))).getD ([] : (List Tprovenderref6_aim))) m38))
def M83_L2 (F : Nat) (a1 : TGraph) (m4 : List ((List UInt8) × Bool)) (k13 : (List ((List UInt8) × (List Tprovenderref6_link))) → (List ((List UInt8) × TFunc)) → Option Tprovenderref6_net) : List TFunc → (List (TCall × (List Tprovenderref6_aim))) → (List ((List UInt8) × (List Tprovenderref6_link))) → (List ((List UInt8) × TFunc)) → Option Tprovenderref6_net
 | [], m21, m22, m23 => k13 m22 m23
 | x29 :: tl2, m21, m22, m23 => jn (fun (m26 : List (TCall × (List Tprovenderref6_aim))) (m27 : List ((List UInt8) × (List Tprovenderref6_link))) (m28 : List ((List UInt8) × TFunc)) => M83_L2 F a1 m4 k13 tl2 m26 m27 m28) (fun k25 => jn (fun (m32 : List (TCall × (List Tprovenderref6_aim))) (m33 : List ((List UInt8) × (List Tprovenderref6_link))) => k25 m32 m33 (mput m23 x29.Name x29)) (fun k31 => M83_L3 F a1 m4 x29 k31 x29.Calls 0 m21 m22))
def M83_L1 (F : Nat) (k3 : (List ((List UInt8) × Bool)) → Option Tprovenderref6_net) : List (List UInt8) → (List ((List UInt8) × Bool)) → Option Tprovenderref6_net
 | [], m8 => k3 m8
 | x10 :: tl1, m8 => M83_L1 F k3 tl1 (mput m8 x10 true)
def M83 (F : Nat) (a1 : TGraph) (a2 : (List (List UInt8))) : Option Tprovenderref6_net :=
 jn (fun (m4 : List ((List UInt8) × Bool)) => jn (fun (m14 : List ((List UInt8) × (List Tprovenderref6_link))) (m15 : List ((List UInt8) × TFunc)) => some (Tprovenderref6_net.mk a1 m14 m15)) (fun k13 => M83_L2 F a1 m4 k13 a1.Funcs ([] : List (TCall × (List Tprovenderref6_aim))) ([] : List ((List UInt8) × (List Tprovenderref6_link))) ([] : List ((List UInt8) × TFunc)))) (fun k3 => M83_L1 F k3 a2 (mput ([] : List ((List UInt8) × Bool)) ([] : List UInt8) true))
def M161_L1 (F : Nat) (k9 : (List (List UInt8)) → Option (List (List UInt8))) : Nat → (List (List UInt8)) → (List (List UInt8)) → (List (List UInt8)) → Option (List (List UInt8))
 | 0, _, _, _ => none
 | n + 1, l14, l15, l16 => if (decide (((l14.length : Nat) : Int) > 0)) = true then if (((l15.length : Nat) : Int) == 0) = true then (idx l14 0).bind fun x19 => if (l16 ++ ([x19] : List (List UInt8))).length * 16 ≤ 140737488355328 then if 1 ≤ l14.length then M161_L1 F k9 n (l14.drop 1) l15 (l16 ++ ([x19] : List (List UInt8))) else none else none
 else (idx l14 0).bind fun x23 => (idx l15 0).bind fun x25 => jn (fun (l28 : List (List UInt8)) (l29 : List (List UInt8)) (l30 : List (List UInt8)) => M161_L1 F k9 n l28 l29 l30) (fun k27 => if (Op.bytesLess x23 x25 || x23 == x25) = true then (idx l14 0).bind fun x32 => if (l16 ++ ([x32] : List (List UInt8))).length * 16 ≤ 140737488355328 then if 1 ≤ l14.length then k27 (l14.drop 1) l15 (l16 ++ ([x32] : List (List UInt8))) else none else none
 else (idx l15 0).bind fun x36 => if (l16 ++ ([x36] : List (List UInt8))).length * 16 ≤ 140737488355328 then if 1 ≤ l15.length then k27 l14 (l15.drop 1) (l16 ++ ([x36] : List (List UInt8))) else none else none)
 else if (decide (((l15.length : Nat) : Int) > 0)) = true then if (((l15.length : Nat) : Int) == 0) = true then (idx l14 0).bind fun x42 => if (l16 ++ ([x42] : List (List UInt8))).length * 16 ≤ 140737488355328 then if 1 ≤ l14.length then M161_L1 F k9 n (l14.drop 1) l15 (l16 ++ ([x42] : List (List UInt8))) else none else none
 else (idx l15 0).bind fun x46 => if (l16 ++ ([x46] : List (List UInt8))).length * 16 ≤ 140737488355328 then if 1 ≤ l15.length then M161_L1 F k9 n l14 (l15.drop 1) (l16 ++ ([x46] : List (List UInt8))) else none else none
 else k9 l16
def M161_B (R161 : (List (List UInt8)) → Option (List (List UInt8))) (F : Nat) (a1 : (List (List UInt8))) : Option (List (List UInt8)) :=
 if (decide (((a1.length : Nat) : Int) < 2)) = true then some a1
 else if 0 ≤ (w64 (Int.tdiv ((a1.length : Nat) : Int) 2)) ∧ (w64 (Int.tdiv ((a1.length : Nat) : Int) 2)).toNat ≤ a1.length then (R161 (a1.take (w64 (Int.tdiv ((a1.length : Nat) : Int) 2)).toNat)).bind fun y4 => if 0 ≤ (w64 (Int.tdiv ((a1.length : Nat) : Int) 2)) ∧ (w64 (Int.tdiv ((a1.length : Nat) : Int) 2)).toNat ≤ a1.length then (R161 (a1.drop (w64 (Int.tdiv ((a1.length : Nat) : Int) 2)).toNat)).bind fun y7 => jn (fun (l10 : List (List UInt8)) => some l10) (fun k9 => M161_L1 F k9 F y4 y7 ([] : List (List UInt8))) else none else none
def M161 : Nat → (List (List UInt8)) → Option (List (List UInt8))
 | 0, _ => none
 | F + 1, a1 => M161_B (M161 F) F a1
def M105_L1 (F : Nat) : List ((List UInt8) × Bool) → (List (List UInt8)) → Option (List (List UInt8))
 | [], l4 => (M161 F l4).bind fun y9 => some y9
 | e6 :: l7, l4 => if (l4 ++ ([e6.1] : List (List UInt8))).length * 16 ≤ 140737488355328 then M105_L1 F l7 (l4 ++ ([e6.1] : List (List UInt8))) else none
def M105 (F : Nat) (a1 : (List ((List UInt8) × Bool))) : Option (List (List UInt8)) :=
 M105_L1 F a1 ([] : List (List UInt8))
def M84_L5 (F : Nat) (l83 : List TOuter) (e84 : TOuter × Bool) (k88 : Int → Option TSummary) : Nat → Int → Option TSummary
 | 0, _ => none
 | n + 1, n91 => if (decide (n91 > 0)) = true then (idx l83 (w64 (n91 - 1))).bind fun x93 => if (!(Op.bytesLess x93.Target e84.1.Target || x93.Target == e84.1.Target)) = true then M84_L5 F l83 e84 k88 n (w64 (n91 - 1))
 else (idx l83 (w64 (n91 - 1))).bind fun x96 => if (x96.Target == e84.1.Target) = true then (idx l83 (w64 (n91 - 1))).bind fun x99 => if (!(Op.bytesLess x99.Method e84.1.Method || x99.Method == e84.1.Method)) = true then M84_L5 F l83 e84 k88 n (w64 (n91 - 1))
 else k88 n91
 else k88 n91
 else k88 n91
def M84_L4 (F : Nat) (a2 : (List UInt8)) (y78 : (List (List UInt8))) : List (TOuter × Bool) → (List TOuter) → Option TSummary
 | [], l83 => some (TSummary.mk a2 y78 l83)
 | e84 :: l85, l83 => jn (fun (l87 : List TOuter) => M84_L4 F a2 y78 l85 l87) (fun k86 => jn (fun (n89 : Int) => if 0 ≤ n89 ∧ n89.toNat ≤ l83.length then if (([] : List TOuter) ++ (l83.take n89.toNat)).length * 32 ≤ 140737488355328 then if ((([] : List TOuter) ++ (l83.take n89.toNat)) ++ ([e84.1] : List TOuter)).length * 32 ≤ 140737488355328 then if 0 ≤ n89 ∧ n89.toNat ≤ l83.length then if (((([] : List TOuter) ++ (l83.take n89.toNat)) ++ ([e84.1] : List TOuter)) ++ (l83.drop n89.toNat)).length * 32 ≤ 140737488355328 then k86 (((([] : List TOuter) ++ (l83.take n89.toNat)) ++ ([e84.1] : List TOuter)) ++ (l83.drop n89.toNat)) else none else none else none else none else none) (fun k88 => if l83.length < F then M84_L5 F l83 e84 k88 F ((l83.length : Nat) : Int) else none))
def M84_L3 (F : Nat) (a1 : Tprovenderref6_net) (a3 : (List UInt8)) (k48 : (List ((List UInt8) × Bool)) → (List (List UInt8)) → (List (TOuter × Bool)) → Option TSummary) : List Tprovenderref6_aim → (List ((List UInt8) × Bool)) → (List (List UInt8)) → (List (TOuter × Bool)) → Option TSummary
  | [], m57, l58, m59 => k48 m57 l58 m59
  | x65 :: tl3, m57, l58, m59 => jn (fun (m62 : List ((List UInt8) × Bool)) (l63 : List (List UInt8)) (m64 : List (TOuter × Bool)) => M84_L3 F a1 a3 k48 tl3 m62 l63 m64) (fun k61 => if (!(((mget a1.funcs x65.to).getD (TFunc.mk ([] : List UInt8) ([] : List UInt8) ([] : (List TCall)) ([] : (List (List UInt8))))).Component == a3)) = true then jn (fun (m69 : List (TOuter × Bool)) => k61 m57 l58 m69) (fun k68 => if (x65.typ == ([] : List UInt8)) = true then k68 (mput m59 (TOuter.mk x65.to ([] : List UInt8)) true)
 else k68 m59)
 else jn (fun (m72 : List ((List UInt8) × Bool)) (l73 : List (List UInt8)) => k61 m72 l73 m59) (fun k71 => if (!((mget m57 x65.to).getD false)) = true then if (l58 ++ ([x65.to] : List (List UInt8))).length * 16 ≤ 140737488355328 then k71 (mput m57 x65.to true) (l58 ++ ([x65.to] : List (List UInt8))) else none
 else k71 m57 l58))
def M84_L2 (F : Nat) (a1 : Tprovenderref6_net) (a3 : (List UInt8)) (n11 : Int) (k22 : (List ((List UInt8) × Bool)) → (List (List UInt8)) → (List (TOuter × Bool)) → Option TSummary) : List Tprovenderref6_link → (List ((List UInt8) × Bool)) → (List (List UInt8)) → (List (TOuter × Bool)) → Option TSummary
  | [], m31, l32, m33 => k22 m31 l32 m33
  | x39 :: tl2, m31, l32, m33 => jn (fun (m36 : List ((List UInt8) × Bool)) (l37 : List (List UInt8)) (m38 : List (TOuter × Bool)) => M84_L2 F a1 a3 n11 k22 tl2 m36 l37 m38) (fun k35 => (idx l32 n11).bind fun x41 => (idx ((mget a1.funcs x41).getD (TFunc.mk ([] : List UInt8) ([] : List UInt8) ([] : (List TCall)) ([] : (List (List UInt8))))).Calls x39.site.Call).bind fun x43 => jn (fun (m46 : List (TOuter × Bool)) => jn (fun (m49 : List ((List UInt8) × Bool)) (l50 : List (List UInt8)) (m51 : List (TOuter × Bool)) => k35 m49 l50 m51) (fun k48 => M84_L3 F a1 a3 k48 x39.aims m31 l32 m46)) (fun k45 => if (x43.Kind == 2) = true then k45 (mput m33 (TOuter.mk x43.Target x43.Method) true)
 else k45 m33))
def M84_L1 (F : Nat) (a1 : Tprovenderref6_net) (a3 : (List UInt8)) (k4 : (List ((List UInt8) × Bool)) → (List (TOuter × Bool)) → Option TSummary) : Nat → Int → (List ((List UInt8) × Bool)) → (List (List UInt8)) → (List (TOuter × Bool)) → Option TSummary
 | 0, _, _, _, _ => none
 | n + 1, n11, m12, l13, m14 => if (decide (n11 < ((l13.length : Nat) : Int))) = true then jn (fun (m17 : List ((List UInt8) × Bool)) (l18 : List (List UInt8)) (m19 : List (TOuter × Bool)) => M84_L1 F a1 a3 k4 n (w64 (n11 + 1)) m17 l18 m19) (fun k16 => (idx l13 n11).bind fun x20 => jn (fun (m23 : List ((List UInt8) × Bool)) (l24 : List (List UInt8)) (m25 : List (TOuter × Bool)) => k16 m23 l24 m25) (fun k22 => M84_L2 F a1 a3 n11 k22 ((mget a1.links x20).getD ([] : (List Tprovenderref6_link))) m12 l13 m14))
 else k4 m12 m14
def M84 (F : Nat) (a1 : Tprovenderref6_net) (a2 : (List UInt8)) (a3 : (List UInt8)) : Option TSummary :=
 jn (fun (m5 : List ((List UInt8) × Bool)) (m6 : List (TOuter × Bool)) => (M105 F m5).bind fun y78 => M84_L4 F a2 y78 m6 ([] : List TOuter)) (fun k4 => M84_L1 F a1 a3 k4 F 0 (mput ([] : List ((List UInt8) × Bool)) a2 true) ([a2] : List (List UInt8)) ([] : List (TOuter × Bool)))
def M20_L1 (F : Nat) (a2 : (List UInt8)) (y13 : Tprovenderref6_net) (k15 : (List TSummary) → Option ((List TSummary) × Int)) : List TFunc → (List TSummary) → Option ((List TSummary) × Int)
  | [], l20 => k15 l20
  | x22 :: tl1, l20 => jn (fun (l25 : List TSummary) => M20_L1 F a2 y13 k15 tl1 l25) (fun k24 => if (x22.Component == a2) = true then (M84 F y13 x22.Name a2).bind fun y27 => if (l20 ++ ([y27] : List TSummary)).length * 64 ≤ 140737488355328 then k24 (l20 ++ ([y27] : List TSummary)) else none
 else k24 l20)
def M20 (F : Nat) (a1 : TGraph) (a2 : (List UInt8)) (a3 : (List (List UInt8))) : Option ((List TSummary) × Int) :=
 (M18 F a1).bind fun y4 => if (y4 != 0) = true then some (([] : List TSummary), y4)
 else (M81 F a3).bind fun y7 => if (y7 != 0) = true then some (([] : List TSummary), y7)
 else (M82 F a2).bind fun y10 => if (!y10) = true then some (([] : List TSummary), 8)
 else (M83 F a1 a3).bind fun y13 => jn (fun (l16 : List TSummary) => some (l16, 0)) (fun k15 => M20_L1 F a2 y13 k15 a1.Funcs ([] : List TSummary))
def M26_L1 (F : Nat) (a2 : (List (List UInt8))) (k4 : Option Bool) : List (List UInt8) → Int → Option Bool
  | [], n6 => k4
  | x8 :: tl1, n6 => (idx a2 n6).bind fun x10 => if (!(x8 == x10)) = true then some false
 else M26_L1 F a2 k4 tl1 (n6 + 1)
def M26 (F : Nat) (a1 : (List (List UInt8))) (a2 : (List (List UInt8))) : Option Bool :=
 if (((a1.length : Nat) : Int) != ((a2.length : Nat) : Int)) = true then some false
 else jn (some true) (fun k4 => M26_L1 F a2 k4 a1 0)
def M85_L1 (F : Nat) (a2 : (List TOuter)) (k4 : Option Bool) : List TOuter → Int → Option Bool
  | [], n6 => k4
  | x8 :: tl1, n6 => (idx a2 n6).bind fun x10 => if (!(decide (x8 = x10))) = true then some false
 else M85_L1 F a2 k4 tl1 (n6 + 1)
def M85 (F : Nat) (a1 : (List TOuter)) (a2 : (List TOuter)) : Option Bool :=
 if (((a1.length : Nat) : Int) != ((a2.length : Nat) : Int)) = true then some false
 else jn (some true) (fun k4 => M85_L1 F a2 k4 a1 0)
def M22 (F : Nat) (a1 : TSummary) (a2 : TSummary) : Option Bool :=
 if (a1.Func == a2.Func) = true then (M26 F a1.Within a2.Within).bind fun y4 => if y4 = true then (M85 F a1.Outer a2.Outer).bind fun y7 => some y7
 else some false
 else some false
def M21_L1 (F : Nat) (a2 : (List TSummary)) (k4 : Option Bool) : List TSummary → Int → Option Bool
  | [], n6 => k4
  | x8 :: tl1, n6 => (idx a2 n6).bind fun x10 => (M22 F x8 x10).bind fun y12 => if (!y12) = true then some false
 else M21_L1 F a2 k4 tl1 (n6 + 1)
def M21 (F : Nat) (a1 : (List TSummary)) (a2 : (List TSummary)) : Option Bool :=
 if (((a1.length : Nat) : Int) != ((a2.length : Nat) : Int)) = true then some false
 else jn (some true) (fun k4 => M21_L1 F a2 k4 a1 0)
def M14 (F : Nat) : Option Bool := some true
def M5 (F : Nat) (a1 : TGraph) (a2 : (List UInt8)) (a3 : (List (List UInt8))) : Option Bool :=
 (M19 F a1 a2 a3).bind fun y4 => (M20 F a1 a2 a3).bind fun y6 => if ((y4.2) == (y6.2)) = true then (M21 F (y4.1) (y6.1)).bind fun y9 => if y9 = true then (M14 F).bind fun y12 => some y12
 else some false
 else some false
end
end Go.Proofs.YtpbkggamiipdmaaGreat
namespace Go.Pv
open Go
theorem w64_id {n : Int} (h : -9223372036854775808 ≤ n) (h' : n ≤ 9223372036854775807) : w64 n = n := by
 have : w64 n = if n % 18446744073709551616 ≥ 9223372036854775808 then n % 18446744073709551616 - 18446744073709551616 else n % 18446744073709551616 := by
  simp [w64, IntKind.wrap, IntKind.signed, IntKind.bits]
 rw [this]
 split <;> omega
theorem jn_def {α β : Type} (k : α) (b : α → β) : jn k b = b k := rfl
theorem idx_nat {α : Type} {xs : List α} {j : Nat} (h : j < xs.length) : idx xs (j : Int) = some xs[j] := by
 simp [idx, h]
theorem if_t {α : Type} {p : Prop} [Decidable p] {x y : α} (h : p) : (if decide p = true then x else y) = x := by simp [h]
theorem if_f {α : Type} {p : Prop} [Decidable p] {x y : α} (h : ¬ p) : (if decide p = true then x else y) = y := by simp [h]
theorem mid_nat {a b : Nat} (h : a + b < 4611686018427387904) : w64 (Int.fdiv (IntKind.wrap .u64 (w64 ((a : Int) + (b : Int)))) (2 ^ (min (Int.toNat 1) (IntKind.bits .u64)))) = (((a + b) / 2 : Nat) : Int) := by
 rw [w64_id (n := (a : Int) + b) (by omega) (by omega)]
 have : IntKind.wrap .u64 ((a : Int) + b) = ((a + b : Nat) : Int) := by
  simp only [IntKind.wrap, IntKind.signed, IntKind.bits, Bool.false_and]
  simp
  omega
 rw [this]
 have e : (2 : Int) ^ (min (Int.toNat 1) (IntKind.bits .u64)) = 2 := by decide
 rw [e, Int.fdiv_eq_ediv_of_nonneg _ (by omega)]
 rw [w64_id (by omega) (by omega)]
 omega
theorem mget_mput {α β : Type} [DecidableEq α] (xs : List (α × β)) (k k' : α) (v : β) : mget (mput xs k v) k' = if k = k' then some v else mget xs k' := by
 induction xs with
 | nil => simp [mput, mget]
 | cons p r ih =>
  simp only [mput]
  split
  ·rename_i h
   simp only [mget, h]
   split <;> simp_all
  ·rename_i h
   simp only [mget]
   by_cases h2 : p.1 = k'
   ·rw [if_pos h2, if_pos h2, if_neg (fun e => h (h2.trans e.symm))]
   ·rw [if_neg h2, if_neg h2]; exact ih
theorem bl_cons (x : UInt8) (a : List UInt8) (y : UInt8) (b : List UInt8) : Op.bytesLess (x :: a) (y :: b) = (decide (x < y) || (x == y && Op.bytesLess a b)) := by
 rw [Op.bytesLess]
theorem bl_irrefl : ∀ a : List UInt8, Op.bytesLess a a = false
 | [] => by simp [Op.bytesLess]
 | x :: a => by rw [bl_cons, bl_irrefl a]; simp
theorem bl_trans : ∀ {a b c : List UInt8}, Op.bytesLess a b = true → Op.bytesLess b c = true → Op.bytesLess a c = true
 | [], [], _, h, _ => by simp [Op.bytesLess] at h
 | [], y :: b, [], _, h => by simp [Op.bytesLess] at h
 | [], y :: b, z :: c, _, _ => by simp [Op.bytesLess]
 | x :: a, [], _, h, _ => by simp [Op.bytesLess] at h
 | x :: a, y :: b, [], _, h => by simp [Op.bytesLess] at h
 | x :: a, y :: b, z :: c, h, g => by
  rw [bl_cons] at *
  simp only [Bool.or_eq_true, decide_eq_true_eq, Bool.and_eq_true, beq_iff_eq, UInt8.lt_iff_toNat_lt] at *
  rcases h with h | ⟨rfl, h⟩ <;> rcases g with g | ⟨rfl, g⟩
  ·exact .inl (by omega)
  ·exact .inl h
  ·exact .inl g
  ·exact .inr ⟨rfl, bl_trans h g⟩
theorem bl_tri : ∀ a b : List UInt8, Op.bytesLess a b = true ∨ a = b ∨ Op.bytesLess b a = true
 | [], [] => by simp
 | [], y :: b => by simp [Op.bytesLess]
 | x :: a, [] => by simp [Op.bytesLess]
 | x :: a, y :: b => by
  rw [bl_cons, bl_cons]
  simp only [Bool.or_eq_true, decide_eq_true_eq, Bool.and_eq_true, beq_iff_eq, UInt8.lt_iff_toNat_lt, List.cons.injEq]
  rcases Nat.lt_trichotomy x.toNat y.toNat with h | h | h
  ·exact .inl (.inl h)
  ·have := UInt8.toNat_inj.1 h
   subst this
   rcases bl_tri a b with h | h | h
   ·exact .inl (.inr ⟨rfl, h⟩)
   ·exact .inr (.inl ⟨rfl, h⟩)
   ·exact .inr (.inr (.inr ⟨rfl, h⟩))
  ·exact .inr (.inr (.inl h))
theorem bl_asymm {a b : List UInt8} (h : Op.bytesLess a b = true) : Op.bytesLess b a = false := by
 cases h' : Op.bytesLess b a with
 | false => rfl
 | true => have := bl_trans h h'; rw [bl_irrefl] at this; simp at this
theorem bl_ne {a b : List UInt8} (h : Op.bytesLess a b = true) : a ≠ b := by rintro rfl; rw [bl_irrefl] at h; simp at h
theorem bl_gt (a b : List UInt8) : (!(Op.bytesLess a b || a == b)) = Op.bytesLess b a := by
 rcases bl_tri a b with h | h | h
 ·rw [h, bl_asymm h]; simp
 ·subst h; simp [bl_irrefl]
 ·rw [h, bl_asymm h]; simp; exact fun e => bl_ne h e.symm
theorem idxL {α : Type} {g : List α → Int → Option Int} {k : Option Int} (p : α → Bool) (h0 : ∀ n, g [] n = k) (h1 : ∀ x l n, g (x :: l) n = if p x = true then some n else g l (n + 1)) :
  ∀ l (n : Nat), g l n = if l.any p = true then some ((n + l.findIdx p : Nat) : Int) else k
 | [], n => by simp [h0]
 | x :: l, n => by
  have e : ((n : Int) + 1) = ((n + 1 : Nat) : Int) := rfl
  rw [h1, e, idxL p h0 h1 l (n + 1)]
  cases h : p x
  ·have e2 : n + 1 + l.findIdx p = n + (l.findIdx p + 1) := by omega
   simp only [List.any_cons, h, Bool.false_or, List.findIdx_cons, cond_false, e2, Bool.false_eq_true, if_false]
  ·simp [List.findIdx_cons, h]
theorem bytesL {β : Type} {g : Nat → Int → Option β} {k : Option β} {f : β} (s : List UInt8) (p : UInt8 → Bool) (h0 : ∀ n, g 0 n = k)
  (h1 : ∀ m n, g (m + 1) n = (idx s n).bind fun c => if p c = true then g m (n + 1) else some f) :
  ∀ (m n : Nat), n + m = s.length → g m n = if (s.drop n).all p = true then k else some f
 | 0, n, h => by rw [h0, List.drop_eq_nil_of_le (by omega)]; simp
 | m + 1, n, h => by
  have hn : n < s.length := by omega
  have e : ((n : Int) + 1) = ((n + 1 : Nat) : Int) := rfl
  rw [h1, idx_nat hn, Option.bind_some, e, bytesL s p h0 h1 m (n + 1) (by omega), List.drop_eq_getElem_cons hn, List.all_cons]
  cases h : p s[n]
  ·simp only [Bool.false_and, Bool.false_eq_true, if_false]
  ·simp only [Bool.true_and, if_true]
theorem ite2 {α : Type} {p q : Prop} [Decidable p] [Decidable q] {x y : Option α} {a b : α} (h : p ↔ q) (h1 : q → x = some a) (h2 : ¬ q → y = some b) : (if p then x else y) = some (if q then a else b) := by
 by_cases hq : q
 ·rw [if_pos (h.2 hq), if_pos hq, h1 hq]
 ·rw [if_neg (fun hp => hq (h.1 hp)), if_neg hq, h2 hq]
theorem ne0 {n : Int} : (n != 0) = true ↔ n ≠ 0 := by simp
set_option linter.unusedVariables false
set_option linter.unusedSimpArgs false
theorem leT_total (a b : List UInt8) : (leT a b || leT b a) = true := by
 unfold leT
 rcases bl_tri a b with h | h | h
 ·simp [bl_asymm h]
 ·subst h; simp [bl_irrefl]
 ·simp [bl_asymm h]
theorem leT_anti {a b : List UInt8} (h : leT a b = true) (h' : leT b a = true) : a = b := by
 unfold leT at h h'
 rcases bl_tri a b with g | g | g
 ·simp [g] at h'
 ·exact g
 ·simp [g] at h
theorem leT_trans (a b c : List UInt8) (h : leT a b = true) (h' : leT b c = true) : leT a c = true := by
 unfold leT at *
 rcases bl_tri a b with g | g | g
 ·rcases bl_tri b c with k | k | k
  ·simp [bl_asymm (bl_trans g k)]
  ·subst k; simp [bl_asymm g]
  ·simp [k] at h'
 ·subst g; exact h'
 ·simp [g] at h
theorem lt_of_leT {a b : List UInt8} (h : leT a b = true) (hne : a ≠ b) : Op.bytesLess a b = true := by
 rcases bl_tri a b with g | g | g
 ·exact g
 ·exact absurd g hne
 ·simp [leT, g] at h
theorem nodup_lt {l : List (List UInt8)} (h : l.Pairwise (fun a b => Op.bytesLess a b = true)) : l.Nodup := h.imp bl_ne
theorem lt_of_sorted {l : List (List UInt8)} (h : l.Pairwise (fun a b => leT a b = true)) (hn : l.Nodup) : l.Pairwise (fun a b => Op.bytesLess a b = true) := by
 induction l with
 | nil => exact .nil
 | cons x l ih =>
  rw [List.pairwise_cons] at h ⊢
  rw [List.nodup_cons] at hn
  exact ⟨fun y hy => lt_of_leT (h.1 y hy) (fun e => hn.1 (by rw [e]; exact hy)), ih h.2 hn.2⟩
theorem rise_ext {l l' : List (List UInt8)} (h : l.Pairwise (fun a b => Op.bytesLess a b = true)) (h' : l'.Pairwise (fun a b => Op.bytesLess a b = true)) (hm : ∀ x, x ∈ l ↔ x ∈ l') : l = l' :=
 List.Perm.eq_of_pairwise (le := fun a b => Op.bytesLess a b = true) (fun _ _ _ _ g g' => by rw [bl_asymm g] at g'; simp at g') h h' ((List.perm_ext_iff_of_nodup (nodup_lt h) (nodup_lt h')).2 hm)
def srtT (l : List (List UInt8)) : List (List UInt8) := l.mergeSort leT
theorem srtT_perm (l : List (List UInt8)) : (srtT l).Perm l := List.mergeSort_perm _ _
theorem srtT_srt (l : List (List UInt8)) : (srtT l).Pairwise (fun a b => leT a b = true) := List.pairwise_mergeSort leT_trans leT_total l
theorem srt_uniq {l l' : List (List UInt8)} (h : l.Pairwise (fun a b => leT a b = true)) (h' : l'.Pairwise (fun a b => leT a b = true)) (hp : l.Perm l') : l = l' :=
 List.Perm.eq_of_pairwise (le := fun a b => leT a b = true) (fun a b _ _ g g' => leT_anti g g') h h' hp
theorem srtT_congr {l l' : List (List UInt8)} (h : l.Perm l') : srtT l = srtT l' := srt_uniq (srtT_srt l) (srtT_srt l') ((srtT_perm l).trans (h.trans (srtT_perm l').symm))
theorem merge_srtT (a b : List (List UInt8)) : List.merge (srtT a) (srtT b) leT = srtT (a ++ b) :=
 srt_uniq (List.pairwise_merge leT_trans leT_total _ _ (srtT_srt a) (srtT_srt b)) (srtT_srt _) ((List.merge_perm_append _).trans (((srtT_perm a).append (srtT_perm b)).trans (srtT_perm _).symm))
theorem bl_lt (a b : List UInt8) : (a < b) ↔ Op.bytesLess a b = true := by
 induction a generalizing b with
 | nil => cases b <;> simp [Op.bytesLess]
 | cons x a ih =>
  cases b with
  | nil => simp [Op.bytesLess]
  | cons y b => rw [bl_cons, List.cons_lt_cons_iff, ih]; simp
theorem le_leT (a b : List UInt8) : decide (a ≤ b) = leT a b := by
 unfold leT
 rw [← Bool.not_inj_iff, Bool.not_not]
 cases h : Op.bytesLess b a
 ·simp only [Bool.not_eq_eq_eq_not, Bool.not_false, decide_eq_true_eq]
  exact fun hh => by rw [(bl_lt b a).1 hh] at h; simp at h
 ·simp only [Bool.not_eq_eq_eq_not, Bool.not_true, decide_eq_false_iff_not]
  exact fun hh => hh ((bl_lt b a).2 h)
theorem tsort_eq (l : List (List UInt8)) : tsort l = srtT l := by
 unfold tsort srtT
 congr 1
 funext a b
 exact le_leT a b
end Go.Pv
namespace Go.Proofs.YtpbkggamiipdmaaGreat
open Go Go.Pv
set_option linter.unusedVariables false
def linksN (n : Tprovenderref6_net) (x : List UInt8) : List Tprovenderref6_link := (mget n.links x).getD []
def funcN (n : Tprovenderref6_net) (x : List UInt8) : TFunc := (mget n.funcs x).getD (TFunc.mk [] [] [] [])
theorem leB (a b : List UInt8) : (Op.bytesLess a b || a == b) = leT a b := by
 have := bl_gt a b
 unfold leT
 rw [← this, Bool.not_not]
theorem M161_L1_eq (F : Nat) (k : List (List UInt8) → Option (List (List UInt8))) : ∀ (n : Nat) (a b o : List (List UInt8)),
  M161_L1 F k n a b o = if a.length + b.length < n ∧ (a.length + b.length = 0 ∨ (o.length + a.length + b.length) * 16 ≤ 140737488355328) then k (o ++ List.merge a b leT) else none
 | 0, a, b, o => by simp [M161_L1]
 | n + 1, [], [], o => by simp [M161_L1]
 | n + 1, [], y :: b, o => by
  rw [M161_L1]
  have e : idx (y :: b) 0 = some y := idx_nat (xs := y :: b) (j := 0) (by simp)
  rw [if_neg (by simp), if_pos (by simp), if_neg (by simp; omega), e, Option.bind_some]
  by_cases h : (o ++ [y]).length * 16 ≤ 140737488355328
  ·rw [if_pos h, if_pos (by simp), M161_L1_eq F k n]
   simp only [List.length_append, List.length_cons, List.length_nil, List.drop_one, List.tail_cons] at h ⊢
   by_cases h2 : 0 + b.length < n ∧ (0 + b.length = 0 ∨ (o.length + (0 + 1) + 0 + b.length) * 16 ≤ 140737488355328)
   ·rw [if_pos h2, if_pos (by omega)]; simp
   ·rw [if_neg h2, if_neg (by omega)]
  ·rw [if_neg h, if_neg (by simp at h ⊢; omega)]
 | n + 1, x :: a, [], o => by
  rw [M161_L1]
  have e : idx (x :: a) 0 = some x := idx_nat (xs := x :: a) (j := 0) (by simp)
  rw [if_pos (by simp), if_pos (by simp), e, Option.bind_some]
  by_cases h : (o ++ [x]).length * 16 ≤ 140737488355328
  ·rw [if_pos h, if_pos (by simp), M161_L1_eq F k n]
   simp only [List.length_append, List.length_cons, List.length_nil, List.drop_one, List.tail_cons] at h ⊢
   by_cases h2 : a.length + 0 < n ∧ (a.length + 0 = 0 ∨ (o.length + (0 + 1) + a.length + 0) * 16 ≤ 140737488355328)
   ·rw [if_pos h2, if_pos (by omega)]; simp [List.merge_right]
   ·rw [if_neg h2, if_neg (by omega)]
  ·rw [if_neg h, if_neg (by simp at h ⊢; omega)]
 | n + 1, x :: a, y :: b, o => by
  rw [M161_L1]
  have e : idx (x :: a) 0 = some x := idx_nat (xs := x :: a) (j := 0) (by simp)
  have e' : idx (y :: b) 0 = some y := idx_nat (xs := y :: b) (j := 0) (by simp)
  rw [if_pos (by simp), if_neg (by simp; omega), e, Option.bind_some, e', Option.bind_some, jn_def, leB, Option.bind_some, Option.bind_some]
  by_cases hxy : leT x y = true
  ·rw [if_pos hxy]
   by_cases h : (o ++ [x]).length * 16 ≤ 140737488355328
   ·rw [if_pos h, if_pos (by simp), show (fun l28 l29 l30 => M161_L1 F k n l28 l29 l30) = M161_L1 F k n from rfl, M161_L1_eq F k n, List.cons_merge_cons_pos _ _ _ hxy]
    simp only [List.length_append, List.length_cons, List.length_nil, List.drop_one, List.tail_cons] at h ⊢
    by_cases h2 : a.length + (b.length + 1) < n ∧ (a.length + (b.length + 1) = 0 ∨ (o.length + (0 + 1) + a.length + (b.length + 1)) * 16 ≤ 140737488355328)
    ·rw [if_pos h2, if_pos (by omega)]; simp
    ·rw [if_neg h2, if_neg (by omega)]
   ·rw [if_neg h, if_neg (by simp at h ⊢; omega)]
  ·rw [if_neg hxy]
   by_cases h : (o ++ [y]).length * 16 ≤ 140737488355328
   ·rw [if_pos h, if_pos (by simp), show (fun l28 l29 l30 => M161_L1 F k n l28 l29 l30) = M161_L1 F k n from rfl, M161_L1_eq F k n, List.cons_merge_cons_neg _ _ _ hxy]
    simp only [List.length_append, List.length_cons, List.length_nil, List.drop_one, List.tail_cons] at h ⊢
    by_cases h2 : (a.length + 1) + b.length < n ∧ ((a.length + 1) + b.length = 0 ∨ (o.length + (0 + 1) + (a.length + 1) + b.length) * 16 ≤ 140737488355328)
    ·rw [if_pos h2, if_pos (by omega)]; simp
    ·rw [if_neg h2, if_neg (by omega)]
   ·rw [if_neg h, if_neg (by simp at h ⊢; omega)]
def hlf (n : Nat) : Int := w64 (Int.tdiv ((n : Nat) : Int) 2)
def okN : Nat → Nat → Bool
 | 0, _ => false
 | F + 1, n => decide (n < 2) || (decide (0 ≤ hlf n ∧ (hlf n).toNat ≤ n) && (okN F (hlf n).toNat && (okN F (n - (hlf n).toNat) && decide (n < F ∧ n * 16 ≤ 140737488355328))))
theorem srtT_short {l : List (List UInt8)} (h : l.length < 2) : srtT l = l := by
 match l, h with
 | [], _ => simp [srtT]
 | [x], _ => simp [srtT]
theorem M161_eq : ∀ (F : Nat) (l : List (List UInt8)), M161 F l = if okN F l.length = true then some (srtT l) else none
 | 0, l => by simp [M161, okN]
 | F + 1, l => by
  have hh : w64 (Int.tdiv ((l.length : Nat) : Int) 2) = hlf l.length := rfl
  rw [M161, M161_B, okN]
  simp only [hh]
  by_cases h : l.length < 2
  ·rw [if_pos (by simp; omega), if_pos (by simp [h]), srtT_short h]
  ·rw [if_neg (by simp; omega)]
   have hd : decide (l.length < 2) = false := by simp; omega
   rw [hd, Bool.false_or]
   by_cases h2 : 0 ≤ hlf l.length ∧ (hlf l.length).toNat ≤ l.length
   ·rw [if_pos h2, M161_eq F]
    have e1 : (l.take (hlf l.length).toNat).length = (hlf l.length).toNat := by rw [List.length_take]; exact Nat.min_eq_left h2.2
    have e2 : (l.drop (hlf l.length).toNat).length = l.length - (hlf l.length).toNat := by rw [List.length_drop]
    rw [e1]
    simp only [decide_eq_true h2, Bool.true_and]
    by_cases h3 : okN F (hlf l.length).toNat = true
    ·rw [if_pos h3, Option.bind_some, if_pos h2, M161_eq F, e2, h3, Bool.true_and]
     by_cases h4 : okN F (l.length - (hlf l.length).toNat) = true
     ·rw [if_pos h4, Option.bind_some, jn_def, M161_L1_eq, h4, Bool.true_and]
      have e3 : (srtT (l.take (hlf l.length).toNat)).length + (srtT (l.drop (hlf l.length).toNat)).length = l.length := by
       rw [(srtT_perm _).length_eq, (srtT_perm _).length_eq, e1, e2]; omega
      by_cases h5 : l.length < F ∧ l.length * 16 ≤ 140737488355328
      ·rw [if_pos ⟨by omega, .inr (by simp; omega)⟩, if_pos (decide_eq_true h5), merge_srtT, List.take_append_drop]; simp
      ·rw [if_neg (fun hh => h5 (by have := hh.2; simp only [List.length_nil] at this; exact ⟨by omega, by omega⟩)), if_neg (by rw [decide_eq_false h5]; simp)]
     ·rw [if_neg h4, Option.bind_none, if_neg (by simp [h4])]
    ·rw [if_neg h3, Option.bind_none, if_neg (by simp [h3])]
   ·rw [if_neg h2, if_neg (by simp only [decide_eq_false h2, Bool.false_and]; simp)]
theorem okN_of : ∀ (d F n : Nat), n < 2 ^ d → n + d + 1 ≤ F → n ≤ 100000 → okN F n = true
 | 0, F, n, h, hF, _ => by
  match F with
  | F + 1 => rw [okN]; simp at h; subst h; simp
 | d + 1, F, n, h, hF, hb => by
  match F with
  | F + 1 =>
   rw [okN]
   by_cases h2 : n < 2
   ·simp [h2]
   ·have e : hlf n = ((n / 2 : Nat) : Int) := by
     unfold hlf
     rw [Int.tdiv_eq_ediv_of_nonneg (by omega), w64_id (by omega) (by omega)]
     omega
    have e2 : (hlf n).toNat = n / 2 := by rw [e]; exact Int.toNat_natCast _
    rw [e2, okN_of d F (n / 2) (by rw [Nat.pow_succ] at h; omega) (by omega) (by omega)]
    by_cases h3 : n - n / 2 < 2 ^ d
    ·rw [okN_of d F (n - n / 2) h3 (by omega) (by omega), e]
     simp; omega
    ·have : n - n / 2 = 2 ^ d := by rw [Nat.pow_succ] at h; omega
     have h4 : n = 2 ^ d + 2 ^ d - 1 := by rw [Nat.pow_succ] at h; omega
     have h5 : 1 ≤ 2 ^ d := Nat.one_le_two_pow
     rw [okN_of (d + 1) F (n - n / 2) (by rw [this, Nat.pow_succ]; omega) (by omega) (by omega), e]
     simp; omega
termination_by d F n => (F, d)
theorem M105_L1_eq (F : Nat) : ∀ (l : List ((List UInt8) × Bool)) (o : List (List UInt8)), M105_L1 F l o = if l.length = 0 ∨ (o.length + l.length) * 16 ≤ 140737488355328 then M161 F (o ++ l.map (·.1)) else none
 | [], o => by
  rw [M105_L1]
  simp only [List.map_nil, List.append_nil, List.length_nil, true_or, if_true]
  cases M161 F o <;> rfl
 | e :: l, o => by
  rw [M105_L1]
  by_cases h : (o ++ [e.1]).length * 16 ≤ 140737488355328
  ·rw [if_pos h, M105_L1_eq F l]
   simp only [List.length_append, List.length_cons, List.length_nil] at h ⊢
   by_cases h2 : l.length = 0 ∨ (o.length + (0 + 1) + l.length) * 16 ≤ 140737488355328
   ·rw [if_pos h2, if_pos (by omega)]; simp
   ·rw [if_neg h2, if_neg (by omega)]
  ·rw [if_neg h, if_neg (by simp at h ⊢; omega)]
theorem ord_M105_L1 {F : Nat} {l l' : List ((List UInt8) × Bool)} {o : List (List UInt8)} {r : List (List UInt8)} (hp : l.Perm l') (h : M105_L1 F l o = some r) : M105_L1 F l' o = some r := by
 rw [← h, M105_L1_eq, M105_L1_eq, hp.length_eq, M161_eq, M161_eq]
 have := (hp.map (·.1)).append_left o
 rw [this.length_eq, srtT_congr this]
end Go.Proofs.YtpbkggamiipdmaaGreat
