/- Part of the proof: Z4M, Q, X, ZP4a. -/
import Derived.Test.YtpbkggamiipdmaaGreatJ4Z4T
import Derived.Test.YtpbkggamiipdmaaGreatJ4PvU
import Derived.Test.YtpbkggamiipdmaaGreatJ4ZA
namespace Go.Proofs.YtpbkggamiipdmaaGreat
open Go Go.Pv
set_option linter.unusedVariables false
set_option maxRecDepth 100000
noncomputable section
def M59_L3 (F : Nat) (k23 : (List ((List UInt8) × Bool)) → Option Treach_checker) : List TFunc → (List ((List UInt8) × Bool)) → Option Treach_checker
 | [], m28 => k23 m28
 | x30 :: tl3, m28 => M59_L3 F k23 tl3 (mput m28 x30.Name true)
def M59_L2 (F : Nat) (k13 : (List ((List UInt8) × Bool)) → Option Treach_checker) : List TType → (List ((List UInt8) × Bool)) → Option Treach_checker
 | [], m18 => k13 m18
 | x20 :: tl2, m18 => M59_L2 F k13 tl2 (mput m18 x20.Name true)
def M59_L1 (F : Nat) (k3 : (List ((List UInt8) × TIface)) → Option Treach_checker) : List TIface → (List ((List UInt8) × TIface)) → Option Treach_checker
 | [], m8 => k3 m8
 | x10 :: tl1, m8 => M59_L1 F k3 tl1 (mput m8 x10.Name x10)
def M59 (F : Nat) (a1 : TGraph) (a2 : Bool) : Option Treach_checker :=
 jn (fun (m4 : List ((List UInt8) × TIface)) => jn (fun (m14 : List ((List UInt8) × Bool)) => jn (fun (m24 : List ((List UInt8) × Bool)) => some (Treach_checker.mk a2 m4 m14 m24)) (fun k23 => M59_L3 F k23 a1.Funcs ([] : List ((List UInt8) × Bool)))) (fun k13 => M59_L2 F k13 a1.Types ([] : List ((List UInt8) × Bool)))) (fun k3 => M59_L1 F k3 a1.Ifaces ([] : List ((List UInt8) × TIface)))
def M79_L1 (F : Nat) (a1 : (List UInt8)) (k2 : Option Bool) : Nat → Int → Option Bool
  | 0, n4 => k2
  | tl1 + 1, n4 => (idx a1 n4).bind fun c6 => if (decide ((c6.toNat : Int) < 33)) = true then some false
 else (idx a1 n4).bind fun c9 => if (decide ((c9.toNat : Int) > 126)) = true then some false
 else (idx a1 n4).bind fun c12 => if ((c12.toNat : Int) == 35) = true then some false
 else M79_L1 F a1 k2 tl1 (n4 + 1)
def M79 (F : Nat) (a1 : (List UInt8)) : Option Bool :=
 jn (if (!(a1 == ([] : List UInt8))) = true then some (decide ((a1.length : Int) ≤ 100))
 else some false) (fun k2 => if (a1.length : Int) ≤ 9223372036854775807 then M79_L1 F a1 k2 (((a1.length : Int) : Int).toNat) 0 else none)
def M173 (F : Nat) (a1 : (List UInt8)) (a2 : (List UInt8)) (a3 : Bool) : Option Int :=
 (M79 F a1).bind fun y4 => jn (some 0) (fun k6 => if (!y4) = true then some 8
 else if (!a3) = true then if (Op.bytesLess a1 a2 || a1 == a2) = true then some 10
 else k6
 else k6)
def M127_L2 (F : Nat) (k18 : Option Int) : List (List UInt8) → Int → (List UInt8) → Option Int
  | [], n22, s21 => k18
  | x24 :: tl2, n22, s21 => (M173 F x24 s21 (n22 == 0)).bind fun y26 => if (y26 != 0) = true then some y26
 else M127_L2 F k18 tl2 (n22 + 1) x24
def M127_L1 (F : Nat) (k3 : Option Int) : List TIface → Int → (List UInt8) → Option Int
  | [], n7, s6 => k3
  | x11 :: tl1, n7, s6 => jn (fun (s10 : List UInt8) => M127_L1 F k3 tl1 (n7 + 1) s10) (fun k9 => (M173 F x11.Name s6 (n7 == 0)).bind fun y13 => if (y13 != 0) = true then some y13
 else if (((x11.Methods.length : Nat) : Int) == 0) = true then some 13
 else if (decide (((x11.Methods.length : Nat) : Int) > 200)) = true then some 3
 else jn (k9 x11.Name) (fun k18 => M127_L2 F k18 x11.Methods 0 ([] : List UInt8)))
def M127 (F : Nat) (a1 : Treach_checker) (a2 : (List TIface)) : Option Int :=
 jn (some 0) (fun k3 => M127_L1 F k3 a2 0 ([] : List UInt8))
def M128_L2 (F : Nat) (a1 : Treach_checker) (k17 : Option Int) : List TMethod → Int → (List UInt8) → Option Int
  | [], n21, s20 => k17
  | x25 :: tl2, n21, s20 => jn (fun (s24 : List UInt8) => M128_L2 F a1 k17 tl2 (n21 + 1) s24) (fun k23 => (M173 F x25.Name s20 (n21 == 0)).bind fun y27 => if (y27 != 0) = true then some y27
 else if (!a1.loose) = true then if (!((mget a1.funcs x25.Func).getD false)) = true then some 4
 else k23 x25.Name
 else k23 x25.Name)
def M128_L1 (F : Nat) (a1 : Treach_checker) (k3 : Option Int) : List TType → Int → (List UInt8) → Option Int
  | [], n7, s6 => k3
  | x11 :: tl1, n7, s6 => jn (fun (s10 : List UInt8) => M128_L1 F a1 k3 tl1 (n7 + 1) s10) (fun k9 => (M173 F x11.Name s6 (n7 == 0)).bind fun y13 => if (y13 != 0) = true then some y13
 else if (decide (((x11.Methods.length : Nat) : Int) > 200)) = true then some 3
 else jn (k9 x11.Name) (fun k17 => M128_L2 F a1 k17 x11.Methods 0 ([] : List UInt8)))
def M128 (F : Nat) (a1 : Treach_checker) (a2 : (List TType)) : Option Int :=
 jn (some 0) (fun k3 => M128_L1 F a1 k3 a2 0 ([] : List UInt8))
def M86_L1 (F : Nat) (a2 : (List UInt8)) (k3 : Option Int) : List (List UInt8) → Int → Option Int
  | [], n5 => k3
  | x7 :: tl1, n5 => if (a2 == x7) = true then some n5
 else M86_L1 F a2 k3 tl1 (n5 + 1)
def M86 (F : Nat) (a1 : (List (List UInt8))) (a2 : (List UInt8)) : Option Int :=
 jn (some (-1)) (fun k3 => M86_L1 F a2 k3 a1 0)
def M23 (F : Nat) (a1 : (List (List UInt8))) (a2 : (List UInt8)) : Option Bool :=
 (M86 F a1 a2).bind fun y3 => some (decide (y3 ≥ 0))
def M174 (F : Nat) (a1 : Treach_checker) (a2 : TCall) : Option Int :=
 jn (if (!(a2.Feature == ([] : List UInt8))) = true then (M79 F a2.Feature).bind fun y16 => if (!y16) = true then some 8
 else some 0
 else some 0) (fun k3 => if (a2.Kind == 1) = true then if (!a1.loose) = true then if (!((mget a1.funcs a2.Target).getD false)) = true then some 4
 else if (!(a2.Method == ([] : List UInt8))) = true then some 2
 else k3
 else if (!(a2.Method == ([] : List UInt8))) = true then some 2
 else k3
 else if (a2.Kind == 2) = true then if (!a1.loose) = true then if (!((mget a1.ifaces a2.Target).isSome)) = true then some 4
 else (M23 F ((mget a1.ifaces a2.Target).getD (TIface.mk ([] : List UInt8) ([] : (List (List UInt8))))).Methods a2.Method).bind fun y12 => if (!y12) = true then some 4
 else k3
 else k3
 else some 7)
def M130_L1 (F : Nat) (a1 : Treach_checker) (a2 : (List (List UInt8))) (a3 : (List ((List UInt8) × Bool))) (k4 : Option Int) : List (List UInt8) → Int → Option Int
  | [], n6 => k4
  | x8 :: tl1, n6 => jn (M130_L1 F a1 a2 a3 k4 tl1 (n6 + 1)) (fun k10 => if (!a1.loose) = true then jn (k10) (fun k12 => if (!((mget a3 x8).getD false)) = true then some 4
 else if (decide (n6 > 0)) = true then (idx a2 (w64 (n6 - 1))).bind fun x15 => if (Op.bytesLess x8 x15 || x8 == x15) = true then some 10
 else k12
 else k12)
 else if (decide (n6 > 0)) = true then (idx a2 (w64 (n6 - 1))).bind fun x19 => if (Op.bytesLess x8 x19 || x8 == x19) = true then some 10
 else k10
 else k10)
def M130 (F : Nat) (a1 : Treach_checker) (a2 : (List (List UInt8))) (a3 : (List ((List UInt8) × Bool))) : Option Int :=
 jn (some 0) (fun k4 => M130_L1 F a1 a2 a3 k4 a2 0)
def M129_L2 (F : Nat) (a1 : Treach_checker) (k20 : Option Int) : List TCall → Option Int
  | [] => k20
  | x24 :: tl2 => (M174 F a1 x24).bind fun y26 => if (y26 != 0) = true then some y26
 else M129_L2 F a1 k20 tl2
def M129_L1 (F : Nat) (a1 : Treach_checker) (k3 : Option Int) : List TFunc → Int → (List UInt8) → Option Int
  | [], n7, s6 => k3
  | x11 :: tl1, n7, s6 => jn (fun (s10 : List UInt8) => M129_L1 F a1 k3 tl1 (n7 + 1) s10) (fun k9 => (M173 F x11.Name s6 (n7 == 0)).bind fun y13 => if (y13 != 0) = true then some y13
 else (M79 F x11.Component).bind fun y16 => if (!y16) = true then some 8
 else if (decide (((x11.Calls.length : Nat) : Int) > 200)) = true then some 3
 else jn ((M130 F a1 x11.Makes a1.types).bind fun y30 => if (y30 != 0) = true then some y30
 else k9 x11.Name) (fun k20 => M129_L2 F a1 k20 x11.Calls))
def M129 (F : Nat) (a1 : Treach_checker) (a2 : (List TFunc)) : Option Int :=
 jn (some 0) (fun k3 => M129_L1 F a1 k3 a2 0 ([] : List UInt8))
def M60 (F : Nat) (a1 : Treach_checker) (a2 : TGraph) : Option Int :=
 if (decide (((a2.Ifaces.length : Nat) : Int) > 200)) = true then some 3
 else if (decide (((a2.Types.length : Nat) : Int) > 500)) = true then some 3
 else if (decide (((a2.Funcs.length : Nat) : Int) > 3000)) = true then some 3
 else (M127 F a1 a2.Ifaces).bind fun y6 => if (y6 != 0) = true then some y6
 else (M128 F a1 a2.Types).bind fun y9 => if (y9 != 0) = true then some y9
 else (M129 F a1 a2.Funcs).bind fun y12 => if (y12 != 0) = true then some y12
 else (M130 F a1 a2.Entries a1.funcs).bind fun y15 => some y15
def M44 (F : Nat) (a1 : TIface) : Option (List UInt8) :=
 some (a1.Name)
def M26_L1 (F : Nat) (a2 : (List (List UInt8))) (k4 : Option Bool) : List (List UInt8) → Int → Option Bool
  | [], n6 => k4
  | x8 :: tl1, n6 => (idx a2 n6).bind fun x10 => if (!(x8 == x10)) = true then some false
 else M26_L1 F a2 k4 tl1 (n6 + 1)
def M26 (F : Nat) (a1 : (List (List UInt8))) (a2 : (List (List UInt8))) : Option Bool :=
 if (((a1.length : Nat) : Int) != ((a2.length : Nat) : Int)) = true then some false
 else jn (some true) (fun k4 => M26_L1 F a2 k4 a1 0)
def M62 (F : Nat) (a1 : TIface) (a2 : TIface) : Option Bool :=
 if (a1.Name == a2.Name) = true then (M26 F a1.Methods a2.Methods).bind fun y4 => some y4
 else some false
def M61_L1 (F : Nat) (k45 : (List ((List UInt8) × Int)) → (List TIface) → Option (Bool × (List ((List UInt8) × Int)) × (List TIface))) : List TIface → (List ((List UInt8) × Int)) → (List TIface) → Option (Bool × (List ((List UInt8) × Int)) × (List TIface))
  | [], m52, l53 => k45 m52 l53
  | x58 :: tl1, m52, l53 => jn (fun (m56 : List ((List UInt8) × Int)) (l57 : List TIface) => M61_L1 F k45 tl1 m56 l57) (fun k55 => (M44 F x58).bind fun y60 => if ((mget m52 y60).isSome) = true then (idx l53 ((mget m52 y60).getD 0)).bind fun x63 => (M62 F x63 x58).bind fun y65 => if (!y65) = true then some (false, m52, ([] : List TIface))
 else jn (fun (m69 : List ((List UInt8) × Int)) (l70 : List TIface) => k55 m69 l70) (fun k68 => if (!((mget m52 y60).isSome)) = true then (M44 F x58).bind fun y72 => if (l53 ++ ([x58] : List TIface)).length * 40 ≤ 140737488355328 then k68 (mput m52 y72 ((l53.length : Nat) : Int)) (l53 ++ ([x58] : List TIface)) else none
 else k68 m52 l53)
 else jn (fun (m76 : List ((List UInt8) × Int)) (l77 : List TIface) => k55 m76 l77) (fun k75 => if (!((mget m52 y60).isSome)) = true then (M44 F x58).bind fun y79 => if (l53 ++ ([x58] : List TIface)).length * 40 ≤ 140737488355328 then k75 (mput m52 y79 ((l53.length : Nat) : Int)) (l53 ++ ([x58] : List TIface)) else none
 else k75 m52 l53))
def M61 (F : Nat) (a1 : (List TIface)) (a2 : List TIface) (a3 : List ((List UInt8) × Int)) : Option (Bool × (List ((List UInt8) × Int)) × (List TIface)) :=
 jn (fun (m46 : List ((List UInt8) × Int)) (l47 : List TIface) => some (true, m46, l47)) (fun k45 => M61_L1 F k45 a1 a3 a2)
def M47 (F : Nat) (a1 : TType) : Option (List UInt8) :=
 some (a1.Name)
def M54_L1 (F : Nat) (a2 : (List TMethod)) (k4 : Option Bool) : List TMethod → Int → Option Bool
  | [], n6 => k4
  | x8 :: tl1, n6 => (idx a2 n6).bind fun x10 => if (!(decide (x8 = x10))) = true then some false
 else M54_L1 F a2 k4 tl1 (n6 + 1)
def M54 (F : Nat) (a1 : (List TMethod)) (a2 : (List TMethod)) : Option Bool :=
 if (((a1.length : Nat) : Int) != ((a2.length : Nat) : Int)) = true then some false
 else jn (some true) (fun k4 => M54_L1 F a2 k4 a1 0)
def M64 (F : Nat) (a1 : TType) (a2 : TType) : Option Bool :=
 if (a1.Name == a2.Name) = true then (M54 F a1.Methods a2.Methods).bind fun y4 => some y4
 else some false
def M63_L1 (F : Nat) (k45 : (List ((List UInt8) × Int)) → (List TType) → Option (Bool × (List ((List UInt8) × Int)) × (List TType))) : List TType → (List ((List UInt8) × Int)) → (List TType) → Option (Bool × (List ((List UInt8) × Int)) × (List TType))
  | [], m52, l53 => k45 m52 l53
  | x58 :: tl1, m52, l53 => jn (fun (m56 : List ((List UInt8) × Int)) (l57 : List TType) => M63_L1 F k45 tl1 m56 l57) (fun k55 => (M47 F x58).bind fun y60 => if ((mget m52 y60).isSome) = true then (idx l53 ((mget m52 y60).getD 0)).bind fun x63 => (M64 F x63 x58).bind fun y65 => if (!y65) = true then some (false, m52, ([] : List TType))
 else jn (fun (m69 : List ((List UInt8) × Int)) (l70 : List TType) => k55 m69 l70) (fun k68 => if (!((mget m52 y60).isSome)) = true then (M47 F x58).bind fun y72 => if (l53 ++ ([x58] : List TType)).length * 40 ≤ 140737488355328 then k68 (mput m52 y72 ((l53.length : Nat) : Int)) (l53 ++ ([x58] : List TType)) else none
 else k68 m52 l53)
 else jn (fun (m76 : List ((List UInt8) × Int)) (l77 : List TType) => k55 m76 l77) (fun k75 => if (!((mget m52 y60).isSome)) = true then (M47 F x58).bind fun y79 => if (l53 ++ ([x58] : List TType)).length * 40 ≤ 140737488355328 then k75 (mput m52 y79 ((l53.length : Nat) : Int)) (l53 ++ ([x58] : List TType)) else none
 else k75 m52 l53))
def M63 (F : Nat) (a1 : (List TType)) (a2 : List TType) (a3 : List ((List UInt8) × Int)) : Option (Bool × (List ((List UInt8) × Int)) × (List TType)) :=
 jn (fun (m46 : List ((List UInt8) × Int)) (l47 : List TType) => some (true, m46, l47)) (fun k45 => M63_L1 F k45 a1 a3 a2)
def M66 (F : Nat) (a1 : TFunc) : Option (List UInt8) :=
 some (a1.Name)
def M126_L1 (F : Nat) (a2 : (List TCall)) (k4 : Option Bool) : List TCall → Int → Option Bool
  | [], n6 => k4
  | x8 :: tl1, n6 => (idx a2 n6).bind fun x10 => if (!(decide (x8 = x10))) = true then some false
 else M126_L1 F a2 k4 tl1 (n6 + 1)
def M126 (F : Nat) (a1 : (List TCall)) (a2 : (List TCall)) : Option Bool :=
 if (((a1.length : Nat) : Int) != ((a2.length : Nat) : Int)) = true then some false
 else jn (some true) (fun k4 => M126_L1 F a2 k4 a1 0)
def M67 (F : Nat) (a1 : TFunc) (a2 : TFunc) : Option Bool :=
 if (a1.Name == a2.Name) = true then if (a1.Component == a2.Component) = true then (M126 F a1.Calls a2.Calls).bind fun y5 => if y5 = true then (M26 F a1.Makes a2.Makes).bind fun y8 => some y8
 else some false
 else some false
 else some false
def M65_L1 (F : Nat) (k45 : (List ((List UInt8) × Int)) → (List TFunc) → Option (Bool × (List ((List UInt8) × Int)) × (List TFunc))) : List TFunc → (List ((List UInt8) × Int)) → (List TFunc) → Option (Bool × (List ((List UInt8) × Int)) × (List TFunc))
  | [], m52, l53 => k45 m52 l53
  | x58 :: tl1, m52, l53 => jn (fun (m56 : List ((List UInt8) × Int)) (l57 : List TFunc) => M65_L1 F k45 tl1 m56 l57) (fun k55 => (M66 F x58).bind fun y60 => if ((mget m52 y60).isSome) = true then (idx l53 ((mget m52 y60).getD 0)).bind fun x63 => (M67 F x63 x58).bind fun y65 => if (!y65) = true then some (false, m52, ([] : List TFunc))
 else jn (fun (m69 : List ((List UInt8) × Int)) (l70 : List TFunc) => k55 m69 l70) (fun k68 => if (!((mget m52 y60).isSome)) = true then (M66 F x58).bind fun y72 => if (l53 ++ ([x58] : List TFunc)).length * 80 ≤ 140737488355328 then k68 (mput m52 y72 ((l53.length : Nat) : Int)) (l53 ++ ([x58] : List TFunc)) else none
 else k68 m52 l53)
 else jn (fun (m76 : List ((List UInt8) × Int)) (l77 : List TFunc) => k55 m76 l77) (fun k75 => if (!((mget m52 y60).isSome)) = true then (M66 F x58).bind fun y79 => if (l53 ++ ([x58] : List TFunc)).length * 80 ≤ 140737488355328 then k75 (mput m52 y79 ((l53.length : Nat) : Int)) (l53 ++ ([x58] : List TFunc)) else none
 else k75 m52 l53))
def M65 (F : Nat) (a1 : (List TFunc)) (a2 : List TFunc) (a3 : List ((List UInt8) × Int)) : Option (Bool × (List ((List UInt8) × Int)) × (List TFunc)) :=
 jn (fun (m46 : List ((List UInt8) × Int)) (l47 : List TFunc) => some (true, m46, l47)) (fun k45 => M65_L1 F k45 a1 a3 a2)
def M49 (F : Nat) (a1 : (List (List UInt8))) : Option (List (List UInt8)) :=
 nilq a1.length (fun b2 => if b2 = true then some ([] : List (List UInt8))
 else if (([] : List (List UInt8)) ++ a1).length * 16 ≤ 140737488355328 then some (([] : List (List UInt8)) ++ a1) else none)
def M45 (F : Nat) (a1 : TIface) : Option TIface :=
 (M49 F a1.Methods).bind fun y2 => some (TIface.mk a1.Name y2)
def M158 (F : Nat) (a1 : (List UInt8)) : Option Bool :=
 some (!(a1 == a1))
def M100 (F : Nat) (a1 : (List UInt8)) (a2 : (List UInt8)) : Option Int :=
 (M158 F a1).bind fun y3 => (M158 F a2).bind fun y5 => if y3 = true then if y5 = true then some 0
 else some (-1)
 else if y5 = true then some 1
 else if (Op.bytesLess a1 a2) = true then some (-1)
 else if (!(Op.bytesLess a1 a2 || a1 == a2)) = true then some 1
 else some 0
def M121 (F : Nat) (a1 : TIface) (a2 : TIface) : Option Int :=
 (M44 F a1).bind fun y3 => (M44 F a2).bind fun y5 => (M100 F y3 y5).bind fun y7 => some y7
def M120 (F : Nat) (a1 : List TIface) : Option (List TIface) := srtM (fun x3 y4 => M121 F x3 y4) a1
def M43_L1 (F : Nat) (k2 : (List TIface) → Option (List TIface)) : List TIface → (List TIface) → Option (List TIface)
 | [], l7 => k2 l7
 | x9 :: tl1, l7 => (M45 F x9).bind fun y11 => if (l7 ++ ([y11] : List TIface)).length * 40 ≤ 140737488355328 then M43_L1 F k2 tl1 (l7 ++ ([y11] : List TIface)) else none
def M43 (F : Nat) (a1 : (List TIface)) : Option (List TIface) :=
 jn (fun (l3 : List TIface) => (M120 F l3).bind fun y15 => if y15.length = l3.length then some y15 else none) (fun k2 => M43_L1 F k2 a1 ([] : List TIface))
def M124 (F : Nat) (a1 : (List TMethod)) : Option (List TMethod) :=
 nilq a1.length (fun b2 => if b2 = true then some ([] : List TMethod)
 else if (([] : List TMethod) ++ a1).length * 32 ≤ 140737488355328 then some (([] : List TMethod) ++ a1) else none)
def M48 (F : Nat) (a1 : TType) : Option TType :=
 (M124 F a1.Methods).bind fun y2 => some (TType.mk a1.Name y2)
def M123 (F : Nat) (a1 : TType) (a2 : TType) : Option Int :=
 (M47 F a1).bind fun y3 => (M47 F a2).bind fun y5 => (M100 F y3 y5).bind fun y7 => some y7
def M122 (F : Nat) (a1 : List TType) : Option (List TType) := srtM (fun x3 y4 => M123 F x3 y4) a1
def M46_L1 (F : Nat) (k2 : (List TType) → Option (List TType)) : List TType → (List TType) → Option (List TType)
 | [], l7 => k2 l7
 | x9 :: tl1, l7 => (M48 F x9).bind fun y11 => if (l7 ++ ([y11] : List TType)).length * 40 ≤ 140737488355328 then M46_L1 F k2 tl1 (l7 ++ ([y11] : List TType)) else none
def M46 (F : Nat) (a1 : (List TType)) : Option (List TType) :=
 jn (fun (l3 : List TType) => (M122 F l3).bind fun y15 => if y15.length = l3.length then some y15 else none) (fun k2 => M46_L1 F k2 a1 ([] : List TType))
def M133 (F : Nat) (a1 : (List TCall)) : Option (List TCall) :=
 nilq a1.length (fun b2 => if b2 = true then some ([] : List TCall)
 else if (([] : List TCall) ++ a1).length * 56 ≤ 140737488355328 then some (([] : List TCall) ++ a1) else none)
def M69 (F : Nat) (a1 : TFunc) : Option TFunc :=
 (M133 F a1.Calls).bind fun y2 => (M49 F a1.Makes).bind fun y4 => some (TFunc.mk a1.Name a1.Component y2 y4)
def M132 (F : Nat) (a1 : TFunc) (a2 : TFunc) : Option Int :=
 (M66 F a1).bind fun y3 => (M66 F a2).bind fun y5 => (M100 F y3 y5).bind fun y7 => some y7
def M131 (F : Nat) (a1 : List TFunc) : Option (List TFunc) := srtM (fun x3 y4 => M132 F x3 y4) a1
def M68_L1 (F : Nat) (k2 : (List TFunc) → Option (List TFunc)) : List TFunc → (List TFunc) → Option (List TFunc)
 | [], l7 => k2 l7
 | x9 :: tl1, l7 => (M69 F x9).bind fun y11 => if (l7 ++ ([y11] : List TFunc)).length * 80 ≤ 140737488355328 then M68_L1 F k2 tl1 (l7 ++ ([y11] : List TFunc)) else none
def M68 (F : Nat) (a1 : (List TFunc)) : Option (List TFunc) :=
 jn (fun (l3 : List TFunc) => (M131 F l3).bind fun y15 => if y15.length = l3.length then some y15 else none) (fun k2 => M68_L1 F k2 a1 ([] : List TFunc))
def M70 (F : Nat) (a1 : List (List UInt8)) : Option (List (List UInt8)) := if a1.length < 4611686018427387904 then some (tsort a1) else none
def M71 (F : Nat) (a1 : List (List UInt8)) : Option (List (List UInt8)) := if a1.length ≤ 140737488355328 then some (cpt a1) else none
def M17 (F : Nat) (a1 : TGraph) : Option Int :=
 (M59 F a1 false).bind fun y2 => (M60 F y2 a1).bind fun y4 => some y4
def M15_L1 (F : Nat) (k3 : (List TIface) → (List TType) → (List TFunc) → (List (List UInt8)) → Option (TGraph × Int)) : List TGraph → (List ((List UInt8) × Int)) → (List ((List UInt8) × Int)) → (List ((List UInt8) × Int)) → (List TIface) → (List TType) → (List TFunc) → (List (List UInt8)) → Option (TGraph × Int)
  | [], m17, m18, m19, l20, l21, l22, l23 => k3 l20 l21 l22 l23
  | x25 :: tl1, m17, m18, m19, l20, l21, l22, l23 => (M59 F x25 true).bind fun y27 => (M60 F y27 x25).bind fun y29 => if (y29 != 0) = true then some ((TGraph.mk ([] : List TIface) ([] : List TType) ([] : List TFunc) ([] : List (List UInt8))), y29)
 else (M61 F x25.Ifaces l20 m17).bind fun y32 => (M63 F x25.Types l21 m18).bind fun y34 => (M65 F x25.Funcs l22 m19).bind fun y36 => if (!(y32.1)) = true then some ((TGraph.mk ([] : List TIface) ([] : List TType) ([] : List TFunc) ([] : List (List UInt8))), 5)
 else if (!(y34.1)) = true then some ((TGraph.mk ([] : List TIface) ([] : List TType) ([] : List TFunc) ([] : List (List UInt8))), 5)
 else if (!(y36.1)) = true then some ((TGraph.mk ([] : List TIface) ([] : List TType) ([] : List TFunc) ([] : List (List UInt8))), 5)
 else if (l23 ++ x25.Entries).length * 16 ≤ 140737488355328 then M15_L1 F k3 tl1 (y32.2.1) (y34.2.1) (y36.2.1) (y32.2.2) (y34.2.2) (y36.2.2) (l23 ++ x25.Entries) else none
def M15 (F : Nat) (a1 : (List TGraph)) : Option (TGraph × Int) :=
 if (((a1.length : Nat) : Int) == 0) = true then some ((TGraph.mk ([] : List TIface) ([] : List TType) ([] : List TFunc) ([] : List (List UInt8))), 13)
 else jn (fun (l4 : List TIface) (l5 : List TType) (l6 : List TFunc) (l7 : List (List UInt8)) => (M43 F l4).bind fun y43 => (M46 F l5).bind fun y45 => (M68 F l6).bind fun y47 => (M70 F l7).bind fun y49 => if y49.length = l7.length then (M71 F y49).bind fun y52 => (M17 F (TGraph.mk y43 y45 y47 y52)).bind fun y54 => if (y54 != 0) = true then some ((TGraph.mk ([] : List TIface) ([] : List TType) ([] : List TFunc) ([] : List (List UInt8))), y54)
 else some ((TGraph.mk y43 y45 y47 y52), 0) else none) (fun k3 => M15_L1 F k3 a1 ([] : List ((List UInt8) × Int)) ([] : List ((List UInt8) × Int)) ([] : List ((List UInt8) × Int)) ([] : List TIface) ([] : List TType) ([] : List TFunc) ([] : List (List UInt8)))
def M72_L4 (F : Nat) (k35 : (List ((List UInt8) × Bool)) → Option Tprovenderref6_names) : List TFunc → (List ((List UInt8) × Bool)) → Option Tprovenderref6_names
 | [], m40 => k35 m40
 | x42 :: tl4, m40 => M72_L4 F k35 tl4 (mput m40 x42.Name true)
def M72_L3 (F : Nat) (k25 : (List ((List UInt8) × Bool)) → Option Tprovenderref6_names) : List TType → (List ((List UInt8) × Bool)) → Option Tprovenderref6_names
 | [], m30 => k25 m30
 | x32 :: tl3, m30 => M72_L3 F k25 tl3 (mput m30 x32.Name true)
def M72_L2 (F : Nat) (x11 : TIface) (k13 : (List ((List UInt8) × (List ((List UInt8) × Bool)))) → Option Tprovenderref6_names) : List (List UInt8) → (List ((List UInt8) × (List ((List UInt8) × Bool)))) → Option Tprovenderref6_names
 | [], m18 => k13 m18
 | x20 :: tl2, m18 => if (mget m18 x11.Name).isSome = true then M72_L2 F x11 k13 tl2 (mput m18 x11.Name (mput ((mget m18 x11.Name).getD []) x20 true)) else none
def M72_L1 (F : Nat) (k2 : (List ((List UInt8) × (List ((List UInt8) × Bool)))) → Option Tprovenderref6_names) : List TIface → (List ((List UInt8) × (List ((List UInt8) × Bool)))) → Option Tprovenderref6_names
 | [], m7 => k2 m7
 | x11 :: tl1, m7 => jn (fun (m10 : List ((List UInt8) × (List ((List UInt8) × Bool)))) => M72_L1 F k2 tl1 m10) (fun k9 => jn (fun (m14 : List ((List UInt8) × (List ((List UInt8) × Bool)))) => k9 m14) (fun k13 => M72_L2 F x11 k13 x11.Methods (mput m7 x11.Name ([] : List ((List UInt8) × Bool)))))
def M72 (F : Nat) (a1 : TGraph) : Option Tprovenderref6_names :=
 jn (fun (m3 : List ((List UInt8) × (List ((List UInt8) × Bool)))) => jn (fun (m26 : List ((List UInt8) × Bool)) => jn (fun (m36 : List ((List UInt8) × Bool)) => some (Tprovenderref6_names.mk m3 m26 m36)) (fun k35 => M72_L4 F k35 a1.Funcs ([] : List ((List UInt8) × Bool)))) (fun k25 => M72_L3 F k25 a1.Types ([] : List ((List UInt8) × Bool)))) (fun k2 => M72_L1 F k2 a1.Ifaces ([] : List ((List UInt8) × (List ((List UInt8) × Bool)))))
def M82_L1 (F : Nat) (a1 : (List UInt8)) (k2 : Option Bool) : Nat → Int → Option Bool
  | 0, n4 => k2
  | tl1 + 1, n4 => (idx a1 n4).bind fun c6 => if (decide ((c6.toNat : Int) < 33)) = true then some false
 else (idx a1 n4).bind fun c9 => if (decide ((c9.toNat : Int) > 126)) = true then some false
 else (idx a1 n4).bind fun c12 => if ((c12.toNat : Int) == 35) = true then some false
 else M82_L1 F a1 k2 tl1 (n4 + 1)
def M82 (F : Nat) (a1 : (List UInt8)) : Option Bool :=
 jn (if (decide ((a1.length : Int) ≥ 1)) = true then some (decide ((a1.length : Int) ≤ 100))
 else some false) (fun k2 => if (a1.length : Int) ≤ 9223372036854775807 then M82_L1 F a1 k2 (((a1.length : Int) : Int).toNat) 0 else none)
def M139 (F : Nat) (a1 : (List (List UInt8))) (a2 : Int) : Option Int :=
 if (decide (a2 > 0)) = true then (idx a1 a2).bind fun x4 => (idx a1 (w64 (a2 - 1))).bind fun x6 => if (Op.bytesLess x4 x6 || x4 == x6) = true then some 10
 else some 0
 else some 0
def M136_L2 (F : Nat) (x10 : TIface) (k18 : Option Int) : List (List UInt8) → Int → Option Int
  | [], n20 => k18
  | x22 :: tl2, n20 => (M82 F x22).bind fun y24 => if (!y24) = true then some 8
 else (M139 F x10.Methods n20).bind fun y27 => if (y27 != 0) = true then some y27
 else M136_L2 F x10 k18 tl2 (n20 + 1)
def M136_L1 (F : Nat) (k2 : Option Int) : List TIface → (List UInt8) → Option Int
  | [], s5 => k2
  | x10 :: tl1, s5 => jn (fun (s9 : List UInt8) => M136_L1 F k2 tl1 s9) (fun k8 => (M82 F x10.Name).bind fun y12 => if (!y12) = true then some 8
 else if (Op.bytesLess x10.Name s5 || x10.Name == s5) = true then some 10
 else if (((x10.Methods.length : Nat) : Int) == 0) = true then some 13
 else if (decide (((x10.Methods.length : Nat) : Int) > 200)) = true then some 3
 else jn (k8 x10.Name) (fun k18 => M136_L2 F x10 k18 x10.Methods 0))
def M136 (F : Nat) (a1 : Tprovenderref6_checker) : Option Int :=
 jn (some 0) (fun k2 => M136_L1 F k2 a1.g.Ifaces ([] : List UInt8))
def M137_L2 (F : Nat) (a1 : Tprovenderref6_checker) (k17 : Option Int) : List TMethod → (List UInt8) → Option Int
  | [], s20 => k17
  | x23 :: tl2, s20 => (M82 F x23.Name).bind fun y25 => jn (M137_L2 F a1 k17 tl2 x23.Name) (fun k27 => if (!y25) = true then some 8
 else if (Op.bytesLess x23.Name s20 || x23.Name == s20) = true then some 10
 else if (!a1.loose) = true then if (!((mget a1.n.funcs x23.Func).getD false)) = true then some 4
 else k27
 else k27)
def M137_L1 (F : Nat) (a1 : Tprovenderref6_checker) (k2 : Option Int) : List TType → (List UInt8) → Option Int
  | [], s5 => k2
  | x10 :: tl1, s5 => jn (fun (s9 : List UInt8) => M137_L1 F a1 k2 tl1 s9) (fun k8 => (M82 F x10.Name).bind fun y12 => if (!y12) = true then some 8
 else if (Op.bytesLess x10.Name s5 || x10.Name == s5) = true then some 10
 else if (decide (((x10.Methods.length : Nat) : Int) > 200)) = true then some 3
 else jn (k8 x10.Name) (fun k17 => M137_L2 F a1 k17 x10.Methods ([] : List UInt8)))
def M137 (F : Nat) (a1 : Tprovenderref6_checker) : Option Int :=
 jn (some 0) (fun k2 => M137_L1 F a1 k2 a1.g.Types ([] : List UInt8))
def M187 (F : Nat) (a1 : Tprovenderref6_checker) (a2 : TCall) : Option Int :=
 jn (if (!(a2.Feature == ([] : List UInt8))) = true then (M82 F a2.Feature).bind fun y15 => if (!y15) = true then some 8
 else some 0
 else some 0) (fun k3 => if (a2.Kind == 1) = true then if (!a1.loose) = true then if (!((mget a1.n.funcs a2.Target).getD false)) = true then some 4
 else if (!(a2.Method == ([] : List UInt8))) = true then some 2
 else k3
 else if (!(a2.Method == ([] : List UInt8))) = true then some 2
 else k3
 else if (a2.Kind == 2) = true then if ((mget a1.n.ifaces a2.Target).isSome) = true then if (!a1.loose) = true then if (!((mget ((mget a1.n.ifaces a2.Target).getD []) a2.Method).getD false)) = true then some 4
 else k3
 else k3
 else if (!a1.loose) = true then some 4
 else k3
 else some 7)
def M138_L3 (F : Nat) (a1 : Tprovenderref6_checker) (x10 : TFunc) (k30 : Option Int) : List (List UInt8) → Int → Option Int
  | [], n32 => k30
  | x35 :: tl3, n32 => jn (M138_L3 F a1 x10 k30 tl3 (n32 + 1)) (fun k34 => if (!a1.loose) = true then if (!((mget a1.n.types x35).getD false)) = true then some 4
 else (M139 F x10.Makes n32).bind fun y39 => if (y39 != 0) = true then some y39
 else k34
 else (M139 F x10.Makes n32).bind fun y42 => if (y42 != 0) = true then some y42
 else k34)
def M138_L2 (F : Nat) (a1 : Tprovenderref6_checker) (k20 : Option Int) : List TCall → Option Int
  | [] => k20
  | x24 :: tl2 => (M187 F a1 x24).bind fun y26 => if (y26 != 0) = true then some y26
 else M138_L2 F a1 k20 tl2
def M138_L1 (F : Nat) (a1 : Tprovenderref6_checker) (k2 : Option Int) : List TFunc → (List UInt8) → Option Int
  | [], s5 => k2
  | x10 :: tl1, s5 => jn (fun (s9 : List UInt8) => M138_L1 F a1 k2 tl1 s9) (fun k8 => (M82 F x10.Name).bind fun y12 => if (!y12) = true then some 8
 else if (Op.bytesLess x10.Name s5 || x10.Name == s5) = true then some 10
 else (M82 F x10.Component).bind fun y16 => if (!y16) = true then some 8
 else if (decide (((x10.Calls.length : Nat) : Int) > 200)) = true then some 3
 else jn (jn (k8 x10.Name) (fun k30 => M138_L3 F a1 x10 k30 x10.Makes 0)) (fun k20 => M138_L2 F a1 k20 x10.Calls))
def M138 (F : Nat) (a1 : Tprovenderref6_checker) : Option Int :=
 jn (some 0) (fun k2 => M138_L1 F a1 k2 a1.g.Funcs ([] : List UInt8))
def M73_L1 (F : Nat) (a1 : Tprovenderref6_checker) (k14 : Option Int) : List (List UInt8) → Int → Option Int
  | [], n16 => k14
  | x19 :: tl1, n16 => jn (M73_L1 F a1 k14 tl1 (n16 + 1)) (fun k18 => if (!a1.loose) = true then if (!((mget a1.n.funcs x19).getD false)) = true then some 4
 else (M139 F a1.g.Entries n16).bind fun y23 => if (y23 != 0) = true then some y23
 else k18
 else (M139 F a1.g.Entries n16).bind fun y26 => if (y26 != 0) = true then some y26
 else k18)
def M73 (F : Nat) (a1 : Tprovenderref6_checker) : Option Int :=
 if (decide (((a1.g.Ifaces.length : Nat) : Int) > 200)) = true then some 3
 else if (decide (((a1.g.Types.length : Nat) : Int) > 500)) = true then some 3
 else if (decide (((a1.g.Funcs.length : Nat) : Int) > 3000)) = true then some 3
 else (M136 F a1).bind fun y5 => if (y5 != 0) = true then some y5
 else (M137 F a1).bind fun y8 => if (y8 != 0) = true then some y8
 else (M138 F a1).bind fun y11 => if (y11 != 0) = true then some y11
 else jn (some 0) (fun k14 => M73_L1 F a1 k14 a1.g.Entries 0)
def M140_L1 (F : Nat) (a2 : (List (List UInt8))) (k4 : Option Bool) : List (List UInt8) → Int → Option Bool
  | [], n6 => k4
  | x8 :: tl1, n6 => (idx a2 n6).bind fun x10 => if (!(x8 == x10)) = true then some false
 else M140_L1 F a2 k4 tl1 (n6 + 1)
def M140 (F : Nat) (a1 : (List (List UInt8))) (a2 : (List (List UInt8))) : Option Bool :=
 if (((a1.length : Nat) : Int) != ((a2.length : Nat) : Int)) = true then some false
 else jn (some true) (fun k4 => M140_L1 F a2 k4 a1 0)
def M74_L1 (F : Nat) (k3 : (List TIface) → Option ((List TIface) × Bool)) : Nat → (List TIface) → (List TIface) → (List TIface) → Option ((List TIface) × Bool)
 | 0, _, _, _ => none
 | n + 1, l8, l9, l10 => if (decide (((l8.length : Nat) : Int) > 0)) = true then jn (fun (l13 : List TIface) (l14 : List TIface) (l15 : List TIface) => M74_L1 F k3 n l13 l14 l15) (fun k12 => if (((l9.length : Nat) : Int) == 0) = true then (idx l8 0).bind fun x17 => if (l10 ++ ([x17] : List TIface)).length * 40 ≤ 140737488355328 then if 1 ≤ l8.length then k12 (l8.drop 1) l9 (l10 ++ ([x17] : List TIface)) else none else none
 else (idx l8 0).bind fun x21 => (idx l9 0).bind fun x23 => jn (fun (l26 : List TIface) (l27 : List TIface) (l28 : List TIface) => k12 l26 l27 l28) (fun k25 => if (Op.bytesLess x21.Name x23.Name) = true then (idx l8 0).bind fun x30 => if (l10 ++ ([x30] : List TIface)).length * 40 ≤ 140737488355328 then if 1 ≤ l8.length then k25 (l8.drop 1) l9 (l10 ++ ([x30] : List TIface)) else none else none
 else if (((l8.length : Nat) : Int) == 0) = true then (idx l9 0).bind fun x35 => if (l10 ++ ([x35] : List TIface)).length * 40 ≤ 140737488355328 then if 1 ≤ l9.length then k25 l8 (l9.drop 1) (l10 ++ ([x35] : List TIface)) else none else none
 else (idx l8 0).bind fun x39 => (idx l9 0).bind fun x41 => if (!(Op.bytesLess x39.Name x41.Name || x39.Name == x41.Name)) = true then (idx l9 0).bind fun x44 => if (l10 ++ ([x44] : List TIface)).length * 40 ≤ 140737488355328 then if 1 ≤ l9.length then k25 l8 (l9.drop 1) (l10 ++ ([x44] : List TIface)) else none else none
 else (idx l8 0).bind fun x48 => (idx l9 0).bind fun x50 => (M140 F x48.Methods x50.Methods).bind fun y52 => if (!y52) = true then some (([] : List TIface), false)
 else if 1 ≤ l9.length then k25 l8 (l9.drop 1) l10 else none))
 else if (decide (((l9.length : Nat) : Int) > 0)) = true then jn (fun (l58 : List TIface) (l59 : List TIface) (l60 : List TIface) => M74_L1 F k3 n l58 l59 l60) (fun k57 => if (((l9.length : Nat) : Int) == 0) = true then (idx l8 0).bind fun x62 => if (l10 ++ ([x62] : List TIface)).length * 40 ≤ 140737488355328 then if 1 ≤ l8.length then k57 (l8.drop 1) l9 (l10 ++ ([x62] : List TIface)) else none else none
 else if (((l8.length : Nat) : Int) == 0) = true then (idx l9 0).bind fun x67 => if (l10 ++ ([x67] : List TIface)).length * 40 ≤ 140737488355328 then if 1 ≤ l9.length then k57 l8 (l9.drop 1) (l10 ++ ([x67] : List TIface)) else none else none
 else (idx l8 0).bind fun x71 => (idx l9 0).bind fun x73 => jn (fun (l76 : List TIface) => k57 l8 (l9.drop 1) l76) (fun k75 => if (!(Op.bytesLess x71.Name x73.Name || x71.Name == x73.Name)) = true then (idx l9 0).bind fun x78 => if (l10 ++ ([x78] : List TIface)).length * 40 ≤ 140737488355328 then if 1 ≤ l9.length then k75 (l10 ++ ([x78] : List TIface)) else none else none
 else (idx l8 0).bind fun x82 => (idx l9 0).bind fun x84 => (M140 F x82.Methods x84.Methods).bind fun y86 => if (!y86) = true then some (([] : List TIface), false)
 else if 1 ≤ l9.length then k75 l10 else none))
 else k3 l10
def M74 (F : Nat) (a1 : (List TIface)) (a2 : (List TIface)) : Option ((List TIface) × Bool) :=
 jn (fun (l4 : List TIface) => some (l4, true)) (fun k3 => M74_L1 F k3 F a1 a2 ([] : List TIface))
def M141_L1 (F : Nat) (a2 : (List TMethod)) (k4 : Option Bool) : List TMethod → Int → Option Bool
  | [], n6 => k4
  | x8 :: tl1, n6 => (idx a2 n6).bind fun x10 => if (!(decide (x8 = x10))) = true then some false
 else M141_L1 F a2 k4 tl1 (n6 + 1)
def M141 (F : Nat) (a1 : (List TMethod)) (a2 : (List TMethod)) : Option Bool :=
 if (((a1.length : Nat) : Int) != ((a2.length : Nat) : Int)) = true then some false
 else jn (some true) (fun k4 => M141_L1 F a2 k4 a1 0)
def M75_L1 (F : Nat) (k3 : (List TType) → Option ((List TType) × Bool)) : Nat → (List TType) → (List TType) → (List TType) → Option ((List TType) × Bool)
 | 0, _, _, _ => none
 | n + 1, l8, l9, l10 => if (decide (((l8.length : Nat) : Int) > 0)) = true then jn (fun (l13 : List TType) (l14 : List TType) (l15 : List TType) => M75_L1 F k3 n l13 l14 l15) (fun k12 => if (((l9.length : Nat) : Int) == 0) = true then (idx l8 0).bind fun x17 => if (l10 ++ ([x17] : List TType)).length * 40 ≤ 140737488355328 then if 1 ≤ l8.length then k12 (l8.drop 1) l9 (l10 ++ ([x17] : List TType)) else none else none
 else (idx l8 0).bind fun x21 => (idx l9 0).bind fun x23 => jn (fun (l26 : List TType) (l27 : List TType) (l28 : List TType) => k12 l26 l27 l28) (fun k25 => if (Op.bytesLess x21.Name x23.Name) = true then (idx l8 0).bind fun x30 => if (l10 ++ ([x30] : List TType)).length * 40 ≤ 140737488355328 then if 1 ≤ l8.length then k25 (l8.drop 1) l9 (l10 ++ ([x30] : List TType)) else none else none
 else if (((l8.length : Nat) : Int) == 0) = true then (idx l9 0).bind fun x35 => if (l10 ++ ([x35] : List TType)).length * 40 ≤ 140737488355328 then if 1 ≤ l9.length then k25 l8 (l9.drop 1) (l10 ++ ([x35] : List TType)) else none else none
 else (idx l8 0).bind fun x39 => (idx l9 0).bind fun x41 => if (!(Op.bytesLess x39.Name x41.Name || x39.Name == x41.Name)) = true then (idx l9 0).bind fun x44 => if (l10 ++ ([x44] : List TType)).length * 40 ≤ 140737488355328 then if 1 ≤ l9.length then k25 l8 (l9.drop 1) (l10 ++ ([x44] : List TType)) else none else none
 else (idx l8 0).bind fun x48 => (idx l9 0).bind fun x50 => (M141 F x48.Methods x50.Methods).bind fun y52 => if (!y52) = true then some (([] : List TType), false)
 else if 1 ≤ l9.length then k25 l8 (l9.drop 1) l10 else none))
 else if (decide (((l9.length : Nat) : Int) > 0)) = true then jn (fun (l58 : List TType) (l59 : List TType) (l60 : List TType) => M75_L1 F k3 n l58 l59 l60) (fun k57 => if (((l9.length : Nat) : Int) == 0) = true then (idx l8 0).bind fun x62 => if (l10 ++ ([x62] : List TType)).length * 40 ≤ 140737488355328 then if 1 ≤ l8.length then k57 (l8.drop 1) l9 (l10 ++ ([x62] : List TType)) else none else none
 else if (((l8.length : Nat) : Int) == 0) = true then (idx l9 0).bind fun x67 => if (l10 ++ ([x67] : List TType)).length * 40 ≤ 140737488355328 then if 1 ≤ l9.length then k57 l8 (l9.drop 1) (l10 ++ ([x67] : List TType)) else none else none
 else (idx l8 0).bind fun x71 => (idx l9 0).bind fun x73 => jn (fun (l76 : List TType) => k57 l8 (l9.drop 1) l76) (fun k75 => if (!(Op.bytesLess x71.Name x73.Name || x71.Name == x73.Name)) = true then (idx l9 0).bind fun x78 => if (l10 ++ ([x78] : List TType)).length * 40 ≤ 140737488355328 then if 1 ≤ l9.length then k75 (l10 ++ ([x78] : List TType)) else none else none
 else (idx l8 0).bind fun x82 => (idx l9 0).bind fun x84 => (M141 F x82.Methods x84.Methods).bind fun y86 => if (!y86) = true then some (([] : List TType), false)
 else if 1 ≤ l9.length then k75 l10 else none))
 else k3 l10
def M75 (F : Nat) (a1 : (List TType)) (a2 : (List TType)) : Option ((List TType) × Bool) :=
 jn (fun (l4 : List TType) => some (l4, true)) (fun k3 => M75_L1 F k3 F a1 a2 ([] : List TType))
def M188_L1 (F : Nat) (a2 : (List TCall)) (k4 : Option Bool) : List TCall → Int → Option Bool
  | [], n6 => k4
  | x8 :: tl1, n6 => (idx a2 n6).bind fun x10 => if (!(decide (x8 = x10))) = true then some false
 else M188_L1 F a2 k4 tl1 (n6 + 1)
def M188 (F : Nat) (a1 : (List TCall)) (a2 : (List TCall)) : Option Bool :=
 if (((a1.length : Nat) : Int) != ((a2.length : Nat) : Int)) = true then some false
 else jn (some true) (fun k4 => M188_L1 F a2 k4 a1 0)
def M142 (F : Nat) (a1 : TFunc) (a2 : TFunc) : Option Bool :=
 if (a1.Component == a2.Component) = true then (M188 F a1.Calls a2.Calls).bind fun y4 => if y4 = true then (M140 F a1.Makes a2.Makes).bind fun y7 => some y7
 else some false
 else some false
def M76_L1 (F : Nat) (k3 : (List TFunc) → Option ((List TFunc) × Bool)) : Nat → (List TFunc) → (List TFunc) → (List TFunc) → Option ((List TFunc) × Bool)
 | 0, _, _, _ => none
 | n + 1, l8, l9, l10 => if (decide (((l8.length : Nat) : Int) > 0)) = true then jn (fun (l13 : List TFunc) (l14 : List TFunc) (l15 : List TFunc) => M76_L1 F k3 n l13 l14 l15) (fun k12 => if (((l9.length : Nat) : Int) == 0) = true then (idx l8 0).bind fun x17 => if (l10 ++ ([x17] : List TFunc)).length * 80 ≤ 140737488355328 then if 1 ≤ l8.length then k12 (l8.drop 1) l9 (l10 ++ ([x17] : List TFunc)) else none else none
 else (idx l8 0).bind fun x21 => (idx l9 0).bind fun x23 => jn (fun (l26 : List TFunc) (l27 : List TFunc) (l28 : List TFunc) => k12 l26 l27 l28) (fun k25 => if (Op.bytesLess x21.Name x23.Name) = true then (idx l8 0).bind fun x30 => if (l10 ++ ([x30] : List TFunc)).length * 80 ≤ 140737488355328 then if 1 ≤ l8.length then k25 (l8.drop 1) l9 (l10 ++ ([x30] : List TFunc)) else none else none
 else if (((l8.length : Nat) : Int) == 0) = true then (idx l9 0).bind fun x35 => if (l10 ++ ([x35] : List TFunc)).length * 80 ≤ 140737488355328 then if 1 ≤ l9.length then k25 l8 (l9.drop 1) (l10 ++ ([x35] : List TFunc)) else none else none
 else (idx l8 0).bind fun x39 => (idx l9 0).bind fun x41 => if (!(Op.bytesLess x39.Name x41.Name || x39.Name == x41.Name)) = true then (idx l9 0).bind fun x44 => if (l10 ++ ([x44] : List TFunc)).length * 80 ≤ 140737488355328 then if 1 ≤ l9.length then k25 l8 (l9.drop 1) (l10 ++ ([x44] : List TFunc)) else none else none
 else (idx l8 0).bind fun x48 => (idx l9 0).bind fun x50 => (M142 F x48 x50).bind fun y52 => if (!y52) = true then some (([] : List TFunc), false)
 else if 1 ≤ l9.length then k25 l8 (l9.drop 1) l10 else none))
 else if (decide (((l9.length : Nat) : Int) > 0)) = true then jn (fun (l58 : List TFunc) (l59 : List TFunc) (l60 : List TFunc) => M76_L1 F k3 n l58 l59 l60) (fun k57 => if (((l9.length : Nat) : Int) == 0) = true then (idx l8 0).bind fun x62 => if (l10 ++ ([x62] : List TFunc)).length * 80 ≤ 140737488355328 then if 1 ≤ l8.length then k57 (l8.drop 1) l9 (l10 ++ ([x62] : List TFunc)) else none else none
 else if (((l8.length : Nat) : Int) == 0) = true then (idx l9 0).bind fun x67 => if (l10 ++ ([x67] : List TFunc)).length * 80 ≤ 140737488355328 then if 1 ≤ l9.length then k57 l8 (l9.drop 1) (l10 ++ ([x67] : List TFunc)) else none else none
 else (idx l8 0).bind fun x71 => (idx l9 0).bind fun x73 => jn (fun (l76 : List TFunc) => k57 l8 (l9.drop 1) l76) (fun k75 => if (!(Op.bytesLess x71.Name x73.Name || x71.Name == x73.Name)) = true then (idx l9 0).bind fun x78 => if (l10 ++ ([x78] : List TFunc)).length * 80 ≤ 140737488355328 then if 1 ≤ l9.length then k75 (l10 ++ ([x78] : List TFunc)) else none else none
 else (idx l8 0).bind fun x82 => (idx l9 0).bind fun x84 => (M142 F x82 x84).bind fun y86 => if (!y86) = true then some (([] : List TFunc), false)
 else if 1 ≤ l9.length then k75 l10 else none))
 else k3 l10
def M76 (F : Nat) (a1 : (List TFunc)) (a2 : (List TFunc)) : Option ((List TFunc) × Bool) :=
 jn (fun (l4 : List TFunc) => some (l4, true)) (fun k3 => M76_L1 F k3 F a1 a2 ([] : List TFunc))
def M77_L1 (F : Nat) (k3 : (List (List UInt8)) → Option (List (List UInt8))) : Nat → (List (List UInt8)) → (List (List UInt8)) → (List (List UInt8)) → Option (List (List UInt8))
 | 0, _, _, _ => none
 | n + 1, l8, l9, l10 => if (decide (((l8.length : Nat) : Int) > 0)) = true then jn (fun (l13 : List (List UInt8)) (l14 : List (List UInt8)) (l15 : List (List UInt8)) => M77_L1 F k3 n l13 l14 l15) (fun k12 => if (((l9.length : Nat) : Int) == 0) = true then (idx l8 0).bind fun x17 => if (l10 ++ ([x17] : List (List UInt8))).length * 16 ≤ 140737488355328 then if 1 ≤ l8.length then k12 (l8.drop 1) l9 (l10 ++ ([x17] : List (List UInt8))) else none else none
 else (idx l8 0).bind fun x21 => (idx l9 0).bind fun x23 => jn (fun (l26 : List (List UInt8)) (l27 : List (List UInt8)) (l28 : List (List UInt8)) => k12 l26 l27 l28) (fun k25 => if (Op.bytesLess x21 x23) = true then (idx l8 0).bind fun x30 => if (l10 ++ ([x30] : List (List UInt8))).length * 16 ≤ 140737488355328 then if 1 ≤ l8.length then k25 (l8.drop 1) l9 (l10 ++ ([x30] : List (List UInt8))) else none else none
 else if (((l8.length : Nat) : Int) == 0) = true then (idx l9 0).bind fun x35 => if (l10 ++ ([x35] : List (List UInt8))).length * 16 ≤ 140737488355328 then if 1 ≤ l9.length then k25 l8 (l9.drop 1) (l10 ++ ([x35] : List (List UInt8))) else none else none
 else (idx l8 0).bind fun x39 => (idx l9 0).bind fun x41 => if (!(Op.bytesLess x39 x41 || x39 == x41)) = true then (idx l9 0).bind fun x44 => if (l10 ++ ([x44] : List (List UInt8))).length * 16 ≤ 140737488355328 then if 1 ≤ l9.length then k25 l8 (l9.drop 1) (l10 ++ ([x44] : List (List UInt8))) else none else none
 else if 1 ≤ l9.length then k25 l8 (l9.drop 1) l10 else none))
 else if (decide (((l9.length : Nat) : Int) > 0)) = true then jn (fun (l51 : List (List UInt8)) (l52 : List (List UInt8)) (l53 : List (List UInt8)) => M77_L1 F k3 n l51 l52 l53) (fun k50 => if (((l9.length : Nat) : Int) == 0) = true then (idx l8 0).bind fun x55 => if (l10 ++ ([x55] : List (List UInt8))).length * 16 ≤ 140737488355328 then if 1 ≤ l8.length then k50 (l8.drop 1) l9 (l10 ++ ([x55] : List (List UInt8))) else none else none
 else if (((l8.length : Nat) : Int) == 0) = true then (idx l9 0).bind fun x60 => if (l10 ++ ([x60] : List (List UInt8))).length * 16 ≤ 140737488355328 then if 1 ≤ l9.length then k50 l8 (l9.drop 1) (l10 ++ ([x60] : List (List UInt8))) else none else none
 else (idx l8 0).bind fun x64 => (idx l9 0).bind fun x66 => jn (fun (l69 : List (List UInt8)) => k50 l8 (l9.drop 1) l69) (fun k68 => if (!(Op.bytesLess x64 x66 || x64 == x66)) = true then (idx l9 0).bind fun x71 => if (l10 ++ ([x71] : List (List UInt8))).length * 16 ≤ 140737488355328 then if 1 ≤ l9.length then k68 (l10 ++ ([x71] : List (List UInt8))) else none else none
 else if 1 ≤ l9.length then k68 l10 else none))
 else k3 l10
def M77 (F : Nat) (a1 : (List (List UInt8))) (a2 : (List (List UInt8))) : Option (List (List UInt8)) :=
 jn (fun (l4 : List (List UInt8)) => some l4) (fun k3 => M77_L1 F k3 F a1 a2 ([] : List (List UInt8)))
def M18 (F : Nat) (a1 : TGraph) : Option Int :=
 (M72 F a1).bind fun y2 => (M73 F (Tprovenderref6_checker.mk a1 y2 false)).bind fun y4 => some y4
def M16_L1 (F : Nat) (k3 : (List TIface) → (List TType) → (List TFunc) → (List (List UInt8)) → Option (TGraph × Int)) : List TGraph → (List TIface) → (List TType) → (List TFunc) → (List (List UInt8)) → Option (TGraph × Int)
  | [], l14, l15, l16, l17 => k3 l14 l15 l16 l17
  | x19 :: tl1, l14, l15, l16, l17 => (M72 F x19).bind fun y21 => (M73 F (Tprovenderref6_checker.mk x19 y21 true)).bind fun y23 => if (y23 != 0) = true then some ((TGraph.mk ([] : List TIface) ([] : List TType) ([] : List TFunc) ([] : List (List UInt8))), y23)
 else (M74 F l14 x19.Ifaces).bind fun y26 => (M75 F l15 x19.Types).bind fun y28 => (M76 F l16 x19.Funcs).bind fun y30 => if (!(y26.2)) = true then some ((TGraph.mk ([] : List TIface) ([] : List TType) ([] : List TFunc) ([] : List (List UInt8))), 5)
 else if (!(y28.2)) = true then some ((TGraph.mk ([] : List TIface) ([] : List TType) ([] : List TFunc) ([] : List (List UInt8))), 5)
 else if (!(y30.2)) = true then some ((TGraph.mk ([] : List TIface) ([] : List TType) ([] : List TFunc) ([] : List (List UInt8))), 5)
 else (M77 F l17 x19.Entries).bind fun y35 => M16_L1 F k3 tl1 (y26.1) (y28.1) (y30.1) y35
def M16 (F : Nat) (a1 : (List TGraph)) : Option (TGraph × Int) :=
 if (((a1.length : Nat) : Int) == 0) = true then some ((TGraph.mk ([] : List TIface) ([] : List TType) ([] : List TFunc) ([] : List (List UInt8))), 13)
 else jn (fun (l4 : List TIface) (l5 : List TType) (l6 : List TFunc) (l7 : List (List UInt8)) => (M18 F (TGraph.mk l4 l5 l6 l7)).bind fun y38 => if (y38 != 0) = true then some ((TGraph.mk ([] : List TIface) ([] : List TType) ([] : List TFunc) ([] : List (List UInt8))), y38)
 else some ((TGraph.mk l4 l5 l6 l7), 0)) (fun k3 => M16_L1 F k3 a1 ([] : List TIface) ([] : List TType) ([] : List TFunc) ([] : List (List UInt8)))
def M52 (F : Nat) (a1 : TIface) (a2 : TIface) : Option Bool :=
 if (a1.Name == a2.Name) = true then (M26 F a1.Methods a2.Methods).bind fun y4 => some y4
 else some false
def M55_L1 (F : Nat) (a2 : (List TIface)) (k4 : Option Bool) : List TIface → Int → Option Bool
  | [], n6 => k4
  | x8 :: tl1, n6 => (idx a2 n6).bind fun x10 => (M52 F x8 x10).bind fun y12 => if (!y12) = true then some false
 else M55_L1 F a2 k4 tl1 (n6 + 1)
def M55 (F : Nat) (a1 : (List TIface)) (a2 : (List TIface)) : Option Bool :=
 if (((a1.length : Nat) : Int) != ((a2.length : Nat) : Int)) = true then some false
 else jn (some true) (fun k4 => M55_L1 F a2 k4 a1 0)
def M53 (F : Nat) (a1 : TType) (a2 : TType) : Option Bool :=
 if (a1.Name == a2.Name) = true then (M54 F a1.Methods a2.Methods).bind fun y4 => some y4
 else some false
def M56_L1 (F : Nat) (a2 : (List TType)) (k4 : Option Bool) : List TType → Int → Option Bool
  | [], n6 => k4
  | x8 :: tl1, n6 => (idx a2 n6).bind fun x10 => (M53 F x8 x10).bind fun y12 => if (!y12) = true then some false
 else M56_L1 F a2 k4 tl1 (n6 + 1)
def M56 (F : Nat) (a1 : (List TType)) (a2 : (List TType)) : Option Bool :=
 if (((a1.length : Nat) : Int) != ((a2.length : Nat) : Int)) = true then some false
 else jn (some true) (fun k4 => M56_L1 F a2 k4 a1 0)
def M58 (F : Nat) (a1 : TFunc) (a2 : TFunc) : Option Bool :=
 if (a1.Name == a2.Name) = true then if (a1.Component == a2.Component) = true then (M126 F a1.Calls a2.Calls).bind fun y5 => if y5 = true then (M26 F a1.Makes a2.Makes).bind fun y8 => some y8
 else some false
 else some false
 else some false
def M57_L1 (F : Nat) (a2 : (List TFunc)) (k4 : Option Bool) : List TFunc → Int → Option Bool
  | [], n6 => k4
  | x8 :: tl1, n6 => (idx a2 n6).bind fun x10 => (M58 F x8 x10).bind fun y12 => if (!y12) = true then some false
 else M57_L1 F a2 k4 tl1 (n6 + 1)
def M57 (F : Nat) (a1 : (List TFunc)) (a2 : (List TFunc)) : Option Bool :=
 if (((a1.length : Nat) : Int) != ((a2.length : Nat) : Int)) = true then some false
 else jn (some true) (fun k4 => M57_L1 F a2 k4 a1 0)
def M13 (F : Nat) (a1 : TGraph) (a2 : TGraph) : Option Bool :=
 (M55 F a1.Ifaces a2.Ifaces).bind fun y3 => if y3 = true then (M56 F a1.Types a2.Types).bind fun y6 => if y6 = true then (M57 F a1.Funcs a2.Funcs).bind fun y9 => if y9 = true then (M26 F a1.Entries a2.Entries).bind fun y12 => some y12
 else some false
 else some false
 else some false
def M14 (F : Nat) : Option Bool := some true
def M4_L1 (F : Nat) (k10 : Option Bool) : List TGraph → Option Bool
  | [] => k10
  | x14 :: tl1 => (M17 F x14).bind fun y16 => (M18 F x14).bind fun y18 => if (y16 != y18) = true then some false
 else M4_L1 F k10 tl1
def M4 (F : Nat) (a1 : (List TGraph)) : Option Bool :=
 (M15 F a1).bind fun y2 => (M16 F a1).bind fun y4 => if ((y2.2) != (y4.2)) = true then some false
 else (M13 F (y2.1) (y4.1)).bind fun y7 => if (!y7) = true then some false
 else jn (jn ((M14 F).bind fun y30 => some y30) (fun k22 => if ((y2.2) == 0) = true then (M15 F ([(y2.1), (y2.1)] : List TGraph)).bind fun y24 => if ((y24.2) != 0) = true then some false
 else (M13 F (y2.1) (y24.1)).bind fun y27 => if (!y27) = true then some false
 else k22
 else k22)) (fun k10 => M4_L1 F k10 a1)
end
end Go.Proofs.YtpbkggamiipdmaaGreat
namespace Go.Pv
open Go
theorem w64_id {n : Int} (h : -9223372036854775808 ≤ n) (h' : n ≤ 9223372036854775807) : w64 n = n := by
 have : w64 n = if n % 18446744073709551616 ≥ 9223372036854775808 then n % 18446744073709551616 - 18446744073709551616 else n % 18446744073709551616 := by
  simp [w64, IntKind.wrap, IntKind.signed, IntKind.bits]
 rw [this]
 split <;> omega
theorem jn_def {α β : Type} (k : α) (b : α → β) : jn k b = b k := rfl
theorem idx_nat {α : Type} {xs : List α} {j : Nat} (h : j < xs.length) : idx xs (j : Int) = some xs[j] := by
 simp [idx, h]
theorem if_t {α : Type} {p : Prop} [Decidable p] {x y : α} (h : p) : (if decide p = true then x else y) = x := by simp [h]
theorem if_f {α : Type} {p : Prop} [Decidable p] {x y : α} (h : ¬ p) : (if decide p = true then x else y) = y := by simp [h]
theorem mget_mput {α β : Type} [DecidableEq α] (xs : List (α × β)) (k k' : α) (v : β) : mget (mput xs k v) k' = if k = k' then some v else mget xs k' := by
 induction xs with
 | nil => simp [mput, mget]
 | cons p r ih =>
  simp only [mput]
  split
  ·rename_i h
   simp only [mget, h]
   split <;> simp_all
  ·rename_i h
   simp only [mget]
   by_cases h2 : p.1 = k'
   ·rw [if_pos h2, if_pos h2, if_neg (fun e => h (h2.trans e.symm))]
   ·rw [if_neg h2, if_neg h2]; exact ih
theorem bl_cons (x : UInt8) (a : List UInt8) (y : UInt8) (b : List UInt8) : Op.bytesLess (x :: a) (y :: b) = (decide (x < y) || (x == y && Op.bytesLess a b)) := by
 rw [Op.bytesLess]
theorem bl_irrefl : ∀ a : List UInt8, Op.bytesLess a a = false
 | [] => by simp [Op.bytesLess]
 | x :: a => by rw [bl_cons, bl_irrefl a]; simp
theorem bl_trans : ∀ {a b c : List UInt8}, Op.bytesLess a b = true → Op.bytesLess b c = true → Op.bytesLess a c = true
 | [], [], _, h, _ => by simp [Op.bytesLess] at h
 | [], y :: b, [], _, h => by simp [Op.bytesLess] at h
 | [], y :: b, z :: c, _, _ => by simp [Op.bytesLess]
 | x :: a, [], _, h, _ => by simp [Op.bytesLess] at h
 | x :: a, y :: b, [], _, h => by simp [Op.bytesLess] at h
 | x :: a, y :: b, z :: c, h, g => by
  rw [bl_cons] at *
  simp only [Bool.or_eq_true, decide_eq_true_eq, Bool.and_eq_true, beq_iff_eq, UInt8.lt_iff_toNat_lt] at *
  rcases h with h | ⟨rfl, h⟩ <;> rcases g with g | ⟨rfl, g⟩
  ·exact .inl (by omega)
  ·exact .inl h
  ·exact .inl g
  ·exact .inr ⟨rfl, bl_trans h g⟩
theorem bl_tri : ∀ a b : List UInt8, Op.bytesLess a b = true ∨ a = b ∨ Op.bytesLess b a = true
 | [], [] => by simp
 | [], y :: b => by simp [Op.bytesLess]
 | x :: a, [] => by simp [Op.bytesLess]
 | x :: a, y :: b => by
  rw [bl_cons, bl_cons]
  simp only [Bool.or_eq_true, decide_eq_true_eq, Bool.and_eq_true, beq_iff_eq, UInt8.lt_iff_toNat_lt, List.cons.injEq]
  rcases Nat.lt_trichotomy x.toNat y.toNat with h | h | h
  ·exact .inl (.inl h)
  ·have := UInt8.toNat_inj.1 h
   subst this
   rcases bl_tri a b with h | h | h
   ·exact .inl (.inr ⟨rfl, h⟩)
   ·exact .inr (.inl ⟨rfl, h⟩)
   ·exact .inr (.inr (.inr ⟨rfl, h⟩))
  ·exact .inr (.inr (.inl h))
theorem bl_asymm {a b : List UInt8} (h : Op.bytesLess a b = true) : Op.bytesLess b a = false := by
 cases h' : Op.bytesLess b a with
 | false => rfl
 | true => have := bl_trans h h'; rw [bl_irrefl] at this; simp at this
theorem bl_ne {a b : List UInt8} (h : Op.bytesLess a b = true) : a ≠ b := by rintro rfl; rw [bl_irrefl] at h; simp at h
theorem bl_gt (a b : List UInt8) : (!(Op.bytesLess a b || a == b)) = Op.bytesLess b a := by
 rcases bl_tri a b with h | h | h
 ·rw [h, bl_asymm h]; simp
 ·subst h; simp [bl_irrefl]
 ·rw [h, bl_asymm h]; simp; exact fun e => bl_ne h e.symm
theorem eqL_at {α : Type} [DecidableEq α] {g : List α → Int → Option Bool} (b : List α) (k : Option Bool)
  (h0 : ∀ n, g [] n = k) (h1 : ∀ x l n, g (x :: l) n = (idx b n).bind fun y => if (!(decide (x = y))) = true then some false else g l (n + 1)) :
  ∀ (l : List α) (n : Nat), n + l.length ≤ b.length → g l n = if l = (b.drop n).take l.length then k else some false
 | [], n, _ => by simp [h0]
 | x :: l, n, h => by
  have hn : n < b.length := by simp at h; omega
  rw [h1, idx_nat hn, Option.bind_some]
  have ih := eqL_at b k h0 h1 l (n + 1) (by simp at h; omega)
  have e : ((n : Int) + 1) = ((n + 1 : Nat) : Int) := rfl
  rw [e, ih, List.drop_eq_getElem_cons hn]
  simp only [List.length_cons, List.take_succ_cons, List.cons.injEq]
  by_cases hx : x = b[n]
  ·simp [hx]
  ·simp [hx]
theorem eqL_all {α : Type} [DecidableEq α] {g : List α → Int → Option Bool} (b : List α)
  (h0 : ∀ n, g [] n = some true) (h1 : ∀ x l n, g (x :: l) n = (idx b n).bind fun y => if (!(decide (x = y))) = true then some false else g l (n + 1)) (a : List α) :
  (if (((a.length : Nat) : Int) != ((b.length : Nat) : Int)) = true then some false else g a 0) = some (decide (a = b)) := by
 by_cases h : a.length = b.length
 ·rw [if_neg (by simp [h])]
  have := eqL_at b (some true) h0 h1 a 0 (by omega)
  rw [show ((0 : Nat) : Int) = 0 from rfl] at this
  rw [this, List.drop_zero, List.take_of_length_le (by omega)]
  split <;> simp [*]
 ·rw [if_pos (by simp; omega)]
  have : a ≠ b := fun e => h (by rw [e])
  simp [this]
theorem idxL {α : Type} {g : List α → Int → Option Int} {k : Option Int} (p : α → Bool) (h0 : ∀ n, g [] n = k) (h1 : ∀ x l n, g (x :: l) n = if p x = true then some n else g l (n + 1)) :
  ∀ l (n : Nat), g l n = if l.any p = true then some ((n + l.findIdx p : Nat) : Int) else k
 | [], n => by simp [h0]
 | x :: l, n => by
  have e : ((n : Int) + 1) = ((n + 1 : Nat) : Int) := rfl
  rw [h1, e, idxL p h0 h1 l (n + 1)]
  cases h : p x
  ·have e2 : n + 1 + l.findIdx p = n + (l.findIdx p + 1) := by omega
   simp only [List.any_cons, h, Bool.false_or, List.findIdx_cons, cond_false, e2, Bool.false_eq_true, if_false]
  ·simp [List.findIdx_cons, h]
theorem bytesL {β : Type} {g : Nat → Int → Option β} {k : Option β} {f : β} (s : List UInt8) (p : UInt8 → Bool) (h0 : ∀ n, g 0 n = k)
  (h1 : ∀ m n, g (m + 1) n = (idx s n).bind fun c => if p c = true then g m (n + 1) else some f) :
  ∀ (m n : Nat), n + m = s.length → g m n = if (s.drop n).all p = true then k else some f
 | 0, n, h => by rw [h0, List.drop_eq_nil_of_le (by omega)]; simp
 | m + 1, n, h => by
  have hn : n < s.length := by omega
  have e : ((n : Int) + 1) = ((n + 1 : Nat) : Int) := rfl
  rw [h1, idx_nat hn, Option.bind_some, e, bytesL s p h0 h1 m (n + 1) (by omega), List.drop_eq_getElem_cons hn, List.all_cons]
  cases h : p s[n]
  ·simp only [Bool.false_and, Bool.false_eq_true, if_false]
  ·simp only [Bool.true_and, if_true]
theorem ite2 {α : Type} {p q : Prop} [Decidable p] [Decidable q] {x y : Option α} {a b : α} (h : p ↔ q) (h1 : q → x = some a) (h2 : ¬ q → y = some b) : (if p then x else y) = some (if q then a else b) := by
 by_cases hq : q
 ·rw [if_pos (h.2 hq), if_pos hq, h1 hq]
 ·rw [if_neg (fun hp => hq (h.1 hp)), if_neg hq, h2 hq]
theorem ne0 {n : Int} : (n != 0) = true ↔ n ≠ 0 := by simp
end Go.Pv
namespace Go.Proofs.YtpbkggamiipdmaaGreat
open Go Go.Pv
set_option linter.unusedVariables false
section
variable {α : Type} (nm : α → List UInt8) (same : α → α → Bool)
def jnd : List α → List α → Option (List α)
 | [], l => some l
 | x :: r, l => match l.find? (fun y => nm y == nm x) with
  | some y => if same y x = true then jnd r l else none
  | none => jnd r (l ++ [x])
def IxM (m : List ((List UInt8) × Int)) (l : List α) : Prop := ∀ t, mget m t = (l.findIdx? (fun y => nm y == t)).map Int.ofNat
variable {nm} {same}
theorem IxM.at_nil : IxM nm [] [] := fun t => rfl
theorem IxM.at_none {m : List ((List UInt8) × Int)} {l : List α} (h : IxM nm m l) {t : List UInt8} : mget m t = none ↔ l.find? (fun y => nm y == t) = none := by
 rw [h t, Option.map_eq_none_iff, List.findIdx?_eq_none_iff, List.find?_eq_none]
 simp
theorem IxM.at_some {m : List ((List UInt8) × Int)} {l : List α} (h : IxM nm m l) {t : List UInt8} {y : α} (hy : l.find? (fun y => nm y == t) = some y) : (mget m t).isSome = true ∧ idx l ((mget m t).getD 0) = some y := by
 rw [h t]
 rw [List.find?_eq_some_iff_getElem] at hy
 obtain ⟨h1, i, hi, h2, h3⟩ := hy
 have : l.findIdx? (fun y => nm y == t) = some i := by
  rw [List.findIdx?_eq_some_iff_getElem]
  exact ⟨hi, by rw [h2]; exact h1, fun j hj => by have := h3 j hj; simpa using this⟩
 rw [this]
 exact ⟨rfl, by rw [Option.map_some, Option.getD_some, show Int.ofNat i = (i : Int) from rfl, idx_nat hi, h2]⟩
theorem IxM.put {m : List ((List UInt8) × Int)} {l : List α} (h : IxM nm m l) {x : α} (hx : l.find? (fun y => nm y == nm x) = none) : IxM nm (mput m (nm x) ((l.length : Nat) : Int)) (l ++ [x]) := by
 intro t
 rw [mget_mput, List.findIdx?_append]
 rw [List.find?_eq_none] at hx
 by_cases e : nm x = t
 ·subst e
  have hn : l.findIdx? (fun y => nm y == nm x) = none := by rw [List.findIdx?_eq_none_iff]; intro y hy; have := hx y hy; simpa using this
  rw [if_pos rfl, hn]
  simp [List.findIdx?_cons]
 ·rw [if_neg e, h t]
  have : (nm x == t) = false := by simpa using e
  simp [List.findIdx?_cons, this]
end
section
variable {F : Nat}
theorem M26_same (a b : List (List UInt8)) : M26 F a b = some (decide (a = b)) := by
 unfold M26
 rw [jn_def]
 exact eqL_all (g := M26_L1 F b (some true)) b (fun n => rfl) (fun x l n => by rw [M26_L1]; congr 1; funext y; rw [show (x == y) = decide (x = y) from by by_cases e : x = y <;> simp [e]]) a
def sameI (y x : TIface) : Bool := y.Name == x.Name && decide (y.Methods = x.Methods)
theorem M62_same (y x : TIface) : M62 F y x = some (sameI y x) := by
 unfold M62 sameI
 cases h : (y.Name == x.Name)
 ·simp
 ·rw [if_pos rfl, M26_same]; simp
theorem M61_L1_eq (k : (List ((List UInt8) × Int)) → (List TIface) → Option (Bool × (List ((List UInt8) × Int)) × (List TIface))) : ∀ (more : List TIface) (m : List ((List UInt8) × Int)) (l : List TIface), IxM TIface.Name m l → l.length + more.length ≤ 1000000000000 →
  (∃ m' l', jnd TIface.Name sameI more l = some l' ∧ IxM TIface.Name m' l' ∧ M61_L1 F k more m l = k m' l') ∨ (∃ m', jnd TIface.Name sameI more l = none ∧ M61_L1 F k more m l = some (false, m', []))
 | [], m, l, h, _ => .inl ⟨m, l, rfl, h, rfl⟩
 | x :: r, m, l, h, hl => by
  simp only [List.length_cons] at hl
  rw [M61_L1, jnd]
  simp only [jn_def, M44, Option.bind_some]
  cases hf : l.find? (fun y => y.Name == x.Name) with
  | some y =>
   obtain ⟨h1, h2⟩ := h.at_some hf
   rw [h1, if_pos rfl, h2, Option.bind_some, M62_same, Option.bind_some]
   cases hs : sameI y x
   ·exact .inr ⟨m, by simp [hs], by simp⟩
   ·simp only [Bool.not_true, Bool.false_eq_true, if_false, hs, if_true]
    exact M61_L1_eq k r m l h (by omega)
  | none =>
   have h1 := h.at_none.2 hf
   rw [h1]
   simp only [Option.isSome_none, Bool.false_eq_true, if_false, Bool.not_false, if_true]
   rw [if_pos (by simp; omega)]
   exact M61_L1_eq k r _ _ (h.put hf) (by simp; omega)
theorem M54_same (a b : List TMethod) : M54 F a b = some (decide (a = b)) := by
 unfold M54
 rw [jn_def]
 exact eqL_all (g := M54_L1 F b (some true)) b (fun n => rfl) (fun x l n => by rw [M54_L1]) a
theorem M126_same (a b : List TCall) : M126 F a b = some (decide (a = b)) := by
 unfold M126
 rw [jn_def]
 exact eqL_all (g := M126_L1 F b (some true)) b (fun n => rfl) (fun x l n => by rw [M126_L1]) a
def sameT (y x : TType) : Bool := y.Name == x.Name && decide (y.Methods = x.Methods)
theorem M64_same (y x : TType) : M64 F y x = some (sameT y x) := by
 unfold M64 sameT
 cases h : (y.Name == x.Name)
 ·simp
 ·rw [if_pos rfl, M54_same]; simp
def sameF (y x : TFunc) : Bool := y.Name == x.Name && (y.Component == x.Component && (decide (y.Calls = x.Calls) && decide (y.Makes = x.Makes)))
theorem M67_same (y x : TFunc) : M67 F y x = some (sameF y x) := by
 unfold M67 sameF
 cases h : (y.Name == x.Name)
 ·simp
 ·rw [if_pos rfl]
  cases h2 : (y.Component == x.Component)
  ·simp
  ·rw [if_pos rfl, M126_same, Option.bind_some]
   by_cases h3 : y.Calls = x.Calls
   ·rw [if_pos (by simpa using h3), M26_same]; simp [h3]
   ·rw [if_neg (by simpa using h3)]; simp [h3]
theorem M63_L1_eq (k : (List ((List UInt8) × Int)) → (List TType) → Option (Bool × (List ((List UInt8) × Int)) × (List TType))) : ∀ (more : List TType) (m : List ((List UInt8) × Int)) (l : List TType), IxM TType.Name m l → l.length + more.length ≤ 1000000000000 →
  (∃ m' l', jnd TType.Name sameT more l = some l' ∧ IxM TType.Name m' l' ∧ M63_L1 F k more m l = k m' l') ∨ (∃ m', jnd TType.Name sameT more l = none ∧ M63_L1 F k more m l = some (false, m', []))
 | [], m, l, h, _ => .inl ⟨m, l, rfl, h, rfl⟩
 | x :: r, m, l, h, hl => by
  simp only [List.length_cons] at hl
  rw [M63_L1, jnd]
  simp only [jn_def, M47, Option.bind_some]
  cases hf : l.find? (fun y => y.Name == x.Name) with
  | some y =>
   obtain ⟨h1, h2⟩ := h.at_some hf
   rw [h1, if_pos rfl, h2, Option.bind_some, M64_same, Option.bind_some]
   cases hs : sameT y x
   ·exact .inr ⟨m, by simp [hs], by simp⟩
   ·simp only [Bool.not_true, Bool.false_eq_true, if_false, hs, if_true]
    exact M63_L1_eq k r m l h (by omega)
  | none =>
   have h1 := h.at_none.2 hf
   rw [h1]
   simp only [Option.isSome_none, Bool.false_eq_true, if_false, Bool.not_false, if_true]
   rw [if_pos (by simp; omega)]
   exact M63_L1_eq k r _ _ (h.put hf) (by simp; omega)
theorem M65_L1_eq (k : (List ((List UInt8) × Int)) → (List TFunc) → Option (Bool × (List ((List UInt8) × Int)) × (List TFunc))) : ∀ (more : List TFunc) (m : List ((List UInt8) × Int)) (l : List TFunc), IxM TFunc.Name m l → l.length + more.length ≤ 1000000000000 →
  (∃ m' l', jnd TFunc.Name sameF more l = some l' ∧ IxM TFunc.Name m' l' ∧ M65_L1 F k more m l = k m' l') ∨ (∃ m', jnd TFunc.Name sameF more l = none ∧ M65_L1 F k more m l = some (false, m', []))
 | [], m, l, h, _ => .inl ⟨m, l, rfl, h, rfl⟩
 | x :: r, m, l, h, hl => by
  simp only [List.length_cons] at hl
  rw [M65_L1, jnd]
  simp only [jn_def, M66, Option.bind_some]
  cases hf : l.find? (fun y => y.Name == x.Name) with
  | some y =>
   obtain ⟨h1, h2⟩ := h.at_some hf
   rw [h1, if_pos rfl, h2, Option.bind_some, M67_same, Option.bind_some]
   cases hs : sameF y x
   ·exact .inr ⟨m, by simp [hs], by simp⟩
   ·simp only [Bool.not_true, Bool.false_eq_true, if_false, hs, if_true]
    exact M65_L1_eq k r m l h (by omega)
  | none =>
   have h1 := h.at_none.2 hf
   rw [h1]
   simp only [Option.isSome_none, Bool.false_eq_true, if_false, Bool.not_false, if_true]
   rw [if_pos (by simp; omega)]
   exact M65_L1_eq k r _ _ (h.put hf) (by simp; omega)
theorem M61_eq {more l : List TIface} {m : List ((List UInt8) × Int)} (h : IxM TIface.Name m l) (hl : l.length + more.length ≤ 1000000000000) : ∃ m', match jnd TIface.Name sameI more l with
  | some l' => IxM TIface.Name m' l' ∧ M61 F more l m = some (true, m', l')
  | none => M61 F more l m = some (false, m', []) := by
 unfold M61
 rw [jn_def]
 rcases M61_L1_eq (F := F) (fun m46 l47 => some (true, m46, l47)) more m l h hl with ⟨m', l', h1, h2, h3⟩ | ⟨m', h1, h3⟩
 ·exact ⟨m', by rw [h1]; exact ⟨h2, h3⟩⟩
 ·exact ⟨m', by rw [h1]; exact h3⟩
theorem M63_eq {more l : List TType} {m : List ((List UInt8) × Int)} (h : IxM TType.Name m l) (hl : l.length + more.length ≤ 1000000000000) : ∃ m', match jnd TType.Name sameT more l with
  | some l' => IxM TType.Name m' l' ∧ M63 F more l m = some (true, m', l')
  | none => M63 F more l m = some (false, m', []) := by
 unfold M63
 rw [jn_def]
 rcases M63_L1_eq (F := F) (fun m46 l47 => some (true, m46, l47)) more m l h hl with ⟨m', l', h1, h2, h3⟩ | ⟨m', h1, h3⟩
 ·exact ⟨m', by rw [h1]; exact ⟨h2, h3⟩⟩
 ·exact ⟨m', by rw [h1]; exact h3⟩
theorem M65_eq {more l : List TFunc} {m : List ((List UInt8) × Int)} (h : IxM TFunc.Name m l) (hl : l.length + more.length ≤ 1000000000000) : ∃ m', match jnd TFunc.Name sameF more l with
  | some l' => IxM TFunc.Name m' l' ∧ M65 F more l m = some (true, m', l')
  | none => M65 F more l m = some (false, m', []) := by
 unfold M65
 rw [jn_def]
 rcases M65_L1_eq (F := F) (fun m46 l47 => some (true, m46, l47)) more m l h hl with ⟨m', l', h1, h2, h3⟩ | ⟨m', h1, h3⟩
 ·exact ⟨m', by rw [h1]; exact ⟨h2, h3⟩⟩
 ·exact ⟨m', by rw [h1]; exact h3⟩
end
end Go.Proofs.YtpbkggamiipdmaaGreat
