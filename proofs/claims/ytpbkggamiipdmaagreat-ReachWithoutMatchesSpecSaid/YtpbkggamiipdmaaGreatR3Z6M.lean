/- Part of the proof: Z6M. -/
import Derived.Test.YtpbkggamiipdmaaGreatR3Z6T
namespace Go.Proofs.YtpbkggamiipdmaaGreat
open Go Go.Pv
set_option linter.unusedVariables false
set_option maxRecDepth 100000
noncomputable section
def M59_L3 (F : Nat) (k23 : (List ((List UInt8) × Bool)) → Option Treach_checker) : List TFunc → (List ((List UInt8) × Bool)) → Option Treach_checker
  | [], m28 => k23 m28
  | x30 :: tl3, m28 => M59_L3 F k23 tl3 (mput m28 x30.Name true)
def M59_L2 (F : Nat) (k13 : (List ((List UInt8) × Bool)) → Option Treach_checker) : List TType → (List ((List UInt8) × Bool)) → Option Treach_checker
  | [], m18 => k13 m18
  | x20 :: tl2, m18 => M59_L2 F k13 tl2 (mput m18 x20.Name true)
def M59_L1 (F : Nat) (k3 : (List ((List UInt8) × TIface)) → Option Treach_checker) : List TIface → (List ((List UInt8) × TIface)) → Option Treach_checker
  | [], m8 => k3 m8
  | x10 :: tl1, m8 => M59_L1 F k3 tl1 (mput m8 x10.Name x10)
def M59 (F : Nat) (a1 : TGraph) (a2 : Bool) : Option Treach_checker :=
  jn (fun (m4 : List ((List UInt8) × TIface)) => jn (fun (m14 : List ((List UInt8) × Bool)) => jn (fun (m24 : List ((List UInt8) × Bool)) => some (Treach_checker.mk a2 m4 m14 m24)) (fun k23 => M59_L3 F k23 a1.Funcs ([] : List ((List UInt8) × Bool)))) (fun k13 => M59_L2 F k13 a1.Types ([] : List ((List UInt8) × Bool)))) (fun k3 => M59_L1 F k3 a1.Ifaces ([] : List ((List UInt8) × TIface)))
def M79_L1 (F : Nat) (a1 : (List UInt8)) (k2 : Option Bool) : Nat → Int → Option Bool
  | 0, n4 => k2
  | tl1 + 1, n4 => (idx a1 n4).bind fun c6 => if (decide ((c6.toNat : Int) < 33)) = true then some false
 else (idx a1 n4).bind fun c9 => if (decide ((c9.toNat : Int) > 126)) = true then some false
 else (idx a1 n4).bind fun c12 => if ((c12.toNat : Int) == 35) = true then some false
 else M79_L1 F a1 k2 tl1 (n4 + 1)
def M79 (F : Nat) (a1 : (List UInt8)) : Option Bool :=
  jn (if (!(a1 == ([] : List UInt8))) = true then some (decide ((a1.length : Int) ≤ 100))
  else some false) (fun k2 => if (a1.length : Int) ≤ 9223372036854775807 then M79_L1 F a1 k2 (((a1.length : Int) : Int).toNat) 0 else none)
def M173 (F : Nat) (a1 : (List UInt8)) (a2 : (List UInt8)) (a3 : Bool) : Option Int :=
  (M79 F a1).bind fun y4 => jn (some 0) (fun k6 => if (!y4) = true then some 8
  else if (!a3) = true then if (Op.bytesLess a1 a2 || a1 == a2) = true then some 10
  else k6
  else k6)
def M127_L2 (F : Nat) (k18 : Option Int) : List (List UInt8) → Int → (List UInt8) → Option Int
  | [], n22, s21 => k18
  | x24 :: tl2, n22, s21 => (M173 F x24 s21 (n22 == 0)).bind fun y26 => if (y26 != 0) = true then some y26
 else M127_L2 F k18 tl2 (n22 + 1) x24
def M127_L1 (F : Nat) (k3 : Option Int) : List TIface → Int → (List UInt8) → Option Int
  | [], n7, s6 => k3
  | x11 :: tl1, n7, s6 => jn (fun (s10 : List UInt8) => M127_L1 F k3 tl1 (n7 + 1) s10) (fun k9 => (M173 F x11.Name s6 (n7 == 0)).bind fun y13 => if (y13 != 0) = true then some y13
 else if (((x11.Methods.length : Nat) : Int) == 0) = true then some 13
 else if (decide (((x11.Methods.length : Nat) : Int) > 200)) = true then some 3
 else jn (k9 x11.Name) (fun k18 => M127_L2 F k18 x11.Methods 0 ([] : List UInt8)))
def M127 (F : Nat) (a1 : Treach_checker) (a2 : (List TIface)) : Option Int :=
  jn (some 0) (fun k3 => M127_L1 F k3 a2 0 ([] : List UInt8))
def M128_L2 (F : Nat) (a1 : Treach_checker) (k17 : Option Int) : List TMethod → Int → (List UInt8) → Option Int
  | [], n21, s20 => k17
  | x25 :: tl2, n21, s20 => jn (fun (s24 : List UInt8) => M128_L2 F a1 k17 tl2 (n21 + 1) s24) (fun k23 => (M173 F x25.Name s20 (n21 == 0)).bind fun y27 => if (y27 != 0) = true then some y27
 else if (!a1.loose) = true then if (!((mget a1.funcs x25.Func).getD false)) = true then some 4
 else k23 x25.Name
 else k23 x25.Name)
def M128_L1 (F : Nat) (a1 : Treach_checker) (k3 : Option Int) : List TType → Int → (List UInt8) → Option Int
  | [], n7, s6 => k3
  | x11 :: tl1, n7, s6 => jn (fun (s10 : List UInt8) => M128_L1 F a1 k3 tl1 (n7 + 1) s10) (fun k9 => (M173 F x11.Name s6 (n7 == 0)).bind fun y13 => if (y13 != 0) = true then some y13
 else if (decide (((x11.Methods.length : Nat) : Int) > 200)) = true then some 3
 else jn (k9 x11.Name) (fun k17 => M128_L2 F a1 k17 x11.Methods 0 ([] : List UInt8)))
def M128 (F : Nat) (a1 : Treach_checker) (a2 : (List TType)) : Option Int :=
  jn (some 0) (fun k3 => M128_L1 F a1 k3 a2 0 ([] : List UInt8))
def M86_L1 (F : Nat) (a2 : (List UInt8)) (k3 : Option Int) : List (List UInt8) → Int → Option Int
  | [], n5 => k3
  | x7 :: tl1, n5 => if (a2 == x7) = true then some n5
 else M86_L1 F a2 k3 tl1 (n5 + 1)
def M86 (F : Nat) (a1 : (List (List UInt8))) (a2 : (List UInt8)) : Option Int :=
  jn (some (-1)) (fun k3 => M86_L1 F a2 k3 a1 0)
def M23 (F : Nat) (a1 : (List (List UInt8))) (a2 : (List UInt8)) : Option Bool :=
  (M86 F a1 a2).bind fun y3 => some (decide (y3 ≥ 0))
def M174 (F : Nat) (a1 : Treach_checker) (a2 : TCall) : Option Int :=
  jn (if (!(a2.Feature == ([] : List UInt8))) = true then (M79 F a2.Feature).bind fun y16 => if (!y16) = true then some 8
  else some 0
  else some 0) (fun k3 => if (a2.Kind == 1) = true then if (!a1.loose) = true then if (!((mget a1.funcs a2.Target).getD false)) = true then some 4
  else if (!(a2.Method == ([] : List UInt8))) = true then some 2
  else k3
  else if (!(a2.Method == ([] : List UInt8))) = true then some 2
  else k3
  else if (a2.Kind == 2) = true then if (!a1.loose) = true then if (!((mget a1.ifaces a2.Target).isSome)) = true then some 4
  else (M23 F ((mget a1.ifaces a2.Target).getD (TIface.mk ([] : List UInt8) ([] : (List (List UInt8))))).Methods a2.Method).bind fun y12 => if (!y12) = true then some 4
  else k3
  else k3
  else some 7)
def M130_L1 (F : Nat) (a1 : Treach_checker) (a2 : (List (List UInt8))) (a3 : (List ((List UInt8) × Bool))) (k4 : Option Int) : List (List UInt8) → Int → Option Int
  | [], n6 => k4
  | x8 :: tl1, n6 => jn (M130_L1 F a1 a2 a3 k4 tl1 (n6 + 1)) (fun k10 => if (!a1.loose) = true then jn (k10) (fun k12 => if (!((mget a3 x8).getD false)) = true then some 4
 else if (decide (n6 > 0)) = true then (idx a2 (w64 (n6 - 1))).bind fun x15 => if (Op.bytesLess x8 x15 || x8 == x15) = true then some 10
 else k12
 else k12)
 else if (decide (n6 > 0)) = true then (idx a2 (w64 (n6 - 1))).bind fun x19 => if (Op.bytesLess x8 x19 || x8 == x19) = true then some 10
 else k10
 else k10)
def M130 (F : Nat) (a1 : Treach_checker) (a2 : (List (List UInt8))) (a3 : (List ((List UInt8) × Bool))) : Option Int :=
  jn (some 0) (fun k4 => M130_L1 F a1 a2 a3 k4 a2 0)
def M129_L2 (F : Nat) (a1 : Treach_checker) (k20 : Option Int) : List TCall → Option Int
  | [] => k20
  | x24 :: tl2 => (M174 F a1 x24).bind fun y26 => if (y26 != 0) = true then some y26
 else M129_L2 F a1 k20 tl2
def M129_L1 (F : Nat) (a1 : Treach_checker) (k3 : Option Int) : List TFunc → Int → (List UInt8) → Option Int
  | [], n7, s6 => k3
  | x11 :: tl1, n7, s6 => jn (fun (s10 : List UInt8) => M129_L1 F a1 k3 tl1 (n7 + 1) s10) (fun k9 => (M173 F x11.Name s6 (n7 == 0)).bind fun y13 => if (y13 != 0) = true then some y13
 else (M79 F x11.Component).bind fun y16 => if (!y16) = true then some 8
 else if (decide (((x11.Calls.length : Nat) : Int) > 200)) = true then some 3
 else jn ((M130 F a1 x11.Makes a1.types).bind fun y30 => if (y30 != 0) = true then some y30
 else k9 x11.Name) (fun k20 => M129_L2 F a1 k20 x11.Calls))
def M129 (F : Nat) (a1 : Treach_checker) (a2 : (List TFunc)) : Option Int :=
  jn (some 0) (fun k3 => M129_L1 F a1 k3 a2 0 ([] : List UInt8))
def M60 (F : Nat) (a1 : Treach_checker) (a2 : TGraph) : Option Int :=
  if (decide (((a2.Ifaces.length : Nat) : Int) > 200)) = true then some 3
  else if (decide (((a2.Types.length : Nat) : Int) > 500)) = true then some 3
  else if (decide (((a2.Funcs.length : Nat) : Int) > 3000)) = true then some 3
  else (M127 F a1 a2.Ifaces).bind fun y6 => if (y6 != 0) = true then some y6
  else (M128 F a1 a2.Types).bind fun y9 => if (y9 != 0) = true then some y9
  else (M129 F a1 a2.Funcs).bind fun y12 => if (y12 != 0) = true then some y12
  else (M130 F a1 a2.Entries a1.funcs).bind fun y15 => some y15
def M17 (F : Nat) (a1 : TGraph) : Option Int :=
  (M59 F a1 false).bind fun y2 => (M60 F y2 a1).bind fun y4 => some y4
def M158 (F : Nat) (a1 : (List UInt8)) : Option Bool :=
  some (!(a1 == a1))
def M100 (F : Nat) (a1 : (List UInt8)) (a2 : (List UInt8)) : Option Int :=
  (M158 F a1).bind fun y3 => (M158 F a2).bind fun y5 => if y3 = true then if y5 = true then some 0
  else some (-1)
  else if y5 = true then some 1
  else if (Op.bytesLess a1 a2) = true then some (-1)
  else if (!(Op.bytesLess a1 a2 || a1 == a2)) = true then some 1
  else some 0
def M208 (F : Nat) (a1 : TMethod) (a2 : (List UInt8)) : Option Int :=
  (M100 F a1.Name a2).bind fun y3 => some y3
def M207_L1 (F : Nat) (a1 : (List TMethod)) (a2 : (List UInt8)) (k3 : Int → Option (Int × Bool)) : Nat → Int → Int → Option (Int × Bool)
  | 0, _, _ => none
  | n + 1, n7, n8 => if (decide (n7 < n8)) = true then (idx a1 (w64 (Int.fdiv (IntKind.wrap .u64 (w64 (n7 + n8))) (2 ^ (min (Int.toNat 1) (IntKind.bits .u64)))))).bind fun x10 => (M208 F x10 a2).bind fun y12 => jn (fun (n15 : Int) (n16 : Int) => M207_L1 F a1 a2 k3 n n15 n16) (fun k14 => if (decide (y12 < 0)) = true then k14 (w64 ((w64 (Int.fdiv (IntKind.wrap .u64 (w64 (n7 + n8))) (2 ^ (min (Int.toNat 1) (IntKind.bits .u64))))) + 1)) n8
  else k14 n7 (w64 (Int.fdiv (IntKind.wrap .u64 (w64 (n7 + n8))) (2 ^ (min (Int.toNat 1) (IntKind.bits .u64))))))
  else k3 n7
def M207 (F : Nat) (a1 : (List TMethod)) (a2 : (List UInt8)) : Option (Int × Bool) :=
  jn (fun (n4 : Int) => if (decide (n4 < ((a1.length : Nat) : Int))) = true then (idx a1 n4).bind fun x19 => (M208 F x19 a2).bind fun y21 => some (n4, (y21 == 0))
  else some (n4, false)) (fun k3 => M207_L1 F a1 a2 k3 F 0 ((a1.length : Nat) : Int))
def M169 (F : Nat) (a1 : TType) (a2 : (List UInt8)) : Option ((List UInt8) × Bool) :=
  (M207 F a1.Methods a2).bind fun y3 => if (!(y3.2)) = true then some (([] : List UInt8), false)
  else (idx a1.Methods (y3.1)).bind fun x6 => some (x6.Func, true)
def M117_L1 (F : Nat) (a1 : TType) (k3 : Option Bool) : List (List UInt8) → Option Bool
  | [] => k3
  | x7 :: tl1 => (M169 F a1 x7).bind fun y9 => if (!(y9.2)) = true then some false
 else M117_L1 F a1 k3 tl1
def M117 (F : Nat) (a1 : TType) (a2 : TIface) : Option Bool :=
  jn (some true) (fun k3 => M117_L1 F a1 k3 a2.Methods)
def M41_L5 (F : Nat) (k52 : (List ((List UInt8) × Bool)) → Option (Option Treach_world)) : List (List UInt8) → (List ((List UInt8) × Bool)) → Option (Option Treach_world)
  | [], m57 => k52 m57
  | x59 :: tl5, m57 => M41_L5 F k52 tl5 (mput m57 x59 true)
def M41_L4 (F : Nat) (x33 : TIface) (k35 : (List ((List UInt8) × (List Int))) → Option (Option Treach_world)) : List TType → Int → (List ((List UInt8) × (List Int))) → Option (Option Treach_world)
  | [], n39, m40 => k35 m40
  | x42 :: tl4, n39, m40 => (M117 F x42 x33).bind fun y44 => jn (fun (m47 : List ((List UInt8) × (List Int))) => M41_L4 F x33 k35 tl4 (n39 + 1) m47) (fun k46 => if y44 = true then if (((mget m40 x33.Name).getD []) ++ ([n39] : List Int)).length * 8 ≤ 140737488355328 then k46 (mput m40 x33.Name (((mget m40 x33.Name).getD []) ++ ([n39] : List Int))) else none
 else k46 m40)
def M41_L3 (F : Nat) (a1 : TGraph) (k24 : (List ((List UInt8) × (List Int))) → Option (Option Treach_world)) : List TIface → (List ((List UInt8) × (List Int))) → Option (Option Treach_world)
  | [], m29 => k24 m29
  | x33 :: tl3, m29 => jn (fun (m32 : List ((List UInt8) × (List Int))) => M41_L3 F a1 k24 tl3 m32) (fun k31 => jn (fun (m36 : List ((List UInt8) × (List Int))) => k31 m36) (fun k35 => M41_L4 F x33 k35 a1.Types 0 m29))
def M41_L2 (F : Nat) (k14 : (List ((List UInt8) × Int)) → Option (Option Treach_world)) : List TType → Int → (List ((List UInt8) × Int)) → Option (Option Treach_world)
  | [], n18, m19 => k14 m19
  | x21 :: tl2, n18, m19 => M41_L2 F k14 tl2 (n18 + 1) (mput m19 x21.Name n18)
def M41_L1 (F : Nat) (k4 : (List ((List UInt8) × Int)) → Option (Option Treach_world)) : List TFunc → Int → (List ((List UInt8) × Int)) → Option (Option Treach_world)
  | [], n8, m9 => k4 m9
  | x11 :: tl1, n8, m9 => M41_L1 F k4 tl1 (n8 + 1) (mput m9 x11.Name n8)
def M41 (F : Nat) (a1 : TGraph) (a2 : Int) (a3 : (List (List UInt8))) : Option (Option Treach_world) :=
  jn (fun (m5 : List ((List UInt8) × Int)) => jn (fun (m15 : List ((List UInt8) × Int)) => jn (fun (m25 : List ((List UInt8) × (List Int))) => jn (fun (m53 : List ((List UInt8) × Bool)) => some (some (Treach_world.mk a1 m5 m15 m25 m53 (a2 == 2)))) (fun k52 => M41_L5 F k52 a3 (mput ([] : List ((List UInt8) × Bool)) ([] : List UInt8) true))) (fun k24 => M41_L3 F a1 k24 a1.Ifaces ([] : List ((List UInt8) × (List Int))))) (fun k14 => M41_L2 F k14 a1.Types 0 ([] : List ((List UInt8) × Int)))) (fun k4 => M41_L1 F k4 a1.Funcs 0 ([] : List ((List UInt8) × Int)))
def M170 (F : Nat) (a1 : Int) : Option Bool :=
  some (a1 != a1)
def M119 (F : Nat) (a1 : Int) (a2 : Int) : Option Int :=
  (M170 F a1).bind fun y3 => (M170 F a2).bind fun y5 => if y3 = true then if y5 = true then some 0
  else some (-1)
  else if y5 = true then some 1
  else if (decide (a1 < a2)) = true then some (-1)
  else if (decide (a1 > a2)) = true then some 1
  else some 0
def M118_L1 (F : Nat) (k2 : Option Int) : List Int → Option Int
  | [] => k2
  | x6 :: tl1 => if (x6 != 0) = true then some x6
 else M118_L1 F k2 tl1
def M118 (F : Nat) (a1 : (List Int)) : Option Int :=
  jn (some 0) (fun k2 => M118_L1 F k2 a1)
def M42 (F : Nat) (a1 : TSite) (a2 : TSite) : Option Int :=
  (M100 F a1.Func a2.Func).bind fun y3 => (M119 F a1.Call a2.Call).bind fun y5 => (M118 F ([y3, y5] : List Int)).bind fun y7 => some y7
def M49 (F : Nat) (a1 : (List (List UInt8))) : Option (List (List UInt8)) :=
  nilq a1.length (fun b2 => if b2 = true then some ([] : List (List UInt8))
  else if (([] : List (List UInt8)) ++ a1).length * 16 ≤ 140737488355328 then some (([] : List (List UInt8)) ++ a1) else none)
def M45 (F : Nat) (a1 : TIface) : Option TIface :=
  (M49 F a1.Methods).bind fun y2 => some (TIface.mk a1.Name y2)
def M186 (F : Nat) (a1 : Int) : Option Int :=
  jn (fun (n3 : Int) (n4 : Int) => jn (fun (n7 : Int) (n8 : Int) => jn (fun (n11 : Int) (n12 : Int) => (idx ([0, 1, 2, 2, 3, 3, 3, 3, 4, 4, 4, 4, 4, 4, 4, 4, 5, 5, 5, 5, 5, 5, 5, 5, 5, 5, 5, 5, 5, 5, 5, 5, 6, 6, 6, 6, 6, 6, 6, 6, 6, 6, 6, 6, 6, 6, 6, 6, 6, 6, 6, 6, 6, 6, 6, 6, 6, 6, 6, 6, 6, 6, 6, 6, 7, 7, 7, 7, 7, 7, 7, 7, 7, 7, 7, 7, 7, 7, 7, 7, 7, 7, 7, 7, 7, 7, 7, 7, 7, 7, 7, 7, 7, 7, 7, 7, 7, 7, 7, 7, 7, 7, 7, 7, 7, 7, 7, 7, 7, 7, 7, 7, 7, 7, 7, 7, 7, 7, 7, 7, 7, 7, 7, 7, 7, 7, 7, 7, 8, 8, 8, 8, 8, 8, 8, 8, 8, 8, 8, 8, 8, 8, 8, 8, 8, 8, 8, 8, 8, 8, 8, 8, 8, 8, 8, 8, 8, 8, 8, 8, 8, 8, 8, 8, 8, 8, 8, 8, 8, 8, 8, 8, 8, 8, 8, 8, 8, 8, 8, 8, 8, 8, 8, 8, 8, 8, 8, 8, 8, 8, 8, 8, 8, 8, 8, 8, 8, 8, 8, 8, 8, 8, 8, 8, 8, 8, 8, 8, 8, 8, 8, 8, 8, 8, 8, 8, 8, 8, 8, 8, 8, 8, 8, 8, 8, 8, 8, 8, 8, 8, 8, 8, 8, 8, 8, 8, 8, 8, 8, 8, 8, 8, 8, 8, 8, 8, 8, 8, 8, 8, 8, 8, 8, 8, 8, 8] : List UInt8) (IntKind.wrap .u8 n11)).bind fun c14 => some (w64 (n12 + (w64 (c14.toNat : Int))))) (fun k10 => if (decide (n7 ≥ 256)) = true then k10 (Int.fdiv n7 (2 ^ (min (Int.toNat 8) (IntKind.bits .u64)))) (w64 (n8 + 8))
  else k10 n7 n8)) (fun k6 => if (decide (n3 ≥ 65536)) = true then k6 (Int.fdiv n3 (2 ^ (min (Int.toNat 16) (IntKind.bits .u64)))) (w64 (n4 + 16))
  else k6 n3 n4)) (fun k2 => if (decide (a1 ≥ 4294967296)) = true then k2 (Int.fdiv a1 (2 ^ (min (Int.toNat 32) (IntKind.bits .u64)))) 32
  else k2 a1 0)
def M135 (F : Nat) (a1 : Int) : Option Int :=
  (M186 F a1).bind fun y2 => some y2
def M44 (F : Nat) (a1 : TIface) : Option (List UInt8) :=
  some (a1.Name)
def M121 (F : Nat) (a1 : TIface) (a2 : TIface) : Option Int :=
  (M44 F a1).bind fun y3 => (M44 F a2).bind fun y5 => (M100 F y3 y5).bind fun y7 => some y7
def M209_L2 (F : Nat) (a1 : Int) (k41 : (List TIface) → Option (List TIface)) : Nat → Int → (List TIface) → Option (List TIface)
  | 0, _, _ => none
  | n + 1, n45, l46 => if (decide (n45 > a1)) = true then (idx l46 n45).bind fun x48 => (idx l46 (w64 (n45 - 1))).bind fun x50 => (M121 F x48 x50).bind fun y52 => if (decide (y52 < 0)) = true then (idx l46 (w64 (n45 - 1))).bind fun x55 => (idx l46 n45).bind fun x57 => (idx l46 n45).bind fun x59 => (idx (l46.set n45.toNat x55) (w64 (n45 - 1))).bind fun x61 => M209_L2 F a1 k41 n (w64 (n45 - 1)) ((l46.set n45.toNat x55).set (w64 (n45 - 1)).toNat x57)
  else k41 l46
  else k41 l46
def M209_L1 (F : Nat) (a1 : Int) (a2 : Int) : Nat → Int → (List TIface) → Option (List TIface)
  | 0, _, _ => none
  | n + 1, n36, l37 => if (decide (n36 < a2)) = true then jn (fun (l40 : List TIface) => M209_L1 F a1 a2 n (w64 (n36 + 1)) l40) (fun k39 => jn (fun (l42 : List TIface) => k39 l42) (fun k41 => M209_L2 F a1 k41 F n36 l37))
  else some l37
def M209 (F : Nat) (a1 : Int) (a2 : Int) (a3 : List TIface) : Option (List TIface) :=
  M209_L1 F a1 a2 F (w64 (a1 + 1)) a3
def M259_L1 (F : Nat) (a2 : Int) (a3 : Int) : Nat → Int → (List TIface) → Option (List TIface)
  | 0, _, _ => none
  | n + 1, n53, l54 => if (decide ((w64 ((w64 (2 * n53)) + 1)) ≥ a2)) = true then some l54
  else if (decide ((w64 ((w64 ((w64 (2 * n53)) + 1)) + 1)) < a2)) = true then (idx l54 (w64 (a3 + (w64 ((w64 (2 * n53)) + 1))))).bind fun x57 => (idx l54 (w64 ((w64 (a3 + (w64 ((w64 (2 * n53)) + 1)))) + 1))).bind fun x59 => (M121 F x57 x59).bind fun y61 => jn (fun (n64 : Int) => (idx l54 (w64 (a3 + n53))).bind fun x66 => (idx l54 (w64 (a3 + n64))).bind fun x68 => (M121 F x66 x68).bind fun y70 => if (!(decide (y70 < 0))) = true then some l54
  else (idx l54 (w64 (a3 + n64))).bind fun x73 => (idx l54 (w64 (a3 + n53))).bind fun x75 => (idx l54 (w64 (a3 + n53))).bind fun x77 => (idx (l54.set (w64 (a3 + n53)).toNat x73) (w64 (a3 + n64))).bind fun x79 => M259_L1 F a2 a3 n n64 ((l54.set (w64 (a3 + n53)).toNat x73).set (w64 (a3 + n64)).toNat x75)) (fun k63 => if (decide (y61 < 0)) = true then k63 (w64 ((w64 ((w64 (2 * n53)) + 1)) + 1))
  else k63 (w64 ((w64 (2 * n53)) + 1)))
  else (idx l54 (w64 (a3 + n53))).bind fun x81 => (idx l54 (w64 (a3 + (w64 ((w64 (2 * n53)) + 1))))).bind fun x83 => (M121 F x81 x83).bind fun y85 => if (!(decide (y85 < 0))) = true then some l54
  else (idx l54 (w64 (a3 + (w64 ((w64 (2 * n53)) + 1))))).bind fun x88 => (idx l54 (w64 (a3 + n53))).bind fun x90 => (idx l54 (w64 (a3 + n53))).bind fun x92 => (idx (l54.set (w64 (a3 + n53)).toNat x88) (w64 (a3 + (w64 ((w64 (2 * n53)) + 1))))).bind fun x94 => M259_L1 F a2 a3 n (w64 ((w64 (2 * n53)) + 1)) ((l54.set (w64 (a3 + n53)).toNat x88).set (w64 (a3 + (w64 ((w64 (2 * n53)) + 1)))).toNat x90)
def M259 (F : Nat) (a1 : Int) (a2 : Int) (a3 : Int) (a4 : List TIface) : Option (List TIface) :=
  M259_L1 F a2 a3 F a1 a4
def M210_L2 (F : Nat) (a1 : Int) : Nat → Int → (List TIface) → Option (List TIface)
  | 0, _, _ => none
  | n + 1, n43, l44 => if (decide (n43 ≥ 0)) = true then (idx l44 (w64 (a1 + n43))).bind fun x46 => (idx l44 a1).bind fun x48 => (idx l44 a1).bind fun x50 => (idx (l44.set a1.toNat x46) (w64 (a1 + n43))).bind fun x52 => (M259 F 0 n43 a1 ((l44.set a1.toNat x46).set (w64 (a1 + n43)).toNat x48)).bind fun y54 => if y54.length = l44.length then M210_L2 F a1 n (w64 (n43 - 1)) y54 else none
  else some l44
def M210_L1 (F : Nat) (a1 : Int) (a2 : Int) (k31 : (List TIface) → Option (List TIface)) : Nat → Int → (List TIface) → Option (List TIface)
  | 0, _, _ => none
  | n + 1, n35, l36 => if (decide (n35 ≥ 0)) = true then (M259 F n35 (w64 (a2 - a1)) a1 l36).bind fun y38 => if y38.length = l36.length then M210_L1 F a1 a2 k31 n (w64 (n35 - 1)) y38 else none
  else k31 l36
def M210 (F : Nat) (a1 : Int) (a2 : Int) (a3 : List TIface) : Option (List TIface) :=
  jn (fun (l32 : List TIface) => M210_L2 F a1 F (w64 ((w64 (a2 - a1)) - 1)) l32) (fun k31 => M210_L1 F a1 a2 k31 F (w64 (Int.tdiv (w64 ((w64 (a2 - a1)) - 1)) 2)) a3)
def M276 (F : Nat) (a1 : Int) (a2 : Int) (a3 : List TIface) (a4 : Int) : Option (Int × Int × Int) :=
  (idx a3 a2).bind fun x15 => (idx a3 a1).bind fun x17 => (M121 F x15 x17).bind fun y19 => if (decide (y19 < 0)) = true then some (a2, a1, (w64 (a4 + 1)))
  else some (a1, a2, a4)
def M261 (F : Nat) (a1 : Int) (a2 : Int) (a3 : Int) (a4 : List TIface) (a5 : Int) : Option (Int × Int) :=
  (M276 F a1 a2 a4 a5).bind fun y14 => (M276 F (y14.2.1) a3 a4 (y14.2.2)).bind fun y16 => (M276 F (y14.1) (y16.1) a4 (y16.2.2)).bind fun y18 => some ((y18.2.1), (y18.2.2))
def M260 (F : Nat) (a1 : Int) (a2 : List TIface) (a3 : Int) : Option (Int × Int) :=
  (M261 F (w64 (a1 - 1)) a1 (w64 (a1 + 1)) a2 a3).bind fun y8 => some ((y8.1), (y8.2))
def M212 (F : Nat) (a1 : Int) (a2 : Int) (a3 : List TIface) : Option (Int × Int) :=
  jn (fun (n27 : Int) (n28 : Int) => if (n28 == 0) = true then some (n27, 1)
  else if (n28 == 12) = true then some (n27, 2)
  else some (n27, 0)) (fun k26 => if (decide ((w64 (a2 - a1)) ≥ 8)) = true then jn (fun (n31 : Int) (n32 : Int) (n33 : Int) (n34 : Int) => (M261 F n31 n32 n33 a3 n34).bind fun y42 => k26 (y42.1) (y42.2)) (fun k30 => if (decide ((w64 (a2 - a1)) ≥ 50)) = true then (M260 F (w64 (a1 + (w64 ((w64 (Int.tdiv (w64 (a2 - a1)) 4)) * 1)))) a3 0).bind fun y36 => (M260 F (w64 (a1 + (w64 ((w64 (Int.tdiv (w64 (a2 - a1)) 4)) * 2)))) a3 (y36.2)).bind fun y38 => (M260 F (w64 (a1 + (w64 ((w64 (Int.tdiv (w64 (a2 - a1)) 4)) * 3)))) a3 (y38.2)).bind fun y40 => k30 (y36.1) (y38.1) (y40.1) (y40.2)
  else k30 (w64 (a1 + (w64 ((w64 (Int.tdiv (w64 (a2 - a1)) 4)) * 1)))) (w64 (a1 + (w64 ((w64 (Int.tdiv (w64 (a2 - a1)) 4)) * 2)))) (w64 (a1 + (w64 ((w64 (Int.tdiv (w64 (a2 - a1)) 4)) * 3)))) 0)
  else k26 (w64 (a1 + (w64 ((w64 (Int.tdiv (w64 (a2 - a1)) 4)) * 2)))) 0)
def M213_L1 (F : Nat) : Nat → Int → Int → (List TIface) → Option (List TIface)
  | 0, _, _, _ => none
  | n + 1, n23, n24, l25 => if (decide (n23 < n24)) = true then (idx l25 n24).bind fun x27 => (idx l25 n23).bind fun x29 => (idx l25 n23).bind fun x31 => (idx (l25.set n23.toNat x27) n24).bind fun x33 => M213_L1 F n (w64 (n23 + 1)) (w64 (n24 - 1)) ((l25.set n23.toNat x27).set n24.toNat x29)
  else some l25
def M213 (F : Nat) (a1 : Int) (a2 : Int) (a3 : List TIface) : Option (List TIface) :=
  M213_L1 F F a1 (w64 (a2 - 1)) a3
def M214_L4 (F : Nat) (a2 : Int) (k153 : (List TIface) → Option (Bool × (List TIface))) : Nat → Int → (List TIface) → Option (Bool × (List TIface))
  | 0, _, _ => none
  | n + 1, n157, l158 => if (decide (n157 < a2)) = true then (idx l158 n157).bind fun x160 => (idx l158 (w64 (n157 - 1))).bind fun x162 => (M121 F x160 x162).bind fun y164 => if (!(decide (y164 < 0))) = true then k153 l158
  else (idx l158 (w64 (n157 - 1))).bind fun x167 => (idx l158 n157).bind fun x169 => (idx l158 n157).bind fun x171 => (idx (l158.set n157.toNat x167) (w64 (n157 - 1))).bind fun x173 => M214_L4 F a2 k153 n (w64 (n157 + 1)) ((l158.set n157.toNat x167).set (w64 (n157 - 1)).toNat x169)
  else k153 l158
def M214_L3 (F : Nat) (k128 : (List TIface) → Option (Bool × (List TIface))) : Nat → Int → (List TIface) → Option (Bool × (List TIface))
  | 0, _, _ => none
  | n + 1, n132, l133 => if (decide (n132 ≥ 1)) = true then (idx l133 n132).bind fun x135 => (idx l133 (w64 (n132 - 1))).bind fun x137 => (M121 F x135 x137).bind fun y139 => if (!(decide (y139 < 0))) = true then k128 l133
  else (idx l133 (w64 (n132 - 1))).bind fun x142 => (idx l133 n132).bind fun x144 => (idx l133 n132).bind fun x146 => (idx (l133.set n132.toNat x142) (w64 (n132 - 1))).bind fun x148 => M214_L3 F k128 n (w64 (n132 - 1)) ((l133.set n132.toNat x142).set (w64 (n132 - 1)).toNat x144)
  else k128 l133
def M214_L2 (F : Nat) (a2 : Int) (l98 : List TIface) (k103 : Int → Option (Bool × (List TIface))) : Nat → Int → Option (Bool × (List TIface))
  | 0, _ => none
  | n + 1, n106 => if (decide (n106 < a2)) = true then (idx l98 n106).bind fun x108 => (idx l98 (w64 (n106 - 1))).bind fun x110 => (M121 F x108 x110).bind fun y112 => if (!(decide (y112 < 0))) = true then M214_L2 F a2 l98 k103 n (w64 (n106 + 1))
  else k103 n106
  else k103 n106
def M214_L1 (F : Nat) (a1 : Int) (a2 : Int) (k91 : (List TIface) → Option (Bool × (List TIface))) : Nat → Int → (List TIface) → Option (Bool × (List TIface))
  | 0, n96, l98 => k91 l98
  | tl1 + 1, n96, l98 => jn (fun (n101 : Int) (l102 : List TIface) => M214_L1 F a1 a2 k91 tl1 n101 l102) (fun k100 => jn (fun (n104 : Int) => if (n104 == a2) = true then some (true, l98)
 else if (decide ((w64 (a2 - a1)) < 50)) = true then some (false, l98)
 else (idx l98 (w64 (n104 - 1))).bind fun x117 => (idx l98 n104).bind fun x119 => (idx l98 n104).bind fun x121 => (idx (l98.set n104.toNat x117) (w64 (n104 - 1))).bind fun x123 => jn (fun (l126 : List TIface) => jn (fun (l151 : List TIface) => k100 n104 l151) (fun k150 => if (decide ((w64 (a2 - n104)) ≥ 2)) = true then jn (fun (l154 : List TIface) => k150 l154) (fun k153 => M214_L4 F a2 k153 F (w64 (n104 + 1)) l126)
 else k150 l126)) (fun k125 => if (decide ((w64 (n104 - a1)) ≥ 2)) = true then jn (fun (l129 : List TIface) => k125 l129) (fun k128 => M214_L3 F k128 F (w64 (n104 - 1)) ((l98.set n104.toNat x117).set (w64 (n104 - 1)).toNat x119))
 else k125 ((l98.set n104.toNat x117).set (w64 (n104 - 1)).toNat x119))) (fun k103 => M214_L2 F a2 l98 k103 F n96))
def M214 (F : Nat) (a1 : Int) (a2 : Int) (a3 : List TIface) : Option (Bool × (List TIface)) :=
  jn (fun (l92 : List TIface) => some (false, l92)) (fun k91 => if (5 : Int) ≤ 9223372036854775807 then M214_L1 F a1 a2 k91 ((5 : Int).toNat) (w64 (a1 + 1)) a3 else none)
def M215_L3 (F : Nat) (a1 : Int) (l77 : List TIface) (n83 : Int) (k94 : Int → Option (Int × (List TIface))) : Nat → Int → Option (Int × (List TIface))
  | 0, _ => none
  | n + 1, n97 => if (decide (n83 ≤ n97)) = true then (idx l77 a1).bind fun x99 => (idx l77 n97).bind fun x101 => (M121 F x99 x101).bind fun y103 => if (decide (y103 < 0)) = true then M215_L3 F a1 l77 n83 k94 n (w64 (n97 - 1))
  else k94 n97
  else k94 n97
def M215_L2 (F : Nat) (a1 : Int) (n76 : Int) (l77 : List TIface) (k82 : Int → Option (Int × (List TIface))) : Nat → Int → Option (Int × (List TIface))
  | 0, _ => none
  | n + 1, n85 => if (decide (n85 ≤ n76)) = true then (idx l77 a1).bind fun x87 => (idx l77 n85).bind fun x89 => (M121 F x87 x89).bind fun y91 => if (!(decide (y91 < 0))) = true then M215_L2 F a1 n76 l77 k82 n (w64 (n85 + 1))
  else k82 n85
  else k82 n85
def M215_L1 (F : Nat) (a1 : Int) (k69 : Int → (List TIface) → Option (Int × (List TIface))) : Nat → Int → Int → (List TIface) → Option (Int × (List TIface))
  | 0, _, _, _ => none
  | n + 1, n75, n76, l77 => jn (fun (n79 : Int) (n80 : Int) (l81 : List TIface) => M215_L1 F a1 k69 n n79 n80 l81) (fun k78 => jn (fun (n83 : Int) => jn (fun (n95 : Int) => if (decide (n83 > n95)) = true then k69 n83 l77
  else (idx l77 n95).bind fun x107 => (idx l77 n83).bind fun x109 => (idx l77 n83).bind fun x111 => (idx (l77.set n83.toNat x107) n95).bind fun x113 => k78 (w64 (n83 + 1)) (w64 (n95 - 1)) ((l77.set n83.toNat x107).set n95.toNat x109)) (fun k94 => M215_L3 F a1 l77 n83 k94 F n76)) (fun k82 => M215_L2 F a1 n76 l77 k82 F n75))
def M215 (F : Nat) (a1 : Int) (a2 : Int) (a3 : Int) (a4 : List TIface) : Option (Int × (List TIface)) :=
  (idx a4 a3).bind fun x61 => (idx a4 a1).bind fun x63 => (idx a4 a1).bind fun x65 => (idx (a4.set a1.toNat x61) a3).bind fun x67 => jn (fun (n70 : Int) (l71 : List TIface) => some (n70, l71)) (fun k69 => M215_L1 F a1 k69 F (w64 (a1 + 1)) (w64 (a2 - 1)) ((a4.set a1.toNat x61).set a3.toNat x63))
def M216_L5 (F : Nat) (a1 : Int) (l168 : List TIface) (n174 : Int) (k185 : Int → Option (Int × Bool × (List TIface))) : Nat → Int → Option (Int × Bool × (List TIface))
  | 0, _ => none
  | n + 1, n188 => if (decide (n174 ≤ n188)) = true then (idx l168 n188).bind fun x190 => (idx l168 a1).bind fun x192 => (M121 F x190 x192).bind fun y194 => if (!(decide (y194 < 0))) = true then M216_L5 F a1 l168 n174 k185 n (w64 (n188 - 1))
  else k185 n188
  else k185 n188
def M216_L4 (F : Nat) (a1 : Int) (n167 : Int) (l168 : List TIface) (k173 : Int → Option (Int × Bool × (List TIface))) : Nat → Int → Option (Int × Bool × (List TIface))
  | 0, _ => none
  | n + 1, n176 => if (decide (n176 ≤ n167)) = true then (idx l168 n176).bind fun x178 => (idx l168 a1).bind fun x180 => (M121 F x178 x180).bind fun y182 => if (decide (y182 < 0)) = true then M216_L4 F a1 n167 l168 k173 n (w64 (n176 + 1))
  else k173 n176
  else k173 n176
def M216_L3 (F : Nat) (a1 : Int) (k160 : Int → (List TIface) → Option (Int × Bool × (List TIface))) : Nat → Int → Int → (List TIface) → Option (Int × Bool × (List TIface))
  | 0, _, _, _ => none
  | n + 1, n166, n167, l168 => jn (fun (n170 : Int) (n171 : Int) (l172 : List TIface) => M216_L3 F a1 k160 n n170 n171 l172) (fun k169 => jn (fun (n174 : Int) => jn (fun (n186 : Int) => if (decide (n174 > n186)) = true then k160 n186 l168
  else (idx l168 n186).bind fun x198 => (idx l168 n174).bind fun x200 => (idx l168 n174).bind fun x202 => (idx (l168.set n174.toNat x198) n186).bind fun x204 => k169 (w64 (n174 + 1)) (w64 (n186 - 1)) ((l168.set n174.toNat x198).set n186.toNat x200)) (fun k185 => M216_L5 F a1 l168 n174 k185 F n167)) (fun k173 => M216_L4 F a1 n167 l168 k173 F n166))
def M216_L2 (F : Nat) (a1 : Int) (a3 : Int) (a4 : List TIface) (x111 : TIface) (x113 : TIface) (n120 : Int) (k131 : Int → Option (Int × Bool × (List TIface))) : Nat → Int → Option (Int × Bool × (List TIface))
  | 0, _ => none
  | n + 1, n134 => if (decide (n120 ≤ n134)) = true then (idx ((a4.set a1.toNat x111).set a3.toNat x113) n134).bind fun x136 => (idx ((a4.set a1.toNat x111).set a3.toNat x113) a1).bind fun x138 => (M121 F x136 x138).bind fun y140 => if (!(decide (y140 < 0))) = true then M216_L2 F a1 a3 a4 x111 x113 n120 k131 n (w64 (n134 - 1))
  else k131 n134
  else k131 n134
def M216_L1 (F : Nat) (a1 : Int) (a2 : Int) (a3 : Int) (a4 : List TIface) (x111 : TIface) (x113 : TIface) (k119 : Int → Option (Int × Bool × (List TIface))) : Nat → Int → Option (Int × Bool × (List TIface))
  | 0, _ => none
  | n + 1, n122 => if (decide (n122 ≤ (w64 (a2 - 1)))) = true then (idx ((a4.set a1.toNat x111).set a3.toNat x113) n122).bind fun x124 => (idx ((a4.set a1.toNat x111).set a3.toNat x113) a1).bind fun x126 => (M121 F x124 x126).bind fun y128 => if (decide (y128 < 0)) = true then M216_L1 F a1 a2 a3 a4 x111 x113 k119 n (w64 (n122 + 1))
  else k119 n122
  else k119 n122
def M216 (F : Nat) (a1 : Int) (a2 : Int) (a3 : Int) (a4 : List TIface) : Option (Int × Bool × (List TIface)) :=
  (idx a4 a3).bind fun x111 => (idx a4 a1).bind fun x113 => (idx a4 a1).bind fun x115 => (idx (a4.set a1.toNat x111) a3).bind fun x117 => jn (fun (n120 : Int) => jn (fun (n132 : Int) => if (decide (n120 > n132)) = true then (idx ((a4.set a1.toNat x111).set a3.toNat x113) a1).bind fun x144 => (idx ((a4.set a1.toNat x111).set a3.toNat x113) n132).bind fun x146 => (idx ((a4.set a1.toNat x111).set a3.toNat x113) n132).bind fun x148 => (idx (((a4.set a1.toNat x111).set a3.toNat x113).set n132.toNat x144) a1).bind fun x150 => some (n132, true, ((((a4.set a1.toNat x111).set a3.toNat x113).set n132.toNat x144).set a1.toNat x146))
  else (idx ((a4.set a1.toNat x111).set a3.toNat x113) n132).bind fun x152 => (idx ((a4.set a1.toNat x111).set a3.toNat x113) n120).bind fun x154 => (idx ((a4.set a1.toNat x111).set a3.toNat x113) n120).bind fun x156 => (idx (((a4.set a1.toNat x111).set a3.toNat x113).set n120.toNat x152) n132).bind fun x158 => jn (fun (n161 : Int) (l162 : List TIface) => (idx l162 a1).bind fun x206 => (idx l162 n161).bind fun x208 => (idx l162 n161).bind fun x210 => (idx (l162.set n161.toNat x206) a1).bind fun x212 => some (n161, false, ((l162.set n161.toNat x206).set a1.toNat x208))) (fun k160 => M216_L3 F a1 k160 F (w64 (n120 + 1)) (w64 (n132 - 1)) ((((a4.set a1.toNat x111).set a3.toNat x113).set n120.toNat x152).set n132.toNat x154))) (fun k131 => M216_L2 F a1 a3 a4 x111 x113 n120 k131 F (w64 (a2 - 1)))) (fun k119 => M216_L1 F a1 a2 a3 a4 x111 x113 k119 F (w64 (a1 + 1)))
def M234 (F : Nat) (a1 : Int) : Option Int :=
  (M135 F (IntKind.wrap .u64 a1)).bind fun y2 => if 0 ≤ y2 then some (IntKind.wrap .u64 (1 * 2 ^ (min (Int.toNat y2) (IntKind.bits .u64)))) else none
def M235 (F : Nat) (a1 : Int) : Option Unit :=
  some ()
def M211_L1 (F : Nat) (a1 : Int) (a2 : Int) (y29 : Int) : Nat → Int → (List TIface) → Int → Option (List TIface)
  | 0, _, _, _ => none
  | n + 1, n34, l35, n36 => if (decide (n34 ≤ (w64 ((w64 (a1 + (w64 ((w64 (Int.tdiv (w64 (a2 - a1)) 4)) * 2)))) + 1)))) = true then (M235 F n36).bind fun y38 => jn (fun (n41 : Int) => (idx l35 (w64 (a1 + n41))).bind fun x43 => (idx l35 n34).bind fun x45 => (idx l35 n34).bind fun x47 => (idx (l35.set n34.toNat x43) (w64 (a1 + n41))).bind fun x49 => M211_L1 F a1 a2 y29 n (w64 (n34 + 1)) ((l35.set n34.toNat x43).set (w64 (a1 + n41)).toNat x45) (IntKind.wrap .u64 ((BitVec.ofInt (IntKind.bits .u64) (IntKind.wrap .u64 ((BitVec.ofInt (IntKind.bits .u64) (IntKind.wrap .u64 ((BitVec.ofInt (IntKind.bits .u64) n36 ^^^ BitVec.ofInt (IntKind.bits .u64) (IntKind.wrap .u64 (n36 * 2 ^ (min (Int.toNat 13) (IntKind.bits .u64))))).toNat : Int)) ^^^ BitVec.ofInt (IntKind.bits .u64) (Int.fdiv (IntKind.wrap .u64 ((BitVec.ofInt (IntKind.bits .u64) n36 ^^^ BitVec.ofInt (IntKind.bits .u64) (IntKind.wrap .u64 (n36 * 2 ^ (min (Int.toNat 13) (IntKind.bits .u64))))).toNat : Int)) (2 ^ (min (Int.toNat 7) (IntKind.bits .u64))))).toNat : Int)) ^^^ BitVec.ofInt (IntKind.bits .u64) (IntKind.wrap .u64 ((IntKind.wrap .u64 ((BitVec.ofInt (IntKind.bits .u64) (IntKind.wrap .u64 ((BitVec.ofInt (IntKind.bits .u64) n36 ^^^ BitVec.ofInt (IntKind.bits .u64) (IntKind.wrap .u64 (n36 * 2 ^ (min (Int.toNat 13) (IntKind.bits .u64))))).toNat : Int)) ^^^ BitVec.ofInt (IntKind.bits .u64) (Int.fdiv (IntKind.wrap .u64 ((BitVec.ofInt (IntKind.bits .u64) n36 ^^^ BitVec.ofInt (IntKind.bits .u64) (IntKind.wrap .u64 (n36 * 2 ^ (min (Int.toNat 13) (IntKind.bits .u64))))).toNat : Int)) (2 ^ (min (Int.toNat 7) (IntKind.bits .u64))))).toNat : Int)) * 2 ^ (min (Int.toNat 17) (IntKind.bits .u64))))).toNat : Int))) (fun k40 => if (decide ((w64 (IntKind.wrap .u64 ((BitVec.ofInt (IntKind.bits .u64) (IntKind.wrap .u64 ((BitVec.ofInt (IntKind.bits .u64) (IntKind.wrap .u64 ((BitVec.ofInt (IntKind.bits .u64) (IntKind.wrap .u64 ((BitVec.ofInt (IntKind.bits .u64) n36 ^^^ BitVec.ofInt (IntKind.bits .u64) (IntKind.wrap .u64 (n36 * 2 ^ (min (Int.toNat 13) (IntKind.bits .u64))))).toNat : Int)) ^^^ BitVec.ofInt (IntKind.bits .u64) (Int.fdiv (IntKind.wrap .u64 ((BitVec.ofInt (IntKind.bits .u64) n36 ^^^ BitVec.ofInt (IntKind.bits .u64) (IntKind.wrap .u64 (n36 * 2 ^ (min (Int.toNat 13) (IntKind.bits .u64))))).toNat : Int)) (2 ^ (min (Int.toNat 7) (IntKind.bits .u64))))).toNat : Int)) ^^^ BitVec.ofInt (IntKind.bits .u64) (IntKind.wrap .u64 ((IntKind.wrap .u64 ((BitVec.ofInt (IntKind.bits .u64) (IntKind.wrap .u64 ((BitVec.ofInt (IntKind.bits .u64) n36 ^^^ BitVec.ofInt (IntKind.bits .u64) (IntKind.wrap .u64 (n36 * 2 ^ (min (Int.toNat 13) (IntKind.bits .u64))))).toNat : Int)) ^^^ BitVec.ofInt (IntKind.bits .u64) (Int.fdiv (IntKind.wrap .u64 ((BitVec.ofInt (IntKind.bits .u64) n36 ^^^ BitVec.ofInt (IntKind.bits .u64) (IntKind.wrap .u64 (n36 * 2 ^ (min (Int.toNat 13) (IntKind.bits .u64))))).toNat : Int)) (2 ^ (min (Int.toNat 7) (IntKind.bits .u64))))).toNat : Int)) * 2 ^ (min (Int.toNat 17) (IntKind.bits .u64))))).toNat : Int)) &&& BitVec.ofInt (IntKind.bits .u64) (IntKind.wrap .u64 (y29 - 1))).toNat : Int))) ≥ (w64 (a2 - a1)))) = true then k40 (w64 ((w64 (IntKind.wrap .u64 ((BitVec.ofInt (IntKind.bits .u64) (IntKind.wrap .u64 ((BitVec.ofInt (IntKind.bits .u64) (IntKind.wrap .u64 ((BitVec.ofInt (IntKind.bits .u64) (IntKind.wrap .u64 ((BitVec.ofInt (IntKind.bits .u64) n36 ^^^ BitVec.ofInt (IntKind.bits .u64) (IntKind.wrap .u64 (n36 * 2 ^ (min (Int.toNat 13) (IntKind.bits .u64))))).toNat : Int)) ^^^ BitVec.ofInt (IntKind.bits .u64) (Int.fdiv (IntKind.wrap .u64 ((BitVec.ofInt (IntKind.bits .u64) n36 ^^^ BitVec.ofInt (IntKind.bits .u64) (IntKind.wrap .u64 (n36 * 2 ^ (min (Int.toNat 13) (IntKind.bits .u64))))).toNat : Int)) (2 ^ (min (Int.toNat 7) (IntKind.bits .u64))))).toNat : Int)) ^^^ BitVec.ofInt (IntKind.bits .u64) (IntKind.wrap .u64 ((IntKind.wrap .u64 ((BitVec.ofInt (IntKind.bits .u64) (IntKind.wrap .u64 ((BitVec.ofInt (IntKind.bits .u64) n36 ^^^ BitVec.ofInt (IntKind.bits .u64) (IntKind.wrap .u64 (n36 * 2 ^ (min (Int.toNat 13) (IntKind.bits .u64))))).toNat : Int)) ^^^ BitVec.ofInt (IntKind.bits .u64) (Int.fdiv (IntKind.wrap .u64 ((BitVec.ofInt (IntKind.bits .u64) n36 ^^^ BitVec.ofInt (IntKind.bits .u64) (IntKind.wrap .u64 (n36 * 2 ^ (min (Int.toNat 13) (IntKind.bits .u64))))).toNat : Int)) (2 ^ (min (Int.toNat 7) (IntKind.bits .u64))))).toNat : Int)) * 2 ^ (min (Int.toNat 17) (IntKind.bits .u64))))).toNat : Int)) &&& BitVec.ofInt (IntKind.bits .u64) (IntKind.wrap .u64 (y29 - 1))).toNat : Int))) - (w64 (a2 - a1))))
  else k40 (w64 (IntKind.wrap .u64 ((BitVec.ofInt (IntKind.bits .u64) (IntKind.wrap .u64 ((BitVec.ofInt (IntKind.bits .u64) (IntKind.wrap .u64 ((BitVec.ofInt (IntKind.bits .u64) (IntKind.wrap .u64 ((BitVec.ofInt (IntKind.bits .u64) n36 ^^^ BitVec.ofInt (IntKind.bits .u64) (IntKind.wrap .u64 (n36 * 2 ^ (min (Int.toNat 13) (IntKind.bits .u64))))).toNat : Int)) ^^^ BitVec.ofInt (IntKind.bits .u64) (Int.fdiv (IntKind.wrap .u64 ((BitVec.ofInt (IntKind.bits .u64) n36 ^^^ BitVec.ofInt (IntKind.bits .u64) (IntKind.wrap .u64 (n36 * 2 ^ (min (Int.toNat 13) (IntKind.bits .u64))))).toNat : Int)) (2 ^ (min (Int.toNat 7) (IntKind.bits .u64))))).toNat : Int)) ^^^ BitVec.ofInt (IntKind.bits .u64) (IntKind.wrap .u64 ((IntKind.wrap .u64 ((BitVec.ofInt (IntKind.bits .u64) (IntKind.wrap .u64 ((BitVec.ofInt (IntKind.bits .u64) n36 ^^^ BitVec.ofInt (IntKind.bits .u64) (IntKind.wrap .u64 (n36 * 2 ^ (min (Int.toNat 13) (IntKind.bits .u64))))).toNat : Int)) ^^^ BitVec.ofInt (IntKind.bits .u64) (Int.fdiv (IntKind.wrap .u64 ((BitVec.ofInt (IntKind.bits .u64) n36 ^^^ BitVec.ofInt (IntKind.bits .u64) (IntKind.wrap .u64 (n36 * 2 ^ (min (Int.toNat 13) (IntKind.bits .u64))))).toNat : Int)) (2 ^ (min (Int.toNat 7) (IntKind.bits .u64))))).toNat : Int)) * 2 ^ (min (Int.toNat 17) (IntKind.bits .u64))))).toNat : Int)) &&& BitVec.ofInt (IntKind.bits .u64) (IntKind.wrap .u64 (y29 - 1))).toNat : Int))))
  else some l35
def M211 (F : Nat) (a1 : Int) (a2 : Int) (a3 : List TIface) : Option (List TIface) :=
  if (decide ((w64 (a2 - a1)) ≥ 8)) = true then (M234 F (w64 (a2 - a1))).bind fun y29 => M211_L1 F a1 a2 y29 F (w64 ((w64 (a1 + (w64 ((w64 (Int.tdiv (w64 (a2 - a1)) 4)) * 2)))) - 1)) a3 (IntKind.wrap .u64 (w64 (a2 - a1)))
  else some a3
def M171_L1 (R171 : Int → Int → Int → (List TIface) → Option (List TIface)) (F : Nat) : Nat → Int → Int → Int → Bool → Bool → (List TIface) → Option (List TIface)
  | 0, _, _, _, _, _, _ => none
  | n + 1, n191, n192, n193, b194, b195, l196 => if (decide ((w64 (n192 - n191)) ≤ 12)) = true then (M209 F n191 n192 l196).bind fun y198 => if y198.length = l196.length then some y198 else none
  else if (n193 == 0) = true then (M210 F n191 n192 l196).bind fun y202 => if y202.length = l196.length then some y202 else none
  else jn (fun (n206 : Int) (l207 : List TIface) => (M212 F n191 n192 l207).bind fun y212 => jn (fun (n215 : Int) (n216 : Int) (l217 : List TIface) => if b194 = true then if b195 = true then jn (fun (l225 : List TIface) => if (decide (n191 > 0)) = true then (idx l225 (w64 (n191 - 1))).bind fun x232 => (idx l225 n215).bind fun x234 => (M121 F x232 x234).bind fun y236 => if (!(decide (y236 < 0))) = true then (M215 F n191 n192 n215 l225).bind fun y239 => if (y239.2).length = l225.length then M171_L1 R171 F n (y239.1) n192 n206 b194 b195 (y239.2) else none
  else (M216 F n191 n192 n215 l225).bind fun y242 => if (y242.2.2).length = l225.length then jn (fun (n246 : Int) (n247 : Int) (b248 : Bool) (l249 : List TIface) => M171_L1 R171 F n n246 n247 n206 b248 (y242.2.1) l249) (fun k245 => if (decide ((w64 ((y242.1) - n191)) < (w64 (n192 - (y242.1))))) = true then (R171 n191 (y242.1) n206 (y242.2.2)).bind fun y251 => if y251.length = (y242.2.2).length then k245 (w64 ((y242.1) + 1)) n192 (decide ((w64 ((y242.1) - n191)) ≥ (w64 (Int.tdiv (w64 (n192 - n191)) 8)))) y251 else none
  else (R171 (w64 ((y242.1) + 1)) n192 n206 (y242.2.2)).bind fun y254 => if y254.length = (y242.2.2).length then k245 n191 (y242.1) (decide ((w64 (n192 - (y242.1))) ≥ (w64 (Int.tdiv (w64 (n192 - n191)) 8)))) y254 else none) else none
  else (M216 F n191 n192 n215 l225).bind fun y257 => if (y257.2.2).length = l225.length then jn (fun (n261 : Int) (n262 : Int) (b263 : Bool) (l264 : List TIface) => M171_L1 R171 F n n261 n262 n206 b263 (y257.2.1) l264) (fun k260 => if (decide ((w64 ((y257.1) - n191)) < (w64 (n192 - (y257.1))))) = true then (R171 n191 (y257.1) n206 (y257.2.2)).bind fun y266 => if y266.length = (y257.2.2).length then k260 (w64 ((y257.1) + 1)) n192 (decide ((w64 ((y257.1) - n191)) ≥ (w64 (Int.tdiv (w64 (n192 - n191)) 8)))) y266 else none
  else (R171 (w64 ((y257.1) + 1)) n192 n206 (y257.2.2)).bind fun y269 => if y269.length = (y257.2.2).length then k260 n191 (y257.1) (decide ((w64 (n192 - (y257.1))) ≥ (w64 (Int.tdiv (w64 (n192 - n191)) 8)))) y269 else none) else none) (fun k224 => if (n216 == 1) = true then (M214 F n191 n192 l217).bind fun y227 => if (y227.2).length = l217.length then if (y227.1) = true then some (y227.2)
  else k224 (y227.2) else none
  else k224 l217)
  else if (decide (n191 > 0)) = true then (idx l217 (w64 (n191 - 1))).bind fun x273 => (idx l217 n215).bind fun x275 => (M121 F x273 x275).bind fun y277 => if (!(decide (y277 < 0))) = true then (M215 F n191 n192 n215 l217).bind fun y280 => if (y280.2).length = l217.length then M171_L1 R171 F n (y280.1) n192 n206 b194 b195 (y280.2) else none
  else (M216 F n191 n192 n215 l217).bind fun y283 => if (y283.2.2).length = l217.length then jn (fun (n287 : Int) (n288 : Int) (b289 : Bool) (l290 : List TIface) => M171_L1 R171 F n n287 n288 n206 b289 (y283.2.1) l290) (fun k286 => if (decide ((w64 ((y283.1) - n191)) < (w64 (n192 - (y283.1))))) = true then (R171 n191 (y283.1) n206 (y283.2.2)).bind fun y292 => if y292.length = (y283.2.2).length then k286 (w64 ((y283.1) + 1)) n192 (decide ((w64 ((y283.1) - n191)) ≥ (w64 (Int.tdiv (w64 (n192 - n191)) 8)))) y292 else none
  else (R171 (w64 ((y283.1) + 1)) n192 n206 (y283.2.2)).bind fun y295 => if y295.length = (y283.2.2).length then k286 n191 (y283.1) (decide ((w64 (n192 - (y283.1))) ≥ (w64 (Int.tdiv (w64 (n192 - n191)) 8)))) y295 else none) else none
  else (M216 F n191 n192 n215 l217).bind fun y298 => if (y298.2.2).length = l217.length then jn (fun (n302 : Int) (n303 : Int) (b304 : Bool) (l305 : List TIface) => M171_L1 R171 F n n302 n303 n206 b304 (y298.2.1) l305) (fun k301 => if (decide ((w64 ((y298.1) - n191)) < (w64 (n192 - (y298.1))))) = true then (R171 n191 (y298.1) n206 (y298.2.2)).bind fun y307 => if y307.length = (y298.2.2).length then k301 (w64 ((y298.1) + 1)) n192 (decide ((w64 ((y298.1) - n191)) ≥ (w64 (Int.tdiv (w64 (n192 - n191)) 8)))) y307 else none
  else (R171 (w64 ((y298.1) + 1)) n192 n206 (y298.2.2)).bind fun y310 => if y310.length = (y298.2.2).length then k301 n191 (y298.1) (decide ((w64 (n192 - (y298.1))) ≥ (w64 (Int.tdiv (w64 (n192 - n191)) 8)))) y310 else none) else none
  else if (decide (n191 > 0)) = true then (idx l217 (w64 (n191 - 1))).bind fun x314 => (idx l217 n215).bind fun x316 => (M121 F x314 x316).bind fun y318 => if (!(decide (y318 < 0))) = true then (M215 F n191 n192 n215 l217).bind fun y321 => if (y321.2).length = l217.length then M171_L1 R171 F n (y321.1) n192 n206 b194 b195 (y321.2) else none
  else (M216 F n191 n192 n215 l217).bind fun y324 => if (y324.2.2).length = l217.length then jn (fun (n328 : Int) (n329 : Int) (b330 : Bool) (l331 : List TIface) => M171_L1 R171 F n n328 n329 n206 b330 (y324.2.1) l331) (fun k327 => if (decide ((w64 ((y324.1) - n191)) < (w64 (n192 - (y324.1))))) = true then (R171 n191 (y324.1) n206 (y324.2.2)).bind fun y333 => if y333.length = (y324.2.2).length then k327 (w64 ((y324.1) + 1)) n192 (decide ((w64 ((y324.1) - n191)) ≥ (w64 (Int.tdiv (w64 (n192 - n191)) 8)))) y333 else none
  else (R171 (w64 ((y324.1) + 1)) n192 n206 (y324.2.2)).bind fun y336 => if y336.length = (y324.2.2).length then k327 n191 (y324.1) (decide ((w64 (n192 - (y324.1))) ≥ (w64 (Int.tdiv (w64 (n192 - n191)) 8)))) y336 else none) else none
  else (M216 F n191 n192 n215 l217).bind fun y339 => if (y339.2.2).length = l217.length then jn (fun (n343 : Int) (n344 : Int) (b345 : Bool) (l346 : List TIface) => M171_L1 R171 F n n343 n344 n206 b345 (y339.2.1) l346) (fun k342 => if (decide ((w64 ((y339.1) - n191)) < (w64 (n192 - (y339.1))))) = true then (R171 n191 (y339.1) n206 (y339.2.2)).bind fun y348 => if y348.length = (y339.2.2).length then k342 (w64 ((y339.1) + 1)) n192 (decide ((w64 ((y339.1) - n191)) ≥ (w64 (Int.tdiv (w64 (n192 - n191)) 8)))) y348 else none
  else (R171 (w64 ((y339.1) + 1)) n192 n206 (y339.2.2)).bind fun y351 => if y351.length = (y339.2.2).length then k342 n191 (y339.1) (decide ((w64 (n192 - (y339.1))) ≥ (w64 (Int.tdiv (w64 (n192 - n191)) 8)))) y351 else none) else none) (fun k214 => if ((y212.2) == 2) = true then (M213 F n191 n192 l207).bind fun y219 => if y219.length = l207.length then k214 (w64 ((w64 (n192 - 1)) - (w64 ((y212.1) - n191)))) 1 y219 else none
  else k214 (y212.1) (y212.2) l207)) (fun k205 => if (!b194) = true then (M211 F n191 n192 l196).bind fun y209 => if y209.length = l196.length then k205 (w64 (n193 - 1)) y209 else none
  else k205 n193 l196)
def M171_B (R171 : Int → Int → Int → (List TIface) → Option (List TIface)) (F : Nat) (a1 : Int) (a2 : Int) (a3 : Int) (a4 : List TIface) : Option (List TIface) :=
  M171_L1 R171 F F a1 a2 a3 true true a4
def M171 : Nat → Int → Int → Int → (List TIface) → Option (List TIface)
  | 0, _, _, _, _ => none
  | F + 1, a1, a2, a3, a4 => M171_B (M171 F) F a1 a2 a3 a4
def M120 (F : Nat) (a1 : List TIface) : Option (List TIface) :=
  (M135 F (IntKind.wrap .u64 ((a1.length : Nat) : Int))).bind fun y8 => (M171 F 0 ((a1.length : Nat) : Int) y8 a1).bind fun y10 => if y10.length = a1.length then some y10 else none
def M43_L1 (F : Nat) (k2 : (List TIface) → Option (List TIface)) : List TIface → (List TIface) → Option (List TIface)
  | [], l7 => k2 l7
  | x9 :: tl1, l7 => (M45 F x9).bind fun y11 => if (l7 ++ ([y11] : List TIface)).length * 40 ≤ 140737488355328 then M43_L1 F k2 tl1 (l7 ++ ([y11] : List TIface)) else none
def M43 (F : Nat) (a1 : (List TIface)) : Option (List TIface) :=
  jn (fun (l3 : List TIface) => (M120 F l3).bind fun y15 => if y15.length = l3.length then some y15 else none) (fun k2 => M43_L1 F k2 a1 ([] : List TIface))
def M124 (F : Nat) (a1 : (List TMethod)) : Option (List TMethod) :=
  nilq a1.length (fun b2 => if b2 = true then some ([] : List TMethod)
  else if (([] : List TMethod) ++ a1).length * 32 ≤ 140737488355328 then some (([] : List TMethod) ++ a1) else none)
def M48 (F : Nat) (a1 : TType) : Option TType :=
  (M124 F a1.Methods).bind fun y2 => some (TType.mk a1.Name y2)
def M47 (F : Nat) (a1 : TType) : Option (List UInt8) :=
  some (a1.Name)
def M123 (F : Nat) (a1 : TType) (a2 : TType) : Option Int :=
  (M47 F a1).bind fun y3 => (M47 F a2).bind fun y5 => (M100 F y3 y5).bind fun y7 => some y7
def M217_L2 (F : Nat) (a1 : Int) (k41 : (List TType) → Option (List TType)) : Nat → Int → (List TType) → Option (List TType)
  | 0, _, _ => none
  | n + 1, n45, l46 => if (decide (n45 > a1)) = true then (idx l46 n45).bind fun x48 => (idx l46 (w64 (n45 - 1))).bind fun x50 => (M123 F x48 x50).bind fun y52 => if (decide (y52 < 0)) = true then (idx l46 (w64 (n45 - 1))).bind fun x55 => (idx l46 n45).bind fun x57 => (idx l46 n45).bind fun x59 => (idx (l46.set n45.toNat x55) (w64 (n45 - 1))).bind fun x61 => M217_L2 F a1 k41 n (w64 (n45 - 1)) ((l46.set n45.toNat x55).set (w64 (n45 - 1)).toNat x57)
  else k41 l46
  else k41 l46
def M217_L1 (F : Nat) (a1 : Int) (a2 : Int) : Nat → Int → (List TType) → Option (List TType)
  | 0, _, _ => none
  | n + 1, n36, l37 => if (decide (n36 < a2)) = true then jn (fun (l40 : List TType) => M217_L1 F a1 a2 n (w64 (n36 + 1)) l40) (fun k39 => jn (fun (l42 : List TType) => k39 l42) (fun k41 => M217_L2 F a1 k41 F n36 l37))
  else some l37
def M217 (F : Nat) (a1 : Int) (a2 : Int) (a3 : List TType) : Option (List TType) :=
  M217_L1 F a1 a2 F (w64 (a1 + 1)) a3
def M262_L1 (F : Nat) (a2 : Int) (a3 : Int) : Nat → Int → (List TType) → Option (List TType)
  | 0, _, _ => none
  | n + 1, n53, l54 => if (decide ((w64 ((w64 (2 * n53)) + 1)) ≥ a2)) = true then some l54
  else if (decide ((w64 ((w64 ((w64 (2 * n53)) + 1)) + 1)) < a2)) = true then (idx l54 (w64 (a3 + (w64 ((w64 (2 * n53)) + 1))))).bind fun x57 => (idx l54 (w64 ((w64 (a3 + (w64 ((w64 (2 * n53)) + 1)))) + 1))).bind fun x59 => (M123 F x57 x59).bind fun y61 => jn (fun (n64 : Int) => (idx l54 (w64 (a3 + n53))).bind fun x66 => (idx l54 (w64 (a3 + n64))).bind fun x68 => (M123 F x66 x68).bind fun y70 => if (!(decide (y70 < 0))) = true then some l54
  else (idx l54 (w64 (a3 + n64))).bind fun x73 => (idx l54 (w64 (a3 + n53))).bind fun x75 => (idx l54 (w64 (a3 + n53))).bind fun x77 => (idx (l54.set (w64 (a3 + n53)).toNat x73) (w64 (a3 + n64))).bind fun x79 => M262_L1 F a2 a3 n n64 ((l54.set (w64 (a3 + n53)).toNat x73).set (w64 (a3 + n64)).toNat x75)) (fun k63 => if (decide (y61 < 0)) = true then k63 (w64 ((w64 ((w64 (2 * n53)) + 1)) + 1))
  else k63 (w64 ((w64 (2 * n53)) + 1)))
  else (idx l54 (w64 (a3 + n53))).bind fun x81 => (idx l54 (w64 (a3 + (w64 ((w64 (2 * n53)) + 1))))).bind fun x83 => (M123 F x81 x83).bind fun y85 => if (!(decide (y85 < 0))) = true then some l54
  else (idx l54 (w64 (a3 + (w64 ((w64 (2 * n53)) + 1))))).bind fun x88 => (idx l54 (w64 (a3 + n53))).bind fun x90 => (idx l54 (w64 (a3 + n53))).bind fun x92 => (idx (l54.set (w64 (a3 + n53)).toNat x88) (w64 (a3 + (w64 ((w64 (2 * n53)) + 1))))).bind fun x94 => M262_L1 F a2 a3 n (w64 ((w64 (2 * n53)) + 1)) ((l54.set (w64 (a3 + n53)).toNat x88).set (w64 (a3 + (w64 ((w64 (2 * n53)) + 1)))).toNat x90)
def M262 (F : Nat) (a1 : Int) (a2 : Int) (a3 : Int) (a4 : List TType) : Option (List TType) :=
  M262_L1 F a2 a3 F a1 a4
def M218_L2 (F : Nat) (a1 : Int) : Nat → Int → (List TType) → Option (List TType)
  | 0, _, _ => none
  | n + 1, n43, l44 => if (decide (n43 ≥ 0)) = true then (idx l44 (w64 (a1 + n43))).bind fun x46 => (idx l44 a1).bind fun x48 => (idx l44 a1).bind fun x50 => (idx (l44.set a1.toNat x46) (w64 (a1 + n43))).bind fun x52 => (M262 F 0 n43 a1 ((l44.set a1.toNat x46).set (w64 (a1 + n43)).toNat x48)).bind fun y54 => if y54.length = l44.length then M218_L2 F a1 n (w64 (n43 - 1)) y54 else none
  else some l44
def M218_L1 (F : Nat) (a1 : Int) (a2 : Int) (k31 : (List TType) → Option (List TType)) : Nat → Int → (List TType) → Option (List TType)
  | 0, _, _ => none
  | n + 1, n35, l36 => if (decide (n35 ≥ 0)) = true then (M262 F n35 (w64 (a2 - a1)) a1 l36).bind fun y38 => if y38.length = l36.length then M218_L1 F a1 a2 k31 n (w64 (n35 - 1)) y38 else none
  else k31 l36
def M218 (F : Nat) (a1 : Int) (a2 : Int) (a3 : List TType) : Option (List TType) :=
  jn (fun (l32 : List TType) => M218_L2 F a1 F (w64 ((w64 (a2 - a1)) - 1)) l32) (fun k31 => M218_L1 F a1 a2 k31 F (w64 (Int.tdiv (w64 ((w64 (a2 - a1)) - 1)) 2)) a3)
def M277 (F : Nat) (a1 : Int) (a2 : Int) (a3 : List TType) (a4 : Int) : Option (Int × Int × Int) :=
  (idx a3 a2).bind fun x15 => (idx a3 a1).bind fun x17 => (M123 F x15 x17).bind fun y19 => if (decide (y19 < 0)) = true then some (a2, a1, (w64 (a4 + 1)))
  else some (a1, a2, a4)
def M264 (F : Nat) (a1 : Int) (a2 : Int) (a3 : Int) (a4 : List TType) (a5 : Int) : Option (Int × Int) :=
  (M277 F a1 a2 a4 a5).bind fun y14 => (M277 F (y14.2.1) a3 a4 (y14.2.2)).bind fun y16 => (M277 F (y14.1) (y16.1) a4 (y16.2.2)).bind fun y18 => some ((y18.2.1), (y18.2.2))
def M263 (F : Nat) (a1 : Int) (a2 : List TType) (a3 : Int) : Option (Int × Int) :=
  (M264 F (w64 (a1 - 1)) a1 (w64 (a1 + 1)) a2 a3).bind fun y8 => some ((y8.1), (y8.2))
def M220 (F : Nat) (a1 : Int) (a2 : Int) (a3 : List TType) : Option (Int × Int) :=
  jn (fun (n27 : Int) (n28 : Int) => if (n28 == 0) = true then some (n27, 1)
  else if (n28 == 12) = true then some (n27, 2)
  else some (n27, 0)) (fun k26 => if (decide ((w64 (a2 - a1)) ≥ 8)) = true then jn (fun (n31 : Int) (n32 : Int) (n33 : Int) (n34 : Int) => (M264 F n31 n32 n33 a3 n34).bind fun y42 => k26 (y42.1) (y42.2)) (fun k30 => if (decide ((w64 (a2 - a1)) ≥ 50)) = true then (M263 F (w64 (a1 + (w64 ((w64 (Int.tdiv (w64 (a2 - a1)) 4)) * 1)))) a3 0).bind fun y36 => (M263 F (w64 (a1 + (w64 ((w64 (Int.tdiv (w64 (a2 - a1)) 4)) * 2)))) a3 (y36.2)).bind fun y38 => (M263 F (w64 (a1 + (w64 ((w64 (Int.tdiv (w64 (a2 - a1)) 4)) * 3)))) a3 (y38.2)).bind fun y40 => k30 (y36.1) (y38.1) (y40.1) (y40.2)
  else k30 (w64 (a1 + (w64 ((w64 (Int.tdiv (w64 (a2 - a1)) 4)) * 1)))) (w64 (a1 + (w64 ((w64 (Int.tdiv (w64 (a2 - a1)) 4)) * 2)))) (w64 (a1 + (w64 ((w64 (Int.tdiv (w64 (a2 - a1)) 4)) * 3)))) 0)
  else k26 (w64 (a1 + (w64 ((w64 (Int.tdiv (w64 (a2 - a1)) 4)) * 2)))) 0)
def M221_L1 (F : Nat) : Nat → Int → Int → (List TType) → Option (List TType)
  | 0, _, _, _ => none
  | n + 1, n23, n24, l25 => if (decide (n23 < n24)) = true then (idx l25 n24).bind fun x27 => (idx l25 n23).bind fun x29 => (idx l25 n23).bind fun x31 => (idx (l25.set n23.toNat x27) n24).bind fun x33 => M221_L1 F n (w64 (n23 + 1)) (w64 (n24 - 1)) ((l25.set n23.toNat x27).set n24.toNat x29)
  else some l25
def M221 (F : Nat) (a1 : Int) (a2 : Int) (a3 : List TType) : Option (List TType) :=
  M221_L1 F F a1 (w64 (a2 - 1)) a3
def M222_L4 (F : Nat) (a2 : Int) (k153 : (List TType) → Option (Bool × (List TType))) : Nat → Int → (List TType) → Option (Bool × (List TType))
  | 0, _, _ => none
  | n + 1, n157, l158 => if (decide (n157 < a2)) = true then (idx l158 n157).bind fun x160 => (idx l158 (w64 (n157 - 1))).bind fun x162 => (M123 F x160 x162).bind fun y164 => if (!(decide (y164 < 0))) = true then k153 l158
  else (idx l158 (w64 (n157 - 1))).bind fun x167 => (idx l158 n157).bind fun x169 => (idx l158 n157).bind fun x171 => (idx (l158.set n157.toNat x167) (w64 (n157 - 1))).bind fun x173 => M222_L4 F a2 k153 n (w64 (n157 + 1)) ((l158.set n157.toNat x167).set (w64 (n157 - 1)).toNat x169)
  else k153 l158
def M222_L3 (F : Nat) (k128 : (List TType) → Option (Bool × (List TType))) : Nat → Int → (List TType) → Option (Bool × (List TType))
  | 0, _, _ => none
  | n + 1, n132, l133 => if (decide (n132 ≥ 1)) = true then (idx l133 n132).bind fun x135 => (idx l133 (w64 (n132 - 1))).bind fun x137 => (M123 F x135 x137).bind fun y139 => if (!(decide (y139 < 0))) = true then k128 l133
  else (idx l133 (w64 (n132 - 1))).bind fun x142 => (idx l133 n132).bind fun x144 => (idx l133 n132).bind fun x146 => (idx (l133.set n132.toNat x142) (w64 (n132 - 1))).bind fun x148 => M222_L3 F k128 n (w64 (n132 - 1)) ((l133.set n132.toNat x142).set (w64 (n132 - 1)).toNat x144)
  else k128 l133
def M222_L2 (F : Nat) (a2 : Int) (l98 : List TType) (k103 : Int → Option (Bool × (List TType))) : Nat → Int → Option (Bool × (List TType))
  | 0, _ => none
  | n + 1, n106 => if (decide (n106 < a2)) = true then (idx l98 n106).bind fun x108 => (idx l98 (w64 (n106 - 1))).bind fun x110 => (M123 F x108 x110).bind fun y112 => if (!(decide (y112 < 0))) = true then M222_L2 F a2 l98 k103 n (w64 (n106 + 1))
  else k103 n106
  else k103 n106
def M222_L1 (F : Nat) (a1 : Int) (a2 : Int) (k91 : (List TType) → Option (Bool × (List TType))) : Nat → Int → (List TType) → Option (Bool × (List TType))
  | 0, n96, l98 => k91 l98
  | tl1 + 1, n96, l98 => jn (fun (n101 : Int) (l102 : List TType) => M222_L1 F a1 a2 k91 tl1 n101 l102) (fun k100 => jn (fun (n104 : Int) => if (n104 == a2) = true then some (true, l98)
 else if (decide ((w64 (a2 - a1)) < 50)) = true then some (false, l98)
 else (idx l98 (w64 (n104 - 1))).bind fun x117 => (idx l98 n104).bind fun x119 => (idx l98 n104).bind fun x121 => (idx (l98.set n104.toNat x117) (w64 (n104 - 1))).bind fun x123 => jn (fun (l126 : List TType) => jn (fun (l151 : List TType) => k100 n104 l151) (fun k150 => if (decide ((w64 (a2 - n104)) ≥ 2)) = true then jn (fun (l154 : List TType) => k150 l154) (fun k153 => M222_L4 F a2 k153 F (w64 (n104 + 1)) l126)
 else k150 l126)) (fun k125 => if (decide ((w64 (n104 - a1)) ≥ 2)) = true then jn (fun (l129 : List TType) => k125 l129) (fun k128 => M222_L3 F k128 F (w64 (n104 - 1)) ((l98.set n104.toNat x117).set (w64 (n104 - 1)).toNat x119))
 else k125 ((l98.set n104.toNat x117).set (w64 (n104 - 1)).toNat x119))) (fun k103 => M222_L2 F a2 l98 k103 F n96))
def M222 (F : Nat) (a1 : Int) (a2 : Int) (a3 : List TType) : Option (Bool × (List TType)) :=
  jn (fun (l92 : List TType) => some (false, l92)) (fun k91 => if (5 : Int) ≤ 9223372036854775807 then M222_L1 F a1 a2 k91 ((5 : Int).toNat) (w64 (a1 + 1)) a3 else none)
def M223_L3 (F : Nat) (a1 : Int) (l77 : List TType) (n83 : Int) (k94 : Int → Option (Int × (List TType))) : Nat → Int → Option (Int × (List TType))
  | 0, _ => none
  | n + 1, n97 => if (decide (n83 ≤ n97)) = true then (idx l77 a1).bind fun x99 => (idx l77 n97).bind fun x101 => (M123 F x99 x101).bind fun y103 => if (decide (y103 < 0)) = true then M223_L3 F a1 l77 n83 k94 n (w64 (n97 - 1))
  else k94 n97
  else k94 n97
def M223_L2 (F : Nat) (a1 : Int) (n76 : Int) (l77 : List TType) (k82 : Int → Option (Int × (List TType))) : Nat → Int → Option (Int × (List TType))
  | 0, _ => none
  | n + 1, n85 => if (decide (n85 ≤ n76)) = true then (idx l77 a1).bind fun x87 => (idx l77 n85).bind fun x89 => (M123 F x87 x89).bind fun y91 => if (!(decide (y91 < 0))) = true then M223_L2 F a1 n76 l77 k82 n (w64 (n85 + 1))
  else k82 n85
  else k82 n85
def M223_L1 (F : Nat) (a1 : Int) (k69 : Int → (List TType) → Option (Int × (List TType))) : Nat → Int → Int → (List TType) → Option (Int × (List TType))
  | 0, _, _, _ => none
  | n + 1, n75, n76, l77 => jn (fun (n79 : Int) (n80 : Int) (l81 : List TType) => M223_L1 F a1 k69 n n79 n80 l81) (fun k78 => jn (fun (n83 : Int) => jn (fun (n95 : Int) => if (decide (n83 > n95)) = true then k69 n83 l77
  else (idx l77 n95).bind fun x107 => (idx l77 n83).bind fun x109 => (idx l77 n83).bind fun x111 => (idx (l77.set n83.toNat x107) n95).bind fun x113 => k78 (w64 (n83 + 1)) (w64 (n95 - 1)) ((l77.set n83.toNat x107).set n95.toNat x109)) (fun k94 => M223_L3 F a1 l77 n83 k94 F n76)) (fun k82 => M223_L2 F a1 n76 l77 k82 F n75))
def M223 (F : Nat) (a1 : Int) (a2 : Int) (a3 : Int) (a4 : List TType) : Option (Int × (List TType)) :=
  (idx a4 a3).bind fun x61 => (idx a4 a1).bind fun x63 => (idx a4 a1).bind fun x65 => (idx (a4.set a1.toNat x61) a3).bind fun x67 => jn (fun (n70 : Int) (l71 : List TType) => some (n70, l71)) (fun k69 => M223_L1 F a1 k69 F (w64 (a1 + 1)) (w64 (a2 - 1)) ((a4.set a1.toNat x61).set a3.toNat x63))
def M224_L5 (F : Nat) (a1 : Int) (l168 : List TType) (n174 : Int) (k185 : Int → Option (Int × Bool × (List TType))) : Nat → Int → Option (Int × Bool × (List TType))
  | 0, _ => none
  | n + 1, n188 => if (decide (n174 ≤ n188)) = true then (idx l168 n188).bind fun x190 => (idx l168 a1).bind fun x192 => (M123 F x190 x192).bind fun y194 => if (!(decide (y194 < 0))) = true then M224_L5 F a1 l168 n174 k185 n (w64 (n188 - 1))
  else k185 n188
  else k185 n188
def M224_L4 (F : Nat) (a1 : Int) (n167 : Int) (l168 : List TType) (k173 : Int → Option (Int × Bool × (List TType))) : Nat → Int → Option (Int × Bool × (List TType))
  | 0, _ => none
  | n + 1, n176 => if (decide (n176 ≤ n167)) = true then (idx l168 n176).bind fun x178 => (idx l168 a1).bind fun x180 => (M123 F x178 x180).bind fun y182 => if (decide (y182 < 0)) = true then M224_L4 F a1 n167 l168 k173 n (w64 (n176 + 1))
  else k173 n176
  else k173 n176
def M224_L3 (F : Nat) (a1 : Int) (k160 : Int → (List TType) → Option (Int × Bool × (List TType))) : Nat → Int → Int → (List TType) → Option (Int × Bool × (List TType))
  | 0, _, _, _ => none
  | n + 1, n166, n167, l168 => jn (fun (n170 : Int) (n171 : Int) (l172 : List TType) => M224_L3 F a1 k160 n n170 n171 l172) (fun k169 => jn (fun (n174 : Int) => jn (fun (n186 : Int) => if (decide (n174 > n186)) = true then k160 n186 l168
  else (idx l168 n186).bind fun x198 => (idx l168 n174).bind fun x200 => (idx l168 n174).bind fun x202 => (idx (l168.set n174.toNat x198) n186).bind fun x204 => k169 (w64 (n174 + 1)) (w64 (n186 - 1)) ((l168.set n174.toNat x198).set n186.toNat x200)) (fun k185 => M224_L5 F a1 l168 n174 k185 F n167)) (fun k173 => M224_L4 F a1 n167 l168 k173 F n166))
def M224_L2 (F : Nat) (a1 : Int) (a3 : Int) (a4 : List TType) (x111 : TType) (x113 : TType) (n120 : Int) (k131 : Int → Option (Int × Bool × (List TType))) : Nat → Int → Option (Int × Bool × (List TType))
  | 0, _ => none
  | n + 1, n134 => if (decide (n120 ≤ n134)) = true then (idx ((a4.set a1.toNat x111).set a3.toNat x113) n134).bind fun x136 => (idx ((a4.set a1.toNat x111).set a3.toNat x113) a1).bind fun x138 => (M123 F x136 x138).bind fun y140 => if (!(decide (y140 < 0))) = true then M224_L2 F a1 a3 a4 x111 x113 n120 k131 n (w64 (n134 - 1))
  else k131 n134
  else k131 n134
def M224_L1 (F : Nat) (a1 : Int) (a2 : Int) (a3 : Int) (a4 : List TType) (x111 : TType) (x113 : TType) (k119 : Int → Option (Int × Bool × (List TType))) : Nat → Int → Option (Int × Bool × (List TType))
  | 0, _ => none
  | n + 1, n122 => if (decide (n122 ≤ (w64 (a2 - 1)))) = true then (idx ((a4.set a1.toNat x111).set a3.toNat x113) n122).bind fun x124 => (idx ((a4.set a1.toNat x111).set a3.toNat x113) a1).bind fun x126 => (M123 F x124 x126).bind fun y128 => if (decide (y128 < 0)) = true then M224_L1 F a1 a2 a3 a4 x111 x113 k119 n (w64 (n122 + 1))
  else k119 n122
  else k119 n122
def M224 (F : Nat) (a1 : Int) (a2 : Int) (a3 : Int) (a4 : List TType) : Option (Int × Bool × (List TType)) :=
  (idx a4 a3).bind fun x111 => (idx a4 a1).bind fun x113 => (idx a4 a1).bind fun x115 => (idx (a4.set a1.toNat x111) a3).bind fun x117 => jn (fun (n120 : Int) => jn (fun (n132 : Int) => if (decide (n120 > n132)) = true then (idx ((a4.set a1.toNat x111).set a3.toNat x113) a1).bind fun x144 => (idx ((a4.set a1.toNat x111).set a3.toNat x113) n132).bind fun x146 => (idx ((a4.set a1.toNat x111).set a3.toNat x113) n132).bind fun x148 => (idx (((a4.set a1.toNat x111).set a3.toNat x113).set n132.toNat x144) a1).bind fun x150 => some (n132, true, ((((a4.set a1.toNat x111).set a3.toNat x113).set n132.toNat x144).set a1.toNat x146))
  else (idx ((a4.set a1.toNat x111).set a3.toNat x113) n132).bind fun x152 => (idx ((a4.set a1.toNat x111).set a3.toNat x113) n120).bind fun x154 => (idx ((a4.set a1.toNat x111).set a3.toNat x113) n120).bind fun x156 => (idx (((a4.set a1.toNat x111).set a3.toNat x113).set n120.toNat x152) n132).bind fun x158 => jn (fun (n161 : Int) (l162 : List TType) => (idx l162 a1).bind fun x206 => (idx l162 n161).bind fun x208 => (idx l162 n161).bind fun x210 => (idx (l162.set n161.toNat x206) a1).bind fun x212 => some (n161, false, ((l162.set n161.toNat x206).set a1.toNat x208))) (fun k160 => M224_L3 F a1 k160 F (w64 (n120 + 1)) (w64 (n132 - 1)) ((((a4.set a1.toNat x111).set a3.toNat x113).set n120.toNat x152).set n132.toNat x154))) (fun k131 => M224_L2 F a1 a3 a4 x111 x113 n120 k131 F (w64 (a2 - 1)))) (fun k119 => M224_L1 F a1 a2 a3 a4 x111 x113 k119 F (w64 (a1 + 1)))
def M219_L1 (F : Nat) (a1 : Int) (a2 : Int) (y29 : Int) : Nat → Int → (List TType) → Int → Option (List TType)
  | 0, _, _, _ => none
  | n + 1, n34, l35, n36 => if (decide (n34 ≤ (w64 ((w64 (a1 + (w64 ((w64 (Int.tdiv (w64 (a2 - a1)) 4)) * 2)))) + 1)))) = true then (M235 F n36).bind fun y38 => jn (fun (n41 : Int) => (idx l35 (w64 (a1 + n41))).bind fun x43 => (idx l35 n34).bind fun x45 => (idx l35 n34).bind fun x47 => (idx (l35.set n34.toNat x43) (w64 (a1 + n41))).bind fun x49 => M219_L1 F a1 a2 y29 n (w64 (n34 + 1)) ((l35.set n34.toNat x43).set (w64 (a1 + n41)).toNat x45) (IntKind.wrap .u64 ((BitVec.ofInt (IntKind.bits .u64) (IntKind.wrap .u64 ((BitVec.ofInt (IntKind.bits .u64) (IntKind.wrap .u64 ((BitVec.ofInt (IntKind.bits .u64) n36 ^^^ BitVec.ofInt (IntKind.bits .u64) (IntKind.wrap .u64 (n36 * 2 ^ (min (Int.toNat 13) (IntKind.bits .u64))))).toNat : Int)) ^^^ BitVec.ofInt (IntKind.bits .u64) (Int.fdiv (IntKind.wrap .u64 ((BitVec.ofInt (IntKind.bits .u64) n36 ^^^ BitVec.ofInt (IntKind.bits .u64) (IntKind.wrap .u64 (n36 * 2 ^ (min (Int.toNat 13) (IntKind.bits .u64))))).toNat : Int)) (2 ^ (min (Int.toNat 7) (IntKind.bits .u64))))).toNat : Int)) ^^^ BitVec.ofInt (IntKind.bits .u64) (IntKind.wrap .u64 ((IntKind.wrap .u64 ((BitVec.ofInt (IntKind.bits .u64) (IntKind.wrap .u64 ((BitVec.ofInt (IntKind.bits .u64) n36 ^^^ BitVec.ofInt (IntKind.bits .u64) (IntKind.wrap .u64 (n36 * 2 ^ (min (Int.toNat 13) (IntKind.bits .u64))))).toNat : Int)) ^^^ BitVec.ofInt (IntKind.bits .u64) (Int.fdiv (IntKind.wrap .u64 ((BitVec.ofInt (IntKind.bits .u64) n36 ^^^ BitVec.ofInt (IntKind.bits .u64) (IntKind.wrap .u64 (n36 * 2 ^ (min (Int.toNat 13) (IntKind.bits .u64))))).toNat : Int)) (2 ^ (min (Int.toNat 7) (IntKind.bits .u64))))).toNat : Int)) * 2 ^ (min (Int.toNat 17) (IntKind.bits .u64))))).toNat : Int))) (fun k40 => if (decide ((w64 (IntKind.wrap .u64 ((BitVec.ofInt (IntKind.bits .u64) (IntKind.wrap .u64 ((BitVec.ofInt (IntKind.bits .u64) (IntKind.wrap .u64 ((BitVec.ofInt (IntKind.bits .u64) (IntKind.wrap .u64 ((BitVec.ofInt (IntKind.bits .u64) n36 ^^^ BitVec.ofInt (IntKind.bits .u64) (IntKind.wrap .u64 (n36 * 2 ^ (min (Int.toNat 13) (IntKind.bits .u64))))).toNat : Int)) ^^^ BitVec.ofInt (IntKind.bits .u64) (Int.fdiv (IntKind.wrap .u64 ((BitVec.ofInt (IntKind.bits .u64) n36 ^^^ BitVec.ofInt (IntKind.bits .u64) (IntKind.wrap .u64 (n36 * 2 ^ (min (Int.toNat 13) (IntKind.bits .u64))))).toNat : Int)) (2 ^ (min (Int.toNat 7) (IntKind.bits .u64))))).toNat : Int)) ^^^ BitVec.ofInt (IntKind.bits .u64) (IntKind.wrap .u64 ((IntKind.wrap .u64 ((BitVec.ofInt (IntKind.bits .u64) (IntKind.wrap .u64 ((BitVec.ofInt (IntKind.bits .u64) n36 ^^^ BitVec.ofInt (IntKind.bits .u64) (IntKind.wrap .u64 (n36 * 2 ^ (min (Int.toNat 13) (IntKind.bits .u64))))).toNat : Int)) ^^^ BitVec.ofInt (IntKind.bits .u64) (Int.fdiv (IntKind.wrap .u64 ((BitVec.ofInt (IntKind.bits .u64) n36 ^^^ BitVec.ofInt (IntKind.bits .u64) (IntKind.wrap .u64 (n36 * 2 ^ (min (Int.toNat 13) (IntKind.bits .u64))))).toNat : Int)) (2 ^ (min (Int.toNat 7) (IntKind.bits .u64))))).toNat : Int)) * 2 ^ (min (Int.toNat 17) (IntKind.bits .u64))))).toNat : Int)) &&& BitVec.ofInt (IntKind.bits .u64) (IntKind.wrap .u64 (y29 - 1))).toNat : Int))) ≥ (w64 (a2 - a1)))) = true then k40 (w64 ((w64 (IntKind.wrap .u64 ((BitVec.ofInt (IntKind.bits .u64) (IntKind.wrap .u64 ((BitVec.ofInt (IntKind.bits .u64) (IntKind.wrap .u64 ((BitVec.ofInt (IntKind.bits .u64) (IntKind.wrap .u64 ((BitVec.ofInt (IntKind.bits .u64) n36 ^^^ BitVec.ofInt (IntKind.bits .u64) (IntKind.wrap .u64 (n36 * 2 ^ (min (Int.toNat 13) (IntKind.bits .u64))))).toNat : Int)) ^^^ BitVec.ofInt (IntKind.bits .u64) (Int.fdiv (IntKind.wrap .u64 ((BitVec.ofInt (IntKind.bits .u64) n36 ^^^ BitVec.ofInt (IntKind.bits .u64) (IntKind.wrap .u64 (n36 * 2 ^ (min (Int.toNat 13) (IntKind.bits .u64))))).toNat : Int)) (2 ^ (min (Int.toNat 7) (IntKind.bits .u64))))).toNat : Int)) ^^^ BitVec.ofInt (IntKind.bits .u64) (IntKind.wrap .u64 ((IntKind.wrap .u64 ((BitVec.ofInt (IntKind.bits .u64) (IntKind.wrap .u64 ((BitVec.ofInt (IntKind.bits .u64) n36 ^^^ BitVec.ofInt (IntKind.bits .u64) (IntKind.wrap .u64 (n36 * 2 ^ (min (Int.toNat 13) (IntKind.bits .u64))))).toNat : Int)) ^^^ BitVec.ofInt (IntKind.bits .u64) (Int.fdiv (IntKind.wrap .u64 ((BitVec.ofInt (IntKind.bits .u64) n36 ^^^ BitVec.ofInt (IntKind.bits .u64) (IntKind.wrap .u64 (n36 * 2 ^ (min (Int.toNat 13) (IntKind.bits .u64))))).toNat : Int)) (2 ^ (min (Int.toNat 7) (IntKind.bits .u64))))).toNat : Int)) * 2 ^ (min (Int.toNat 17) (IntKind.bits .u64))))).toNat : Int)) &&& BitVec.ofInt (IntKind.bits .u64) (IntKind.wrap .u64 (y29 - 1))).toNat : Int))) - (w64 (a2 - a1))))
  else k40 (w64 (IntKind.wrap .u64 ((BitVec.ofInt (IntKind.bits .u64) (IntKind.wrap .u64 ((BitVec.ofInt (IntKind.bits .u64) (IntKind.wrap .u64 ((BitVec.ofInt (IntKind.bits .u64) (IntKind.wrap .u64 ((BitVec.ofInt (IntKind.bits .u64) n36 ^^^ BitVec.ofInt (IntKind.bits .u64) (IntKind.wrap .u64 (n36 * 2 ^ (min (Int.toNat 13) (IntKind.bits .u64))))).toNat : Int)) ^^^ BitVec.ofInt (IntKind.bits .u64) (Int.fdiv (IntKind.wrap .u64 ((BitVec.ofInt (IntKind.bits .u64) n36 ^^^ BitVec.ofInt (IntKind.bits .u64) (IntKind.wrap .u64 (n36 * 2 ^ (min (Int.toNat 13) (IntKind.bits .u64))))).toNat : Int)) (2 ^ (min (Int.toNat 7) (IntKind.bits .u64))))).toNat : Int)) ^^^ BitVec.ofInt (IntKind.bits .u64) (IntKind.wrap .u64 ((IntKind.wrap .u64 ((BitVec.ofInt (IntKind.bits .u64) (IntKind.wrap .u64 ((BitVec.ofInt (IntKind.bits .u64) n36 ^^^ BitVec.ofInt (IntKind.bits .u64) (IntKind.wrap .u64 (n36 * 2 ^ (min (Int.toNat 13) (IntKind.bits .u64))))).toNat : Int)) ^^^ BitVec.ofInt (IntKind.bits .u64) (Int.fdiv (IntKind.wrap .u64 ((BitVec.ofInt (IntKind.bits .u64) n36 ^^^ BitVec.ofInt (IntKind.bits .u64) (IntKind.wrap .u64 (n36 * 2 ^ (min (Int.toNat 13) (IntKind.bits .u64))))).toNat : Int)) (2 ^ (min (Int.toNat 7) (IntKind.bits .u64))))).toNat : Int)) * 2 ^ (min (Int.toNat 17) (IntKind.bits .u64))))).toNat : Int)) &&& BitVec.ofInt (IntKind.bits .u64) (IntKind.wrap .u64 (y29 - 1))).toNat : Int))))
  else some l35
def M219 (F : Nat) (a1 : Int) (a2 : Int) (a3 : List TType) : Option (List TType) :=
  if (decide ((w64 (a2 - a1)) ≥ 8)) = true then (M234 F (w64 (a2 - a1))).bind fun y29 => M219_L1 F a1 a2 y29 F (w64 ((w64 (a1 + (w64 ((w64 (Int.tdiv (w64 (a2 - a1)) 4)) * 2)))) - 1)) a3 (IntKind.wrap .u64 (w64 (a2 - a1)))
  else some a3
def M172_L1 (R172 : Int → Int → Int → (List TType) → Option (List TType)) (F : Nat) : Nat → Int → Int → Int → Bool → Bool → (List TType) → Option (List TType)
  | 0, _, _, _, _, _, _ => none
  | n + 1, n191, n192, n193, b194, b195, l196 => if (decide ((w64 (n192 - n191)) ≤ 12)) = true then (M217 F n191 n192 l196).bind fun y198 => if y198.length = l196.length then some y198 else none
  else if (n193 == 0) = true then (M218 F n191 n192 l196).bind fun y202 => if y202.length = l196.length then some y202 else none
  else jn (fun (n206 : Int) (l207 : List TType) => (M220 F n191 n192 l207).bind fun y212 => jn (fun (n215 : Int) (n216 : Int) (l217 : List TType) => if b194 = true then if b195 = true then jn (fun (l225 : List TType) => if (decide (n191 > 0)) = true then (idx l225 (w64 (n191 - 1))).bind fun x232 => (idx l225 n215).bind fun x234 => (M123 F x232 x234).bind fun y236 => if (!(decide (y236 < 0))) = true then (M223 F n191 n192 n215 l225).bind fun y239 => if (y239.2).length = l225.length then M172_L1 R172 F n (y239.1) n192 n206 b194 b195 (y239.2) else none
  else (M224 F n191 n192 n215 l225).bind fun y242 => if (y242.2.2).length = l225.length then jn (fun (n246 : Int) (n247 : Int) (b248 : Bool) (l249 : List TType) => M172_L1 R172 F n n246 n247 n206 b248 (y242.2.1) l249) (fun k245 => if (decide ((w64 ((y242.1) - n191)) < (w64 (n192 - (y242.1))))) = true then (R172 n191 (y242.1) n206 (y242.2.2)).bind fun y251 => if y251.length = (y242.2.2).length then k245 (w64 ((y242.1) + 1)) n192 (decide ((w64 ((y242.1) - n191)) ≥ (w64 (Int.tdiv (w64 (n192 - n191)) 8)))) y251 else none
  else (R172 (w64 ((y242.1) + 1)) n192 n206 (y242.2.2)).bind fun y254 => if y254.length = (y242.2.2).length then k245 n191 (y242.1) (decide ((w64 (n192 - (y242.1))) ≥ (w64 (Int.tdiv (w64 (n192 - n191)) 8)))) y254 else none) else none
  else (M224 F n191 n192 n215 l225).bind fun y257 => if (y257.2.2).length = l225.length then jn (fun (n261 : Int) (n262 : Int) (b263 : Bool) (l264 : List TType) => M172_L1 R172 F n n261 n262 n206 b263 (y257.2.1) l264) (fun k260 => if (decide ((w64 ((y257.1) - n191)) < (w64 (n192 - (y257.1))))) = true then (R172 n191 (y257.1) n206 (y257.2.2)).bind fun y266 => if y266.length = (y257.2.2).length then k260 (w64 ((y257.1) + 1)) n192 (decide ((w64 ((y257.1) - n191)) ≥ (w64 (Int.tdiv (w64 (n192 - n191)) 8)))) y266 else none
  else (R172 (w64 ((y257.1) + 1)) n192 n206 (y257.2.2)).bind fun y269 => if y269.length = (y257.2.2).length then k260 n191 (y257.1) (decide ((w64 (n192 - (y257.1))) ≥ (w64 (Int.tdiv (w64 (n192 - n191)) 8)))) y269 else none) else none) (fun k224 => if (n216 == 1) = true then (M222 F n191 n192 l217).bind fun y227 => if (y227.2).length = l217.length then if (y227.1) = true then some (y227.2)
  else k224 (y227.2) else none
  else k224 l217)
  else if (decide (n191 > 0)) = true then (idx l217 (w64 (n191 - 1))).bind fun x273 => (idx l217 n215).bind fun x275 => (M123 F x273 x275).bind fun y277 => if (!(decide (y277 < 0))) = true then (M223 F n191 n192 n215 l217).bind fun y280 => if (y280.2).length = l217.length then M172_L1 R172 F n (y280.1) n192 n206 b194 b195 (y280.2) else none
  else (M224 F n191 n192 n215 l217).bind fun y283 => if (y283.2.2).length = l217.length then jn (fun (n287 : Int) (n288 : Int) (b289 : Bool) (l290 : List TType) => M172_L1 R172 F n n287 n288 n206 b289 (y283.2.1) l290) (fun k286 => if (decide ((w64 ((y283.1) - n191)) < (w64 (n192 - (y283.1))))) = true then (R172 n191 (y283.1) n206 (y283.2.2)).bind fun y292 => if y292.length = (y283.2.2).length then k286 (w64 ((y283.1) + 1)) n192 (decide ((w64 ((y283.1) - n191)) ≥ (w64 (Int.tdiv (w64 (n192 - n191)) 8)))) y292 else none
  else (R172 (w64 ((y283.1) + 1)) n192 n206 (y283.2.2)).bind fun y295 => if y295.length = (y283.2.2).length then k286 n191 (y283.1) (decide ((w64 (n192 - (y283.1))) ≥ (w64 (Int.tdiv (w64 (n192 - n191)) 8)))) y295 else none) else none
  else (M224 F n191 n192 n215 l217).bind fun y298 => if (y298.2.2).length = l217.length then jn (fun (n302 : Int) (n303 : Int) (b304 : Bool) (l305 : List TType) => M172_L1 R172 F n n302 n303 n206 b304 (y298.2.1) l305) (fun k301 => if (decide ((w64 ((y298.1) - n191)) < (w64 (n192 - (y298.1))))) = true then (R172 n191 (y298.1) n206 (y298.2.2)).bind fun y307 => if y307.length = (y298.2.2).length then k301 (w64 ((y298.1) + 1)) n192 (decide ((w64 ((y298.1) - n191)) ≥ (w64 (Int.tdiv (w64 (n192 - n191)) 8)))) y307 else none
  else (R172 (w64 ((y298.1) + 1)) n192 n206 (y298.2.2)).bind fun y310 => if y310.length = (y298.2.2).length then k301 n191 (y298.1) (decide ((w64 (n192 - (y298.1))) ≥ (w64 (Int.tdiv (w64 (n192 - n191)) 8)))) y310 else none) else none
  else if (decide (n191 > 0)) = true then (idx l217 (w64 (n191 - 1))).bind fun x314 => (idx l217 n215).bind fun x316 => (M123 F x314 x316).bind fun y318 => if (!(decide (y318 < 0))) = true then (M223 F n191 n192 n215 l217).bind fun y321 => if (y321.2).length = l217.length then M172_L1 R172 F n (y321.1) n192 n206 b194 b195 (y321.2) else none
  else (M224 F n191 n192 n215 l217).bind fun y324 => if (y324.2.2).length = l217.length then jn (fun (n328 : Int) (n329 : Int) (b330 : Bool) (l331 : List TType) => M172_L1 R172 F n n328 n329 n206 b330 (y324.2.1) l331) (fun k327 => if (decide ((w64 ((y324.1) - n191)) < (w64 (n192 - (y324.1))))) = true then (R172 n191 (y324.1) n206 (y324.2.2)).bind fun y333 => if y333.length = (y324.2.2).length then k327 (w64 ((y324.1) + 1)) n192 (decide ((w64 ((y324.1) - n191)) ≥ (w64 (Int.tdiv (w64 (n192 - n191)) 8)))) y333 else none
  else (R172 (w64 ((y324.1) + 1)) n192 n206 (y324.2.2)).bind fun y336 => if y336.length = (y324.2.2).length then k327 n191 (y324.1) (decide ((w64 (n192 - (y324.1))) ≥ (w64 (Int.tdiv (w64 (n192 - n191)) 8)))) y336 else none) else none
  else (M224 F n191 n192 n215 l217).bind fun y339 => if (y339.2.2).length = l217.length then jn (fun (n343 : Int) (n344 : Int) (b345 : Bool) (l346 : List TType) => M172_L1 R172 F n n343 n344 n206 b345 (y339.2.1) l346) (fun k342 => if (decide ((w64 ((y339.1) - n191)) < (w64 (n192 - (y339.1))))) = true then (R172 n191 (y339.1) n206 (y339.2.2)).bind fun y348 => if y348.length = (y339.2.2).length then k342 (w64 ((y339.1) + 1)) n192 (decide ((w64 ((y339.1) - n191)) ≥ (w64 (Int.tdiv (w64 (n192 - n191)) 8)))) y348 else none
  else (R172 (w64 ((y339.1) + 1)) n192 n206 (y339.2.2)).bind fun y351 => if y351.length = (y339.2.2).length then k342 n191 (y339.1) (decide ((w64 (n192 - (y339.1))) ≥ (w64 (Int.tdiv (w64 (n192 - n191)) 8)))) y351 else none) else none) (fun k214 => if ((y212.2) == 2) = true then (M221 F n191 n192 l207).bind fun y219 => if y219.length = l207.length then k214 (w64 ((w64 (n192 - 1)) - (w64 ((y212.1) - n191)))) 1 y219 else none
  else k214 (y212.1) (y212.2) l207)) (fun k205 => if (!b194) = true then (M219 F n191 n192 l196).bind fun y209 => if y209.length = l196.length then k205 (w64 (n193 - 1)) y209 else none
  else k205 n193 l196)
def M172_B (R172 : Int → Int → Int → (List TType) → Option (List TType)) (F : Nat) (a1 : Int) (a2 : Int) (a3 : Int) (a4 : List TType) : Option (List TType) :=
  M172_L1 R172 F F a1 a2 a3 true true a4
def M172 : Nat → Int → Int → Int → (List TType) → Option (List TType)
  | 0, _, _, _, _ => none
  | F + 1, a1, a2, a3, a4 => M172_B (M172 F) F a1 a2 a3 a4
def M122 (F : Nat) (a1 : List TType) : Option (List TType) :=
  (M135 F (IntKind.wrap .u64 ((a1.length : Nat) : Int))).bind fun y8 => (M172 F 0 ((a1.length : Nat) : Int) y8 a1).bind fun y10 => if y10.length = a1.length then some y10 else none
def M46_L1 (F : Nat) (k2 : (List TType) → Option (List TType)) : List TType → (List TType) → Option (List TType)
  | [], l7 => k2 l7
  | x9 :: tl1, l7 => (M48 F x9).bind fun y11 => if (l7 ++ ([y11] : List TType)).length * 40 ≤ 140737488355328 then M46_L1 F k2 tl1 (l7 ++ ([y11] : List TType)) else none
def M46 (F : Nat) (a1 : (List TType)) : Option (List TType) :=
  jn (fun (l3 : List TType) => (M122 F l3).bind fun y15 => if y15.length = l3.length then some y15 else none) (fun k2 => M46_L1 F k2 a1 ([] : List TType))
def M11_L3 (F : Nat) (m9 : List (TSite × Bool)) (x58 : TFunc) (k62 : (List TCall) → Option (TGraph × Int)) : List TCall → Int → (List TCall) → Option (TGraph × Int)
  | [], n66, l67 => k62 l67
  | x69 :: tl3, n66, l67 => jn (fun (l72 : List TCall) => M11_L3 F m9 x58 k62 tl3 (n66 + 1) l72) (fun k71 => if (!((mget m9 (TSite.mk x58.Name n66)).getD false)) = true then if (l67 ++ ([x69] : List TCall)).length * 56 ≤ 140737488355328 then k71 (l67 ++ ([x69] : List TCall)) else none
 else k71 l67)
def M11_L2 (F : Nat) (m9 : List (TSite × Bool)) (k49 : (List TFunc) → Option (TGraph × Int)) : List TFunc → (List TFunc) → Option (TGraph × Int)
  | [], l54 => k49 l54
  | x58 :: tl2, l54 => jn (fun (l57 : List TFunc) => M11_L2 F m9 k49 tl2 l57) (fun k56 => (M49 F x58.Makes).bind fun y60 => jn (fun (l63 : List TCall) => if (l54 ++ ([(TFunc.mk x58.Name x58.Component l63 y60)] : List TFunc)).length * 80 ≤ 140737488355328 then k56 (l54 ++ ([(TFunc.mk x58.Name x58.Component l63 y60)] : List TFunc)) else none) (fun k62 => M11_L3 F m9 x58 k62 x58.Calls 0 ([] : List TCall)))
def M11_L1 (F : Nat) (a1 : TGraph) (a2 : (List TSite)) (x10 : Treach_world) (k8 : (List (TSite × Bool)) → Option (TGraph × Int)) : List TSite → Int → (List (TSite × Bool)) → Option (TGraph × Int)
  | [], n14, m15 => k8 m15
  | x17 :: tl1, n14, m15 => jn (fun (s20 : List UInt8) (s21 : List UInt8) (l22 : List TCall) (l23 : List (List UInt8)) (s24 : List UInt8) (s25 : List UInt8) (l26 : List TCall) (l27 : List (List UInt8)) (l28 : List TCall) (n29 : Int) (b30 : Bool) => M11_L1 F a1 a2 x10 k8 tl1 (n14 + 1) (mput m15 x17 true)) (fun k19 => if (!((mget x10.funcs x17.Func).isSome)) = true then some ((TGraph.mk ([] : List TIface) ([] : List TType) ([] : List TFunc) ([] : List (List UInt8))), 4)
 else if (decide (x17.Call < 0)) = true then some ((TGraph.mk ([] : List TIface) ([] : List TType) ([] : List TFunc) ([] : List (List UInt8))), 9)
 else (idx a1.Funcs ((mget x10.funcs x17.Func).getD 0)).bind fun x33 => if (decide (x17.Call ≥ ((x33.Calls.length : Nat) : Int))) = true then some ((TGraph.mk ([] : List TIface) ([] : List TType) ([] : List TFunc) ([] : List (List UInt8))), 9)
 else if (decide (n14 > 0)) = true then (idx a2 (w64 (n14 - 1))).bind fun x37 => (M42 F x37 x17).bind fun y39 => if (decide (y39 ≥ 0)) = true then some ((TGraph.mk ([] : List TIface) ([] : List TType) ([] : List TFunc) ([] : List (List UInt8))), 10)
 else k19 x33.Name x33.Component x33.Calls x33.Makes x33.Name x33.Component x33.Calls x33.Makes x33.Calls ((x33.Calls.length : Nat) : Int) (decide (x17.Call ≥ ((x33.Calls.length : Nat) : Int)))
 else k19 x33.Name x33.Component x33.Calls x33.Makes x33.Name x33.Component x33.Calls x33.Makes x33.Calls ((x33.Calls.length : Nat) : Int) (decide (x17.Call ≥ ((x33.Calls.length : Nat) : Int))))
def M11 (F : Nat) (a1 : TGraph) (a2 : (List TSite)) : Option (TGraph × Int) :=
  (M17 F a1).bind fun y3 => if (y3 != 0) = true then some ((TGraph.mk ([] : List TIface) ([] : List TType) ([] : List TFunc) ([] : List (List UInt8))), y3)
  else (M41 F a1 1 ([] : List (List UInt8))).bind fun y6 => jn (fun (m9 : List (TSite × Bool)) => (M43 F a1.Ifaces).bind fun y43 => (M46 F a1.Types).bind fun y45 => (M49 F a1.Entries).bind fun y47 => jn (fun (l50 : List TFunc) => some ((TGraph.mk y43 y45 l50 y47), 0)) (fun k49 => M11_L2 F m9 k49 a1.Funcs ([] : List TFunc))) (fun k8 => (y6).bind fun x10 => M11_L1 F a1 a2 x10 k8 a2 0 ([] : List (TSite × Bool)))
def M72_L4 (F : Nat) (k35 : (List ((List UInt8) × Bool)) → Option Tprovenderref6_names) : List TFunc → (List ((List UInt8) × Bool)) → Option Tprovenderref6_names
  | [], m40 => k35 m40
  | x42 :: tl4, m40 => M72_L4 F k35 tl4 (mput m40 x42.Name true)
def M72_L3 (F : Nat) (k25 : (List ((List UInt8) × Bool)) → Option Tprovenderref6_names) : List TType → (List ((List UInt8) × Bool)) → Option Tprovenderref6_names
  | [], m30 => k25 m30
  | x32 :: tl3, m30 => M72_L3 F k25 tl3 (mput m30 x32.Name true)
def M72_L2 (F : Nat) (x11 : TIface) (k13 : (List ((List UInt8) × (List ((List UInt8) × Bool)))) → Option Tprovenderref6_names) : List (List UInt8) → (List ((List UInt8) × (List ((List UInt8) × Bool)))) → Option Tprovenderref6_names
  | [], m18 => k13 m18
  | x20 :: tl2, m18 => if (mget m18 x11.Name).isSome = true then M72_L2 F x11 k13 tl2 (mput m18 x11.Name (mput ((mget m18 x11.Name).getD []) x20 true)) else none
def M72_L1 (F : Nat) (k2 : (List ((List UInt8) × (List ((List UInt8) × Bool)))) → Option Tprovenderref6_names) : List TIface → (List ((List UInt8) × (List ((List UInt8) × Bool)))) → Option Tprovenderref6_names
  | [], m7 => k2 m7
  | x11 :: tl1, m7 => jn (fun (m10 : List ((List UInt8) × (List ((List UInt8) × Bool)))) => M72_L1 F k2 tl1 m10) (fun k9 => jn (fun (m14 : List ((List UInt8) × (List ((List UInt8) × Bool)))) => k9 m14) (fun k13 => M72_L2 F x11 k13 x11.Methods (mput m7 x11.Name ([] : List ((List UInt8) × Bool)))))
def M72 (F : Nat) (a1 : TGraph) : Option Tprovenderref6_names :=
  jn (fun (m3 : List ((List UInt8) × (List ((List UInt8) × Bool)))) => jn (fun (m26 : List ((List UInt8) × Bool)) => jn (fun (m36 : List ((List UInt8) × Bool)) => some (Tprovenderref6_names.mk m3 m26 m36)) (fun k35 => M72_L4 F k35 a1.Funcs ([] : List ((List UInt8) × Bool)))) (fun k25 => M72_L3 F k25 a1.Types ([] : List ((List UInt8) × Bool)))) (fun k2 => M72_L1 F k2 a1.Ifaces ([] : List ((List UInt8) × (List ((List UInt8) × Bool)))))
def M82_L1 (F : Nat) (a1 : (List UInt8)) (k2 : Option Bool) : Nat → Int → Option Bool
  | 0, n4 => k2
  | tl1 + 1, n4 => (idx a1 n4).bind fun c6 => if (decide ((c6.toNat : Int) < 33)) = true then some false
 else (idx a1 n4).bind fun c9 => if (decide ((c9.toNat : Int) > 126)) = true then some false
 else (idx a1 n4).bind fun c12 => if ((c12.toNat : Int) == 35) = true then some false
 else M82_L1 F a1 k2 tl1 (n4 + 1)
def M82 (F : Nat) (a1 : (List UInt8)) : Option Bool :=
  jn (if (decide ((a1.length : Int) ≥ 1)) = true then some (decide ((a1.length : Int) ≤ 100))
  else some false) (fun k2 => if (a1.length : Int) ≤ 9223372036854775807 then M82_L1 F a1 k2 (((a1.length : Int) : Int).toNat) 0 else none)
def M139 (F : Nat) (a1 : (List (List UInt8))) (a2 : Int) : Option Int :=
  if (decide (a2 > 0)) = true then (idx a1 a2).bind fun x4 => (idx a1 (w64 (a2 - 1))).bind fun x6 => if (Op.bytesLess x4 x6 || x4 == x6) = true then some 10
  else some 0
  else some 0
def M136_L2 (F : Nat) (x10 : TIface) (k18 : Option Int) : List (List UInt8) → Int → Option Int
  | [], n20 => k18
  | x22 :: tl2, n20 => (M82 F x22).bind fun y24 => if (!y24) = true then some 8
 else (M139 F x10.Methods n20).bind fun y27 => if (y27 != 0) = true then some y27
 else M136_L2 F x10 k18 tl2 (n20 + 1)
def M136_L1 (F : Nat) (k2 : Option Int) : List TIface → (List UInt8) → Option Int
  | [], s5 => k2
  | x10 :: tl1, s5 => jn (fun (s9 : List UInt8) => M136_L1 F k2 tl1 s9) (fun k8 => (M82 F x10.Name).bind fun y12 => if (!y12) = true then some 8
 else if (Op.bytesLess x10.Name s5 || x10.Name == s5) = true then some 10
 else if (((x10.Methods.length : Nat) : Int) == 0) = true then some 13
 else if (decide (((x10.Methods.length : Nat) : Int) > 200)) = true then some 3
 else jn (k8 x10.Name) (fun k18 => M136_L2 F x10 k18 x10.Methods 0))
def M136 (F : Nat) (a1 : Tprovenderref6_checker) : Option Int :=
  jn (some 0) (fun k2 => M136_L1 F k2 a1.g.Ifaces ([] : List UInt8))
def M137_L2 (F : Nat) (a1 : Tprovenderref6_checker) (k17 : Option Int) : List TMethod → (List UInt8) → Option Int
  | [], s20 => k17
  | x23 :: tl2, s20 => (M82 F x23.Name).bind fun y25 => jn (M137_L2 F a1 k17 tl2 x23.Name) (fun k27 => if (!y25) = true then some 8
 else if (Op.bytesLess x23.Name s20 || x23.Name == s20) = true then some 10
 else if (!a1.loose) = true then if (!((mget a1.n.funcs x23.Func).getD false)) = true then some 4
 else k27
 else k27)
def M137_L1 (F : Nat) (a1 : Tprovenderref6_checker) (k2 : Option Int) : List TType → (List UInt8) → Option Int
  | [], s5 => k2
  | x10 :: tl1, s5 => jn (fun (s9 : List UInt8) => M137_L1 F a1 k2 tl1 s9) (fun k8 => (M82 F x10.Name).bind fun y12 => if (!y12) = true then some 8
 else if (Op.bytesLess x10.Name s5 || x10.Name == s5) = true then some 10
 else if (decide (((x10.Methods.length : Nat) : Int) > 200)) = true then some 3
 else jn (k8 x10.Name) (fun k17 => M137_L2 F a1 k17 x10.Methods ([] : List UInt8)))
def M137 (F : Nat) (a1 : Tprovenderref6_checker) : Option Int :=
  jn (some 0) (fun k2 => M137_L1 F a1 k2 a1.g.Types ([] : List UInt8))
def M187 (F : Nat) (a1 : Tprovenderref6_checker) (a2 : TCall) : Option Int :=
  jn (if (!(a2.Feature == ([] : List UInt8))) = true then (M82 F a2.Feature).bind fun y15 => if (!y15) = true then some 8
  else some 0
  else some 0) (fun k3 => if (a2.Kind == 1) = true then if (!a1.loose) = true then if (!((mget a1.n.funcs a2.Target).getD false)) = true then some 4
  else if (!(a2.Method == ([] : List UInt8))) = true then some 2
  else k3
  else if (!(a2.Method == ([] : List UInt8))) = true then some 2
  else k3
  else if (a2.Kind == 2) = true then if ((mget a1.n.ifaces a2.Target).isSome) = true then if (!a1.loose) = true then if (!((mget ((mget a1.n.ifaces a2.Target).getD []) a2.Method).getD false)) = true then some 4
  else k3
  else k3
  else if (!a1.loose) = true then some 4
  else k3
  else some 7)
def M138_L3 (F : Nat) (a1 : Tprovenderref6_checker) (x10 : TFunc) (k30 : Option Int) : List (List UInt8) → Int → Option Int
  | [], n32 => k30
  | x35 :: tl3, n32 => jn (M138_L3 F a1 x10 k30 tl3 (n32 + 1)) (fun k34 => if (!a1.loose) = true then if (!((mget a1.n.types x35).getD false)) = true then some 4
 else (M139 F x10.Makes n32).bind fun y39 => if (y39 != 0) = true then some y39
 else k34
 else (M139 F x10.Makes n32).bind fun y42 => if (y42 != 0) = true then some y42
 else k34)
def M138_L2 (F : Nat) (a1 : Tprovenderref6_checker) (k20 : Option Int) : List TCall → Option Int
  | [] => k20
  | x24 :: tl2 => (M187 F a1 x24).bind fun y26 => if (y26 != 0) = true then some y26
 else M138_L2 F a1 k20 tl2
def M138_L1 (F : Nat) (a1 : Tprovenderref6_checker) (k2 : Option Int) : List TFunc → (List UInt8) → Option Int
  | [], s5 => k2
  | x10 :: tl1, s5 => jn (fun (s9 : List UInt8) => M138_L1 F a1 k2 tl1 s9) (fun k8 => (M82 F x10.Name).bind fun y12 => if (!y12) = true then some 8
 else if (Op.bytesLess x10.Name s5 || x10.Name == s5) = true then some 10
 else (M82 F x10.Component).bind fun y16 => if (!y16) = true then some 8
 else if (decide (((x10.Calls.length : Nat) : Int) > 200)) = true then some 3
 else jn (jn (k8 x10.Name) (fun k30 => M138_L3 F a1 x10 k30 x10.Makes 0)) (fun k20 => M138_L2 F a1 k20 x10.Calls))
def M138 (F : Nat) (a1 : Tprovenderref6_checker) : Option Int :=
  jn (some 0) (fun k2 => M138_L1 F a1 k2 a1.g.Funcs ([] : List UInt8))
def M73_L1 (F : Nat) (a1 : Tprovenderref6_checker) (k14 : Option Int) : List (List UInt8) → Int → Option Int
  | [], n16 => k14
  | x19 :: tl1, n16 => jn (M73_L1 F a1 k14 tl1 (n16 + 1)) (fun k18 => if (!a1.loose) = true then if (!((mget a1.n.funcs x19).getD false)) = true then some 4
 else (M139 F a1.g.Entries n16).bind fun y23 => if (y23 != 0) = true then some y23
 else k18
 else (M139 F a1.g.Entries n16).bind fun y26 => if (y26 != 0) = true then some y26
 else k18)
def M73 (F : Nat) (a1 : Tprovenderref6_checker) : Option Int :=
  if (decide (((a1.g.Ifaces.length : Nat) : Int) > 200)) = true then some 3
  else if (decide (((a1.g.Types.length : Nat) : Int) > 500)) = true then some 3
  else if (decide (((a1.g.Funcs.length : Nat) : Int) > 3000)) = true then some 3
  else (M136 F a1).bind fun y5 => if (y5 != 0) = true then some y5
  else (M137 F a1).bind fun y8 => if (y8 != 0) = true then some y8
  else (M138 F a1).bind fun y11 => if (y11 != 0) = true then some y11
  else jn (some 0) (fun k14 => M73_L1 F a1 k14 a1.g.Entries 0)
def M18 (F : Nat) (a1 : TGraph) : Option Int :=
  (M72 F a1).bind fun y2 => (M73 F (Tprovenderref6_checker.mk a1 y2 false)).bind fun y4 => some y4
def M125_L1 (F : Nat) (a2 : (List UInt8)) (k3 : Option (TFunc × Bool)) : List TFunc → Option (TFunc × Bool)
  | [] => k3
  | x7 :: tl1 => if (x7.Name == a2) = true then some (x7, true)
 else M125_L1 F a2 k3 tl1
def M125 (F : Nat) (a1 : TGraph) (a2 : (List UInt8)) : Option (TFunc × Bool) :=
  jn (some ((TFunc.mk ([] : List UInt8) ([] : List UInt8) ([] : List TCall) ([] : List (List UInt8))), false)) (fun k3 => M125_L1 F a2 k3 a1.Funcs)
def M50 (F : Nat) (a1 : TGraph) (a2 : TSite) : Option (TCall × Int) :=
  (M125 F a1 a2.Func).bind fun y3 => if (!(y3.2)) = true then some ((TCall.mk 0 ([] : List UInt8) ([] : List UInt8) ([] : List UInt8)), 4)
  else if (decide (a2.Call < 0)) = true then some ((TCall.mk 0 ([] : List UInt8) ([] : List UInt8) ([] : List UInt8)), 9)
  else if (decide (a2.Call ≥ (((y3.1).Calls.length : Nat) : Int))) = true then some ((TCall.mk 0 ([] : List UInt8) ([] : List UInt8) ([] : List UInt8)), 9)
  else (idx (y3.1).Calls a2.Call).bind fun x8 => some (x8, 0)
def M51 (F : Nat) (a1 : TSite) (a2 : TSite) : Option Bool :=
  if (Op.bytesLess a1.Func a2.Func) = true then some true
  else if (a1.Func == a2.Func) = true then some (decide (a1.Call < a2.Call))
  else some false
def M12_L3 (F : Nat) (m7 : List (TSite × Bool)) (x36 : TFunc) (k38 : (List TCall) → Option (TGraph × Int)) : List TCall → Int → (List TCall) → Option (TGraph × Int)
  | [], n42, l43 => k38 l43
  | x45 :: tl3, n42, l43 => jn (fun (l48 : List TCall) => M12_L3 F m7 x36 k38 tl3 (n42 + 1) l48) (fun k47 => if (!((mget m7 (TSite.mk x36.Name n42)).getD false)) = true then if (l43 ++ ([x45] : List TCall)).length * 56 ≤ 140737488355328 then k47 (l43 ++ ([x45] : List TCall)) else none
 else k47 l43)
def M12_L2 (F : Nat) (m7 : List (TSite × Bool)) (k27 : (List TFunc) → Option (TGraph × Int)) : List TFunc → (List TFunc) → Option (TGraph × Int)
  | [], l32 => k27 l32
  | x36 :: tl2, l32 => jn (fun (l35 : List TFunc) => M12_L2 F m7 k27 tl2 l35) (fun k34 => jn (fun (l39 : List TCall) => if (l32 ++ ([(TFunc.mk x36.Name x36.Component l39 x36.Makes)] : List TFunc)).length * 80 ≤ 140737488355328 then k34 (l32 ++ ([(TFunc.mk x36.Name x36.Component l39 x36.Makes)] : List TFunc)) else none) (fun k38 => M12_L3 F m7 x36 k38 x36.Calls 0 ([] : List TCall)))
def M12_L1 (F : Nat) (a1 : TGraph) (a2 : (List TSite)) (k6 : (List (TSite × Bool)) → Option (TGraph × Int)) : List TSite → Int → (List (TSite × Bool)) → Option (TGraph × Int)
  | [], n10, m11 => k6 m11
  | x15 :: tl1, n10, m11 => jn (fun (m14 : List (TSite × Bool)) => M12_L1 F a1 a2 k6 tl1 (n10 + 1) m14) (fun k13 => (M50 F a1 x15).bind fun y17 => if ((y17.2) != 0) = true then some ((TGraph.mk ([] : List TIface) ([] : List TType) ([] : List TFunc) ([] : List (List UInt8))), (y17.2))
 else if (decide (n10 > 0)) = true then (idx a2 (w64 (n10 - 1))).bind fun x21 => (M51 F x21 x15).bind fun y23 => if (!y23) = true then some ((TGraph.mk ([] : List TIface) ([] : List TType) ([] : List TFunc) ([] : List (List UInt8))), 10)
 else k13 (mput m11 x15 true)
 else k13 (mput m11 x15 true))
def M12 (F : Nat) (a1 : TGraph) (a2 : (List TSite)) : Option (TGraph × Int) :=
  (M18 F a1).bind fun y3 => if (y3 != 0) = true then some ((TGraph.mk ([] : List TIface) ([] : List TType) ([] : List TFunc) ([] : List (List UInt8))), y3)
  else jn (fun (m7 : List (TSite × Bool)) => jn (fun (l28 : List TFunc) => some ((TGraph.mk a1.Ifaces a1.Types l28 a1.Entries), 0)) (fun k27 => M12_L2 F m7 k27 a1.Funcs ([] : List TFunc))) (fun k6 => M12_L1 F a1 a2 k6 a2 0 ([] : List (TSite × Bool)))
def M26_L1 (F : Nat) (a2 : (List (List UInt8))) (k4 : Option Bool) : List (List UInt8) → Int → Option Bool
  | [], n6 => k4
  | x8 :: tl1, n6 => (idx a2 n6).bind fun x10 => if (!(x8 == x10)) = true then some false
 else M26_L1 F a2 k4 tl1 (n6 + 1)
def M26 (F : Nat) (a1 : (List (List UInt8))) (a2 : (List (List UInt8))) : Option Bool :=
  if (((a1.length : Nat) : Int) != ((a2.length : Nat) : Int)) = true then some false
  else jn (some true) (fun k4 => M26_L1 F a2 k4 a1 0)
def M52 (F : Nat) (a1 : TIface) (a2 : TIface) : Option Bool :=
  if (a1.Name == a2.Name) = true then (M26 F a1.Methods a2.Methods).bind fun y4 => some y4
  else some false
def M55_L1 (F : Nat) (a2 : (List TIface)) (k4 : Option Bool) : List TIface → Int → Option Bool
  | [], n6 => k4
  | x8 :: tl1, n6 => (idx a2 n6).bind fun x10 => (M52 F x8 x10).bind fun y12 => if (!y12) = true then some false
 else M55_L1 F a2 k4 tl1 (n6 + 1)
def M55 (F : Nat) (a1 : (List TIface)) (a2 : (List TIface)) : Option Bool :=
  if (((a1.length : Nat) : Int) != ((a2.length : Nat) : Int)) = true then some false
  else jn (some true) (fun k4 => M55_L1 F a2 k4 a1 0)
def M54_L1 (F : Nat) (a2 : (List TMethod)) (k4 : Option Bool) : List TMethod → Int → Option Bool
  | [], n6 => k4
  | x8 :: tl1, n6 => (idx a2 n6).bind fun x10 => if (!(decide (x8 = x10))) = true then some false
 else M54_L1 F a2 k4 tl1 (n6 + 1)
def M54 (F : Nat) (a1 : (List TMethod)) (a2 : (List TMethod)) : Option Bool :=
  if (((a1.length : Nat) : Int) != ((a2.length : Nat) : Int)) = true then some false
  else jn (some true) (fun k4 => M54_L1 F a2 k4 a1 0)
def M53 (F : Nat) (a1 : TType) (a2 : TType) : Option Bool :=
  if (a1.Name == a2.Name) = true then (M54 F a1.Methods a2.Methods).bind fun y4 => some y4
  else some false
def M56_L1 (F : Nat) (a2 : (List TType)) (k4 : Option Bool) : List TType → Int → Option Bool
  | [], n6 => k4
  | x8 :: tl1, n6 => (idx a2 n6).bind fun x10 => (M53 F x8 x10).bind fun y12 => if (!y12) = true then some false
 else M56_L1 F a2 k4 tl1 (n6 + 1)
def M56 (F : Nat) (a1 : (List TType)) (a2 : (List TType)) : Option Bool :=
  if (((a1.length : Nat) : Int) != ((a2.length : Nat) : Int)) = true then some false
  else jn (some true) (fun k4 => M56_L1 F a2 k4 a1 0)
def M126_L1 (F : Nat) (a2 : (List TCall)) (k4 : Option Bool) : List TCall → Int → Option Bool
  | [], n6 => k4
  | x8 :: tl1, n6 => (idx a2 n6).bind fun x10 => if (!(decide (x8 = x10))) = true then some false
 else M126_L1 F a2 k4 tl1 (n6 + 1)
def M126 (F : Nat) (a1 : (List TCall)) (a2 : (List TCall)) : Option Bool :=
  if (((a1.length : Nat) : Int) != ((a2.length : Nat) : Int)) = true then some false
  else jn (some true) (fun k4 => M126_L1 F a2 k4 a1 0)
def M58 (F : Nat) (a1 : TFunc) (a2 : TFunc) : Option Bool :=
  if (a1.Name == a2.Name) = true then if (a1.Component == a2.Component) = true then (M126 F a1.Calls a2.Calls).bind fun y5 => if y5 = true then (M26 F a1.Makes a2.Makes).bind fun y8 => some y8
  else some false
  else some false
  else some false
def M57_L1 (F : Nat) (a2 : (List TFunc)) (k4 : Option Bool) : List TFunc → Int → Option Bool
  | [], n6 => k4
  | x8 :: tl1, n6 => (idx a2 n6).bind fun x10 => (M58 F x8 x10).bind fun y12 => if (!y12) = true then some false
 else M57_L1 F a2 k4 tl1 (n6 + 1)
def M57 (F : Nat) (a1 : (List TFunc)) (a2 : (List TFunc)) : Option Bool :=
  if (((a1.length : Nat) : Int) != ((a2.length : Nat) : Int)) = true then some false
  else jn (some true) (fun k4 => M57_L1 F a2 k4 a1 0)
def M13 (F : Nat) (a1 : TGraph) (a2 : TGraph) : Option Bool :=
  (M55 F a1.Ifaces a2.Ifaces).bind fun y3 => if y3 = true then (M56 F a1.Types a2.Types).bind fun y6 => if y6 = true then (M57 F a1.Funcs a2.Funcs).bind fun y9 => if y9 = true then (M26 F a1.Entries a2.Entries).bind fun y12 => some y12
  else some false
  else some false
  else some false
def M14 (F : Nat) : Option Bool := some true
def M3 (F : Nat) (a1 : TGraph) (a2 : (List TSite)) : Option Bool :=
  (M11 F a1 a2).bind fun y3 => (M12 F a1 a2).bind fun y5 => if ((y3.2) == (y5.2)) = true then (M13 F (y3.1) (y5.1)).bind fun y8 => if y8 = true then (M14 F).bind fun y11 => some y11
  else some false
  else some false
end
end Go.Proofs.YtpbkggamiipdmaaGreat
