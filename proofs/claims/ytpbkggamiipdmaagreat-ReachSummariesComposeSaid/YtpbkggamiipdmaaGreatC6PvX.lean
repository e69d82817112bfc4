/- Part of the proof: ZC6M, Q, X. -/
import Derived.Test.YtpbkggamiipdmaaGreatC6ZC6T
import Derived.Test.YtpbkggamiipdmaaGreatC6PvU
import Derived.Test.YtpbkggamiipdmaaGreatC6ZA
namespace Go.Proofs.YtpbkggamiipdmaaGreat
open Go Go.Pv
set_option linter.unusedVariables false
set_option maxRecDepth 100000
noncomputable section
def M59_L3 (F : Nat) (k23 : (List ((List UInt8) × Bool)) → Option q9b) : List TFunc → (List ((List UInt8) × Bool)) → Option q9b
 | [], m28 => k23 m28
 | x30 :: tl3, m28 => M59_L3 F k23 tl3 (mput m28 x30.Name true)
def M59_L2 (F : Nat) (k13 : (List ((List UInt8) × Bool)) → Option q9b) : List TType → (List ((List UInt8) × Bool)) → Option q9b
 | [], m18 => k13 m18
 | x20 :: tl2, m18 => M59_L2 F k13 tl2 (mput m18 x20.Name true)
def M59_L1 (F : Nat) (k3 : (List ((List UInt8) × q2d)) → Option q9b) : List q2d → (List ((List UInt8) × q2d)) → Option q9b
 | [], m8 => k3 m8
 | x10 :: tl1, m8 => M59_L1 F k3 tl1 (mput m8 x10.Name x10)
def M59 (F : Nat) (a1 : q1c) (a2 : Bool) : Option q9b :=
 jn (fun (m4 : List ((List UInt8) × q2d)) => jn (fun (m14 : List ((List UInt8) × Bool)) => jn (fun (m24 : List ((List UInt8) × Bool)) => some (q9b.mk a2 m4 m14 m24)) (fun k23 => M59_L3 F k23 a1.Funcs ([] : List ((List UInt8) × Bool)))) (fun k13 => M59_L2 F k13 a1.Types ([] : List ((List UInt8) × Bool)))) (fun k3 => M59_L1 F k3 a1.Ifaces ([] : List ((List UInt8) × q2d)))
def M79_L1 (F : Nat) (a1 : (List UInt8)) (k2 : Option Bool) : Nat → Int → Option Bool
  | 0, n4 => k2
  | tl1 + 1, n4 => (idx a1 n4).bind fun c6 => if (decide ((c6.toNat : Int) < 33)) = true then some false
 else (idx a1 n4).bind fun c9 => if (decide ((c9.toNat : Int) > 126)) = true then some false
 else (idx a1 n4).bind fun c12 => if ((c12.toNat : Int) == 35) = true then some false
 else M79_L1 F a1 k2 tl1 (n4 + 1)
def M79 (F : Nat) (a1 : (List UInt8)) : Option Bool :=
 jn (if (!(a1 == ([] : List UInt8))) = true then some (decide ((a1.length : Int) ≤ 100))
 else some false) (fun k2 => if (a1.length : Int) ≤ 9223372036854775807 then M79_L1 F a1 k2 (((a1.length : Int) : Int).toNat) 0 else none)
def M173 (F : Nat) (a1 : (List UInt8)) (a2 : (List UInt8)) (a3 : Bool) : Option Int :=
 (M79 F a1).bind fun y4 => jn (some 0) (fun k6 => if (!y4) = true then some 8
 else if (!a3) = true then if (Op.bytesLess a1 a2 || a1 == a2) = true then some 10
 else k6
 else k6)
def M127_L2 (F : Nat) (k18 : Option Int) : List (List UInt8) → Int → (List UInt8) → Option Int
  | [], n22, s21 => k18
  | x24 :: tl2, n22, s21 => (M173 F x24 s21 (n22 == 0)).bind fun y26 => if (y26 != 0) = true then some y26
 else M127_L2 F k18 tl2 (n22 + 1) x24
def M127_L1 (F : Nat) (k3 : Option Int) : List q2d → Int → (List UInt8) → Option Int
  | [], n7, s6 => k3
  | x11 :: tl1, n7, s6 => jn (fun (s10 : List UInt8) => M127_L1 F k3 tl1 (n7 + 1) s10) (fun k9 => (M173 F x11.Name s6 (n7 == 0)).bind fun y13 => if (y13 != 0) = true then some y13
 else if (((x11.Methods.length : Nat) : Int) == 0) = true then some 13
 else if (decide (((x11.Methods.length : Nat) : Int) > 200)) = true then some 3
 else jn (k9 x11.Name) (fun k18 => M127_L2 F k18 x11.Methods 0 ([] : List UInt8)))
def M127 (F : Nat) (a1 : q9b) (a2 : (List q2d)) : Option Int :=
 jn (some 0) (fun k3 => M127_L1 F k3 a2 0 ([] : List UInt8))
def M128_L2 (F : Nat) (a1 : q9b) (k17 : Option Int) : List q8h → Int → (List UInt8) → Option Int
  | [], n21, s20 => k17
  | x25 :: tl2, n21, s20 => jn (fun (s24 : List UInt8) => M128_L2 F a1 k17 tl2 (n21 + 1) s24) (fun k23 => (M173 F x25.Name s20 (n21 == 0)).bind fun y27 => if (y27 != 0) = true then some y27
 else if (!a1.loose) = true then if (!((mget a1.funcs x25.Func).getD false)) = true then some 4
 else k23 x25.Name
 else k23 x25.Name)
def M128_L1 (F : Nat) (a1 : q9b) (k3 : Option Int) : List TType → Int → (List UInt8) → Option Int
  | [], n7, s6 => k3
  | x11 :: tl1, n7, s6 => jn (fun (s10 : List UInt8) => M128_L1 F a1 k3 tl1 (n7 + 1) s10) (fun k9 => (M173 F x11.Name s6 (n7 == 0)).bind fun y13 => if (y13 != 0) = true then some y13
 else if (decide (((x11.Methods.length : Nat) : Int) > 200)) = true then some 3
 else jn (k9 x11.Name) (fun k17 => M128_L2 F a1 k17 x11.Methods 0 ([] : List UInt8)))
def M128 (F : Nat) (a1 : q9b) (a2 : (List TType)) : Option Int :=
 jn (some 0) (fun k3 => M128_L1 F a1 k3 a2 0 ([] : List UInt8))
def M86_L1 (F : Nat) (a2 : (List UInt8)) (k3 : Option Int) : List (List UInt8) → Int → Option Int
  | [], n5 => k3
  | x7 :: tl1, n5 => if (a2 == x7) = true then some n5
 else M86_L1 F a2 k3 tl1 (n5 + 1)
def M86 (F : Nat) (a1 : (List (List UInt8))) (a2 : (List UInt8)) : Option Int :=
 jn (some (-1)) (fun k3 => M86_L1 F a2 k3 a1 0)
def M23 (F : Nat) (a1 : (List (List UInt8))) (a2 : (List UInt8)) : Option Bool :=
 (M86 F a1 a2).bind fun y3 => some (decide (y3 ≥ 0))
def M174 (F : Nat) (a1 : q9b) (a2 : TCall) : Option Int :=
 jn (if (!(a2.Feature == ([] : List UInt8))) = true then (M79 F a2.Feature).bind fun y16 => if (!y16) = true then some 8
 else some 0
 else some 0) (fun k3 => if (a2.Kind == 1) = true then if (!a1.loose) = true then if (!((mget a1.funcs a2.Target).getD false)) = true then some 4
 else if (!(a2.Method == ([] : List UInt8))) = true then some 2
 else k3
 else if (!(a2.Method == ([] : List UInt8))) = true then some 2
 else k3
 else if (a2.Kind == 2) = true then if (!a1.loose) = true then if (!((mget a1.ifaces a2.Target).isSome)) = true then some 4
 else (M23 F ((mget a1.ifaces a2.Target).getD (q2d.mk ([] : List UInt8) ([] : (List (List UInt8))))).Methods a2.Method).bind fun y12 => if (!y12) = true then some 4
 else k3
 else k3
 else some 7)
def M130_L1 (F : Nat) (a1 : q9b) (a2 : (List (List UInt8))) (a3 : (List ((List UInt8) × Bool))) (k4 : Option Int) : List (List UInt8) → Int → Option Int
  | [], n6 => k4
  | x8 :: tl1, n6 => jn (M130_L1 F a1 a2 a3 k4 tl1 (n6 + 1)) (fun k10 => if (!a1.loose) = true then jn (k10) (fun k12 => if (!((mget a3 x8).getD false)) = true then some 4
 else if (decide (n6 > 0)) = true then (idx a2 (w64 (n6 - 1))).bind fun x15 => if (Op.bytesLess x8 x15 || x8 == x15) = true then some 10
 else k12
 else k12)
 else if (decide (n6 > 0)) = true then (idx a2 (w64 (n6 - 1))).bind fun x19 => if (Op.bytesLess x8 x19 || x8 == x19) = true then some 10
 else k10
 else k10)
def M130 (F : Nat) (a1 : q9b) (a2 : (List (List UInt8))) (a3 : (List ((List UInt8) × Bool))) : Option Int :=
 jn (some 0) (fun k4 => M130_L1 F a1 a2 a3 k4 a2 0)
def M129_L2 (F : Nat) (a1 : q9b) (k20 : Option Int) : List TCall → Option Int
  | [] => k20
  | x24 :: tl2 => (M174 F a1 x24).bind fun y26 => if (y26 != 0) = true then some y26
 else M129_L2 F a1 k20 tl2
def M129_L1 (F : Nat) (a1 : q9b) (k3 : Option Int) : List TFunc → Int → (List UInt8) → Option Int
  | [], n7, s6 => k3
  | x11 :: tl1, n7, s6 => jn (fun (s10 : List UInt8) => M129_L1 F a1 k3 tl1 (n7 + 1) s10) (fun k9 => (M173 F x11.Name s6 (n7 == 0)).bind fun y13 => if (y13 != 0) = true then some y13
 else (M79 F x11.Component).bind fun y16 => if (!y16) = true then some 8
 else if (decide (((x11.Calls.length : Nat) : Int) > 200)) = true then some 3
 else jn ((M130 F a1 x11.Makes a1.types).bind fun y30 => if (y30 != 0) = true then some y30
 else k9 x11.Name) (fun k20 => M129_L2 F a1 k20 x11.Calls))
def M129 (F : Nat) (a1 : q9b) (a2 : (List TFunc)) : Option Int :=
 jn (some 0) (fun k3 => M129_L1 F a1 k3 a2 0 ([] : List UInt8))
def M60 (F : Nat) (a1 : q9b) (a2 : q1c) : Option Int :=
 if (decide (((a2.Ifaces.length : Nat) : Int) > 200)) = true then some 3
 else if (decide (((a2.Types.length : Nat) : Int) > 500)) = true then some 3
 else if (decide (((a2.Funcs.length : Nat) : Int) > 3000)) = true then some 3
 else (M127 F a1 a2.Ifaces).bind fun y6 => if (y6 != 0) = true then some y6
 else (M128 F a1 a2.Types).bind fun y9 => if (y9 != 0) = true then some y9
 else (M129 F a1 a2.Funcs).bind fun y12 => if (y12 != 0) = true then some y12
 else (M130 F a1 a2.Entries a1.funcs).bind fun y15 => some y15
def M17 (F : Nat) (a1 : q1c) : Option Int :=
 (M59 F a1 false).bind fun y2 => (M60 F y2 a1).bind fun y4 => some y4
def M143_L1 (F : Nat) (k3 : Option Int) : List (List UInt8) → Int → (List UInt8) → Option Int
  | [], n7, s6 => k3
  | x9 :: tl1, n7, s6 => (M173 F x9 s6 (n7 == 0)).bind fun y11 => if (y11 != 0) = true then some y11
 else M143_L1 F k3 tl1 (n7 + 1) x9
def M143 (F : Nat) (a1 : (List (List UInt8))) : Option Int :=
 if (decide (((a1.length : Nat) : Int) > 30)) = true then some 3
 else jn (some 0) (fun k3 => M143_L1 F k3 a1 0 ([] : List UInt8))
def M158 (F : Nat) (a1 : (List UInt8)) : Option Bool :=
 some (!(a1 == a1))
def M100 (F : Nat) (a1 : (List UInt8)) (a2 : (List UInt8)) : Option Int :=
 (M158 F a1).bind fun y3 => (M158 F a2).bind fun y5 => if y3 = true then if y5 = true then some 0
 else some (-1)
 else if y5 = true then some 1
 else if (Op.bytesLess a1 a2) = true then some (-1)
 else if (!(Op.bytesLess a1 a2 || a1 == a2)) = true then some 1
 else some 0
def M208 (F : Nat) (a1 : q8h) (a2 : (List UInt8)) : Option Int :=
 (M100 F a1.Name a2).bind fun y3 => some y3
def M207_L1 (F : Nat) (a1 : (List q8h)) (a2 : (List UInt8)) (k3 : Int → Option (Int × Bool)) : Nat → Int → Int → Option (Int × Bool)
 | 0, _, _ => none
 | n + 1, n7, n8 => if (decide (n7 < n8)) = true then (idx a1 (w64 (Int.fdiv (IntKind.wrap .u64 (w64 (n7 + n8))) (2 ^ (min (Int.toNat 1) (IntKind.bits .u64)))))).bind fun x10 => (M208 F x10 a2).bind fun y12 => jn (fun (n15 : Int) (n16 : Int) => M207_L1 F a1 a2 k3 n n15 n16) (fun k14 => if (decide (y12 < 0)) = true then k14 (w64 ((w64 (Int.fdiv (IntKind.wrap .u64 (w64 (n7 + n8))) (2 ^ (min (Int.toNat 1) (IntKind.bits .u64))))) + 1)) n8
 else k14 n7 (w64 (Int.fdiv (IntKind.wrap .u64 (w64 (n7 + n8))) (2 ^ (min (Int.toNat 1) (IntKind.bits .u64))))))
 else k3 n7
def M207 (F : Nat) (a1 : (List q8h)) (a2 : (List UInt8)) : Option (Int × Bool) :=
 jn (fun (n4 : Int) => if (decide (n4 < ((a1.length : Nat) : Int))) = true then (idx a1 n4).bind fun x19 => (M208 F x19 a2).bind fun y21 => some (n4, (y21 == 0))
 else some (n4, false)) (fun k3 => M207_L1 F a1 a2 k3 F 0 ((a1.length : Nat) : Int))
def M169 (F : Nat) (a1 : TType) (a2 : (List UInt8)) : Option ((List UInt8) × Bool) :=
 (M207 F a1.Methods a2).bind fun y3 => if (!(y3.2)) = true then some (([] : List UInt8), false)
 else (idx a1.Methods (y3.1)).bind fun x6 => some (x6.Func, true)
def M117_L1 (F : Nat) (a1 : TType) (k3 : Option Bool) : List (List UInt8) → Option Bool
  | [] => k3
  | x7 :: tl1 => (M169 F a1 x7).bind fun y9 => if (!(y9.2)) = true then some false
 else M117_L1 F a1 k3 tl1
def M117 (F : Nat) (a1 : TType) (a2 : q2d) : Option Bool :=
 jn (some true) (fun k3 => M117_L1 F a1 k3 a2.Methods)
def M41_L5 (F : Nat) (k52 : (List ((List UInt8) × Bool)) → Option (Option q7a)) : List (List UInt8) → (List ((List UInt8) × Bool)) → Option (Option q7a)
 | [], m57 => k52 m57
 | x59 :: tl5, m57 => M41_L5 F k52 tl5 (mput m57 x59 true)
def M41_L4 (F : Nat) (x33 : q2d) (k35 : (List ((List UInt8) × (List Int))) → Option (Option q7a)) : List TType → Int → (List ((List UInt8) × (List Int))) → Option (Option q7a)
  | [], n39, m40 => k35 m40
  | x42 :: tl4, n39, m40 => (M117 F x42 x33).bind fun y44 => jn (fun (m47 : List ((List UInt8) × (List Int))) => M41_L4 F x33 k35 tl4 (n39 + 1) m47) (fun k46 => if y44 = true then if (((mget m40 x33.Name).getD []) ++ ([n39] : List Int)).length * 8 ≤ 140737488355328 then k46 (mput m40 x33.Name (((mget m40 x33.Name).getD []) ++ ([n39] : List Int))) else none
 else k46 m40)
def M41_L3 (F : Nat) (a1 : q1c) (k24 : (List ((List UInt8) × (List Int))) → Option (Option q7a)) : List q2d → (List ((List UInt8) × (List Int))) → Option (Option q7a)
 | [], m29 => k24 m29
 | x33 :: tl3, m29 => jn (fun (m32 : List ((List UInt8) × (List Int))) => M41_L3 F a1 k24 tl3 m32) (fun k31 => jn (fun (m36 : List ((List UInt8) × (List Int))) => k31 m36) (fun k35 => M41_L4 F x33 k35 a1.Types 0 m29))
def M41_L2 (F : Nat) (k14 : (List ((List UInt8) × Int)) → Option (Option q7a)) : List TType → Int → (List ((List UInt8) × Int)) → Option (Option q7a)
 | [], n18, m19 => k14 m19
 | x21 :: tl2, n18, m19 => M41_L2 F k14 tl2 (n18 + 1) (mput m19 x21.Name n18)
def M41_L1 (F : Nat) (k4 : (List ((List UInt8) × Int)) → Option (Option q7a)) : List TFunc → Int → (List ((List UInt8) × Int)) → Option (Option q7a)
 | [], n8, m9 => k4 m9
 | x11 :: tl1, n8, m9 => M41_L1 F k4 tl1 (n8 + 1) (mput m9 x11.Name n8)
def M41 (F : Nat) (a1 : q1c) (a2 : Int) (a3 : (List (List UInt8))) : Option (Option q7a) :=
 jn (fun (m5 : List ((List UInt8) × Int)) => jn (fun (m15 : List ((List UInt8) × Int)) => jn (fun (m25 : List ((List UInt8) × (List Int))) => jn (fun (m53 : List ((List UInt8) × Bool)) => some (some (q7a.mk a1 m5 m15 m25 m53 (a2 == 2)))) (fun k52 => M41_L5 F k52 a3 (mput ([] : List ((List UInt8) × Bool)) ([] : List UInt8) true))) (fun k24 => M41_L3 F a1 k24 a1.Ifaces ([] : List ((List UInt8) × (List Int))))) (fun k14 => M41_L2 F k14 a1.Types 0 ([] : List ((List UInt8) × Int)))) (fun k4 => M41_L1 F k4 a1.Funcs 0 ([] : List ((List UInt8) × Int)))
def M78 (F : Nat) (a1 : q1c) (a2 : Int) (a3 : (List (List UInt8))) : Option ((Option q7a) × Int) :=
 (M17 F a1).bind fun y4 => if (y4 != 0) = true then some ((none : Option q7a), y4)
 else (M143 F a3).bind fun y7 => if (y7 != 0) = true then some ((none : Option q7a), y7)
 else if (a2 != 1) = true then if (a2 != 2) = true then some ((none : Option q7a), 7)
 else (M41 F a1 a2 a3).bind fun y12 => (y12).bind fun x14 => some ((some x14), 0)
 else (M41 F a1 a2 a3).bind fun y16 => (y16).bind fun x18 => some ((some x18), 0)
def M151 (F : Nat) (a1 : q7a) (a2 : TCall) (a3 : Int) : Option Int :=
 (idx a1.g.Types a3).bind fun x4 => (M169 F x4 a2.Method).bind fun y6 => some ((mget a1.funcs (y6.1)).getD 0)
def M152 (F : Nat) (a1 : List Int) : Option (List Int) := if a1.length < 4611686018427387904 then some (isort a1) else none
def M153 (F : Nat) (a1 : List Int) : Option (List Int) := if a1.length ≤ 140737488355328 then some (cpt a1) else none
def M92_L1 (F : Nat) (a1 : q7a) (a2 : TCall) (k4 : (List Int) → Option (List Int)) : List Int → (List Int) → Option (List Int)
 | [], l9 => k4 l9
 | x11 :: tl1, l9 => (M151 F a1 a2 x11).bind fun y13 => if (l9 ++ ([y13] : List Int)).length * 8 ≤ 140737488355328 then M92_L1 F a1 a2 k4 tl1 (l9 ++ ([y13] : List Int)) else none
def M92 (F : Nat) (a1 : q7a) (a2 : TCall) : Option (List Int) :=
 if (a2.Kind == 1) = true then some ([((mget a1.funcs a2.Target).getD 0)] : List Int)
 else jn (fun (l5 : List Int) => (M152 F l5).bind fun y17 => if y17.length = l5.length then (M153 F y17).bind fun y20 => some y20 else none) (fun k4 => M92_L1 F a1 a2 k4 ((mget a1.fitting a2.Target).getD ([] : (List Int))) ([] : List Int))
def M70 (F : Nat) (a1 : List (List UInt8)) : Option (List (List UInt8)) := if a1.length < 4611686018427387904 then some (tsort a1) else none
def M118_L1 (F : Nat) (k2 : Option Int) : List Int → Option Int
  | [] => k2
  | x6 :: tl1 => if (x6 != 0) = true then some x6
 else M118_L1 F k2 tl1
def M118 (F : Nat) (a1 : (List Int)) : Option Int :=
 jn (some 0) (fun k2 => M118_L1 F k2 a1)
def M145 (F : Nat) (a1 : q6a) (a2 : q6a) : Option Int :=
 (M100 F a1.Target a2.Target).bind fun y3 => (M100 F a1.Method a2.Method).bind fun y5 => (M118 F ([y3, y5] : List Int)).bind fun y7 => some y7
def M144 (F : Nat) (a1 : List q6a) : Option (List q6a) := srtM (fun x3 y4 => M145 F x3 y4) a1
def M80_L5 (F : Nat) (x91 : TFunc) (l96 : List (List UInt8)) : List (q6a × Bool) → (List q6a) → Option q5a
 | [], l105 => (M70 F l96).bind fun y109 => if y109.length = l96.length then (M144 F l105).bind fun y112 => if y112.length = l105.length then some (q5a.mk x91.Name y109 y112) else none else none
 | e106 :: l107, l105 => if (l105 ++ ([e106.1] : List q6a)).length * 32 ≤ 140737488355328 then M80_L5 F x91 l96 l107 (l105 ++ ([e106.1] : List q6a)) else none
def M80_L4 (F : Nat) (a1 : q7a) (m7 : List (q6a × Bool)) (x91 : TFunc) : List (Int × Bool) → (List (List UInt8)) → Option q5a
 | [], l96 => M80_L5 F x91 l96 m7 ([] : List q6a)
 | e97 :: l98, l96 => (idx a1.g.Funcs e97.1).bind fun x99 => if (l96 ++ ([x99.Name] : List (List UInt8))).length * 16 ≤ 140737488355328 then M80_L4 F a1 m7 x91 l98 (l96 ++ ([x99.Name] : List (List UInt8))) else none
def M80_L3 (F : Nat) (a1 : q7a) (x3 : TFunc) (x41 : TCall) (k49 : (List (Int × Bool)) → (List (q6a × Bool)) → (List Int) → Option q5a) : List Int → (List (Int × Bool)) → (List (q6a × Bool)) → (List Int) → Option q5a
  | [], m58, m59, l60 => k49 m58 m59 l60
  | x62 :: tl3, m58, m59, l60 => jn (fun (m65 : List (Int × Bool)) (m66 : List (q6a × Bool)) (l67 : List Int) => M80_L3 F a1 x3 x41 k49 tl3 m65 m66 l67) (fun k64 => (idx a1.g.Funcs x62).bind fun x68 => if (!(x68.Component == x3.Component)) = true then jn (fun (m72 : List (Int × Bool)) (m73 : List (q6a × Bool)) (l74 : List Int) => k64 m72 m73 l74) (fun k71 => if (x41.Kind == 1) = true then k71 m58 (mput m59 (q6a.mk x41.Target ([] : List UInt8)) true) l60
 else (idx a1.g.Funcs x62).bind fun x76 => if (x76.Component == x3.Component) = true then if (!((mget m58 x62).getD false)) = true then if (l60 ++ ([x62] : List Int)).length * 8 ≤ 140737488355328 then k71 (mput m58 x62 true) m59 (l60 ++ ([x62] : List Int)) else none
 else k71 m58 m59 l60
 else k71 m58 m59 l60)
 else (idx a1.g.Funcs x62).bind fun x81 => if (x81.Component == x3.Component) = true then jn (fun (m85 : List (Int × Bool)) (l86 : List Int) => k64 m85 m59 l86) (fun k84 => if (!((mget m58 x62).getD false)) = true then if (l60 ++ ([x62] : List Int)).length * 8 ≤ 140737488355328 then k84 (mput m58 x62 true) (l60 ++ ([x62] : List Int)) else none
 else k84 m58 l60)
 else k64 m58 m59 l60)
def M80_L2 (F : Nat) (a1 : q7a) (x3 : TFunc) (k24 : (List (Int × Bool)) → (List (q6a × Bool)) → (List Int) → Option q5a) : List TCall → (List (Int × Bool)) → (List (q6a × Bool)) → (List Int) → Option q5a
  | [], m33, m34, l35 => k24 m33 m34 l35
  | x41 :: tl2, m33, m34, l35 => jn (fun (m38 : List (Int × Bool)) (m39 : List (q6a × Bool)) (l40 : List Int) => M80_L2 F a1 x3 k24 tl2 m38 m39 l40) (fun k37 => if (!((mget a1.on x41.Feature).getD false)) = true then k37 m33 m34 l35
 else jn (fun (m45 : List (q6a × Bool)) => (M92 F a1 x41).bind fun y47 => jn (fun (m50 : List (Int × Bool)) (m51 : List (q6a × Bool)) (l52 : List Int) => k37 m50 m51 l52) (fun k49 => M80_L3 F a1 x3 x41 k49 y47 m33 m45 l35)) (fun k44 => if (x41.Kind == 2) = true then k44 (mput m34 (q6a.mk x41.Target x41.Method) true)
 else k44 m34))
def M80_L1 (F : Nat) (a1 : q7a) (x3 : TFunc) (k5 : (List (Int × Bool)) → (List (q6a × Bool)) → Option q5a) : Nat → (List (Int × Bool)) → (List (q6a × Bool)) → (List Int) → Option q5a
 | 0, _, _, _ => none
 | n + 1, m11, m12, l13 => if (decide (((l13.length : Nat) : Int) > 0)) = true then jn (fun (m16 : List (Int × Bool)) (m17 : List (q6a × Bool)) (l18 : List Int) => M80_L1 F a1 x3 k5 n m16 m17 l18) (fun k15 => (idx l13 0).bind fun x19 => if 1 ≤ l13.length then (idx a1.g.Funcs x19).bind fun x22 => jn (fun (m25 : List (Int × Bool)) (m26 : List (q6a × Bool)) (l27 : List Int) => k15 m25 m26 l27) (fun k24 => M80_L2 F a1 x3 k24 x22.Calls m11 m12 (l13.drop 1)) else none)
 else k5 m11 m12
def M80 (F : Nat) (a1 : q7a) (a2 : Int) : Option q5a :=
 (idx a1.g.Funcs a2).bind fun x3 => jn (fun (m6 : List (Int × Bool)) (m7 : List (q6a × Bool)) => (idx a1.g.Funcs a2).bind fun x91 => M80_L4 F a1 m7 x91 m6 ([] : List (List UInt8))) (fun k5 => M80_L1 F a1 x3 k5 F (mput ([] : List (Int × Bool)) a2 true) ([] : List (q6a × Bool)) ([a2] : List Int))
def M19_L1 (F : Nat) (a2 : (List UInt8)) (x12 : q7a) (k10 : (List q5a) → Option ((List q5a) × Int)) : List TFunc → Int → (List q5a) → Option ((List q5a) × Int)
  | [], n16, l17 => k10 l17
  | x19 :: tl1, n16, l17 => jn (fun (l22 : List q5a) => M19_L1 F a2 x12 k10 tl1 (n16 + 1) l22) (fun k21 => if (x19.Component == a2) = true then (M80 F x12 n16).bind fun y24 => if (l17 ++ ([y24] : List q5a)).length * 64 ≤ 140737488355328 then k21 (l17 ++ ([y24] : List q5a)) else none
 else k21 l17)
def M19 (F : Nat) (a1 : q1c) (a2 : (List UInt8)) (a3 : (List (List UInt8))) : Option ((List q5a) × Int) :=
 (M78 F a1 1 a3).bind fun y4 => if ((y4.2) != 0) = true then some (([] : List q5a), (y4.2))
 else (M79 F a2).bind fun y7 => if (!y7) = true then some (([] : List q5a), 8)
 else jn (fun (l11 : List q5a) => some (l11, 0)) (fun k10 => ((y4.1)).bind fun x12 => M19_L1 F a2 x12 k10 a1.Funcs 0 ([] : List q5a))
def M72_L4 (F : Nat) (k35 : (List ((List UInt8) × Bool)) → Option q6c) : List TFunc → (List ((List UInt8) × Bool)) → Option q6c
 | [], m40 => k35 m40
 | x42 :: tl4, m40 => M72_L4 F k35 tl4 (mput m40 x42.Name true)
def M72_L3 (F : Nat) (k25 : (List ((List UInt8) × Bool)) → Option q6c) : List TType → (List ((List UInt8) × Bool)) → Option q6c
 | [], m30 => k25 m30
 | x32 :: tl3, m30 => M72_L3 F k25 tl3 (mput m30 x32.Name true)
def M72_L2 (F : Nat) (x11 : q2d) (k13 : (List ((List UInt8) × (List ((List UInt8) × Bool)))) → Option q6c) : List (List UInt8) → (List ((List UInt8) × (List ((List UInt8) × Bool)))) → Option q6c
 | [], m18 => k13 m18
 | x20 :: tl2, m18 => if (mget m18 x11.Name).isSome = true then M72_L2 F x11 k13 tl2 (mput m18 x11.Name (mput ((mget m18 x11.Name).getD []) x20 true)) else none
def M72_L1 (F : Nat) (k2 : (List ((List UInt8) × (List ((List UInt8) × Bool)))) → Option q6c) : List q2d → (List ((List UInt8) × (List ((List UInt8) × Bool)))) → Option q6c
 | [], m7 => k2 m7
 | x11 :: tl1, m7 => jn (fun (m10 : List ((List UInt8) × (List ((List UInt8) × Bool)))) => M72_L1 F k2 tl1 m10) (fun k9 => jn (fun (m14 : List ((List UInt8) × (List ((List UInt8) × Bool)))) => k9 m14) (fun k13 => M72_L2 F x11 k13 x11.Methods (mput m7 x11.Name ([] : List ((List UInt8) × Bool)))))
def M72 (F : Nat) (a1 : q1c) : Option q6c :=
 jn (fun (m3 : List ((List UInt8) × (List ((List UInt8) × Bool)))) => jn (fun (m26 : List ((List UInt8) × Bool)) => jn (fun (m36 : List ((List UInt8) × Bool)) => some (q6c.mk m3 m26 m36)) (fun k35 => M72_L4 F k35 a1.Funcs ([] : List ((List UInt8) × Bool)))) (fun k25 => M72_L3 F k25 a1.Types ([] : List ((List UInt8) × Bool)))) (fun k2 => M72_L1 F k2 a1.Ifaces ([] : List ((List UInt8) × (List ((List UInt8) × Bool)))))
def M82_L1 (F : Nat) (a1 : (List UInt8)) (k2 : Option Bool) : Nat → Int → Option Bool
  | 0, n4 => k2
  | tl1 + 1, n4 => (idx a1 n4).bind fun c6 => if (decide ((c6.toNat : Int) < 33)) = true then some false
 else (idx a1 n4).bind fun c9 => if (decide ((c9.toNat : Int) > 126)) = true then some false
 else (idx a1 n4).bind fun c12 => if ((c12.toNat : Int) == 35) = true then some false
 else M82_L1 F a1 k2 tl1 (n4 + 1)
def M82 (F : Nat) (a1 : (List UInt8)) : Option Bool :=
 jn (if (decide ((a1.length : Int) ≥ 1)) = true then some (decide ((a1.length : Int) ≤ 100))
 else some false) (fun k2 => if (a1.length : Int) ≤ 9223372036854775807 then M82_L1 F a1 k2 (((a1.length : Int) : Int).toNat) 0 else none)
def M139 (F : Nat) (a1 : (List (List UInt8))) (a2 : Int) : Option Int :=
 if (decide (a2 > 0)) = true then (idx a1 a2).bind fun x4 => (idx a1 (w64 (a2 - 1))).bind fun x6 => if (Op.bytesLess x4 x6 || x4 == x6) = true then some 10
 else some 0
 else some 0
def M136_L2 (F : Nat) (x10 : q2d) (k18 : Option Int) : List (List UInt8) → Int → Option Int
  | [], n20 => k18
  | x22 :: tl2, n20 => (M82 F x22).bind fun y24 => if (!y24) = true then some 8
 else (M139 F x10.Methods n20).bind fun y27 => if (y27 != 0) = true then some y27
 else M136_L2 F x10 k18 tl2 (n20 + 1)
def M136_L1 (F : Nat) (k2 : Option Int) : List q2d → (List UInt8) → Option Int
  | [], s5 => k2
  | x10 :: tl1, s5 => jn (fun (s9 : List UInt8) => M136_L1 F k2 tl1 s9) (fun k8 => (M82 F x10.Name).bind fun y12 => if (!y12) = true then some 8
 else if (Op.bytesLess x10.Name s5 || x10.Name == s5) = true then some 10
 else if (((x10.Methods.length : Nat) : Int) == 0) = true then some 13
 else if (decide (((x10.Methods.length : Nat) : Int) > 200)) = true then some 3
 else jn (k8 x10.Name) (fun k18 => M136_L2 F x10 k18 x10.Methods 0))
def M136 (F : Nat) (a1 : q0b) : Option Int :=
 jn (some 0) (fun k2 => M136_L1 F k2 a1.g.Ifaces ([] : List UInt8))
def M137_L2 (F : Nat) (a1 : q0b) (k17 : Option Int) : List q8h → (List UInt8) → Option Int
  | [], s20 => k17
  | x23 :: tl2, s20 => (M82 F x23.Name).bind fun y25 => jn (M137_L2 F a1 k17 tl2 x23.Name) (fun k27 => if (!y25) = true then some 8
 else if (Op.bytesLess x23.Name s20 || x23.Name == s20) = true then some 10
 else if (!a1.loose) = true then if (!((mget a1.n.funcs x23.Func).getD false)) = true then some 4
 else k27
 else k27)
def M137_L1 (F : Nat) (a1 : q0b) (k2 : Option Int) : List TType → (List UInt8) → Option Int
  | [], s5 => k2
  | x10 :: tl1, s5 => jn (fun (s9 : List UInt8) => M137_L1 F a1 k2 tl1 s9) (fun k8 => (M82 F x10.Name).bind fun y12 => if (!y12) = true then some 8
 else if (Op.bytesLess x10.Name s5 || x10.Name == s5) = true then some 10
 else if (decide (((x10.Methods.length : Nat) : Int) > 200)) = true then some 3
 else jn (k8 x10.Name) (fun k17 => M137_L2 F a1 k17 x10.Methods ([] : List UInt8)))
def M137 (F : Nat) (a1 : q0b) : Option Int :=
 jn (some 0) (fun k2 => M137_L1 F a1 k2 a1.g.Types ([] : List UInt8))
def M187 (F : Nat) (a1 : q0b) (a2 : TCall) : Option Int :=
 jn (if (!(a2.Feature == ([] : List UInt8))) = true then (M82 F a2.Feature).bind fun y15 => if (!y15) = true then some 8
 else some 0
 else some 0) (fun k3 => if (a2.Kind == 1) = true then if (!a1.loose) = true then if (!((mget a1.n.funcs a2.Target).getD false)) = true then some 4
 else if (!(a2.Method == ([] : List UInt8))) = true then some 2
 else k3
 else if (!(a2.Method == ([] : List UInt8))) = true then some 2
 else k3
 else if (a2.Kind == 2) = true then if ((mget a1.n.ifaces a2.Target).isSome) = true then if (!a1.loose) = true then if (!((mget ((mget a1.n.ifaces a2.Target).getD []) a2.Method).getD false)) = true then some 4
 else k3
 else k3
 else if (!a1.loose) = true then some 4
 else k3
 else some 7)
def M138_L3 (F : Nat) (a1 : q0b) (x10 : TFunc) (k30 : Option Int) : List (List UInt8) → Int → Option Int
  | [], n32 => k30
  | x35 :: tl3, n32 => jn (M138_L3 F a1 x10 k30 tl3 (n32 + 1)) (fun k34 => if (!a1.loose) = true then if (!((mget a1.n.types x35).getD false)) = true then some 4
 else (M139 F x10.Makes n32).bind fun y39 => if (y39 != 0) = true then some y39
 else k34
 else (M139 F x10.Makes n32).bind fun y42 => if (y42 != 0) = true then some y42
 else k34)
def M138_L2 (F : Nat) (a1 : q0b) (k20 : Option Int) : List TCall → Option Int
  | [] => k20
  | x24 :: tl2 => (M187 F a1 x24).bind fun y26 => if (y26 != 0) = true then some y26
 else M138_L2 F a1 k20 tl2
def M138_L1 (F : Nat) (a1 : q0b) (k2 : Option Int) : List TFunc → (List UInt8) → Option Int
  | [], s5 => k2
  | x10 :: tl1, s5 => jn (fun (s9 : List UInt8) => M138_L1 F a1 k2 tl1 s9) (fun k8 => (M82 F x10.Name).bind fun y12 => if (!y12) = true then some 8
 else if (Op.bytesLess x10.Name s5 || x10.Name == s5) = true then some 10
 else (M82 F x10.Component).bind fun y16 => if (!y16) = true then some 8
 else if (decide (((x10.Calls.length : Nat) : Int) > 200)) = true then some 3
 else jn (jn (k8 x10.Name) (fun k30 => M138_L3 F a1 x10 k30 x10.Makes 0)) (fun k20 => M138_L2 F a1 k20 x10.Calls))
def M138 (F : Nat) (a1 : q0b) : Option Int :=
 jn (some 0) (fun k2 => M138_L1 F a1 k2 a1.g.Funcs ([] : List UInt8))
def M73_L1 (F : Nat) (a1 : q0b) (k14 : Option Int) : List (List UInt8) → Int → Option Int
  | [], n16 => k14
  | x19 :: tl1, n16 => jn (M73_L1 F a1 k14 tl1 (n16 + 1)) (fun k18 => if (!a1.loose) = true then if (!((mget a1.n.funcs x19).getD false)) = true then some 4
 else (M139 F a1.g.Entries n16).bind fun y23 => if (y23 != 0) = true then some y23
 else k18
 else (M139 F a1.g.Entries n16).bind fun y26 => if (y26 != 0) = true then some y26
 else k18)
def M73 (F : Nat) (a1 : q0b) : Option Int :=
 if (decide (((a1.g.Ifaces.length : Nat) : Int) > 200)) = true then some 3
 else if (decide (((a1.g.Types.length : Nat) : Int) > 500)) = true then some 3
 else if (decide (((a1.g.Funcs.length : Nat) : Int) > 3000)) = true then some 3
 else (M136 F a1).bind fun y5 => if (y5 != 0) = true then some y5
 else (M137 F a1).bind fun y8 => if (y8 != 0) = true then some y8
 else (M138 F a1).bind fun y11 => if (y11 != 0) = true then some y11
 else jn (some 0) (fun k14 => M73_L1 F a1 k14 a1.g.Entries 0)
def M18 (F : Nat) (a1 : q1c) : Option Int :=
 (M72 F a1).bind fun y2 => (M73 F (q0b.mk a1 y2 false)).bind fun y4 => some y4
def M81_L1 (F : Nat) (a1 : (List (List UInt8))) (k3 : Option Int) : List (List UInt8) → Int → Option Int
  | [], n5 => k3
  | x7 :: tl1, n5 => (M82 F x7).bind fun y9 => if (!y9) = true then some 8
 else (M139 F a1 n5).bind fun y12 => if (y12 != 0) = true then some y12
 else M81_L1 F a1 k3 tl1 (n5 + 1)
def M81 (F : Nat) (a1 : (List (List UInt8))) : Option Int :=
 if (decide (((a1.length : Nat) : Int) > 30)) = true then some 3
 else jn (some 0) (fun k3 => M81_L1 F a1 k3 a1 0)
def M190_L1 (F : Nat) (a2 : (List UInt8)) (k3 : Option (q2d × Bool)) : List q2d → Option (q2d × Bool)
  | [] => k3
  | x7 :: tl1 => if (x7.Name == a2) = true then some (x7, true)
 else M190_L1 F a2 k3 tl1
def M190 (F : Nat) (a1 : q1c) (a2 : (List UInt8)) : Option (q2d × Bool) :=
 jn (some ((q2d.mk ([] : List UInt8) ([] : List (List UInt8))), false)) (fun k3 => M190_L1 F a2 k3 a1.Ifaces)
def M191_L1 (F : Nat) (a2 : (List UInt8)) (k3 : Option ((List UInt8) × Bool)) : List q8h → Option ((List UInt8) × Bool)
  | [] => k3
  | x7 :: tl1 => if (x7.Name == a2) = true then some (x7.Func, true)
 else M191_L1 F a2 k3 tl1
def M191 (F : Nat) (a1 : TType) (a2 : (List UInt8)) : Option ((List UInt8) × Bool) :=
 jn (some (([] : List UInt8), false)) (fun k3 => M191_L1 F a2 k3 a1.Methods)
def M192_L1 (F : Nat) (a1 : TType) (k3 : Option Bool) : List (List UInt8) → Option Bool
  | [] => k3
  | x7 :: tl1 => (M191 F a1 x7).bind fun y9 => if (!(y9.2)) = true then some false
 else M192_L1 F a1 k3 tl1
def M192 (F : Nat) (a1 : TType) (a2 : q2d) : Option Bool :=
 jn (some true) (fun k3 => M192_L1 F a1 k3 a2.Methods)
def M146_L1 (F : Nat) (a2 : TCall) (y4 : (q2d × Bool)) (k6 : (List q3a) → Option (List q3a)) : List TType → (List q3a) → Option (List q3a)
  | [], l11 => k6 l11
  | x15 :: tl1, l11 => jn (fun (l14 : List q3a) => M146_L1 F a2 y4 k6 tl1 l14) (fun k13 => (M191 F x15 a2.Method).bind fun y17 => if (y17.2) = true then (M192 F x15 (y4.1)).bind fun y20 => jn (fun (l23 : List q3a) => k13 l23) (fun k22 => if y20 = true then if (l11 ++ ([(q3a.mk x15.Name (y17.1))] : List q3a)).length * 32 ≤ 140737488355328 then k22 (l11 ++ ([(q3a.mk x15.Name (y17.1))] : List q3a)) else none
 else k22 l11)
 else k13 l11)
def M146 (F : Nat) (a1 : q1c) (a2 : TCall) : Option (List q3a) :=
 if (a2.Kind == 1) = true then some ([(q3a.mk ([] : List UInt8) a2.Target)] : List q3a)
 else (M190 F a1 a2.Target).bind fun y4 => jn (fun (l7 : List q3a) => some l7) (fun k6 => M146_L1 F a2 y4 k6 a1.Types ([] : List q3a))
def M83_L3 (F : Nat) (a1 : q1c) (m4 : List ((List UInt8) × Bool)) (x29 : TFunc) (k31 : (List (TCall × (List q3a))) → (List ((List UInt8) × (List q1a))) → Option q6b) : List TCall → Int → (List (TCall × (List q3a))) → (List ((List UInt8) × (List q1a))) → Option q6b
  | [], n37, m38, m39 => k31 m38 m39
  | x44 :: tl3, n37, m38, m39 => jn (fun (m42 : List (TCall × (List q3a))) (m43 : List ((List UInt8) × (List q1a))) => M83_L3 F a1 m4 x29 k31 tl3 (n37 + 1) m42 m43) (fun k41 => if (!((mget m4 x44.Feature).getD false)) = true then k41 m38 m39
 else jn (fun (l48 : List q3a) (m49 : List (TCall × (List q3a))) => if (((mget m39 x29.Name).getD []) ++ ([(q1a.mk (TSite.mk x29.Name n37) l48)] : List q1a)).length * 48 ≤ 140737488355328 then k41 m49 (mput m39 x29.Name (((mget m39 x29.Name).getD []) ++ ([(q1a.mk (TSite.mk x29.Name n37) l48)] : List q1a))) else none) (fun k47 => if (!((mget m38 (TCall.mk x44.Kind x44.Target x44.Method ([] : List UInt8))).isSome)) = true then (M146 F a1 x44).bind fun y51 => k47 y51 (mput m38 (TCall.mk x44.Kind x44.Target x44.Method ([] : List UInt8)) y51)
 else k47 ((mget m38 (TCall.mk x44.Kind x44.Target x44.Method ([] : List UInt8))).getD ([] : (List q3a))) m38))
def M83_L2 (F : Nat) (a1 : q1c) (m4 : List ((List UInt8) × Bool)) (k13 : (List ((List UInt8) × (List q1a))) → (List ((List UInt8) × TFunc)) → Option q6b) : List TFunc → (List (TCall × (List q3a))) → (List ((List UInt8) × (List q1a))) → (List ((List UInt8) × TFunc)) → Option q6b
 | [], m21, m22, m23 => k13 m22 m23
 | x29 :: tl2, m21, m22, m23 => jn (fun (m26 : List (TCall × (List q3a))) (m27 : List ((List UInt8) × (List q1a))) (m28 : List ((List UInt8) × TFunc)) => M83_L2 F a1 m4 k13 tl2 m26 m27 m28) (fun k25 => jn (fun (m32 : List (TCall × (List q3a))) (m33 : List ((List UInt8) × (List q1a))) => k25 m32 m33 (mput m23 x29.Name x29)) (fun k31 => M83_L3 F a1 m4 x29 k31 x29.Calls 0 m21 m22))
def M83_L1 (F : Nat) (k3 : (List ((List UInt8) × Bool)) → Option q6b) : List (List UInt8) → (List ((List UInt8) × Bool)) → Option q6b
 | [], m8 => k3 m8
 | x10 :: tl1, m8 => M83_L1 F k3 tl1 (mput m8 x10 true)
def M83 (F : Nat) (a1 : q1c) (a2 : (List (List UInt8))) : Option q6b :=
 jn (fun (m4 : List ((List UInt8) × Bool)) => jn (fun (m14 : List ((List UInt8) × (List q1a))) (m15 : List ((List UInt8) × TFunc)) => some (q6b.mk a1 m14 m15)) (fun k13 => M83_L2 F a1 m4 k13 a1.Funcs ([] : List (TCall × (List q3a))) ([] : List ((List UInt8) × (List q1a))) ([] : List ((List UInt8) × TFunc)))) (fun k3 => M83_L1 F k3 a2 (mput ([] : List ((List UInt8) × Bool)) ([] : List UInt8) true))
def q7k (F : Nat) (k9 : (List (List UInt8)) → Option (List (List UInt8))) : Nat → (List (List UInt8)) → (List (List UInt8)) → (List (List UInt8)) → Option (List (List UInt8))
 | 0, _, _, _ => none
 | n + 1, l14, l15, l16 => if (decide (((l14.length : Nat) : Int) > 0)) = true then if (((l15.length : Nat) : Int) == 0) = true then (idx l14 0).bind fun x19 => if (l16 ++ ([x19] : List (List UInt8))).length * 16 ≤ 140737488355328 then if 1 ≤ l14.length then q7k F k9 n (l14.drop 1) l15 (l16 ++ ([x19] : List (List UInt8))) else none else none
 else (idx l14 0).bind fun x23 => (idx l15 0).bind fun x25 => jn (fun (l28 : List (List UInt8)) (l29 : List (List UInt8)) (l30 : List (List UInt8)) => q7k F k9 n l28 l29 l30) (fun k27 => if (Op.bytesLess x23 x25 || x23 == x25) = true then (idx l14 0).bind fun x32 => if (l16 ++ ([x32] : List (List UInt8))).length * 16 ≤ 140737488355328 then if 1 ≤ l14.length then k27 (l14.drop 1) l15 (l16 ++ ([x32] : List (List UInt8))) else none else none
 else (idx l15 0).bind fun x36 => if (l16 ++ ([x36] : List (List UInt8))).length * 16 ≤ 140737488355328 then if 1 ≤ l15.length then k27 l14 (l15.drop 1) (l16 ++ ([x36] : List (List UInt8))) else none else none)
 else if (decide (((l15.length : Nat) : Int) > 0)) = true then if (((l15.length : Nat) : Int) == 0) = true then (idx l14 0).bind fun x42 => if (l16 ++ ([x42] : List (List UInt8))).length * 16 ≤ 140737488355328 then if 1 ≤ l14.length then q7k F k9 n (l14.drop 1) l15 (l16 ++ ([x42] : List (List UInt8))) else none else none
 else (idx l15 0).bind fun x46 => if (l16 ++ ([x46] : List (List UInt8))).length * 16 ≤ 140737488355328 then if 1 ≤ l15.length then q7k F k9 n l14 (l15.drop 1) (l16 ++ ([x46] : List (List UInt8))) else none else none
 else k9 l16
def M161_B (R161 : (List (List UInt8)) → Option (List (List UInt8))) (F : Nat) (a1 : (List (List UInt8))) : Option (List (List UInt8)) :=
 if (decide (((a1.length : Nat) : Int) < 2)) = true then some a1
 else if 0 ≤ (w64 (Int.tdiv ((a1.length : Nat) : Int) 2)) ∧ (w64 (Int.tdiv ((a1.length : Nat) : Int) 2)).toNat ≤ a1.length then (R161 (a1.take (w64 (Int.tdiv ((a1.length : Nat) : Int) 2)).toNat)).bind fun y4 => if 0 ≤ (w64 (Int.tdiv ((a1.length : Nat) : Int) 2)) ∧ (w64 (Int.tdiv ((a1.length : Nat) : Int) 2)).toNat ≤ a1.length then (R161 (a1.drop (w64 (Int.tdiv ((a1.length : Nat) : Int) 2)).toNat)).bind fun y7 => jn (fun (l10 : List (List UInt8)) => some l10) (fun k9 => q7k F k9 F y4 y7 ([] : List (List UInt8))) else none else none
def M161 : Nat → (List (List UInt8)) → Option (List (List UInt8))
 | 0, _ => none
 | F + 1, a1 => M161_B (M161 F) F a1
def M105_L1 (F : Nat) : List ((List UInt8) × Bool) → (List (List UInt8)) → Option (List (List UInt8))
 | [], l4 => (M161 F l4).bind fun y9 => some y9
 | e6 :: l7, l4 => if (l4 ++ ([e6.1] : List (List UInt8))).length * 16 ≤ 140737488355328 then M105_L1 F l7 (l4 ++ ([e6.1] : List (List UInt8))) else none
def M105 (F : Nat) (a1 : (List ((List UInt8) × Bool))) : Option (List (List UInt8)) :=
 M105_L1 F a1 ([] : List (List UInt8))
def M84_L5 (F : Nat) (l83 : List q6a) (e84 : q6a × Bool) (k88 : Int → Option q5a) : Nat → Int → Option q5a
 | 0, _ => none
 | n + 1, n91 => if (decide (n91 > 0)) = true then (idx l83 (w64 (n91 - 1))).bind fun x93 => if (!(Op.bytesLess x93.Target e84.1.Target || x93.Target == e84.1.Target)) = true then M84_L5 F l83 e84 k88 n (w64 (n91 - 1))
 else (idx l83 (w64 (n91 - 1))).bind fun x96 => if (x96.Target == e84.1.Target) = true then (idx l83 (w64 (n91 - 1))).bind fun x99 => if (!(Op.bytesLess x99.Method e84.1.Method || x99.Method == e84.1.Method)) = true then M84_L5 F l83 e84 k88 n (w64 (n91 - 1))
 else k88 n91
 else k88 n91
 else k88 n91
def M84_L4 (F : Nat) (a2 : (List UInt8)) (y78 : (List (List UInt8))) : List (q6a × Bool) → (List q6a) → Option q5a
 | [], l83 => some (q5a.mk a2 y78 l83)
 | e84 :: l85, l83 => jn (fun (l87 : List q6a) => M84_L4 F a2 y78 l85 l87) (fun k86 => jn (fun (n89 : Int) => if 0 ≤ n89 ∧ n89.toNat ≤ l83.length then if (([] : List q6a) ++ (l83.take n89.toNat)).length * 32 ≤ 140737488355328 then if ((([] : List q6a) ++ (l83.take n89.toNat)) ++ ([e84.1] : List q6a)).length * 32 ≤ 140737488355328 then if 0 ≤ n89 ∧ n89.toNat ≤ l83.length then if (((([] : List q6a) ++ (l83.take n89.toNat)) ++ ([e84.1] : List q6a)) ++ (l83.drop n89.toNat)).length * 32 ≤ 140737488355328 then k86 (((([] : List q6a) ++ (l83.take n89.toNat)) ++ ([e84.1] : List q6a)) ++ (l83.drop n89.toNat)) else none else none else none else none else none) (fun k88 => if l83.length < F then M84_L5 F l83 e84 k88 F ((l83.length : Nat) : Int) else none))
def M84_L3 (F : Nat) (a1 : q6b) (a3 : (List UInt8)) (k48 : (List ((List UInt8) × Bool)) → (List (List UInt8)) → (List (q6a × Bool)) → Option q5a) : List q3a → (List ((List UInt8) × Bool)) → (List (List UInt8)) → (List (q6a × Bool)) → Option q5a
  | [], m57, l58, m59 => k48 m57 l58 m59
  | x65 :: tl3, m57, l58, m59 => jn (fun (m62 : List ((List UInt8) × Bool)) (l63 : List (List UInt8)) (m64 : List (q6a × Bool)) => M84_L3 F a1 a3 k48 tl3 m62 l63 m64) (fun k61 => if (!(((mget a1.funcs x65.to).getD (TFunc.mk ([] : List UInt8) ([] : List UInt8) ([] : (List TCall)) ([] : (List (List UInt8))))).Component == a3)) = true then jn (fun (m69 : List (q6a × Bool)) => k61 m57 l58 m69) (fun k68 => if (x65.typ == ([] : List UInt8)) = true then k68 (mput m59 (q6a.mk x65.to ([] : List UInt8)) true)
 else k68 m59)
 else jn (fun (m72 : List ((List UInt8) × Bool)) (l73 : List (List UInt8)) => k61 m72 l73 m59) (fun k71 => if (!((mget m57 x65.to).getD false)) = true then if (l58 ++ ([x65.to] : List (List UInt8))).length * 16 ≤ 140737488355328 then k71 (mput m57 x65.to true) (l58 ++ ([x65.to] : List (List UInt8))) else none
 else k71 m57 l58))
def M84_L2 (F : Nat) (a1 : q6b) (a3 : (List UInt8)) (n11 : Int) (k22 : (List ((List UInt8) × Bool)) → (List (List UInt8)) → (List (q6a × Bool)) → Option q5a) : List q1a → (List ((List UInt8) × Bool)) → (List (List UInt8)) → (List (q6a × Bool)) → Option q5a
  | [], m31, l32, m33 => k22 m31 l32 m33
  | x39 :: tl2, m31, l32, m33 => jn (fun (m36 : List ((List UInt8) × Bool)) (l37 : List (List UInt8)) (m38 : List (q6a × Bool)) => M84_L2 F a1 a3 n11 k22 tl2 m36 l37 m38) (fun k35 => (idx l32 n11).bind fun x41 => (idx ((mget a1.funcs x41).getD (TFunc.mk ([] : List UInt8) ([] : List UInt8) ([] : (List TCall)) ([] : (List (List UInt8))))).Calls x39.site.Call).bind fun x43 => jn (fun (m46 : List (q6a × Bool)) => jn (fun (m49 : List ((List UInt8) × Bool)) (l50 : List (List UInt8)) (m51 : List (q6a × Bool)) => k35 m49 l50 m51) (fun k48 => M84_L3 F a1 a3 k48 x39.aims m31 l32 m46)) (fun k45 => if (x43.Kind == 2) = true then k45 (mput m33 (q6a.mk x43.Target x43.Method) true)
 else k45 m33))
def M84_L1 (F : Nat) (a1 : q6b) (a3 : (List UInt8)) (k4 : (List ((List UInt8) × Bool)) → (List (q6a × Bool)) → Option q5a) : Nat → Int → (List ((List UInt8) × Bool)) → (List (List UInt8)) → (List (q6a × Bool)) → Option q5a
 | 0, _, _, _, _ => none
 | n + 1, n11, m12, l13, m14 => if (decide (n11 < ((l13.length : Nat) : Int))) = true then jn (fun (m17 : List ((List UInt8) × Bool)) (l18 : List (List UInt8)) (m19 : List (q6a × Bool)) => M84_L1 F a1 a3 k4 n (w64 (n11 + 1)) m17 l18 m19) (fun k16 => (idx l13 n11).bind fun x20 => jn (fun (m23 : List ((List UInt8) × Bool)) (l24 : List (List UInt8)) (m25 : List (q6a × Bool)) => k16 m23 l24 m25) (fun k22 => M84_L2 F a1 a3 n11 k22 ((mget a1.links x20).getD ([] : (List q1a))) m12 l13 m14))
 else k4 m12 m14
def M84 (F : Nat) (a1 : q6b) (a2 : (List UInt8)) (a3 : (List UInt8)) : Option q5a :=
 jn (fun (m5 : List ((List UInt8) × Bool)) (m6 : List (q6a × Bool)) => (M105 F m5).bind fun y78 => M84_L4 F a2 y78 m6 ([] : List q6a)) (fun k4 => M84_L1 F a1 a3 k4 F 0 (mput ([] : List ((List UInt8) × Bool)) a2 true) ([a2] : List (List UInt8)) ([] : List (q6a × Bool)))
def M20_L1 (F : Nat) (a2 : (List UInt8)) (y13 : q6b) (k15 : (List q5a) → Option ((List q5a) × Int)) : List TFunc → (List q5a) → Option ((List q5a) × Int)
  | [], l20 => k15 l20
  | x22 :: tl1, l20 => jn (fun (l25 : List q5a) => M20_L1 F a2 y13 k15 tl1 l25) (fun k24 => if (x22.Component == a2) = true then (M84 F y13 x22.Name a2).bind fun y27 => if (l20 ++ ([y27] : List q5a)).length * 64 ≤ 140737488355328 then k24 (l20 ++ ([y27] : List q5a)) else none
 else k24 l20)
def M20 (F : Nat) (a1 : q1c) (a2 : (List UInt8)) (a3 : (List (List UInt8))) : Option ((List q5a) × Int) :=
 (M18 F a1).bind fun y4 => if (y4 != 0) = true then some (([] : List q5a), y4)
 else (M81 F a3).bind fun y7 => if (y7 != 0) = true then some (([] : List q5a), y7)
 else (M82 F a2).bind fun y10 => if (!y10) = true then some (([] : List q5a), 8)
 else (M83 F a1 a3).bind fun y13 => jn (fun (l16 : List q5a) => some (l16, 0)) (fun k15 => M20_L1 F a2 y13 k15 a1.Funcs ([] : List q5a))
def M14 (F : Nat) : Option Bool := some true
def M194 (F : Nat) (a1 : q2d) (a2 : List UInt8) (a3 : List UInt8) : Option Bool :=
 if (a1.Name == a2) = true then (M23 F a1.Methods a3).bind fun y5 => some y5
 else some false
def M246_L1 (F : Nat) (a2 : List UInt8) (a3 : List UInt8) (k4 : Option Int) : List q2d → Int → Option Int
  | [], n6 => k4
  | x8 :: tl1, n6 => (M194 F x8 a2 a3).bind fun y10 => if y10 = true then some n6
 else M246_L1 F a2 a3 k4 tl1 (n6 + 1)
def M246 (F : Nat) (a1 : (List q2d)) (a2 : List UInt8) (a3 : List UInt8) : Option Int :=
 jn (some (-1)) (fun k4 => M246_L1 F a2 a3 k4 a1 0)
def M193 (F : Nat) (a1 : (List q2d)) (a2 : List UInt8) (a3 : List UInt8) : Option Bool :=
 (M246 F a1 a2 a3).bind fun y4 => some (decide (y4 ≥ 0))
def M147 (F : Nat) (a1 : q7a) (a2 : (List UInt8)) (a3 : (List UInt8)) : Option Bool :=
 (M193 F a1.g.Ifaces a2 a3).bind fun y4 => some y4
def M87_L2 (F : Nat) (a1 : q7a) (k13 : Option Int) : List q6a → Option Int
  | [] => k13
  | x19 :: tl2 => jn (fun (b18 : Bool) => M87_L2 F a1 k13 tl2 ) (fun k17 => if (x19.Method == ([] : List UInt8)) = true then if (!((mget a1.funcs x19.Target).isSome)) = true then some 4
 else if (!(x19.Method == ([] : List UInt8))) = true then (M147 F a1 x19.Target x19.Method).bind fun y24 => if (!y24) = true then some 4
 else k17 (!y24)
 else k17 false
 else if (!(x19.Method == ([] : List UInt8))) = true then (M147 F a1 x19.Target x19.Method).bind fun y28 => if (!y28) = true then some 4
 else k17 (!y28)
 else k17 false)
def M87_L1 (F : Nat) (a1 : q7a) (k5 : Option Int) : List (List UInt8) → Option Int
  | [] => k5
  | x9 :: tl1 => if (!((mget a1.funcs x9).isSome)) = true then some 4
 else M87_L1 F a1 k5 tl1
def M87 (F : Nat) (a1 : q7a) (a2 : q5a) (a3 : (List ((List UInt8) × q5a))) : Option Int :=
 if (([a2.Func] : List (List UInt8)) ++ a2.Within).length * 16 ≤ 140737488355328 then jn (jn (if ((mget a3 a2.Func).isSome) = true then some 5
 else some 0) (fun k13 => M87_L2 F a1 k13 a2.Outer)) (fun k5 => M87_L1 F a1 k5 (([a2.Func] : List (List UInt8)) ++ a2.Within)) else none
def M88_L1 (F : Nat) (a1 : q7a) (k9 : (List Int) → Option (List Int)) : List TCall → (List Int) → Option (List Int)
  | [], l14 => k9 l14
  | x16 :: tl1, l14 => jn (fun (l19 : List Int) => M88_L1 F a1 k9 tl1 l19) (fun k18 => if ((mget a1.on x16.Feature).getD false) = true then (M92 F a1 x16).bind fun y21 => if (l14 ++ y21).length * 8 ≤ 140737488355328 then k18 (l14 ++ y21) else none
 else k18 l14)
def M88_L3 (F : Nat) (a1 : q7a) (k36 : (List Int) → Option (List Int)) : List q6a → (List Int) → Option (List Int)
  | [], l41 => k36 l41
  | x43 :: tl3, l41 => jn (fun (n46 : Int) => (M92 F a1 (TCall.mk n46 x43.Target x43.Method ([] : List UInt8))).bind fun y48 => if (l41 ++ y48).length * 8 ≤ 140737488355328 then M88_L3 F a1 k36 tl3 (l41 ++ y48) else none) (fun k45 => if (!(x43.Method == ([] : List UInt8))) = true then k45 2
 else k45 1)
def M88_L2 (F : Nat) (a1 : q7a) (k25 : (List Int) → Option (List Int)) : List (List UInt8) → (List Int) → Option (List Int)
 | [], l30 => k25 l30
 | x32 :: tl2, l30 => if (l30 ++ ([((mget a1.funcs x32).getD 0)] : List Int)).length * 8 ≤ 140737488355328 then M88_L2 F a1 k25 tl2 (l30 ++ ([((mget a1.funcs x32).getD 0)] : List Int)) else none
def M88 (F : Nat) (a1 : q7a) (a2 : Int) (a3 : (List ((List UInt8) × q5a))) : Option (List Int) :=
 (idx a1.g.Funcs a2).bind fun x4 => if (!((mget a3 x4.Name).isSome)) = true then (idx a1.g.Funcs a2).bind fun x7 => jn (fun (l10 : List Int) => some l10) (fun k9 => M88_L1 F a1 k9 x7.Calls ([] : List Int))
 else jn (fun (l26 : List Int) => jn (fun (l37 : List Int) => some l37) (fun k36 => M88_L3 F a1 k36 (((mget a3 x4.Name).getD (q5a.mk ([] : List UInt8) ([] : (List (List UInt8))) ([] : (List q6a)))).Outer) l26)) (fun k25 => M88_L2 F a1 k25 (((mget a3 x4.Name).getD (q5a.mk ([] : List UInt8) ([] : (List (List UInt8))) ([] : (List q6a)))).Within) ([] : List Int))
def M24_L5 (F : Nat) (a1 : q1c) (k73 : (List (List UInt8)) → Option ((List (List UInt8)) × Int)) : List Bool → Int → (List (List UInt8)) → Option ((List (List UInt8)) × Int)
  | [], n77, l78 => k73 l78
  | x80 :: tl5, n77, l78 => jn (fun (l83 : List (List UInt8)) => M24_L5 F a1 k73 tl5 (n77 + 1) l83) (fun k82 => if x80 = true then (idx a1.Funcs n77).bind fun x85 => if (l78 ++ ([x85.Name] : List (List UInt8))).length * 16 ≤ 140737488355328 then k82 (l78 ++ ([x85.Name] : List (List UInt8))) else none
 else k82 l78)
def M24_L4 (F : Nat) (l8 : List q2d) (l9 : List TType) (l10 : List TFunc) (l11 : List (List UInt8)) (m12 : List ((List UInt8) × Int)) (m13 : List ((List UInt8) × Int)) (m14 : List ((List UInt8) × (List Int))) (m15 : List ((List UInt8) × Bool)) (b16 : Bool) (m17 : List ((List UInt8) × q5a)) (k55 : (List Bool) → Option ((List (List UInt8)) × Int)) : Nat → (List Bool) → (List Int) → Option ((List (List UInt8)) × Int)
 | 0, _, _ => none
 | n + 1, l59, l60 => if (decide (((l60.length : Nat) : Int) > 0)) = true then (idx l60 0).bind fun x62 => if 1 ≤ l60.length then (idx l59 x62).bind fun x65 => if x65 = true then M24_L4 F l8 l9 l10 l11 m12 m13 m14 m15 b16 m17 k55 n l59 (l60.drop 1)
 else (idx l59 x62).bind fun x68 => (M88 F (q7a.mk (q1c.mk l8 l9 l10 l11) m12 m13 m14 m15 b16) x62 m17).bind fun y70 => if ((l60.drop 1) ++ y70).length * 8 ≤ 140737488355328 then M24_L4 F l8 l9 l10 l11 m12 m13 m14 m15 b16 m17 k55 n (l59.set x62.toNat true) ((l60.drop 1) ++ y70) else none else none
 else k55 l59
def M24_L3 (F : Nat) (m12 : List ((List UInt8) × Int)) (k44 : (List Int) → Option ((List (List UInt8)) × Int)) : List (List UInt8) → (List Int) → Option ((List (List UInt8)) × Int)
 | [], l49 => k44 l49
 | x51 :: tl3, l49 => if (l49 ++ ([((mget m12 x51).getD 0)] : List Int)).length * 8 ≤ 140737488355328 then M24_L3 F m12 k44 tl3 (l49 ++ ([((mget m12 x51).getD 0)] : List Int)) else none
def M24_L2 (F : Nat) (x18 : q7a) (k29 : (List ((List UInt8) × q5a)) → Option ((List (List UInt8)) × Int)) : List q5a → (List ((List UInt8) × q5a)) → Option ((List (List UInt8)) × Int)
  | [], m34 => k29 m34
  | x36 :: tl2, m34 => (M87 F x18 x36 m34).bind fun y38 => if (y38 != 0) = true then some (([] : List (List UInt8)), y38)
 else M24_L2 F x18 k29 tl2 (mput m34 x36.Func x36)
def M24_L1 (F : Nat) (x18 : q7a) (k7 : (List q2d) → (List TType) → (List TFunc) → (List (List UInt8)) → (List ((List UInt8) × Int)) → (List ((List UInt8) × Int)) → (List ((List UInt8) × (List Int))) → (List ((List UInt8) × Bool)) → Bool → (List ((List UInt8) × q5a)) → Option ((List (List UInt8)) × Int)) : List (List q5a) → (List ((List UInt8) × q5a)) → Option ((List (List UInt8)) × Int)
 | [], m23 => k7 x18.g.Ifaces x18.g.Types x18.g.Funcs x18.g.Entries x18.funcs x18.types x18.fitting x18.on x18.made m23
 | x27 :: tl1, m23 => jn (fun (m26 : List ((List UInt8) × q5a)) => M24_L1 F x18 k7 tl1 m26) (fun k25 => jn (fun (m30 : List ((List UInt8) × q5a)) => k25 m30) (fun k29 => M24_L2 F x18 k29 x27 m23))
def M24 (F : Nat) (a1 : q1c) (a2 : (List (List UInt8))) (a3 : (List (List q5a))) : Option ((List (List UInt8)) × Int) :=
 (M78 F a1 1 a2).bind fun y4 => if ((y4.2) != 0) = true then some (([] : List (List UInt8)), (y4.2))
 else jn (fun (l8 : List q2d) (l9 : List TType) (l10 : List TFunc) (l11 : List (List UInt8)) (m12 : List ((List UInt8) × Int)) (m13 : List ((List UInt8) × Int)) (m14 : List ((List UInt8) × (List Int))) (m15 : List ((List UInt8) × Bool)) (b16 : Bool) (m17 : List ((List UInt8) × q5a)) => if 0 ≤ ((a1.Funcs.length : Nat) : Int) ∧ ((1 : Nat) : Int) * ((a1.Funcs.length : Nat) : Int) ≤ 140737488355328 ∧ ((a1.Funcs.length : Nat) : Int) ≤ 140737488355328 then jn (fun (l45 : List Int) => jn (fun (l56 : List Bool) => jn (fun (l74 : List (List UInt8)) => some (l74, 0)) (fun k73 => M24_L5 F a1 k73 l56 0 ([] : List (List UInt8)))) (fun k55 => M24_L4 F l8 l9 l10 l11 m12 m13 m14 m15 b16 m17 k55 F (List.replicate (((a1.Funcs.length : Nat) : Int)).toNat (false : Bool)) l45)) (fun k44 => M24_L3 F m12 k44 a1.Entries ([] : List Int)) else none) (fun k7 => ((y4.1)).bind fun x18 => M24_L1 F x18 k7 a3 ([] : List ((List UInt8) × q5a)))
def M148 (F : Nat) (a1 : Int) (a2 : q7a) (a3 : List Bool) (a4 : List Bool) (a5 : List (q0a × Bool)) (a6 : List q0a) (a7 : List Int) (a8 : List Int) : Option ((List Bool) × (List Int)) :=
 (idx a3 a1).bind fun x17 => if (!x17) = true then (idx a3 a1).bind fun x20 => if (a8 ++ ([a1] : List Int)).length * 8 ≤ 140737488355328 then some ((a3.set a1.toNat true), (a8 ++ ([a1] : List Int))) else none
 else some (a3, a8)
def M204_L1 (F : Nat) (a2 : Int) (k3 : Option Int) : List Int → Int → Option Int
  | [], n5 => k3
  | x7 :: tl1, n5 => if (a2 == x7) = true then some n5
 else M204_L1 F a2 k3 tl1 (n5 + 1)
def M204 (F : Nat) (a1 : (List Int)) (a2 : Int) : Option Int :=
 jn (some (-1)) (fun k3 => M204_L1 F a2 k3 a1 0)
def M164 (F : Nat) (a1 : (List Int)) (a2 : Int) : Option Bool :=
 (M204 F a1 a2).bind fun y3 => some (decide (y3 ≥ 0))
def M149_L1 (F : Nat) (a1 : Int) (a2 : q7a) (a4 : List Bool) (a5 : List (q0a × Bool)) (a6 : List q0a) (a7 : List Int) : List q0a → (List Bool) → (List Int) → Option ((List Bool) × (List Bool) × (List Int))
  | [], l48, l49 => some (l48, (a4.set a1.toNat true), l49)
  | x51 :: tl1, l48, l49 => (M164 F ((mget a2.fitting x51.iface).getD ([] : (List Int))) a1).bind fun y53 => jn (fun (l56 : List Bool) (l57 : List Int) => M149_L1 F a1 a2 a4 a5 a6 a7 tl1 l56 l57) (fun k55 => if y53 = true then (M151 F a2 (TCall.mk 0 x51.iface x51.method ([] : List UInt8)) a1).bind fun y59 => (M148 F y59 a2 l48 (a4.set a1.toNat true) a5 a6 a7 l49).bind fun y61 => k55 (y61.1) (y61.2)
 else k55 l48 l49)
def M149 (F : Nat) (a1 : Int) (a2 : q7a) (a3 : List Bool) (a4 : List Bool) (a5 : List (q0a × Bool)) (a6 : List q0a) (a7 : List Int) (a8 : List Int) : Option ((List Bool) × (List Bool) × (List Int)) :=
 (idx a4 a1).bind fun x38 => if x38 = true then some (a3, a4, a8)
 else (idx a4 a1).bind fun x41 => if (!a2.made) = true then some (a3, (a4.set a1.toNat true), a8)
 else M149_L1 F a1 a2 a4 a5 a6 a7 a6 a3 a8
def M150_L1 (F : Nat) (a1 : TCall) (a2 : q7a) (a4 : List Bool) (a5 : List (q0a × Bool)) (a6 : List q0a) (a7 : List Int) : List Int → (List Bool) → (List Int) → Option ((List Bool) × (List (q0a × Bool)) × (List q0a) × (List Int))
  | [], l55, l56 => some (l55, (mput a5 (q0a.mk a1.Target a1.Method) true), (a6 ++ ([(q0a.mk a1.Target a1.Method)] : List q0a)), l56)
  | x61 :: tl1, l55, l56 => jn (fun (l59 : List Bool) (l60 : List Int) => M150_L1 F a1 a2 a4 a5 a6 a7 tl1 l59 l60) (fun k58 => if (!a2.made) = true then (M151 F a2 a1 x61).bind fun y64 => (M148 F y64 a2 l55 a4 (mput a5 (q0a.mk a1.Target a1.Method) true) (a6 ++ ([(q0a.mk a1.Target a1.Method)] : List q0a)) a7 l56).bind fun y66 => k58 (y66.1) (y66.2)
 else (idx a4 x61).bind fun x68 => jn (fun (l71 : List Bool) (l72 : List Int) => k58 l71 l72) (fun k70 => if x68 = true then (M151 F a2 a1 x61).bind fun y74 => (M148 F y74 a2 l55 a4 (mput a5 (q0a.mk a1.Target a1.Method) true) (a6 ++ ([(q0a.mk a1.Target a1.Method)] : List q0a)) a7 l56).bind fun y76 => k70 (y76.1) (y76.2)
 else k70 l55 l56))
def M150 (F : Nat) (a1 : TCall) (a2 : q7a) (a3 : List Bool) (a4 : List Bool) (a5 : List (q0a × Bool)) (a6 : List q0a) (a7 : List Int) (a8 : List Int) : Option ((List Bool) × (List (q0a × Bool)) × (List q0a) × (List Int)) :=
 if (a1.Kind == 1) = true then (M148 F ((mget a2.funcs a1.Target).getD 0) a2 a3 a4 a5 a6 a7 a8).bind fun y47 => some ((y47.1), a5, a6, (y47.2))
 else if ((mget a5 (q0a.mk a1.Target a1.Method)).getD false) = true then some (a3, a5, a6, a8)
 else if (a6 ++ ([(q0a.mk a1.Target a1.Method)] : List q0a)).length * 32 ≤ 140737488355328 then M150_L1 F a1 a2 a4 a5 a6 a7 ((mget a2.fitting a1.Target).getD ([] : (List Int))) a3 a8 else none
def M89_L4 (F : Nat) (a1 : q7a) (a2 : Int) (l51 : List Bool) (k20 : (List Bool) → (List Bool) → (List (q0a × Bool)) → (List q0a) → (List Int) → Option (Option q7d)) (k69 : (List Bool) → (List (q0a × Bool)) → (List q0a) → (List Int) → Option (Option q7d)) : List TCall → (List Bool) → (List (q0a × Bool)) → (List q0a) → (List Int) → Option (Option q7d)
  | [], l80, m81, l82, l83 => k69 l80 m81 l82 l83
  | x90 :: tl4, l80, m81, l82, l83 => jn (fun (l86 : List Bool) (m87 : List (q0a × Bool)) (l88 : List q0a) (l89 : List Int) => M89_L4 F a1 a2 l51 k20 k69 tl4 l86 m87 l88 l89) (fun k85 => if (!((mget a1.on x90.Feature).getD false)) = true then k85 l80 m81 l82 l83
 else (M150 F x90 a1 l80 l51 m81 l82 ([] : List Int) l83).bind fun y93 => if (decide (a2 ≥ 0)) = true then (idx (y93.1) a2).bind fun x96 => if x96 = true then k20 (y93.1) l51 (y93.2.1) (y93.2.2.1) (y93.2.2.2)
 else k85 (y93.1) (y93.2.1) (y93.2.2.1) (y93.2.2.2)
 else k85 (y93.1) (y93.2.1) (y93.2.2.1) (y93.2.2.2))
def M89_L3 (F : Nat) (a1 : q7a) (m33 : List (q0a × Bool)) (l34 : List q0a) (k49 : (List Bool) → (List Bool) → (List Int) → Option (Option q7d)) : List (List UInt8) → (List Bool) → (List Bool) → (List Int) → Option (Option q7d)
 | [], l58, l59, l60 => k49 l58 l59 l60
 | x62 :: tl3, l58, l59, l60 => (M149 F ((mget a1.types x62).getD 0) a1 l58 l59 m33 l34 ([] : List Int) l60).bind fun y64 => M89_L3 F a1 m33 l34 k49 tl3 (y64.1) (y64.2.1) (y64.2.2)
def M89_L2 (F : Nat) (a1 : q7a) (a2 : Int) (k20 : (List Bool) → (List Bool) → (List (q0a × Bool)) → (List q0a) → (List Int) → Option (Option q7d)) : Nat → (List Bool) → (List Bool) → (List (q0a × Bool)) → (List q0a) → (List Int) → Option (Option q7d)
 | 0, _, _, _, _, _ => none
 | n + 1, l31, l32, m33, l34, l35 => if (decide (((l35.length : Nat) : Int) > 0)) = true then jn (fun (l38 : List Bool) (l39 : List Bool) (m40 : List (q0a × Bool)) (l41 : List q0a) (l42 : List Int) => M89_L2 F a1 a2 k20 n l38 l39 m40 l41 l42) (fun k37 => (idx l35 0).bind fun x43 => if 1 ≤ l35.length then if (x43 == a2) = true then k20 l31 l32 m33 l34 (l35.drop 1)
 else (idx a1.g.Funcs x43).bind fun x47 => jn (fun (l50 : List Bool) (l51 : List Bool) (l52 : List Int) => (idx a1.g.Funcs x43).bind fun x67 => jn (fun (l70 : List Bool) (m71 : List (q0a × Bool)) (l72 : List q0a) (l73 : List Int) => k37 l70 l51 m71 l72 l73) (fun k69 => M89_L4 F a1 a2 l51 k20 k69 x67.Calls l50 m33 l34 l52)) (fun k49 => M89_L3 F a1 m33 l34 k49 x47.Makes l31 l32 (l35.drop 1)) else none)
 else k20 l31 l32 m33 l34 l35
def M89_L1 (F : Nat) (a1 : q7a) (k5 : (List Bool) → (List Int) → Option (Option q7d)) : List (List UInt8) → (List Bool) → (List Int) → Option (Option q7d)
 | [], l12, l13 => k5 l12 l13
 | x15 :: tl1, l12, l13 => (M148 F ((mget a1.funcs x15).getD 0) a1 l12 (List.replicate (((a1.g.Types.length : Nat) : Int)).toNat (false : Bool)) ([] : List (q0a × Bool)) ([] : List q0a) ([] : List Int) l13).bind fun y17 => M89_L1 F a1 k5 tl1 (y17.1) (y17.2)
def M89 (F : Nat) (a1 : q7a) (a2 : Int) : Option (Option q7d) :=
 if 0 ≤ ((a1.g.Funcs.length : Nat) : Int) ∧ ((1 : Nat) : Int) * ((a1.g.Funcs.length : Nat) : Int) ≤ 140737488355328 ∧ ((a1.g.Funcs.length : Nat) : Int) ≤ 140737488355328 then if 0 ≤ ((a1.g.Types.length : Nat) : Int) ∧ ((1 : Nat) : Int) * ((a1.g.Types.length : Nat) : Int) ≤ 140737488355328 ∧ ((a1.g.Types.length : Nat) : Int) ≤ 140737488355328 then jn (fun (l6 : List Bool) (l7 : List Int) => jn (fun (l21 : List Bool) (l22 : List Bool) (m23 : List (q0a × Bool)) (l24 : List q0a) (l25 : List Int) => some (some (q7d.mk (some a1) l21 l22 m23 l24 ([] : List Int) l25))) (fun k20 => M89_L2 F a1 a2 k20 F l6 (List.replicate (((a1.g.Types.length : Nat) : Int)).toNat (false : Bool)) ([] : List (q0a × Bool)) ([] : List q0a) l7)) (fun k5 => M89_L1 F a1 k5 a1.g.Entries (List.replicate (((a1.g.Funcs.length : Nat) : Int)).toNat (false : Bool)) ([] : List Int)) else none else none
def M25_L1 (F : Nat) (a1 : q1c) (k13 : (List (List UInt8)) → Option ((List (List UInt8)) × Int)) : List Bool → Int → (List (List UInt8)) → Option ((List (List UInt8)) × Int)
  | [], n17, l18 => k13 l18
  | x20 :: tl1, n17, l18 => jn (fun (l23 : List (List UInt8)) => M25_L1 F a1 k13 tl1 (n17 + 1) l23) (fun k22 => if x20 = true then (idx a1.Funcs n17).bind fun x25 => if (l18 ++ ([x25.Name] : List (List UInt8))).length * 16 ≤ 140737488355328 then k22 (l18 ++ ([x25.Name] : List (List UInt8))) else none
 else k22 l18)
def M25 (F : Nat) (a1 : q1c) (a2 : Int) (a3 : (List (List UInt8))) : Option ((List (List UInt8)) × Int) :=
 (M78 F a1 a2 a3).bind fun y4 => if ((y4.2) != 0) = true then some (([] : List (List UInt8)), (y4.2))
 else ((y4.1)).bind fun x7 => (M89 F x7 (-1)).bind fun y9 => (y9).bind fun x11 => jn (fun (l14 : List (List UInt8)) => some (l14, 0)) (fun k13 => M25_L1 F a1 k13 x11.funcs 0 ([] : List (List UInt8)))
def M26_L1 (F : Nat) (a2 : (List (List UInt8))) (k4 : Option Bool) : List (List UInt8) → Int → Option Bool
  | [], n6 => k4
  | x8 :: tl1, n6 => (idx a2 n6).bind fun x10 => if (!(x8 == x10)) = true then some false
 else M26_L1 F a2 k4 tl1 (n6 + 1)
def M26 (F : Nat) (a1 : (List (List UInt8))) (a2 : (List (List UInt8))) : Option Bool :=
 if (((a1.length : Nat) : Int) != ((a2.length : Nat) : Int)) = true then some false
 else jn (some true) (fun k4 => M26_L1 F a2 k4 a1 0)
def M6_L1 (F : Nat) (a1 : q1c) (a2 : (List (List UInt8))) (a3 : (List (List UInt8))) (k4 : (List (List q5a)) → Option Bool) : List (List UInt8) → Int → (List (List q5a)) → Option Bool
  | [], n8, l9 => k4 l9
  | x11 :: tl1, n8, l9 => (M19 F a1 x11 a2).bind fun y13 => if ((y13.2) != 0) = true then (M20 F a1 x11 a2).bind fun y16 => if ((y13.2) == (y16.2)) = true then (M14 F).bind fun y19 => some y19
 else some false
 else if 0 ≤ n8 ∧ n8.toNat ≤ a3.length then (M23 F (a3.take n8.toNat) x11).bind fun y22 => jn (fun (l25 : List (List q5a)) => M6_L1 F a1 a2 a3 k4 tl1 (n8 + 1) l25) (fun k24 => if (!y22) = true then if (l9 ++ ([(y13.1)] : List (List q5a))).length * 24 ≤ 211106232532992 then k24 (l9 ++ ([(y13.1)] : List (List q5a))) else none
 else k24 l9) else none
def M6 (F : Nat) (a1 : q1c) (a2 : (List (List UInt8))) (a3 : (List (List UInt8))) : Option Bool :=
 jn (fun (l5 : List (List q5a)) => (M24 F a1 a2 l5).bind fun y29 => (M25 F a1 1 a2).bind fun y31 => if ((y29.2) == (y31.2)) = true then (M26 F (y29.1) (y31.1)).bind fun y34 => if y34 = true then (M14 F).bind fun y37 => some y37
 else some false
 else some false) (fun k4 => M6_L1 F a1 a2 a3 k4 a3 0 ([] : List (List q5a)))
end
end Go.Proofs.YtpbkggamiipdmaaGreat
namespace Go.Pv
open Go
theorem w64_id {n : Int} (h : -9223372036854775808 ≤ n) (h' : n ≤ 9223372036854775807) : w64 n = n := by
 have : w64 n = if n % 18446744073709551616 ≥ 9223372036854775808 then n % 18446744073709551616 - 18446744073709551616 else n % 18446744073709551616 := by
  simp [w64, IntKind.wrap, IntKind.signed, IntKind.bits]
 rw [this]
 split <;> omega
theorem q6d {α β : Type} (k : α) (b : α → β) : jn k b = b k := rfl
theorem q7g {α : Type} {xs : List α} {j : Nat} (h : j < xs.length) : idx xs (j : Int) = some xs[j] := by
 simp [idx, h]
theorem if_t {α : Type} {p : Prop} [Decidable p] {x y : α} (h : p) : (if decide p = true then x else y) = x := by simp [h]
theorem if_f {α : Type} {p : Prop} [Decidable p] {x y : α} (h : ¬ p) : (if decide p = true then x else y) = y := by simp [h]
theorem mid_nat {a b : Nat} (h : a + b < 4611686018427387904) : w64 (Int.fdiv (IntKind.wrap .u64 (w64 ((a : Int) + (b : Int)))) (2 ^ (min (Int.toNat 1) (IntKind.bits .u64)))) = (((a + b) / 2 : Nat) : Int) := by
 rw [w64_id (n := (a : Int) + b) (by omega) (by omega)]
 have : IntKind.wrap .u64 ((a : Int) + b) = ((a + b : Nat) : Int) := by
  simp only [IntKind.wrap, IntKind.signed, IntKind.bits, Bool.false_and]
  simp
  omega
 rw [this]
 have e : (2 : Int) ^ (min (Int.toNat 1) (IntKind.bits .u64)) = 2 := by decide
 rw [e, Int.fdiv_eq_ediv_of_nonneg _ (by omega)]
 rw [w64_id (by omega) (by omega)]
 omega
theorem q2h {α β : Type} [DecidableEq α] (xs : List (α × β)) (k k' : α) (v : β) : mget (mput xs k v) k' = if k = k' then some v else mget xs k' := by
 induction xs with
 | nil => simp [mput, mget]
 | cons p r ih =>
  simp only [mput]
  split
  ·rename_i h
   simp only [mget, h]
   split <;> simp_all
  ·rename_i h
   simp only [mget]
   by_cases h2 : p.1 = k'
   ·rw [if_pos h2, if_pos h2, if_neg (fun e => h (h2.trans e.symm))]
   ·rw [if_neg h2, if_neg h2]; exact ih
theorem bl_cons (x : UInt8) (a : List UInt8) (y : UInt8) (b : List UInt8) : Op.bytesLess (x :: a) (y :: b) = (decide (x < y) || (x == y && Op.bytesLess a b)) := by
 rw [Op.bytesLess]
theorem q5m : ∀ a : List UInt8, Op.bytesLess a a = false
 | [] => by simp [Op.bytesLess]
 | x :: a => by rw [bl_cons, q5m a]; simp
theorem q9k : ∀ {a b c : List UInt8}, Op.bytesLess a b = true → Op.bytesLess b c = true → Op.bytesLess a c = true
 | [], [], _, h, _ => by simp [Op.bytesLess] at h
 | [], y :: b, [], _, h => by simp [Op.bytesLess] at h
 | [], y :: b, z :: c, _, _ => by simp [Op.bytesLess]
 | x :: a, [], _, h, _ => by simp [Op.bytesLess] at h
 | x :: a, y :: b, [], _, h => by simp [Op.bytesLess] at h
 | x :: a, y :: b, z :: c, h, g => by
  rw [bl_cons] at *
  simp only [Bool.or_eq_true, decide_eq_true_eq, Bool.and_eq_true, beq_iff_eq, UInt8.lt_iff_toNat_lt] at *
  rcases h with h | ⟨rfl, h⟩ <;> rcases g with g | ⟨rfl, g⟩
  ·exact .inl (by omega)
  ·exact .inl h
  ·exact .inl g
  ·exact .inr ⟨rfl, q9k h g⟩
theorem bl_tri : ∀ a b : List UInt8, Op.bytesLess a b = true ∨ a = b ∨ Op.bytesLess b a = true
 | [], [] => by simp
 | [], y :: b => by simp [Op.bytesLess]
 | x :: a, [] => by simp [Op.bytesLess]
 | x :: a, y :: b => by
  rw [bl_cons, bl_cons]
  simp only [Bool.or_eq_true, decide_eq_true_eq, Bool.and_eq_true, beq_iff_eq, UInt8.lt_iff_toNat_lt, List.cons.injEq]
  rcases Nat.lt_trichotomy x.toNat y.toNat with h | h | h
  ·exact .inl (.inl h)
  ·have := UInt8.toNat_inj.1 h
   subst this
   rcases bl_tri a b with h | h | h
   ·exact .inl (.inr ⟨rfl, h⟩)
   ·exact .inr (.inl ⟨rfl, h⟩)
   ·exact .inr (.inr (.inr ⟨rfl, h⟩))
  ·exact .inr (.inr (.inl h))
theorem q9n {a b : List UInt8} (h : Op.bytesLess a b = true) : Op.bytesLess b a = false := by
 cases h' : Op.bytesLess b a with
 | false => rfl
 | true => have := q9k h h'; rw [q5m] at this; simp at this
theorem bl_ne {a b : List UInt8} (h : Op.bytesLess a b = true) : a ≠ b := by rintro rfl; rw [q5m] at h; simp at h
theorem bl_gt (a b : List UInt8) : (!(Op.bytesLess a b || a == b)) = Op.bytesLess b a := by
 rcases bl_tri a b with h | h | h
 ·rw [h, q9n h]; simp
 ·subst h; simp [q5m]
 ·rw [h, q9n h]; simp; exact fun e => bl_ne h e.symm
theorem idxL {α : Type} {g : List α → Int → Option Int} {k : Option Int} (p : α → Bool) (h0 : ∀ n, g [] n = k) (h1 : ∀ x l n, g (x :: l) n = if p x = true then some n else g l (n + 1)) :
  ∀ l (n : Nat), g l n = if l.any p = true then some ((n + l.findIdx p : Nat) : Int) else k
 | [], n => by simp [h0]
 | x :: l, n => by
  have e : ((n : Int) + 1) = ((n + 1 : Nat) : Int) := rfl
  rw [h1, e, idxL p h0 h1 l (n + 1)]
  cases h : p x
  ·have e2 : n + 1 + l.findIdx p = n + (l.findIdx p + 1) := by omega
   simp only [List.any_cons, h, Bool.false_or, List.findIdx_cons, cond_false, e2, Bool.false_eq_true, if_false]
  ·simp [List.findIdx_cons, h]
theorem bytesL {β : Type} {g : Nat → Int → Option β} {k : Option β} {f : β} (s : List UInt8) (p : UInt8 → Bool) (h0 : ∀ n, g 0 n = k)
  (h1 : ∀ m n, g (m + 1) n = (idx s n).bind fun c => if p c = true then g m (n + 1) else some f) :
  ∀ (m n : Nat), n + m = s.length → g m n = if (s.drop n).all p = true then k else some f
 | 0, n, h => by rw [h0, List.drop_eq_nil_of_le (by omega)]; simp
 | m + 1, n, h => by
  have hn : n < s.length := by omega
  have e : ((n : Int) + 1) = ((n + 1 : Nat) : Int) := rfl
  rw [h1, q7g hn, Option.bind_some, e, bytesL s p h0 h1 m (n + 1) (by omega), List.drop_eq_getElem_cons hn, List.all_cons]
  cases h : p s[n]
  ·simp only [Bool.false_and, Bool.false_eq_true, if_false]
  ·simp only [Bool.true_and, if_true]
theorem ite2 {α : Type} {p q : Prop} [Decidable p] [Decidable q] {x y : Option α} {a b : α} (h : p ↔ q) (h1 : q → x = some a) (h2 : ¬ q → y = some b) : (if p then x else y) = some (if q then a else b) := by
 by_cases hq : q
 ·rw [if_pos (h.2 hq), if_pos hq, h1 hq]
 ·rw [if_neg (fun hp => hq (h.1 hp)), if_neg hq, h2 hq]
theorem ne0 {n : Int} : (n != 0) = true ↔ n ≠ 0 := by simp
end Go.Pv
