/- Part of the proof: HM. -/
import Derived.Test.YtkciogeafbbggaaOHT
namespace Go.Proofs.Ytkciogeafbbggaa
open Go Go.Pv
set_option linter.unusedVariables false
set_option maxRecDepth 100000
noncomputable section
def M78_L1 (F : Nat) (a1 : (List Int)) (a2 : Int) (k3 : Option Int) : Nat → Int → Option Int
  | 0, _ => none
  | n + 1, n5 => if (decide (n5 < ((a1.length : Nat) : Int))) = true then (idx a1 n5).bind fun x7 => if (decide (x7 < 0)) = true then some 9
  else jn (M78_L1 F a1 a2 k3 n (w64 (n5 + 1))) (fun k10 => if (decide (x7 > a2)) = true then some 9
  else if (decide (n5 > 0)) = true then (idx a1 (w64 (n5 - 1))).bind fun x13 => if (decide (x7 ≤ x13)) = true then some 10
  else k10
  else k10)
  else k3
def M78 (F : Nat) (a1 : (List Int)) (a2 : Int) : Option Int :=
  jn (some 0) (fun k3 => M78_L1 F a1 a2 k3 F 0)
def M21 (F : Nat) (a1 : TCalendar) : Option Int :=
  if (decide (((a1.Free.length : Nat) : Int) > 6)) = true then some 3
  else if (decide (((a1.Holidays.length : Nat) : Int) > 2000)) = true then some 3
  else (M78 F a1.Free 6).bind fun y4 => if (y4 != 0) = true then some y4
  else (M78 F a1.Holidays 1000000).bind fun y7 => some y7
def M69 (F : Nat) (a1 : Int) : Option Bool :=
  if (decide (a1 ≥ 0)) = true then some (decide (a1 ≤ 1000000))
  else some false
def M70_L2 (F : Nat) (a1 : TCalendar) (f3 : Nat → Bool) (k12 : (List Int) → Option Thistory_week) : Nat → Int → (List Int) → Option Thistory_week
  | 0, _, _ => none
  | n + 1, n16, l17 => if (decide (n16 < ((a1.Holidays.length : Nat) : Int))) = true then (idx a1.Holidays n16).bind fun x19 => if 0 ≤ (Int.tmod x19 7) ∧ (Int.tmod x19 7).toNat < 7 then jn (fun (l23 : List Int) => M70_L2 F a1 f3 k12 n (w64 (n16 + 1)) l23) (fun k22 => if (!(f3 (Int.tmod x19 7).toNat)) = true then if (l17 ++ ([x19] : List Int)).length * 8 ≤ 140737488355328 then k22 (l17 ++ ([x19] : List Int)) else none
  else k22 l17) else none
  else k12 l17
def M70_L1 (F : Nat) (a1 : TCalendar) (k2 : (Nat → Bool) → Option Thistory_week) : Nat → Int → (Nat → Bool) → Option Thistory_week
  | 0, _, _ => none
  | n + 1, n6, f7 => if (decide (n6 < ((a1.Free.length : Nat) : Int))) = true then (idx a1.Free n6).bind fun x9 => if 0 ≤ x9 ∧ x9.toNat < 7 then M70_L1 F a1 k2 n (w64 (n6 + 1)) (upd f7 x9.toNat true) else none
  else k2 f7
def M70 (F : Nat) (a1 : TCalendar) : Option Thistory_week :=
  jn (fun (f3 : Nat → Bool) => jn (fun (l13 : List Int) => some (Thistory_week.mk f3 (w64 (7 - ((a1.Free.length : Nat) : Int))) l13)) (fun k12 => M70_L2 F a1 f3 k12 F 0 ([] : List Int))) (fun k2 => M70_L1 F a1 k2 F 0 (fun _ => false))
def M140 (F : Nat) (a1 : Int) : Option Bool :=
  some (a1 != a1)
def M108 (F : Nat) (a1 : Int) (a2 : Int) : Option Bool :=
  (M140 F a1).bind fun y3 => if y3 = true then (M140 F a2).bind fun y6 => if (!y6) = true then some true
  else some (decide (a1 < a2))
  else some (decide (a1 < a2))
def M109 (F : Nat) (a1 : Int) : Option Bool :=
  some (a1 != a1)
def M53_L1 (F : Nat) (a1 : (List Int)) (a2 : Int) (k3 : Int → Option (Int × Bool)) : Nat → Int → Int → Option (Int × Bool)
  | 0, _, _ => none
  | n + 1, n7, n8 => if (decide (n7 < n8)) = true then (idx a1 (w64 (Int.fdiv (IntKind.wrap .u64 (w64 (n7 + n8))) (2 ^ (min (Int.toNat 1) (IntKind.bits .u64)))))).bind fun x10 => (M108 F x10 a2).bind fun y12 => jn (fun (n15 : Int) (n16 : Int) => M53_L1 F a1 a2 k3 n n15 n16) (fun k14 => if y12 = true then k14 (w64 ((w64 (Int.fdiv (IntKind.wrap .u64 (w64 (n7 + n8))) (2 ^ (min (Int.toNat 1) (IntKind.bits .u64))))) + 1)) n8
  else k14 n7 (w64 (Int.fdiv (IntKind.wrap .u64 (w64 (n7 + n8))) (2 ^ (min (Int.toNat 1) (IntKind.bits .u64))))))
  else k3 n7
def M53 (F : Nat) (a1 : (List Int)) (a2 : Int) : Option (Int × Bool) :=
  jn (fun (n4 : Int) => if (decide (n4 < ((a1.length : Nat) : Int))) = true then (idx a1 n4).bind fun x19 => if (x19 == a2) = true then some (n4, true)
  else (idx a1 n4).bind fun x22 => (M109 F x22).bind fun y24 => if y24 = true then (M109 F a2).bind fun y27 => some (n4, y27)
  else some (n4, false)
  else some (n4, false)) (fun k3 => M53_L1 F a1 a2 k3 F 0 ((a1.length : Nat) : Int))
def M71_L1 (F : Nat) (a1 : Thistory_week) (a2 : Int) (k3 : Int → Option Int) : Nat → Int → Int → Option Int
  | 0, _, _ => none
  | n + 1, n7, n8 => if (decide (n8 < (Int.tmod a2 7))) = true then if 0 ≤ n8 ∧ n8.toNat < 7 then jn (fun (n12 : Int) => M71_L1 F a1 a2 k3 n n12 (w64 (n8 + 1))) (fun k11 => if (!(a1.free n8.toNat)) = true then k11 (w64 (n7 + 1))
  else k11 n7) else none
  else k3 n7
def M71 (F : Nat) (a1 : Thistory_week) (a2 : Int) : Option Int :=
  jn (fun (n4 : Int) => (M53 F a1.holidays a2).bind fun y14 => some (w64 (n4 - (y14.1)))) (fun k3 => M71_L1 F a1 a2 k3 F (w64 ((w64 (Int.tdiv a2 7)) * a1.work)) 0)
def M22_L2 (F : Nat) (a1 : TCalendar) (k19 : Option Int) : Nat → Int → Option Int
  | 0, _ => none
  | n + 1, n21 => if (decide (n21 < ((a1.Holidays.length : Nat) : Int))) = true then jn (fun (n24 : Int) (b25 : Bool) => M22_L2 F a1 k19 n (w64 (n21 + 1))) (fun k23 => (idx a1.Holidays n21).bind fun x26 => if (decide (x26 < 0)) = true then some 9
  else if (decide (x26 > 1000000)) = true then some 9
  else if (decide (n21 > 0)) = true then (idx a1.Holidays (w64 (n21 - 1))).bind fun x31 => if (decide (x26 ≤ x31)) = true then some 10
  else k23 x26 (decide (x26 > 1000000))
  else k23 x26 (decide (x26 > 1000000)))
  else k19
def M22_L1 (F : Nat) (a1 : TCalendar) (k4 : Option Int) : Nat → Int → Option Int
  | 0, _ => none
  | n + 1, n6 => if (decide (n6 < ((a1.Free.length : Nat) : Int))) = true then jn (fun (n9 : Int) (b10 : Bool) => M22_L1 F a1 k4 n (w64 (n6 + 1))) (fun k8 => (idx a1.Free n6).bind fun x11 => if (decide (x11 < 0)) = true then some 9
  else if (decide (x11 > 6)) = true then some 9
  else if (decide (n6 > 0)) = true then (idx a1.Free (w64 (n6 - 1))).bind fun x16 => if (decide (x11 ≤ x16)) = true then some 10
  else k8 x11 (decide (x11 > 6))
  else k8 x11 (decide (x11 > 6)))
  else k4
def M22 (F : Nat) (a1 : TCalendar) : Option Int :=
  if (decide (((a1.Free.length : Nat) : Int) > 6)) = true then some 3
  else if (decide (((a1.Holidays.length : Nat) : Int) > 2000)) = true then some 3
  else jn (jn (some 0) (fun k19 => M22_L2 F a1 k19 F 0)) (fun k4 => M22_L1 F a1 k4 F 0)
def M72 (F : Nat) (a1 : Int) : Option Bool :=
  if (decide (a1 ≥ 0)) = true then some (decide (a1 ≤ 1000000))
  else some false
def M73_L2 (F : Nat) (a1 : TCalendar) (k12 : (List (Int × Bool)) → Option Tprovenderref11_calendar) : Nat → Int → (List (Int × Bool)) → Option Tprovenderref11_calendar
  | 0, _, _ => none
  | n + 1, n16, m17 => if (decide (n16 < ((a1.Holidays.length : Nat) : Int))) = true then (idx a1.Holidays n16).bind fun x19 => M73_L2 F a1 k12 n (w64 (n16 + 1)) (mput m17 x19 true)
  else k12 m17
def M73_L1 (F : Nat) (a1 : TCalendar) (k2 : (Nat → Bool) → Option Tprovenderref11_calendar) : Nat → Int → (Nat → Bool) → Option Tprovenderref11_calendar
  | 0, _, _ => none
  | n + 1, n6, f7 => if (decide (n6 < ((a1.Free.length : Nat) : Int))) = true then (idx a1.Free n6).bind fun x9 => if 0 ≤ x9 ∧ x9.toNat < 7 then M73_L1 F a1 k2 n (w64 (n6 + 1)) (upd f7 x9.toNat true) else none
  else k2 f7
def M73 (F : Nat) (a1 : TCalendar) : Option Tprovenderref11_calendar :=
  jn (fun (f3 : Nat → Bool) => jn (fun (m13 : List (Int × Bool)) => some (Tprovenderref11_calendar.mk f3 m13)) (fun k12 => M73_L2 F a1 k12 F 0 ([] : List (Int × Bool)))) (fun k2 => M73_L1 F a1 k2 F 0 (fun _ => false))
def M74 (F : Nat) (a1 : Tprovenderref11_calendar) (a2 : Int) : Option Bool :=
  if 0 ≤ (Int.tmod a2 7) ∧ (Int.tmod a2 7).toNat < 7 then if (!(a1.free (Int.tmod a2 7).toNat)) = true then some (!((mget a1.holidays a2).getD false))
  else some false else none
def M17 (F : Nat) (a1 : TCalendar) (a2 : Int) (a3 : Int) : Option (Int × Int) :=
  (M21 F a1).bind fun y4 => if (y4 != 0) = true then some (0, y4)
  else (M69 F a2).bind fun y7 => if (!y7) = true then some (0, 9)
  else (M69 F a3).bind fun y10 => if (!y10) = true then some (0, 9)
  else if (decide (a2 > a3)) = true then some (0, 9)
  else (M70 F a1).bind fun y14 => (M71 F y14 a3).bind fun y16 => (M71 F y14 a2).bind fun y18 => some ((w64 (y16 - y18)), 0)
def M75_L1 (F : Nat) (a1 : Tprovenderref11_calendar) (a3 : Int) (k4 : Int → Option Int) : Nat → Int → Int → Option Int
  | 0, _, _ => none
  | n + 1, n8, n9 => if (decide (n9 < a3)) = true then (M74 F a1 n9).bind fun y11 => jn (fun (n14 : Int) => M75_L1 F a1 a3 k4 n n14 (w64 (n9 + 1))) (fun k13 => if y11 = true then k13 (w64 (n8 + 1))
  else k13 n8)
  else k4 n8
def M75 (F : Nat) (a1 : Tprovenderref11_calendar) (a2 : Int) (a3 : Int) : Option Int :=
  jn (fun (n5 : Int) => some n5) (fun k4 => M75_L1 F a1 a3 k4 F 0 a2)
def M126 (F : Nat) (a1 : Int) (a2 : Bool) (a3 : Bool) (a4 : Bool) (a5 : Bool) (a6 : Bool) (a7 : Bool) (a8 : Bool) (a9 : Int) (a10 : List Int) (a11 : Int) (a12 : Int) : Option Bool :=
  (M71 F (Thistory_week.mk (arrOf false [a2, a3, a4, a5, a6, a7, a8]) a9 a10) (w64 (a11 + a1))).bind fun y13 => some (decide (y13 ≥ a12))
def M125_L1 (F : Nat) (a2 : Bool) (a3 : Bool) (a4 : Bool) (a5 : Bool) (a6 : Bool) (a7 : Bool) (a8 : Bool) (a9 : Int) (a10 : List Int) (a11 : Int) (a12 : Int) (k13 : Int → Option Int) : Nat → Int → Int → Option Int
  | 0, _, _ => none
  | n + 1, n17, n18 => if (decide (n17 < n18)) = true then (M126 F (w64 (Int.fdiv (IntKind.wrap .u64 (w64 (n17 + n18))) (2 ^ (min (Int.toNat 1) (IntKind.bits .u64))))) a2 a3 a4 a5 a6 a7 a8 a9 a10 a11 a12).bind fun y20 => jn (fun (n23 : Int) (n24 : Int) => M125_L1 F a2 a3 a4 a5 a6 a7 a8 a9 a10 a11 a12 k13 n n23 n24) (fun k22 => if (!y20) = true then k22 (w64 ((w64 (Int.fdiv (IntKind.wrap .u64 (w64 (n17 + n18))) (2 ^ (min (Int.toNat 1) (IntKind.bits .u64))))) + 1)) n18
  else k22 n17 (w64 (Int.fdiv (IntKind.wrap .u64 (w64 (n17 + n18))) (2 ^ (min (Int.toNat 1) (IntKind.bits .u64))))))
  else k13 n17
def M125 (F : Nat) (a1 : Int) (a2 : Bool) (a3 : Bool) (a4 : Bool) (a5 : Bool) (a6 : Bool) (a7 : Bool) (a8 : Bool) (a9 : Int) (a10 : List Int) (a11 : Int) (a12 : Int) : Option Int :=
  jn (fun (n14 : Int) => some n14) (fun k13 => M125_L1 F a2 a3 a4 a5 a6 a7 a8 a9 a10 a11 a12 k13 F 0 a1)
def M76 (F : Nat) (a1 : Thistory_week) (a2 : Int) (a3 : Int) : Option (Int × Bool) :=
  (M71 F a1 a2).bind fun y4 => (M125 F (w64 (1000001 - a2)) (a1.free 0) (a1.free 1) (a1.free 2) (a1.free 3) (a1.free 4) (a1.free 5) (a1.free 6) a1.work a1.holidays a2 (w64 (y4 + a3))).bind fun y6 => some ((w64 (a2 + y6)), (decide ((w64 (a2 + y6)) ≤ 1000000)))
def M77_L1 (F : Nat) (a1 : Tprovenderref11_calendar) (k4 : Int → Int → Option (Int × Bool)) : Nat → Int → Int → Option (Int × Bool)
  | 0, _, _ => none
  | n + 1, n9, n10 => if (decide (n9 > 0)) = true then if (decide (n10 ≤ 1000000)) = true then (M74 F a1 n10).bind fun y13 => jn (fun (n16 : Int) => M77_L1 F a1 k4 n n16 (w64 (n10 + 1))) (fun k15 => if y13 = true then k15 (w64 (n9 - 1))
  else k15 n9)
  else k4 n9 n10
  else k4 n9 n10
def M77 (F : Nat) (a1 : Tprovenderref11_calendar) (a2 : Int) (a3 : Int) : Option (Int × Bool) :=
  jn (fun (n5 : Int) (n6 : Int) => if (n5 == 0) = true then some (n6, (decide (n6 ≤ 1000000)))
  else some (n6, false)) (fun k4 => M77_L1 F a1 k4 F a3 a2)
def M23 (F : Nat) : Option Bool :=
  (M17 F (TCalendar.mk ([5, 6] : List Int) ([] : List Int)) 0 14).bind fun y1 => if ((y1.1) == 10) = true then some ((y1.2) == 0)
  else some false
def M26_L1 (F : Nat) (a1 : (List TTerm)) (k4 : Option Int) : Nat → Int → Option Int
  | 0, _ => none
  | n + 1, n6 => if (decide (n6 < ((a1.length : Nat) : Int))) = true then (idx a1 n6).bind fun x8 => if (decide (x8.Severity < 0)) = true then some 9
  else if (decide (x8.Severity > 100)) = true then some 9
  else if (decide (x8.Days < 0)) = true then some 9
  else jn (M26_L1 F a1 k4 n (w64 (n6 + 1))) (fun k13 => if (decide (x8.Days > 10000)) = true then some 9
  else if (decide (n6 > 0)) = true then (idx a1 (w64 (n6 - 1))).bind fun x16 => if (decide (x8.Severity ≤ x16.Severity)) = true then some 10
  else k13
  else k13)
  else k4
def M26 (F : Nat) (a1 : (List TTerm)) : Option Int :=
  if (((a1.length : Nat) : Int) == 0) = true then some 13
  else if (decide (((a1.length : Nat) : Int) > 10)) = true then some 3
  else jn (some 0) (fun k4 => M26_L1 F a1 k4 F 0)
def M79_L1 (F : Nat) (a2 : (List TTerm)) (a3 : TWindow) (k4 : Int → Option (Int × Bool × Int)) : Nat → Int → Int → Option (Int × Bool × Int)
  | 0, _, _ => none
  | n + 1, n8, n9 => if (decide (n9 < ((a2.length : Nat) : Int))) = true then (idx a2 n9).bind fun x11 => jn (fun (n14 : Int) => M79_L1 F a2 a3 k4 n n14 (w64 (n9 + 1))) (fun k13 => if (decide (x11.Severity ≤ a3.Severity)) = true then k13 x11.Days
  else k13 n8)
  else k4 n8
def M79 (F : Nat) (a1 : Thistory_week) (a2 : (List TTerm)) (a3 : TWindow) : Option (Int × Bool × Int) :=
  jn (fun (n5 : Int) => if (decide (n5 < 0)) = true then some (0, false, 0)
  else (M76 F a1 a3.From n5).bind fun y17 => if (!(y17.2)) = true then some (0, false, 3)
  else some ((y17.1), true, 0)) (fun k4 => M79_L1 F a2 a3 k4 F (-1) 0)
def M27_L1 (F : Nat) (a1 : (List TTerm)) (k4 : Option Int) : Nat → Int → Option Int
  | 0, _ => none
  | n + 1, n6 => if (decide (n6 < ((a1.length : Nat) : Int))) = true then jn (fun (n9 : Int) (b10 : Bool) (n11 : Int) (b12 : Bool) (n13 : Int) (b14 : Bool) (n15 : Int) (n16 : Int) => M27_L1 F a1 k4 n (w64 (n6 + 1))) (fun k8 => (idx a1 n6).bind fun x17 => if (decide (x17.Severity < 0)) = true then some 9
  else if (decide (x17.Severity > 100)) = true then some 9
  else if (decide (x17.Days < 0)) = true then some 9
  else if (decide (x17.Days > 10000)) = true then some 9
  else if (decide (n6 > 0)) = true then (idx a1 (w64 (n6 - 1))).bind fun x24 => if (decide (x17.Severity ≤ x24.Severity)) = true then some 10
  else k8 x17.Severity (decide (x17.Severity > 100)) x17.Days (decide (x17.Days < 0)) x17.Days (decide (x17.Days > 10000)) x17.Severity x17.Days
  else k8 x17.Severity (decide (x17.Severity > 100)) x17.Days (decide (x17.Days < 0)) x17.Days (decide (x17.Days > 10000)) x17.Severity x17.Days)
  else k4
def M27 (F : Nat) (a1 : (List TTerm)) : Option Int :=
  if (((a1.length : Nat) : Int) == 0) = true then some 13
  else if (decide (((a1.length : Nat) : Int) > 10)) = true then some 3
  else jn (some 0) (fun k4 => M27_L1 F a1 k4 F 0)
def M80_L1 (F : Nat) (a1 : (List TTerm)) (a2 : Int) (k3 : Bool → Int → Int → Option (TTerm × Bool)) : Nat → Bool → Int → Int → Int → Option (TTerm × Bool)
  | 0, _, _, _, _ => none
  | n + 1, b11, n12, n13, n14 => if (decide (n12 < ((a1.length : Nat) : Int))) = true then (idx a1 n12).bind fun x16 => jn (fun (b19 : Bool) (n20 : Int) (n21 : Int) => M80_L1 F a1 a2 k3 n b19 (w64 (n12 + 1)) n20 n21) (fun k18 => if (decide (x16.Severity ≤ a2)) = true then k18 true x16.Severity x16.Days
  else k18 b11 n13 n14)
  else k3 b11 n13 n14
def M80 (F : Nat) (a1 : (List TTerm)) (a2 : Int) : Option (TTerm × Bool) :=
  jn (fun (b4 : Bool) (n5 : Int) (n6 : Int) => some ((TTerm.mk n5 n6), b4)) (fun k3 => M80_L1 F a1 a2 k3 F false 0 0 0)
def M131_L1 (F : Nat) (a1 : (List UInt8)) (k2 : Option Bool) : Nat → Int → Option Bool
  | 0, n4 => k2
  | tl1 + 1, n4 => (idx a1 n4).bind fun c6 => if (decide ((c6.toNat : Int) < 33)) = true then some false
 else (idx a1 n4).bind fun c9 => if (decide ((c9.toNat : Int) > 126)) = true then some false
 else M131_L1 F a1 k2 tl1 (n4 + 1)
def M131 (F : Nat) (a1 : (List UInt8)) : Option Bool :=
  jn (some (!(a1 == ([] : List UInt8)))) (fun k2 => if (a1.length : Int) ≤ 9223372036854775807 then M131_L1 F a1 k2 (((a1.length : Int)).toNat) 0 else none)
def M93 (F : Nat) (a1 : (List UInt8)) : Option Bool :=
  (M131 F a1).bind fun y2 => if y2 = true then some (decide ((a1.length : Int) ≤ 100))
  else some false
def M84 (F : Nat) (a1 : TExposure) : Option Thistory_key :=
  some (Thistory_key.mk a1.Advisory a1.Component)
def M152 (F : Nat) (a1 : (List UInt8)) : Option Bool :=
  some (!(a1 == a1))
def M138 (F : Nat) (a1 : (List UInt8)) (a2 : (List UInt8)) : Option Int :=
  (M152 F a1).bind fun y3 => (M152 F a2).bind fun y5 => if y3 = true then if y5 = true then some 0
  else some (-1)
  else if y5 = true then some 1
  else if (Op.bytesLess a1 a2) = true then some (-1)
  else if (!(Op.bytesLess a1 a2 || a1 == a2)) = true then some 1
  else some 0
def M149_L1 (F : Nat) (k2 : Option Int) : List Int → Option Int
  | [] => k2
  | x6 :: tl1 => if (x6 != 0) = true then some x6
 else M149_L1 F k2 tl1
def M149 (F : Nat) (a1 : (List Int)) : Option Int :=
  jn (some 0) (fun k2 => M149_L1 F k2 a1)
def M146 (F : Nat) (a1 : Thistory_key) (a2 : Thistory_key) : Option Int :=
  (M138 F a1.advisory a2.advisory).bind fun y3 => (M138 F a1.component a2.component).bind fun y5 => (M149 F ([y3, y5] : List Int)).bind fun y7 => some y7
def M127_L1 (F : Nat) (a1 : (List TExposure)) (k3 : Option Int) : List TExposure → Int → Option Int
  | [], n5 => k3
  | x7 :: tl1, n5 => (M93 F x7.Advisory).bind fun y9 => if (!y9) = true then some 8
 else (M93 F x7.Component).bind fun y12 => jn (M127_L1 F a1 k3 tl1 (n5 + 1)) (fun k14 => if (!y12) = true then some 8
 else if (decide (x7.Severity < 0)) = true then some 9
 else if (decide (x7.Severity > 100)) = true then some 9
 else if (decide (n5 > 0)) = true then (idx a1 (w64 (n5 - 1))).bind fun x19 => (M84 F x19).bind fun y21 => (M84 F x7).bind fun y23 => (M146 F y21 y23).bind fun y25 => if (decide (y25 ≥ 0)) = true then some 10
 else k14
 else k14)
def M127 (F : Nat) (a1 : (List TExposure)) : Option Int :=
  if (decide (((a1.length : Nat) : Int) > 500)) = true then some 3
  else jn (some 0) (fun k3 => M127_L1 F a1 k3 a1 0)
def M95_L1 (F : Nat) (a1 : (List UInt8)) (k2 : Option Bool) : Nat → Int → Option Bool
  | 0, n4 => k2
  | tl1 + 1, n4 => (idx a1 n4).bind fun c6 => if (decide ((c6.toNat : Int) < 33)) = true then some false
 else (idx a1 n4).bind fun c9 => if (decide ((c9.toNat : Int) > 126)) = true then some false
 else M95_L1 F a1 k2 tl1 (n4 + 1)
def M95 (F : Nat) (a1 : (List UInt8)) : Option Bool :=
  jn (if (decide ((a1.length : Int) ≥ 1)) = true then some (decide ((a1.length : Int) ≤ 100))
  else some false) (fun k2 => if (a1.length : Int) ≤ 9223372036854775807 then M95_L1 F a1 k2 (((a1.length : Int)).toNat) 0 else none)
def M132 (F : Nat) (a1 : TExposure) (a2 : TExposure) : Option Bool :=
  if (Op.bytesLess a1.Advisory a2.Advisory) = true then some true
  else if (a1.Advisory == a2.Advisory) = true then some (Op.bytesLess a1.Component a2.Component)
  else some false
def M96_L1 (F : Nat) (a1 : (List TExposure)) (k3 : Option Int) : List TExposure → Int → Option Int
  | [], n5 => k3
  | x7 :: tl1, n5 => (M95 F x7.Advisory).bind fun y9 => if (!y9) = true then some 8
 else (M95 F x7.Component).bind fun y12 => jn (M96_L1 F a1 k3 tl1 (n5 + 1)) (fun k14 => if (!y12) = true then some 8
 else if (decide (x7.Severity < 0)) = true then some 9
 else if (decide (x7.Severity > 100)) = true then some 9
 else if (decide (n5 > 0)) = true then (idx a1 (w64 (n5 - 1))).bind fun x19 => (M132 F x19 x7).bind fun y21 => if (!y21) = true then some 10
 else k14
 else k14)
def M96 (F : Nat) (a1 : (List TExposure)) : Option Int :=
  if (decide (((a1.length : Nat) : Int) > 500)) = true then some 3
  else jn (some 0) (fun k3 => M96_L1 F a1 k3 a1 0)
def M94_L1 (F : Nat) (a1 : TStory) (k2 : Option Int) : List TRelease → Int → (List ((List UInt8) × Bool)) → Option Int
  | [], n5, m6 => k2
  | x8 :: tl1, n5, m6 => (M93 F x8.Version).bind fun y10 => jn ((M127 F x8.Exposures).bind fun y21 => if (y21 != 0) = true then some y21
 else M94_L1 F a1 k2 tl1 (n5 + 1) (mput m6 x8.Version true)) (fun k12 => if (!y10) = true then some 8
 else if ((mget m6 x8.Version).getD false) = true then some 5
 else if (decide (x8.Day < 0)) = true then some 9
 else if (decide (x8.Day > a1.Until)) = true then some 9
 else if (decide (n5 > 0)) = true then (idx a1.Releases (w64 (n5 - 1))).bind fun x18 => if (decide (x8.Day ≤ x18.Day)) = true then some 10
 else k12
 else k12)
def M94 (F : Nat) (a1 : TStory) : Option Int :=
  jn (some 0) (fun k2 => M94_L1 F a1 k2 a1.Releases 0 ([] : List ((List UInt8) × Bool)))
def M35_L3 (F : Nat) (m14 : List ((List UInt8) × Bool)) (k52 : Option Int) : List TExposure → Option Int
  | [] => k52
  | x56 :: tl3 => if (!((mget m14 x56.Advisory).getD false)) = true then some 4
 else M35_L3 F m14 k52 tl3
def M35_L2 (F : Nat) (m14 : List ((List UInt8) × Bool)) (k45 : Option Int) : List TRelease → Option Int
  | [] => k45
  | x50 :: tl2 => jn (M35_L2 F m14 k45 tl2 ) (fun k49 => jn (k49) (fun k52 => M35_L3 F m14 k52 x50.Exposures))
def M35_L1 (F : Nat) (a1 : TStory) (k13 : (List ((List UInt8) × Bool)) → Option Int) : List TPublished → Int → (List ((List UInt8) × Bool)) → Option Int
  | [], n17, m18 => k13 m18
  | x20 :: tl1, n17, m18 => (M93 F x20.Advisory).bind fun y22 => jn (fun (b25 : Bool) (b26 : Bool) => M35_L1 F a1 k13 tl1 (n17 + 1) (mput m18 x20.Advisory true)) (fun k24 => if (!y22) = true then some 8
 else if (decide (n17 > 0)) = true then (idx a1.Known (w64 (n17 - 1))).bind fun x29 => if (Op.bytesLess x20.Advisory x29.Advisory || x20.Advisory == x29.Advisory) = true then some 10
 else (M69 F x20.Day).bind fun y32 => if (!y32) = true then some 9
 else if (x20.Ended != (-1)) = true then if (decide (x20.Ended < x20.Day)) = true then some 9
 else if (decide (x20.Ended > 1000000)) = true then some 9
 else k24 true (decide (x20.Ended > 1000000))
 else k24 false false
 else (M69 F x20.Day).bind fun y38 => if (!y38) = true then some 9
 else if (x20.Ended != (-1)) = true then if (decide (x20.Ended < x20.Day)) = true then some 9
 else if (decide (x20.Ended > 1000000)) = true then some 9
 else k24 true (decide (x20.Ended > 1000000))
 else k24 false false)
def M35 (F : Nat) (a1 : TStory) : Option Int :=
  (M93 F a1.Product).bind fun y2 => if (!y2) = true then some 8
  else (M69 F a1.Until).bind fun y5 => if (!y5) = true then some 9
  else if (decide (((a1.Releases.length : Nat) : Int) > 500)) = true then some 3
  else if (decide (((a1.Known.length : Nat) : Int) > 2000)) = true then some 3
  else (M94 F a1).bind fun y10 => if (y10 != 0) = true then some y10
  else jn (fun (m14 : List ((List UInt8) × Bool)) => jn (some 0) (fun k45 => M35_L2 F m14 k45 a1.Releases)) (fun k13 => M35_L1 F a1 k13 a1.Known 0 ([] : List ((List UInt8) × Bool)))
def M97_L1 (F : Nat) (a1 : (List TPublished)) (k2 : Option Int) : List TPublished → Int → Option Int
  | [], n4 => k2
  | x6 :: tl1, n4 => (M95 F x6.Advisory).bind fun y8 => jn (fun (b11 : Bool) (b12 : Bool) => M97_L1 F a1 k2 tl1 (n4 + 1)) (fun k10 => if (!y8) = true then some 8
 else if (decide (n4 > 0)) = true then (idx a1 (w64 (n4 - 1))).bind fun x15 => if (Op.bytesLess x6.Advisory x15.Advisory || x6.Advisory == x15.Advisory) = true then some 10
 else (M72 F x6.Day).bind fun y18 => if (!y18) = true then some 9
 else if (x6.Ended != (-1)) = true then if (decide (x6.Ended < x6.Day)) = true then some 9
 else if (decide (x6.Ended > 1000000)) = true then some 9
 else k10 true (decide (x6.Ended > 1000000))
 else k10 false false
 else (M72 F x6.Day).bind fun y24 => if (!y24) = true then some 9
 else if (x6.Ended != (-1)) = true then if (decide (x6.Ended < x6.Day)) = true then some 9
 else if (decide (x6.Ended > 1000000)) = true then some 9
 else k10 true (decide (x6.Ended > 1000000))
 else k10 false false)
def M97 (F : Nat) (a1 : (List TPublished)) : Option Int :=
  jn (some 0) (fun k2 => M97_L1 F a1 k2 a1 0)
def M36_L4 (F : Nat) (m37 : List ((List UInt8) × Bool)) (k53 : Option Int) : List TExposure → Option Int
  | [] => k53
  | x57 :: tl4 => if (!((mget m37 x57.Advisory).getD false)) = true then some 4
 else M36_L4 F m37 k53 tl4
def M36_L3 (F : Nat) (m37 : List ((List UInt8) × Bool)) (k46 : Option Int) : List TRelease → Option Int
  | [] => k46
  | x51 :: tl3 => jn (M36_L3 F m37 k46 tl3 ) (fun k50 => jn (k50) (fun k53 => M36_L4 F m37 k53 x51.Exposures))
def M36_L2 (F : Nat) (k36 : (List ((List UInt8) × Bool)) → Option Int) : List TPublished → (List ((List UInt8) × Bool)) → Option Int
  | [], m41 => k36 m41
  | x43 :: tl2, m41 => M36_L2 F k36 tl2 (mput m41 x43.Advisory true)
def M36_L1 (F : Nat) (a1 : TStory) (k10 : Option Int) : List TRelease → Int → (List ((List UInt8) × Bool)) → Option Int
  | [], n13, m14 => k10
  | x16 :: tl1, n13, m14 => (M95 F x16.Version).bind fun y18 => jn ((M96 F x16.Exposures).bind fun y29 => if (y29 != 0) = true then some y29
 else M36_L1 F a1 k10 tl1 (n13 + 1) (mput m14 x16.Version true)) (fun k20 => if (!y18) = true then some 8
 else if ((mget m14 x16.Version).getD false) = true then some 5
 else if (decide (x16.Day < 0)) = true then some 9
 else if (decide (x16.Day > a1.Until)) = true then some 9
 else if (decide (n13 > 0)) = true then (idx a1.Releases (w64 (n13 - 1))).bind fun x26 => if (decide (x16.Day ≤ x26.Day)) = true then some 10
 else k20
 else k20)
def M36 (F : Nat) (a1 : TStory) : Option Int :=
  (M95 F a1.Product).bind fun y2 => if (!y2) = true then some 8
  else (M72 F a1.Until).bind fun y5 => if (!y5) = true then some 9
  else if (decide (((a1.Releases.length : Nat) : Int) > 500)) = true then some 3
  else if (decide (((a1.Known.length : Nat) : Int) > 2000)) = true then some 3
  else jn ((M97 F a1.Known).bind fun y33 => if (y33 != 0) = true then some y33
  else jn (fun (m37 : List ((List UInt8) × Bool)) => jn (some 0) (fun k46 => M36_L3 F m37 k46 a1.Releases)) (fun k36 => M36_L2 F k36 a1.Known ([] : List ((List UInt8) × Bool)))) (fun k10 => M36_L1 F a1 k10 a1.Releases 0 ([] : List ((List UInt8) × Bool)))
def M90_L3 (F : Nat) (m3 : List ((List UInt8) × TPublished)) (x21 : TRelease) (n24 : Int) (k28 : (List Thistory_piece) → Option (List Thistory_piece)) : List TExposure → (List Thistory_piece) → Option (List Thistory_piece)
  | [], l33 => k28 l33
  | x35 :: tl3, l33 => jn (fun (n38 : Int) => jn (fun (l41 : List Thistory_piece) => M90_L3 F m3 x21 n24 k28 tl3 l41) (fun k40 => if (decide ((if ((mget m3 x35.Advisory).getD (TPublished.mk ([] : List UInt8) 0 0)).Day > x21.Day then ((mget m3 x35.Advisory).getD (TPublished.mk ([] : List UInt8) 0 0)).Day else x21.Day) < n38)) = true then if (l33 ++ ([(Thistory_piece.mk x35 (if ((mget m3 x35.Advisory).getD (TPublished.mk ([] : List UInt8) 0 0)).Day > x21.Day then ((mget m3 x35.Advisory).getD (TPublished.mk ([] : List UInt8) 0 0)).Day else x21.Day) n38)] : List Thistory_piece)).length * 56 ≤ 140737488355328 then k40 (l33 ++ ([(Thistory_piece.mk x35 (if ((mget m3 x35.Advisory).getD (TPublished.mk ([] : List UInt8) 0 0)).Day > x21.Day then ((mget m3 x35.Advisory).getD (TPublished.mk ([] : List UInt8) 0 0)).Day else x21.Day) n38)] : List Thistory_piece)) else none
 else k40 l33)) (fun k37 => if (decide (((mget m3 x35.Advisory).getD (TPublished.mk ([] : List UInt8) 0 0)).Ended ≥ 0)) = true then k37 (if ((mget m3 x35.Advisory).getD (TPublished.mk ([] : List UInt8) 0 0)).Ended < n24 then ((mget m3 x35.Advisory).getD (TPublished.mk ([] : List UInt8) 0 0)).Ended else n24)
 else k37 n24)
def M90_L2 (F : Nat) (a1 : TStory) (m3 : List ((List UInt8) × TPublished)) (k12 : (List Thistory_piece) → Option (List Thistory_piece)) : List TRelease → Int → (List Thistory_piece) → Option (List Thistory_piece)
  | [], n16, l17 => k12 l17
  | x21 :: tl2, n16, l17 => jn (fun (l20 : List Thistory_piece) => M90_L2 F a1 m3 k12 tl2 (n16 + 1) l20) (fun k19 => jn (fun (n24 : Int) => jn (fun (l29 : List Thistory_piece) => k19 l29) (fun k28 => M90_L3 F m3 x21 n24 k28 x21.Exposures l17)) (fun k23 => if (decide ((w64 (n16 + 1)) < ((a1.Releases.length : Nat) : Int))) = true then (idx a1.Releases (w64 (n16 + 1))).bind fun x26 => k23 x26.Day
 else k23 a1.Until))
def M90_L1 (F : Nat) (k2 : (List ((List UInt8) × TPublished)) → Option (List Thistory_piece)) : List TPublished → (List ((List UInt8) × TPublished)) → Option (List Thistory_piece)
  | [], m7 => k2 m7
  | x9 :: tl1, m7 => M90_L1 F k2 tl1 (mput m7 x9.Advisory x9)
def M90 (F : Nat) (a1 : TStory) : Option (List Thistory_piece) :=
  jn (fun (m3 : List ((List UInt8) × TPublished)) => jn (fun (l13 : List Thistory_piece) => some l13) (fun k12 => M90_L2 F a1 m3 k12 a1.Releases 0 ([] : List Thistory_piece))) (fun k2 => M90_L1 F k2 a1.Known ([] : List ((List UInt8) × TPublished)))
def M91_L1 (F : Nat) (k2 : (List ((List UInt8) × TPublished)) → Option Tprovenderref11_view) : List TPublished → (List ((List UInt8) × TPublished)) → Option Tprovenderref11_view
  | [], m7 => k2 m7
  | x9 :: tl1, m7 => M91_L1 F k2 tl1 (mput m7 x9.Advisory x9)
def M91 (F : Nat) (a1 : TStory) : Option Tprovenderref11_view :=
  jn (fun (m3 : List ((List UInt8) × TPublished)) => some (Tprovenderref11_view.mk a1 m3)) (fun k2 => M91_L1 F k2 a1.Known ([] : List ((List UInt8) × TPublished)))
def M147 (F : Nat) (a1 : (List TWindow)) : Option (List TWindow) :=
  nilq a1.length (fun b7 => if b7 = true then some ([] : List TWindow)
  else if (([] : List TWindow) ++ a1).length * 64 ≤ 140737488355328 then some (([] : List TWindow) ++ a1) else none)
def M116 (F : Nat) (a1 : Int) (a2 : Int) : Option Int :=
  (M140 F a1).bind fun y3 => (M140 F a2).bind fun y5 => if y3 = true then if y5 = true then some 0
  else some (-1)
  else if y5 = true then some 1
  else if (decide (a1 < a2)) = true then some (-1)
  else if (decide (a1 > a2)) = true then some 1
  else some 0
def M134 (F : Nat) (a1 : TWindow) (a2 : TWindow) : Option Int :=
  (M116 F a1.From a2.From).bind fun y3 => (M138 F a1.Advisory a2.Advisory).bind fun y5 => (M138 F a1.Component a2.Component).bind fun y7 => (M149 F ([y3, y5, y7] : List Int)).bind fun y9 => some y9
def M171_L2 (F : Nat) (a1 : Int) (k41 : (List TWindow) → Option (List TWindow)) : Nat → Int → (List TWindow) → Option (List TWindow)
  | 0, _, _ => none
  | n + 1, n45, l46 => if (decide (n45 > a1)) = true then (idx l46 n45).bind fun x48 => (idx l46 (w64 (n45 - 1))).bind fun x50 => (M134 F x48 x50).bind fun y52 => if (decide (y52 < 0)) = true then (idx l46 (w64 (n45 - 1))).bind fun x55 => (idx l46 n45).bind fun x57 => (idx l46 n45).bind fun x59 => (idx (l46.set n45.toNat x55) (w64 (n45 - 1))).bind fun x61 => M171_L2 F a1 k41 n (w64 (n45 - 1)) ((l46.set n45.toNat x55).set (w64 (n45 - 1)).toNat x57)
  else k41 l46
  else k41 l46
def M171_L1 (F : Nat) (a1 : Int) (a2 : Int) : Nat → Int → (List TWindow) → Option (List TWindow)
  | 0, _, _ => none
  | n + 1, n36, l37 => if (decide (n36 < a2)) = true then jn (fun (l40 : List TWindow) => M171_L1 F a1 a2 n (w64 (n36 + 1)) l40) (fun k39 => jn (fun (l42 : List TWindow) => k39 l42) (fun k41 => M171_L2 F a1 k41 F n36 l37))
  else some l37
def M171 (F : Nat) (a1 : Int) (a2 : Int) (a3 : List TWindow) : Option (List TWindow) :=
  M171_L1 F a1 a2 F (w64 (a1 + 1)) a3
def M185_L1 (F : Nat) (a1 : Int) (a2 : Int) : Nat → Int → (List TWindow) → Option (List TWindow)
  | 0, n22, l23 => some l23
  | tl1 + 1, n22, l23 => (idx l23 (w64 (a2 + n22))).bind fun x25 => (idx l23 (w64 (a1 + n22))).bind fun x27 => (idx l23 (w64 (a1 + n22))).bind fun x29 => (idx (l23.set (w64 (a1 + n22)).toNat x25) (w64 (a2 + n22))).bind fun x31 => M185_L1 F a1 a2 tl1 (n22 + 1) ((l23.set (w64 (a1 + n22)).toNat x25).set (w64 (a2 + n22)).toNat x27)
def M185 (F : Nat) (a1 : Int) (a2 : Int) (a3 : Int) (a4 : List TWindow) : Option (List TWindow) :=
  if a3 ≤ 9223372036854775807 then M185_L1 F a1 a2 ((a3).toNat) 0 a4 else none
def M181_L1 (F : Nat) (a2 : Int) (k30 : Int → (List TWindow) → Option (List TWindow)) : Nat → Int → Int → (List TWindow) → Option (List TWindow)
  | 0, _, _, _ => none
  | n + 1, n36, n37, l38 => if (n36 != n37) = true then jn (fun (n41 : Int) (n42 : Int) (l43 : List TWindow) => M181_L1 F a2 k30 n n41 n42 l43) (fun k40 => if (decide (n36 > n37)) = true then (M185 F (w64 (a2 - n36)) a2 n37 l38).bind fun y45 => if y45.length = l38.length then k40 (w64 (n36 - n37)) n37 y45 else none
  else (M185 F (w64 (a2 - n36)) (w64 ((w64 (a2 + n37)) - n36)) n36 l38).bind fun y48 => if y48.length = l38.length then k40 n36 (w64 (n37 - n36)) y48 else none)
  else k30 n36 l38
def M181 (F : Nat) (a1 : Int) (a2 : Int) (a3 : Int) (a4 : List TWindow) : Option (List TWindow) :=
  jn (fun (n31 : Int) (l32 : List TWindow) => (M185 F (w64 (a2 - n31)) a2 n31 l32).bind fun y51 => if y51.length = l32.length then some y51 else none) (fun k30 => M181_L1 F a2 k30 F (w64 (a2 - a1)) (w64 (a3 - a2)) a4)
def M172_L2 (F : Nat) (n114 : Int) (k130 : (List TWindow) → Option (List TWindow)) : Nat → Int → (List TWindow) → Option (List TWindow)
  | 0, _, _ => none
  | n + 1, n134, l135 => if (decide (n134 < (w64 (n114 - 1)))) = true then (idx l135 (w64 (n134 + 1))).bind fun x137 => (idx l135 n134).bind fun x139 => (idx l135 n134).bind fun x141 => (idx (l135.set n134.toNat x137) (w64 (n134 + 1))).bind fun x143 => M172_L2 F n114 k130 n (w64 (n134 + 1)) ((l135.set n134.toNat x137).set (w64 (n134 + 1)).toNat x139)
  else k130 l135
def M172_L1 (F : Nat) (a1 : Int) (a4 : List TWindow) (k113 : Int → Option (List TWindow)) : Nat → Int → Int → Option (List TWindow)
  | 0, _, _ => none
  | n + 1, n117, n118 => if (decide (n117 < n118)) = true then (idx a4 (w64 (Int.fdiv (IntKind.wrap .u64 (w64 (n117 + n118))) (2 ^ (min (Int.toNat 1) (IntKind.bits .u64)))))).bind fun x120 => (idx a4 a1).bind fun x122 => (M134 F x120 x122).bind fun y124 => jn (fun (n127 : Int) (n128 : Int) => M172_L1 F a1 a4 k113 n n127 n128) (fun k126 => if (decide (y124 < 0)) = true then k126 (w64 ((w64 (Int.fdiv (IntKind.wrap .u64 (w64 (n117 + n118))) (2 ^ (min (Int.toNat 1) (IntKind.bits .u64))))) + 1)) n118
  else k126 n117 (w64 (Int.fdiv (IntKind.wrap .u64 (w64 (n117 + n118))) (2 ^ (min (Int.toNat 1) (IntKind.bits .u64))))))
  else k113 n117
def M172_L4 (F : Nat) (n147 : Int) (k163 : (List TWindow) → Option (List TWindow)) : Nat → Int → (List TWindow) → Option (List TWindow)
  | 0, _, _ => none
  | n + 1, n167, l168 => if (decide (n167 > n147)) = true then (idx l168 (w64 (n167 - 1))).bind fun x170 => (idx l168 n167).bind fun x172 => (idx l168 n167).bind fun x174 => (idx (l168.set n167.toNat x170) (w64 (n167 - 1))).bind fun x176 => M172_L4 F n147 k163 n (w64 (n167 - 1)) ((l168.set n167.toNat x170).set (w64 (n167 - 1)).toNat x172)
  else k163 l168
def M172_L3 (F : Nat) (a2 : Int) (a4 : List TWindow) (k146 : Int → Option (List TWindow)) : Nat → Int → Int → Option (List TWindow)
  | 0, _, _ => none
  | n + 1, n150, n151 => if (decide (n150 < n151)) = true then (idx a4 a2).bind fun x153 => (idx a4 (w64 (Int.fdiv (IntKind.wrap .u64 (w64 (n150 + n151))) (2 ^ (min (Int.toNat 1) (IntKind.bits .u64)))))).bind fun x155 => (M134 F x153 x155).bind fun y157 => jn (fun (n160 : Int) (n161 : Int) => M172_L3 F a2 a4 k146 n n160 n161) (fun k159 => if (!(decide (y157 < 0))) = true then k159 (w64 ((w64 (Int.fdiv (IntKind.wrap .u64 (w64 (n150 + n151))) (2 ^ (min (Int.toNat 1) (IntKind.bits .u64))))) + 1)) n151
  else k159 n150 (w64 (Int.fdiv (IntKind.wrap .u64 (w64 (n150 + n151))) (2 ^ (min (Int.toNat 1) (IntKind.bits .u64))))))
  else k146 n150
def M172_L5 (F : Nat) (a1 : Int) (a2 : Int) (a3 : Int) (a4 : List TWindow) (k182 : Int → Option (List TWindow)) : Nat → Int → Int → Option (List TWindow)
  | 0, _, _ => none
  | n + 1, n186, n187 => if (decide (n186 < n187)) = true then (idx a4 (w64 ((w64 ((w64 ((w64 (Int.fdiv (IntKind.wrap .u64 (w64 (a1 + a3))) (2 ^ (min (Int.toNat 1) (IntKind.bits .u64))))) + a2)) - 1)) - (w64 (Int.fdiv (IntKind.wrap .u64 (w64 (n186 + n187))) (2 ^ (min (Int.toNat 1) (IntKind.bits .u64)))))))).bind fun x189 => (idx a4 (w64 (Int.fdiv (IntKind.wrap .u64 (w64 (n186 + n187))) (2 ^ (min (Int.toNat 1) (IntKind.bits .u64)))))).bind fun x191 => (M134 F x189 x191).bind fun y193 => jn (fun (n196 : Int) (n197 : Int) => M172_L5 F a1 a2 a3 a4 k182 n n196 n197) (fun k195 => if (!(decide (y193 < 0))) = true then k195 (w64 ((w64 (Int.fdiv (IntKind.wrap .u64 (w64 (n186 + n187))) (2 ^ (min (Int.toNat 1) (IntKind.bits .u64))))) + 1)) n187
  else k195 n186 (w64 (Int.fdiv (IntKind.wrap .u64 (w64 (n186 + n187))) (2 ^ (min (Int.toNat 1) (IntKind.bits .u64))))))
  else k182 n186
def M172_B (R172 : Int → Int → Int → (List TWindow) → Option (List TWindow)) (F : Nat) (a1 : Int) (a2 : Int) (a3 : Int) (a4 : List TWindow) : Option (List TWindow) :=
  if ((w64 (a2 - a1)) == 1) = true then jn (fun (n114 : Int) => jn (fun (l131 : List TWindow) => some l131) (fun k130 => M172_L2 F n114 k130 F a1 a4)) (fun k113 => M172_L1 F a1 a4 k113 F a2 a3)
  else if ((w64 (a3 - a2)) == 1) = true then jn (fun (n147 : Int) => jn (fun (l164 : List TWindow) => some l164) (fun k163 => M172_L4 F n147 k163 F a2 a4)) (fun k146 => M172_L3 F a2 a4 k146 F a1 a2)
  else jn (fun (n179 : Int) (n180 : Int) => jn (fun (n183 : Int) => if (decide (n183 < a2)) = true then jn (fun (l201 : List TWindow) => if (decide (a1 < n183)) = true then jn (fun (l208 : List TWindow) => if (decide ((w64 (Int.fdiv (IntKind.wrap .u64 (w64 (a1 + a3))) (2 ^ (min (Int.toNat 1) (IntKind.bits .u64))))) < (w64 ((w64 ((w64 (Int.fdiv (IntKind.wrap .u64 (w64 (a1 + a3))) (2 ^ (min (Int.toNat 1) (IntKind.bits .u64))))) + a2)) - n183)))) = true then if (decide ((w64 ((w64 ((w64 (Int.fdiv (IntKind.wrap .u64 (w64 (a1 + a3))) (2 ^ (min (Int.toNat 1) (IntKind.bits .u64))))) + a2)) - n183)) < a3)) = true then (R172 (w64 (Int.fdiv (IntKind.wrap .u64 (w64 (a1 + a3))) (2 ^ (min (Int.toNat 1) (IntKind.bits .u64))))) (w64 ((w64 ((w64 (Int.fdiv (IntKind.wrap .u64 (w64 (a1 + a3))) (2 ^ (min (Int.toNat 1) (IntKind.bits .u64))))) + a2)) - n183)) a3 l208).bind fun y215 => if y215.length = l208.length then some y215 else none
  else some l208
  else some l208) (fun k207 => if (decide (n183 < (w64 (Int.fdiv (IntKind.wrap .u64 (w64 (a1 + a3))) (2 ^ (min (Int.toNat 1) (IntKind.bits .u64))))))) = true then (R172 a1 n183 (w64 (Int.fdiv (IntKind.wrap .u64 (w64 (a1 + a3))) (2 ^ (min (Int.toNat 1) (IntKind.bits .u64))))) l201).bind fun y210 => if y210.length = l201.length then k207 y210 else none
  else k207 l201)
  else if (decide ((w64 (Int.fdiv (IntKind.wrap .u64 (w64 (a1 + a3))) (2 ^ (min (Int.toNat 1) (IntKind.bits .u64))))) < (w64 ((w64 ((w64 (Int.fdiv (IntKind.wrap .u64 (w64 (a1 + a3))) (2 ^ (min (Int.toNat 1) (IntKind.bits .u64))))) + a2)) - n183)))) = true then if (decide ((w64 ((w64 ((w64 (Int.fdiv (IntKind.wrap .u64 (w64 (a1 + a3))) (2 ^ (min (Int.toNat 1) (IntKind.bits .u64))))) + a2)) - n183)) < a3)) = true then (R172 (w64 (Int.fdiv (IntKind.wrap .u64 (w64 (a1 + a3))) (2 ^ (min (Int.toNat 1) (IntKind.bits .u64))))) (w64 ((w64 ((w64 (Int.fdiv (IntKind.wrap .u64 (w64 (a1 + a3))) (2 ^ (min (Int.toNat 1) (IntKind.bits .u64))))) + a2)) - n183)) a3 l201).bind fun y220 => if y220.length = l201.length then some y220 else none
  else some l201
  else some l201) (fun k200 => if (decide (a2 < (w64 ((w64 ((w64 (Int.fdiv (IntKind.wrap .u64 (w64 (a1 + a3))) (2 ^ (min (Int.toNat 1) (IntKind.bits .u64))))) + a2)) - n183)))) = true then (M181 F n183 a2 (w64 ((w64 ((w64 (Int.fdiv (IntKind.wrap .u64 (w64 (a1 + a3))) (2 ^ (min (Int.toNat 1) (IntKind.bits .u64))))) + a2)) - n183)) a4).bind fun y203 => if y203.length = a4.length then k200 y203 else none
  else k200 a4)
  else if (decide (a1 < n183)) = true then jn (fun (l225 : List TWindow) => if (decide ((w64 (Int.fdiv (IntKind.wrap .u64 (w64 (a1 + a3))) (2 ^ (min (Int.toNat 1) (IntKind.bits .u64))))) < (w64 ((w64 ((w64 (Int.fdiv (IntKind.wrap .u64 (w64 (a1 + a3))) (2 ^ (min (Int.toNat 1) (IntKind.bits .u64))))) + a2)) - n183)))) = true then if (decide ((w64 ((w64 ((w64 (Int.fdiv (IntKind.wrap .u64 (w64 (a1 + a3))) (2 ^ (min (Int.toNat 1) (IntKind.bits .u64))))) + a2)) - n183)) < a3)) = true then (R172 (w64 (Int.fdiv (IntKind.wrap .u64 (w64 (a1 + a3))) (2 ^ (min (Int.toNat 1) (IntKind.bits .u64))))) (w64 ((w64 ((w64 (Int.fdiv (IntKind.wrap .u64 (w64 (a1 + a3))) (2 ^ (min (Int.toNat 1) (IntKind.bits .u64))))) + a2)) - n183)) a3 l225).bind fun y232 => if y232.length = l225.length then some y232 else none
  else some l225
  else some l225) (fun k224 => if (decide (n183 < (w64 (Int.fdiv (IntKind.wrap .u64 (w64 (a1 + a3))) (2 ^ (min (Int.toNat 1) (IntKind.bits .u64))))))) = true then (R172 a1 n183 (w64 (Int.fdiv (IntKind.wrap .u64 (w64 (a1 + a3))) (2 ^ (min (Int.toNat 1) (IntKind.bits .u64))))) a4).bind fun y227 => if y227.length = a4.length then k224 y227 else none
  else k224 a4)
  else if (decide ((w64 (Int.fdiv (IntKind.wrap .u64 (w64 (a1 + a3))) (2 ^ (min (Int.toNat 1) (IntKind.bits .u64))))) < (w64 ((w64 ((w64 (Int.fdiv (IntKind.wrap .u64 (w64 (a1 + a3))) (2 ^ (min (Int.toNat 1) (IntKind.bits .u64))))) + a2)) - n183)))) = true then if (decide ((w64 ((w64 ((w64 (Int.fdiv (IntKind.wrap .u64 (w64 (a1 + a3))) (2 ^ (min (Int.toNat 1) (IntKind.bits .u64))))) + a2)) - n183)) < a3)) = true then (R172 (w64 (Int.fdiv (IntKind.wrap .u64 (w64 (a1 + a3))) (2 ^ (min (Int.toNat 1) (IntKind.bits .u64))))) (w64 ((w64 ((w64 (Int.fdiv (IntKind.wrap .u64 (w64 (a1 + a3))) (2 ^ (min (Int.toNat 1) (IntKind.bits .u64))))) + a2)) - n183)) a3 a4).bind fun y237 => if y237.length = a4.length then some y237 else none
  else some a4
  else some a4) (fun k182 => M172_L5 F a1 a2 a3 a4 k182 F n179 n180)) (fun k178 => if (decide (a2 > (w64 (Int.fdiv (IntKind.wrap .u64 (w64 (a1 + a3))) (2 ^ (min (Int.toNat 1) (IntKind.bits .u64))))))) = true then k178 (w64 ((w64 ((w64 (Int.fdiv (IntKind.wrap .u64 (w64 (a1 + a3))) (2 ^ (min (Int.toNat 1) (IntKind.bits .u64))))) + a2)) - a3)) (w64 (Int.fdiv (IntKind.wrap .u64 (w64 (a1 + a3))) (2 ^ (min (Int.toNat 1) (IntKind.bits .u64)))))
  else k178 a1 a2)
def M172 : Nat → Int → Int → Int → (List TWindow) → Option (List TWindow)
  | 0, _, _, _, _ => none
  | F + 1, a1, a2, a3, a4 => M172_B (M172 F) F a1 a2 a3 a4
def M157_L3 (F : Nat) (a1 : Int) (n64 : Int) (k69 : Int → (List TWindow) → Option (List TWindow)) : Nat → Int → Int → (List TWindow) → Option (List TWindow)
  | 0, _, _, _ => none
  | n + 1, n75, n76, l77 => if (decide (n76 ≤ a1)) = true then (M172 F n75 (w64 (n75 + n64)) n76 l77).bind fun y79 => if y79.length = l77.length then M157_L3 F a1 n64 k69 n n76 (w64 (n76 + (w64 (2 * n64)))) y79 else none
  else k69 n75 l77
def M157_L2 (F : Nat) (a1 : Int) : Nat → Int → (List TWindow) → Option (List TWindow)
  | 0, _, _ => none
  | n + 1, n64, l65 => if (decide (n64 < a1)) = true then jn (fun (l68 : List TWindow) => M157_L2 F a1 n (w64 (n64 * 2)) l68) (fun k67 => jn (fun (n70 : Int) (l71 : List TWindow) => jn (fun (l83 : List TWindow) => k67 l83) (fun k82 => if (decide ((w64 (n70 + n64)) < a1)) = true then (M172 F n70 (w64 (n70 + n64)) a1 l71).bind fun y85 => if y85.length = l71.length then k82 y85 else none
  else k82 l71)) (fun k69 => M157_L3 F a1 n64 k69 F 0 (w64 (2 * n64)) l65))
  else some l65
def M157_L1 (F : Nat) (a1 : Int) (k46 : Int → (List TWindow) → Option (List TWindow)) : Nat → Int → Int → (List TWindow) → Option (List TWindow)
  | 0, _, _, _ => none
  | n + 1, n52, n53, l54 => if (decide (n53 ≤ a1)) = true then (M171 F n52 n53 l54).bind fun y56 => if y56.length = l54.length then M157_L1 F a1 k46 n n53 (w64 (n53 + 20)) y56 else none
  else k46 n52 l54
def M157 (F : Nat) (a1 : Int) (a2 : List TWindow) : Option (List TWindow) :=
  jn (fun (n47 : Int) (l48 : List TWindow) => (M171 F n47 a1 l48).bind fun y59 => if y59.length = l48.length then M157_L2 F a1 F 20 y59 else none) (fun k46 => M157_L1 F a1 k46 F 0 20 a2)
def M148 (F : Nat) (a1 : List TWindow) : Option (List TWindow) :=
  (M157 F ((a1.length : Nat) : Int) a1).bind fun y6 => if y6.length = a1.length then some y6 else none
def M133 (F : Nat) (a1 : (List TWindow)) : Option (List TWindow) :=
  (M147 F a1).bind fun y2 => (M148 F y2).bind fun y4 => if y4.length = y2.length then some y4 else none
def M98_L2 (F : Nat) (a1 : TStory) (k31 : (List TWindow) → Option (List TWindow)) : Nat → Int → (List TWindow) → Option (List TWindow)
  | 0, n35, l36 => k31 l36
  | tl2 + 1, n35, l36 => (idx l36 n35).bind fun x38 => (idx l36 n35).bind fun x40 => M98_L2 F a1 k31 tl2 (n35 + 1) (l36.set n35.toNat (TWindow.mk x40.Advisory x40.Component x40.Severity x40.From x40.To (x38.To == a1.Until)))
def M98_L1 (F : Nat) (k4 : (List TWindow) → Option (List TWindow)) : List Thistory_piece → (List TWindow) → (List (Thistory_key × Int)) → Option (List TWindow)
  | [], l10, m11 => k4 l10
  | x16 :: tl1, l10, m11 => jn (fun (l14 : List TWindow) (m15 : List (Thistory_key × Int)) => M98_L1 F k4 tl1 l14 m15) (fun k13 => (M84 F x16.x).bind fun y18 => if ((mget m11 y18).isSome) = true then (idx l10 ((mget m11 y18).getD 0)).bind fun x21 => if (x21.To == x16.from_) = true then (idx l10 ((mget m11 y18).getD 0)).bind fun x24 => (idx (l10.set ((mget m11 y18).getD 0).toNat (TWindow.mk x24.Advisory x24.Component x24.Severity x24.From x16.to x24.Open)) ((mget m11 y18).getD 0)).bind fun x26 => k13 ((l10.set ((mget m11 y18).getD 0).toNat (TWindow.mk x24.Advisory x24.Component x24.Severity x24.From x16.to x24.Open)).set ((mget m11 y18).getD 0).toNat (TWindow.mk x26.Advisory x26.Component x16.x.Severity x26.From x26.To x26.Open)) m11
 else if (l10 ++ ([(TWindow.mk x16.x.Advisory x16.x.Component x16.x.Severity x16.from_ x16.to false)] : List TWindow)).length * 64 ≤ 140737488355328 then k13 (l10 ++ ([(TWindow.mk x16.x.Advisory x16.x.Component x16.x.Severity x16.from_ x16.to false)] : List TWindow)) (mput m11 y18 ((l10.length : Nat) : Int)) else none
 else if (l10 ++ ([(TWindow.mk x16.x.Advisory x16.x.Component x16.x.Severity x16.from_ x16.to false)] : List TWindow)).length * 64 ≤ 140737488355328 then k13 (l10 ++ ([(TWindow.mk x16.x.Advisory x16.x.Component x16.x.Severity x16.from_ x16.to false)] : List TWindow)) (mput m11 y18 ((l10.length : Nat) : Int)) else none)
def M98 (F : Nat) (a1 : TStory) : Option (List TWindow) :=
  (M90 F a1).bind fun y2 => jn (fun (l5 : List TWindow) => jn (fun (l32 : List TWindow) => (M133 F l32).bind fun y43 => some y43) (fun k31 => M98_L2 F a1 k31 ((((l5.length : Nat) : Int)).toNat) 0 l5)) (fun k4 => M98_L1 F k4 y2 ([] : List TWindow) ([] : List (Thistory_key × Int)))
def M118_L2 (F : Nat) (a1 : Tprovenderref11_view) (x11 : TRelease) (n14 : Int) (k18 : (List Tprovenderref11_stretch) → Option (List Tprovenderref11_stretch)) : List TExposure → (List Tprovenderref11_stretch) → Option (List Tprovenderref11_stretch)
  | [], l23 => k18 l23
  | x25 :: tl2, l23 => jn (fun (n28 : Int) => jn (fun (l31 : List Tprovenderref11_stretch) => M118_L2 F a1 x11 n14 k18 tl2 l31) (fun k30 => if (decide ((if ((mget a1.known x25.Advisory).getD (TPublished.mk ([] : List UInt8) 0 0)).Day > x11.Day then ((mget a1.known x25.Advisory).getD (TPublished.mk ([] : List UInt8) 0 0)).Day else x11.Day) < n28)) = true then if (l23 ++ ([(Tprovenderref11_stretch.mk x25 (if ((mget a1.known x25.Advisory).getD (TPublished.mk ([] : List UInt8) 0 0)).Day > x11.Day then ((mget a1.known x25.Advisory).getD (TPublished.mk ([] : List UInt8) 0 0)).Day else x11.Day) n28)] : List Tprovenderref11_stretch)).length * 56 ≤ 140737488355328 then k30 (l23 ++ ([(Tprovenderref11_stretch.mk x25 (if ((mget a1.known x25.Advisory).getD (TPublished.mk ([] : List UInt8) 0 0)).Day > x11.Day then ((mget a1.known x25.Advisory).getD (TPublished.mk ([] : List UInt8) 0 0)).Day else x11.Day) n28)] : List Tprovenderref11_stretch)) else none
 else k30 l23)) (fun k27 => if (((mget a1.known x25.Advisory).getD (TPublished.mk ([] : List UInt8) 0 0)).Ended != (-1)) = true then k27 (if ((mget a1.known x25.Advisory).getD (TPublished.mk ([] : List UInt8) 0 0)).Ended < n14 then ((mget a1.known x25.Advisory).getD (TPublished.mk ([] : List UInt8) 0 0)).Ended else n14)
 else k27 n14)
def M118_L1 (F : Nat) (a1 : Tprovenderref11_view) (k2 : (List Tprovenderref11_stretch) → Option (List Tprovenderref11_stretch)) : List TRelease → Int → (List Tprovenderref11_stretch) → Option (List Tprovenderref11_stretch)
  | [], n6, l7 => k2 l7
  | x11 :: tl1, n6, l7 => jn (fun (l10 : List Tprovenderref11_stretch) => M118_L1 F a1 k2 tl1 (n6 + 1) l10) (fun k9 => jn (fun (n14 : Int) => jn (fun (l19 : List Tprovenderref11_stretch) => k9 l19) (fun k18 => M118_L2 F a1 x11 n14 k18 x11.Exposures l7)) (fun k13 => if (decide ((w64 (n6 + 1)) < ((a1.s.Releases.length : Nat) : Int))) = true then (idx a1.s.Releases (w64 (n6 + 1))).bind fun x16 => k13 x16.Day
 else k13 a1.s.Until))
def M118 (F : Nat) (a1 : Tprovenderref11_view) : Option (List Tprovenderref11_stretch) :=
  jn (fun (l3 : List Tprovenderref11_stretch) => some l3) (fun k2 => M118_L1 F a1 k2 a1.s.Releases 0 ([] : List Tprovenderref11_stretch))
def M150 (F : Nat) (a1 : TWindow) (a2 : TWindow) : Option Bool :=
  if (decide (a1.From < a2.From)) = true then some true
  else if (a1.From == a2.From) = true then (M132 F (TExposure.mk a1.Advisory a1.Component 0) (TExposure.mk a2.Advisory a2.Component 0)).bind fun y5 => some y5
  else some false
def M135_L1 (F : Nat) (k9 : (List TWindow) → Option (List TWindow)) : Nat → (List TWindow) → (List TWindow) → (List TWindow) → Option (List TWindow)
  | 0, _, _, _ => none
  | n + 1, l14, l15, l16 => if (decide (((l14.length : Nat) : Int) > 0)) = true then if (((l15.length : Nat) : Int) == 0) = true then (idx l14 0).bind fun x19 => if (l16 ++ ([x19] : List TWindow)).length * 64 ≤ 140737488355328 then if 1 ≤ l14.length then M135_L1 F k9 n (l14.drop 1) l15 (l16 ++ ([x19] : List TWindow)) else none else none
  else (idx l14 0).bind fun x23 => (idx l15 0).bind fun x25 => (M150 F x23 x25).bind fun y27 => jn (fun (l30 : List TWindow) (l31 : List TWindow) (l32 : List TWindow) => M135_L1 F k9 n l30 l31 l32) (fun k29 => if y27 = true then (idx l14 0).bind fun x34 => if (l16 ++ ([x34] : List TWindow)).length * 64 ≤ 140737488355328 then if 1 ≤ l14.length then k29 (l14.drop 1) l15 (l16 ++ ([x34] : List TWindow)) else none else none
  else (idx l15 0).bind fun x38 => if (l16 ++ ([x38] : List TWindow)).length * 64 ≤ 140737488355328 then if 1 ≤ l15.length then k29 l14 (l15.drop 1) (l16 ++ ([x38] : List TWindow)) else none else none)
  else if (decide (((l15.length : Nat) : Int) > 0)) = true then if (((l15.length : Nat) : Int) == 0) = true then (idx l14 0).bind fun x44 => if (l16 ++ ([x44] : List TWindow)).length * 64 ≤ 140737488355328 then if 1 ≤ l14.length then M135_L1 F k9 n (l14.drop 1) l15 (l16 ++ ([x44] : List TWindow)) else none else none
  else (idx l15 0).bind fun x48 => if (l16 ++ ([x48] : List TWindow)).length * 64 ≤ 140737488355328 then if 1 ≤ l15.length then M135_L1 F k9 n l14 (l15.drop 1) (l16 ++ ([x48] : List TWindow)) else none else none
  else k9 l16
def M135_B (R135 : (List TWindow) → Option (List TWindow)) (F : Nat) (a1 : (List TWindow)) : Option (List TWindow) :=
  if (decide (((a1.length : Nat) : Int) < 2)) = true then some a1
  else if 0 ≤ (w64 (Int.tdiv ((a1.length : Nat) : Int) 2)) ∧ (w64 (Int.tdiv ((a1.length : Nat) : Int) 2)).toNat ≤ a1.length then (R135 (a1.take (w64 (Int.tdiv ((a1.length : Nat) : Int) 2)).toNat)).bind fun y4 => if 0 ≤ (w64 (Int.tdiv ((a1.length : Nat) : Int) 2)) ∧ (w64 (Int.tdiv ((a1.length : Nat) : Int) 2)).toNat ≤ a1.length then (R135 (a1.drop (w64 (Int.tdiv ((a1.length : Nat) : Int) 2)).toNat)).bind fun y7 => jn (fun (l10 : List TWindow) => some l10) (fun k9 => M135_L1 F k9 F y4 y7 ([] : List TWindow)) else none else none
def M135 : Nat → (List TWindow) → Option (List TWindow)
  | 0, _ => none
  | F + 1, a1 => M135_B (M135 F) F a1
def M99_L2 (F : Nat) (a1 : TStory) (k31 : (List TWindow) → Option (List TWindow)) : Nat → Int → (List TWindow) → Option (List TWindow)
  | 0, n35, l36 => k31 l36
  | tl2 + 1, n35, l36 => (idx l36 n35).bind fun x38 => (idx l36 n35).bind fun x40 => M99_L2 F a1 k31 tl2 (n35 + 1) (l36.set n35.toNat (TWindow.mk x40.Advisory x40.Component x40.Severity x40.From x40.To (x38.To == a1.Until)))
def M99_L1 (F : Nat) (k6 : (List TWindow) → Option (List TWindow)) : List Tprovenderref11_stretch → (List TWindow) → (List (TExposure × Int)) → Option (List TWindow)
  | [], l12, m13 => k6 l12
  | x18 :: tl1, l12, m13 => jn (fun (l16 : List TWindow) (m17 : List (TExposure × Int)) => M99_L1 F k6 tl1 l16 m17) (fun k15 => if (decide (((mget m13 (TExposure.mk x18.x.Advisory x18.x.Component 0)).getD 0) > 0)) = true then (idx l12 (w64 (((mget m13 (TExposure.mk x18.x.Advisory x18.x.Component 0)).getD 0) - 1))).bind fun x21 => if (x21.To == x18.from_) = true then (idx l12 (w64 (((mget m13 (TExposure.mk x18.x.Advisory x18.x.Component 0)).getD 0) - 1))).bind fun x24 => (idx (l12.set (w64 (((mget m13 (TExposure.mk x18.x.Advisory x18.x.Component 0)).getD 0) - 1)).toNat (TWindow.mk x24.Advisory x24.Component x24.Severity x24.From x18.to x24.Open)) (w64 (((mget m13 (TExposure.mk x18.x.Advisory x18.x.Component 0)).getD 0) - 1))).bind fun x26 => k15 ((l12.set (w64 (((mget m13 (TExposure.mk x18.x.Advisory x18.x.Component 0)).getD 0) - 1)).toNat (TWindow.mk x24.Advisory x24.Component x24.Severity x24.From x18.to x24.Open)).set (w64 (((mget m13 (TExposure.mk x18.x.Advisory x18.x.Component 0)).getD 0) - 1)).toNat (TWindow.mk x26.Advisory x26.Component x18.x.Severity x26.From x26.To x26.Open)) m13
 else if (l12 ++ ([(TWindow.mk x18.x.Advisory x18.x.Component x18.x.Severity x18.from_ x18.to false)] : List TWindow)).length * 64 ≤ 140737488355328 then k15 (l12 ++ ([(TWindow.mk x18.x.Advisory x18.x.Component x18.x.Severity x18.from_ x18.to false)] : List TWindow)) (mput m13 (TExposure.mk x18.x.Advisory x18.x.Component 0) (((l12 ++ ([(TWindow.mk x18.x.Advisory x18.x.Component x18.x.Severity x18.from_ x18.to false)] : List TWindow)).length : Nat) : Int)) else none
 else if (l12 ++ ([(TWindow.mk x18.x.Advisory x18.x.Component x18.x.Severity x18.from_ x18.to false)] : List TWindow)).length * 64 ≤ 140737488355328 then k15 (l12 ++ ([(TWindow.mk x18.x.Advisory x18.x.Component x18.x.Severity x18.from_ x18.to false)] : List TWindow)) (mput m13 (TExposure.mk x18.x.Advisory x18.x.Component 0) (((l12 ++ ([(TWindow.mk x18.x.Advisory x18.x.Component x18.x.Severity x18.from_ x18.to false)] : List TWindow)).length : Nat) : Int)) else none)
def M99 (F : Nat) (a1 : TStory) : Option (List TWindow) :=
  (M91 F a1).bind fun y2 => (M118 F y2).bind fun y4 => jn (fun (l7 : List TWindow) => jn (fun (l32 : List TWindow) => (M135 F l32).bind fun y43 => some y43) (fun k31 => M99_L2 F a1 k31 ((((l7.length : Nat) : Int)).toNat) 0 l7)) (fun k6 => M99_L1 F k6 y4 ([] : List TWindow) ([] : List (TExposure × Int)))
def M50_L1 (F : Nat) (a2 : (List TTerm)) (y13 : Thistory_week) (k17 : (List TLate) → Option ((List TLate) × Int)) : List TWindow → (List TLate) → Option ((List TLate) × Int)
  | [], l22 => k17 l22
  | x26 :: tl1, l22 => jn (fun (l25 : List TLate) => M50_L1 F a2 y13 k17 tl1 l25) (fun k24 => (M79 F y13 a2 x26).bind fun y28 => if ((y28.2.2) != 0) = true then some (([] : List TLate), (y28.2.2))
 else if (y28.2.1) = true then jn (fun (l33 : List TLate) => k24 l33) (fun k32 => if (decide (x26.To > (y28.1))) = true then (M71 F y13 x26.To).bind fun y35 => (M71 F y13 (y28.1)).bind fun y37 => if (l22 ++ ([(TLate.mk x26 (y28.1) (w64 (y35 - y37)))] : List TLate)).length * 80 ≤ 140737488355328 then k32 (l22 ++ ([(TLate.mk x26 (y28.1) (w64 (y35 - y37)))] : List TLate)) else none
 else k32 l22)
 else k24 l22)
def M50 (F : Nat) (a1 : TCalendar) (a2 : (List TTerm)) (a3 : TStory) : Option ((List TLate) × Int) :=
  (M21 F a1).bind fun y4 => if (y4 != 0) = true then some (([] : List TLate), y4)
  else (M26 F a2).bind fun y7 => if (y7 != 0) = true then some (([] : List TLate), y7)
  else (M35 F a3).bind fun y10 => if (y10 != 0) = true then some (([] : List TLate), y10)
  else (M70 F a1).bind fun y13 => (M98 F a3).bind fun y15 => jn (fun (l18 : List TLate) => some (l18, 0)) (fun k17 => M50_L1 F a2 y13 k17 y15 ([] : List TLate))
def M51_L1 (F : Nat) (a2 : (List TTerm)) (y13 : Tprovenderref11_calendar) (k17 : (List TLate) → Option ((List TLate) × Int)) : List TWindow → (List TLate) → Option ((List TLate) × Int)
  | [], l22 => k17 l22
  | x26 :: tl1, l22 => jn (fun (l25 : List TLate) => M51_L1 F a2 y13 k17 tl1 l25) (fun k24 => (M80 F a2 x26.Severity).bind fun y28 => if (!(y28.2)) = true then k24 l22
 else (M77 F y13 x26.From (y28.1).Days).bind fun y31 => if (!(y31.2)) = true then some (([] : List TLate), 3)
 else jn (fun (l35 : List TLate) => k24 l35) (fun k34 => if (decide (x26.To > (y31.1))) = true then (M75 F y13 (y31.1) x26.To).bind fun y37 => if (l22 ++ ([(TLate.mk x26 (y31.1) y37)] : List TLate)).length * 80 ≤ 140737488355328 then k34 (l22 ++ ([(TLate.mk x26 (y31.1) y37)] : List TLate)) else none
 else k34 l22))
def M51 (F : Nat) (a1 : TCalendar) (a2 : (List TTerm)) (a3 : TStory) : Option ((List TLate) × Int) :=
  (M22 F a1).bind fun y4 => if (y4 != 0) = true then some (([] : List TLate), y4)
  else (M27 F a2).bind fun y7 => if (y7 != 0) = true then some (([] : List TLate), y7)
  else (M36 F a3).bind fun y10 => if (y10 != 0) = true then some (([] : List TLate), y10)
  else (M73 F a1).bind fun y13 => (M99 F a3).bind fun y15 => jn (fun (l18 : List TLate) => some (l18, 0)) (fun k17 => M51_L1 F a2 y13 k17 y15 ([] : List TLate))
def M52_L1 (F : Nat) (a2 : (List TLate)) (k4 : Option Bool) : List TLate → Int → Option Bool
  | [], n6 => k4
  | x8 :: tl1, n6 => (idx a2 n6).bind fun x10 => if (!(decide (x8 = x10))) = true then some false
 else M52_L1 F a2 k4 tl1 (n6 + 1)
def M52 (F : Nat) (a1 : (List TLate)) (a2 : (List TLate)) : Option Bool :=
  if (((a1.length : Nat) : Int) != ((a2.length : Nat) : Int)) = true then some false
  else jn (some true) (fun k4 => M52_L1 F a2 k4 a1 0)
def M55 (F : Nat) (a1 : (List Int)) : Option (List Int) :=
  nilq a1.length (fun b7 => if b7 = true then some ([] : List Int)
  else if (([] : List Int) ++ a1).length * 8 ≤ 140737488355328 then some (([] : List Int) ++ a1) else none)
def M54 (F : Nat) (a1 : Int) (a2 : List Int) (a3 : Int) : Option (List Int) := if [a3] ≠ [] ∧ (0 ≤ a1 ∧ a1.toNat ≤ a2.length) ∧ (a2.length + [a3].length) * 8 ≤ 140737488355328 then some (insL a2 a1.toNat [a3]) else none
def M57 (F : Nat) (a1 : TLate) (a2 : List UInt8) (a3 : List UInt8) (a4 : Int) (a5 : Int) (a6 : Int) (a7 : Bool) (a8 : Int) (a9 : Int) : Option Bool :=
  if (decide (a1.Window = (TWindow.mk a2 a3 a4 a5 a6 a7))) = true then some (decide (a1.Due ≤ a8))
  else some false
def M112_L1 (F : Nat) (a2 : List UInt8) (a3 : List UInt8) (a4 : Int) (a5 : Int) (a6 : Int) (a7 : Bool) (a8 : Int) (a9 : Int) (k10 : Option Int) : List TLate → Int → Option Int
  | [], n12 => k10
  | x14 :: tl1, n12 => (M57 F x14 a2 a3 a4 a5 a6 a7 a8 a9).bind fun y16 => if y16 = true then some n12
 else M112_L1 F a2 a3 a4 a5 a6 a7 a8 a9 k10 tl1 (n12 + 1)
def M112 (F : Nat) (a1 : (List TLate)) (a2 : List UInt8) (a3 : List UInt8) (a4 : Int) (a5 : Int) (a6 : Int) (a7 : Bool) (a8 : Int) (a9 : Int) : Option Int :=
  jn (some (-1)) (fun k10 => M112_L1 F a2 a3 a4 a5 a6 a7 a8 a9 k10 a1 0)
def M56 (F : Nat) (a1 : (List TLate)) (a2 : List UInt8) (a3 : List UInt8) (a4 : Int) (a5 : Int) (a6 : Int) (a7 : Bool) (a8 : Int) (a9 : Int) : Option Bool :=
  (M112 F a1 a2 a3 a4 a5 a6 a7 a8 a9).bind fun y10 => some (decide (y10 ≥ 0))
def M13_L1 (F : Nat) (y5 : ((List TLate) × Int)) (k38 : Option Bool) : List TLate → Option Bool
  | [] => k38
  | x42 :: tl1 => (M56 F (y5.1) x42.Window.Advisory x42.Window.Component x42.Window.Severity x42.Window.From x42.Window.To x42.Window.Open x42.Due x42.WorkDays).bind fun y44 => if (!y44) = true then some false
 else M13_L1 F y5 k38 tl1
def M13 (F : Nat) (a1 : TCalendar) (a2 : (List TTerm)) (a3 : TStory) (a4 : Int) : Option Bool :=
  (M50 F a1 a2 a3).bind fun y5 => (M51 F a1 a2 a3).bind fun y7 => (M52 F (y5.1) (y7.1)).bind fun y9 => if (!y9) = true then some false
  else if ((y5.2) != (y7.2)) = true then some false
  else (M53 F a1.Holidays a4).bind fun y13 => if ((y5.2) != 0) = true then (M23 F).bind fun y16 => some y16
  else if (y13.2) = true then (M23 F).bind fun y19 => some y19
  else (M21 F a1).bind fun y21 => if (y21 != 0) = true then (M23 F).bind fun y24 => some y24
  else (M55 F a1.Holidays).bind fun y26 => (M54 F (y13.1) y26 a4).bind fun y28 => (M50 F (TCalendar.mk a1.Free y28) a2 a3).bind fun y30 => if ((y30.2) != 0) = true then (M51 F (TCalendar.mk a1.Free y28) a2 a3).bind fun y33 => if ((y30.2) == (y33.2)) = true then (M23 F).bind fun y36 => some y36
  else some false
  else jn ((M23 F).bind fun y48 => some y48) (fun k38 => M13_L1 F y5 k38 (y30.1))
end
end Go.Proofs.Ytkciogeafbbggaa
