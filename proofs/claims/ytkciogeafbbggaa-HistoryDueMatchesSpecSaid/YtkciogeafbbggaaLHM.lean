/- Part of the proof: HM. -/
import Derived.Test.YtkciogeafbbggaaLHT
namespace Go.Proofs.Ytkciogeafbbggaa
open Go Go.Pv
set_option linter.unusedVariables false
set_option maxRecDepth 100000
noncomputable section
/-! provender/history.rising -/
def M78_L1 (F : Nat) (a1 : (List Int)) (a2 : Int) (k3 : Option Int) : Nat → Int → Option Int
  | 0, _ => none
  | n + 1, n5 => if (decide (n5 < ((a1.length : Nat) : Int))) = true then (idx a1 n5).bind fun x7 => if (decide (x7 < 0)) = true then some 9
  else jn (M78_L1 F a1 a2 k3 n (w64 (n5 + 1))) (fun k10 => if (decide (x7 > a2)) = true then some 9
  else if (decide (n5 > 0)) = true then (idx a1 (w64 (n5 - 1))).bind fun x13 => if (decide (x7 ≤ x13)) = true then some 10
  else k10
  else k10)
  else k3

def M78 (F : Nat) (a1 : (List Int)) (a2 : Int) : Option Int :=
  jn (some 0) (fun k3 => M78_L1 F a1 a2 k3 F 0)

/-! provender/history.CheckCalendar -/
def M21 (F : Nat) (a1 : TCalendar) : Option Int :=
  if (decide (((a1.Free.length : Nat) : Int) > 6)) = true then some 3
  else if (decide (((a1.Holidays.length : Nat) : Int) > 2000)) = true then some 3
  else (M78 F a1.Free 6).bind fun y4 => if (y4 != 0) = true then some y4
  else (M78 F a1.Holidays 1000000).bind fun y7 => some y7

/-! provender/history.isDay -/
def M69 (F : Nat) (a1 : Int) : Option Bool :=
  if (decide (a1 ≥ 0)) = true then some (decide (a1 ≤ 1000000))
  else some false

/-! provender/history.weekOf -/
def M70_L2 (F : Nat) (a1 : TCalendar) (f3 : Nat → Bool) (k12 : (List Int) → Option Thistory_week) : Nat → Int → (List Int) → Option Thistory_week
  | 0, _, _ => none
  | n + 1, n16, l17 => if (decide (n16 < ((a1.Holidays.length : Nat) : Int))) = true then (idx a1.Holidays n16).bind fun x19 => if 0 ≤ (Int.tmod x19 7) ∧ (Int.tmod x19 7).toNat < 7 then jn (fun (l23 : List Int) => M70_L2 F a1 f3 k12 n (w64 (n16 + 1)) l23) (fun k22 => if (!(f3 (Int.tmod x19 7).toNat)) = true then if (l17 ++ ([x19] : List Int)).length * 8 ≤ 140737488355328 then k22 (l17 ++ ([x19] : List Int)) else none
  else k22 l17) else none
  else k12 l17

def M70_L1 (F : Nat) (a1 : TCalendar) (k2 : (Nat → Bool) → Option Thistory_week) : Nat → Int → (Nat → Bool) → Option Thistory_week
  | 0, _, _ => none
  | n + 1, n6, f7 => if (decide (n6 < ((a1.Free.length : Nat) : Int))) = true then (idx a1.Free n6).bind fun x9 => if 0 ≤ x9 ∧ x9.toNat < 7 then M70_L1 F a1 k2 n (w64 (n6 + 1)) (upd f7 x9.toNat true) else none
  else k2 f7

def M70 (F : Nat) (a1 : TCalendar) : Option Thistory_week :=
  jn (fun (f3 : Nat → Bool) => jn (fun (l13 : List Int) => some (Thistory_week.mk f3 (w64 (7 - ((a1.Free.length : Nat) : Int))) l13)) (fun k12 => M70_L2 F a1 f3 k12 F 0 ([] : List Int))) (fun k2 => M70_L1 F a1 k2 F 0 (fun _ => false))

/-! cmp.isNaN[int] -/
def M140 (F : Nat) (a1 : Int) : Option Bool :=
  some (a1 != a1)

/-! cmp.Less[int] -/
def M108 (F : Nat) (a1 : Int) (a2 : Int) : Option Bool :=
  (M140 F a1).bind fun y3 => if y3 = true then (M140 F a2).bind fun y6 => if (!y6) = true then some true
  else some (decide (a1 < a2))
  else some (decide (a1 < a2))

/-! slices.isNaN[int] -/
def M109 (F : Nat) (a1 : Int) : Option Bool :=
  some (a1 != a1)

/-! slices.BinarySearch[[]int,int] -/
def M53_L1 (F : Nat) (a1 : (List Int)) (a2 : Int) (k3 : Int → Option (Int × Bool)) : Nat → Int → Int → Option (Int × Bool)
  | 0, _, _ => none
  | n + 1, n7, n8 => if (decide (n7 < n8)) = true then (idx a1 (w64 (Int.fdiv (IntKind.wrap .u64 (w64 (n7 + n8))) (2 ^ (min (Int.toNat 1) (IntKind.bits .u64)))))).bind fun x10 => (M108 F x10 a2).bind fun y12 => jn (fun (n15 : Int) (n16 : Int) => M53_L1 F a1 a2 k3 n n15 n16) (fun k14 => if y12 = true then k14 (w64 ((w64 (Int.fdiv (IntKind.wrap .u64 (w64 (n7 + n8))) (2 ^ (min (Int.toNat 1) (IntKind.bits .u64))))) + 1)) n8
  else k14 n7 (w64 (Int.fdiv (IntKind.wrap .u64 (w64 (n7 + n8))) (2 ^ (min (Int.toNat 1) (IntKind.bits .u64))))))
  else k3 n7

def M53 (F : Nat) (a1 : (List Int)) (a2 : Int) : Option (Int × Bool) :=
  jn (fun (n4 : Int) => if (decide (n4 < ((a1.length : Nat) : Int))) = true then (idx a1 n4).bind fun x19 => if (x19 == a2) = true then some (n4, true)
  else (idx a1 n4).bind fun x22 => (M109 F x22).bind fun y24 => if y24 = true then (M109 F a2).bind fun y27 => some (n4, y27)
  else some (n4, false)
  else some (n4, false)) (fun k3 => M53_L1 F a1 a2 k3 F 0 ((a1.length : Nat) : Int))

/-! (provender/history.week).count -/
def M71_L1 (F : Nat) (a1 : Thistory_week) (a2 : Int) (k3 : Int → Option Int) : Nat → Int → Int → Option Int
  | 0, _, _ => none
  | n + 1, n7, n8 => if (decide (n8 < (Int.tmod a2 7))) = true then if 0 ≤ n8 ∧ n8.toNat < 7 then jn (fun (n12 : Int) => M71_L1 F a1 a2 k3 n n12 (w64 (n8 + 1))) (fun k11 => if (!(a1.free n8.toNat)) = true then k11 (w64 (n7 + 1))
  else k11 n7) else none
  else k3 n7

def M71 (F : Nat) (a1 : Thistory_week) (a2 : Int) : Option Int :=
  jn (fun (n4 : Int) => (M53 F a1.holidays a2).bind fun y14 => some (w64 (n4 - (y14.1)))) (fun k3 => M71_L1 F a1 a2 k3 F (w64 ((w64 (Int.tdiv a2 7)) * a1.work)) 0)

/-! provender/history.IsWork -/
def M15 (F : Nat) (a1 : TCalendar) (a2 : Int) : Option (Bool × Int) :=
  (M21 F a1).bind fun y3 => if (y3 != 0) = true then some (false, y3)
  else (M69 F a2).bind fun y6 => if (!y6) = true then some (false, 9)
  else (M70 F a1).bind fun y9 => (M71 F y9 (w64 (a2 + 1))).bind fun y11 => (M71 F y9 a2).bind fun y13 => some ((decide (y11 > y13)), 0)

/-! provender/provenderref11.CheckCalendar -/
def M22_L2 (F : Nat) (a1 : TCalendar) (k19 : Option Int) : Nat → Int → Option Int
  | 0, _ => none
  | n + 1, n21 => if (decide (n21 < ((a1.Holidays.length : Nat) : Int))) = true then jn (fun (n24 : Int) (b25 : Bool) => M22_L2 F a1 k19 n (w64 (n21 + 1))) (fun k23 => (idx a1.Holidays n21).bind fun x26 => if (decide (x26 < 0)) = true then some 9
  else if (decide (x26 > 1000000)) = true then some 9
  else if (decide (n21 > 0)) = true then (idx a1.Holidays (w64 (n21 - 1))).bind fun x31 => if (decide (x26 ≤ x31)) = true then some 10
  else k23 x26 (decide (x26 > 1000000))
  else k23 x26 (decide (x26 > 1000000)))
  else k19

def M22_L1 (F : Nat) (a1 : TCalendar) (k4 : Option Int) : Nat → Int → Option Int
  | 0, _ => none
  | n + 1, n6 => if (decide (n6 < ((a1.Free.length : Nat) : Int))) = true then jn (fun (n9 : Int) (b10 : Bool) => M22_L1 F a1 k4 n (w64 (n6 + 1))) (fun k8 => (idx a1.Free n6).bind fun x11 => if (decide (x11 < 0)) = true then some 9
  else if (decide (x11 > 6)) = true then some 9
  else if (decide (n6 > 0)) = true then (idx a1.Free (w64 (n6 - 1))).bind fun x16 => if (decide (x11 ≤ x16)) = true then some 10
  else k8 x11 (decide (x11 > 6))
  else k8 x11 (decide (x11 > 6)))
  else k4

def M22 (F : Nat) (a1 : TCalendar) : Option Int :=
  if (decide (((a1.Free.length : Nat) : Int) > 6)) = true then some 3
  else if (decide (((a1.Holidays.length : Nat) : Int) > 2000)) = true then some 3
  else jn (jn (some 0) (fun k19 => M22_L2 F a1 k19 F 0)) (fun k4 => M22_L1 F a1 k4 F 0)

/-! provender/provenderref11.isDay -/
def M72 (F : Nat) (a1 : Int) : Option Bool :=
  if (decide (a1 ≥ 0)) = true then some (decide (a1 ≤ 1000000))
  else some false

/-! provender/provenderref11.calendarOf -/
def M73_L2 (F : Nat) (a1 : TCalendar) (k12 : (List (Int × Bool)) → Option Tprovenderref11_calendar) : Nat → Int → (List (Int × Bool)) → Option Tprovenderref11_calendar
  | 0, _, _ => none
  | n + 1, n16, m17 => if (decide (n16 < ((a1.Holidays.length : Nat) : Int))) = true then (idx a1.Holidays n16).bind fun x19 => M73_L2 F a1 k12 n (w64 (n16 + 1)) (mput m17 x19 true)
  else k12 m17

def M73_L1 (F : Nat) (a1 : TCalendar) (k2 : (Nat → Bool) → Option Tprovenderref11_calendar) : Nat → Int → (Nat → Bool) → Option Tprovenderref11_calendar
  | 0, _, _ => none
  | n + 1, n6, f7 => if (decide (n6 < ((a1.Free.length : Nat) : Int))) = true then (idx a1.Free n6).bind fun x9 => if 0 ≤ x9 ∧ x9.toNat < 7 then M73_L1 F a1 k2 n (w64 (n6 + 1)) (upd f7 x9.toNat true) else none
  else k2 f7

def M73 (F : Nat) (a1 : TCalendar) : Option Tprovenderref11_calendar :=
  jn (fun (f3 : Nat → Bool) => jn (fun (m13 : List (Int × Bool)) => some (Tprovenderref11_calendar.mk f3 m13)) (fun k12 => M73_L2 F a1 k12 F 0 ([] : List (Int × Bool)))) (fun k2 => M73_L1 F a1 k2 F 0 (fun _ => false))

/-! (provender/provenderref11.calendar).work -/
def M74 (F : Nat) (a1 : Tprovenderref11_calendar) (a2 : Int) : Option Bool :=
  if 0 ≤ (Int.tmod a2 7) ∧ (Int.tmod a2 7).toNat < 7 then if (!(a1.free (Int.tmod a2 7).toNat)) = true then some (!((mget a1.holidays a2).getD false))
  else some false else none

/-! provender/provenderref11.IsWork -/
def M16 (F : Nat) (a1 : TCalendar) (a2 : Int) : Option (Bool × Int) :=
  (M22 F a1).bind fun y3 => if (y3 != 0) = true then some (false, y3)
  else (M72 F a2).bind fun y6 => if (!y6) = true then some (false, 9)
  else (M73 F a1).bind fun y9 => (M74 F y9 a2).bind fun y11 => some (y11, 0)

/-! provender/history.WorkDays -/
def M17 (F : Nat) (a1 : TCalendar) (a2 : Int) (a3 : Int) : Option (Int × Int) :=
  (M21 F a1).bind fun y4 => if (y4 != 0) = true then some (0, y4)
  else (M69 F a2).bind fun y7 => if (!y7) = true then some (0, 9)
  else (M69 F a3).bind fun y10 => if (!y10) = true then some (0, 9)
  else if (decide (a2 > a3)) = true then some (0, 9)
  else (M70 F a1).bind fun y14 => (M71 F y14 a3).bind fun y16 => (M71 F y14 a2).bind fun y18 => some ((w64 (y16 - y18)), 0)

/-! (provender/provenderref11.calendar).count -/
def M75_L1 (F : Nat) (a1 : Tprovenderref11_calendar) (a3 : Int) (k4 : Int → Option Int) : Nat → Int → Int → Option Int
  | 0, _, _ => none
  | n + 1, n8, n9 => if (decide (n9 < a3)) = true then (M74 F a1 n9).bind fun y11 => jn (fun (n14 : Int) => M75_L1 F a1 a3 k4 n n14 (w64 (n9 + 1))) (fun k13 => if y11 = true then k13 (w64 (n8 + 1))
  else k13 n8)
  else k4 n8

def M75 (F : Nat) (a1 : Tprovenderref11_calendar) (a2 : Int) (a3 : Int) : Option Int :=
  jn (fun (n5 : Int) => some n5) (fun k4 => M75_L1 F a1 a3 k4 F 0 a2)

/-! provender/provenderref11.WorkDays -/
def M18 (F : Nat) (a1 : TCalendar) (a2 : Int) (a3 : Int) : Option (Int × Int) :=
  (M22 F a1).bind fun y4 => if (y4 != 0) = true then some (0, y4)
  else (M72 F a2).bind fun y7 => if (!y7) = true then some (0, 9)
  else (M72 F a3).bind fun y10 => if (!y10) = true then some (0, 9)
  else if (decide (a2 > a3)) = true then some (0, 9)
  else (M73 F a1).bind fun y14 => (M75 F y14 a2 a3).bind fun y16 => some (y16, 0)

/-! (provender/history.week).add$1 -/
def M126 (F : Nat) (a1 : Int) (a2 : Bool) (a3 : Bool) (a4 : Bool) (a5 : Bool) (a6 : Bool) (a7 : Bool) (a8 : Bool) (a9 : Int) (a10 : List Int) (a11 : Int) (a12 : Int) : Option Bool :=
  (M71 F (Thistory_week.mk (arrOf false [a2, a3, a4, a5, a6, a7, a8]) a9 a10) (w64 (a11 + a1))).bind fun y13 => some (decide (y13 ≥ a12))

/-! sort.Search -/
def M125_L1 (F : Nat) (a2 : Bool) (a3 : Bool) (a4 : Bool) (a5 : Bool) (a6 : Bool) (a7 : Bool) (a8 : Bool) (a9 : Int) (a10 : List Int) (a11 : Int) (a12 : Int) (k13 : Int → Option Int) : Nat → Int → Int → Option Int
  | 0, _, _ => none
  | n + 1, n17, n18 => if (decide (n17 < n18)) = true then (M126 F (w64 (Int.fdiv (IntKind.wrap .u64 (w64 (n17 + n18))) (2 ^ (min (Int.toNat 1) (IntKind.bits .u64))))) a2 a3 a4 a5 a6 a7 a8 a9 a10 a11 a12).bind fun y20 => jn (fun (n23 : Int) (n24 : Int) => M125_L1 F a2 a3 a4 a5 a6 a7 a8 a9 a10 a11 a12 k13 n n23 n24) (fun k22 => if (!y20) = true then k22 (w64 ((w64 (Int.fdiv (IntKind.wrap .u64 (w64 (n17 + n18))) (2 ^ (min (Int.toNat 1) (IntKind.bits .u64))))) + 1)) n18
  else k22 n17 (w64 (Int.fdiv (IntKind.wrap .u64 (w64 (n17 + n18))) (2 ^ (min (Int.toNat 1) (IntKind.bits .u64))))))
  else k13 n17

def M125 (F : Nat) (a1 : Int) (a2 : Bool) (a3 : Bool) (a4 : Bool) (a5 : Bool) (a6 : Bool) (a7 : Bool) (a8 : Bool) (a9 : Int) (a10 : List Int) (a11 : Int) (a12 : Int) : Option Int :=
  jn (fun (n14 : Int) => some n14) (fun k13 => M125_L1 F a2 a3 a4 a5 a6 a7 a8 a9 a10 a11 a12 k13 F 0 a1)

/-! (provender/history.week).add -/
def M76 (F : Nat) (a1 : Thistory_week) (a2 : Int) (a3 : Int) : Option (Int × Bool) :=
  (M71 F a1 a2).bind fun y4 => (M125 F (w64 (1000001 - a2)) (a1.free 0) (a1.free 1) (a1.free 2) (a1.free 3) (a1.free 4) (a1.free 5) (a1.free 6) a1.work a1.holidays a2 (w64 (y4 + a3))).bind fun y6 => some ((w64 (a2 + y6)), (decide ((w64 (a2 + y6)) ≤ 1000000)))

/-! provender/history.Add -/
def M19 (F : Nat) (a1 : TCalendar) (a2 : Int) (a3 : Int) : Option (Int × Int) :=
  (M21 F a1).bind fun y4 => if (y4 != 0) = true then some (0, y4)
  else (M69 F a2).bind fun y7 => if (!y7) = true then some (0, 9)
  else (M69 F a3).bind fun y10 => if (!y10) = true then some (0, 9)
  else (M70 F a1).bind fun y13 => (M76 F y13 a2 a3).bind fun y15 => if (!(y15.2)) = true then some (0, 3)
  else some ((y15.1), 0)

/-! (provender/provenderref11.calendar).add -/
def M77_L1 (F : Nat) (a1 : Tprovenderref11_calendar) (k4 : Int → Int → Option (Int × Bool)) : Nat → Int → Int → Option (Int × Bool)
  | 0, _, _ => none
  | n + 1, n9, n10 => if (decide (n9 > 0)) = true then if (decide (n10 ≤ 1000000)) = true then (M74 F a1 n10).bind fun y13 => jn (fun (n16 : Int) => M77_L1 F a1 k4 n n16 (w64 (n10 + 1))) (fun k15 => if y13 = true then k15 (w64 (n9 - 1))
  else k15 n9)
  else k4 n9 n10
  else k4 n9 n10

def M77 (F : Nat) (a1 : Tprovenderref11_calendar) (a2 : Int) (a3 : Int) : Option (Int × Bool) :=
  jn (fun (n5 : Int) (n6 : Int) => if (n5 == 0) = true then some (n6, (decide (n6 ≤ 1000000)))
  else some (n6, false)) (fun k4 => M77_L1 F a1 k4 F a3 a2)

/-! provender/provenderref11.Add -/
def M20 (F : Nat) (a1 : TCalendar) (a2 : Int) (a3 : Int) : Option (Int × Int) :=
  (M22 F a1).bind fun y4 => if (y4 != 0) = true then some (0, y4)
  else (M72 F a2).bind fun y7 => if (!y7) = true then some (0, 9)
  else (M72 F a3).bind fun y10 => if (!y10) = true then some (0, 9)
  else (M73 F a1).bind fun y13 => (M77 F y13 a2 a3).bind fun y15 => if (!(y15.2)) = true then some (0, 3)
  else some ((y15.1), 0)

/-! provender/provenderlaw11.told -/
def M23 (F : Nat) : Option Bool :=
  (M17 F (TCalendar.mk ([5, 6] : List Int) ([] : List Int)) 0 14).bind fun y1 => if ((y1.1) == 10) = true then some ((y1.2) == 0)
  else some false

/-! provender/provenderlaw11.HistoryDaysMatchSpec -/
def M3 (F : Nat) (a1 : TCalendar) (a2 : Int) (a3 : Int) (a4 : Int) : Option Bool :=
  (M15 F a1 a2).bind fun y5 => (M16 F a1 a2).bind fun y7 => (M17 F a1 a2 a3).bind fun y9 => (M18 F a1 a2 a3).bind fun y11 => (M19 F a1 a2 a4).bind fun y13 => (M20 F a1 a2 a4).bind fun y15 => (M21 F a1).bind fun y17 => (M22 F a1).bind fun y19 => if (y17 == y19) = true then if ((y5.1) == (y7.1)) = true then if ((y5.2) == (y7.2)) = true then if ((y9.1) == (y11.1)) = true then if ((y9.2) == (y11.2)) = true then if ((y13.1) == (y15.1)) = true then if ((y13.2) == (y15.2)) = true then (M23 F).bind fun y28 => some y28
  else some false
  else some false
  else some false
  else some false
  else some false
  else some false
  else some false

/-! provender/provenderlaw11.HistoryAddIsLeast -/
def M4 (F : Nat) (a1 : TCalendar) (a2 : Int) (a3 : Int) (a4 : Int) : Option Bool :=
  (M19 F a1 a2 a3).bind fun y5 => if ((y5.2) != 0) = true then (M20 F a1 a2 a3).bind fun y8 => if ((y5.2) == (y8.2)) = true then (M23 F).bind fun y11 => some y11
  else some false
  else (M17 F a1 a2 (y5.1)).bind fun y13 => if ((y13.2) != 0) = true then some false
  else if ((y13.1) != a3) = true then some false
  else if (a3 == 0) = true then if ((y5.1) != a2) = true then some false
  else jn (if (decide (a4 < a2)) = true then (M23 F).bind fun y26 => some y26
  else if (decide (a4 > (y5.1))) = true then (M23 F).bind fun y29 => some y29
  else (M17 F a1 a2 a4).bind fun y31 => (M17 F a1 a4 (y5.1)).bind fun y33 => if ((y31.2) == 0) = true then if ((y33.2) == 0) = true then if ((w64 ((y31.1) + (y33.1))) == a3) = true then (M23 F).bind fun y38 => some y38
  else some false
  else some false
  else some false) (fun k19 => if (decide (a3 > 0)) = true then (M15 F a1 (w64 ((y5.1) - 1))).bind fun y21 => if ((y21.2) != 0) = true then some false
  else if (!(y21.1)) = true then some false
  else k19
  else k19)
  else jn (if (decide (a4 < a2)) = true then (M23 F).bind fun y47 => some y47
  else if (decide (a4 > (y5.1))) = true then (M23 F).bind fun y50 => some y50
  else (M17 F a1 a2 a4).bind fun y52 => (M17 F a1 a4 (y5.1)).bind fun y54 => if ((y52.2) == 0) = true then if ((y54.2) == 0) = true then if ((w64 ((y52.1) + (y54.1))) == a3) = true then (M23 F).bind fun y59 => some y59
  else some false
  else some false
  else some false) (fun k40 => if (decide (a3 > 0)) = true then (M15 F a1 (w64 ((y5.1) - 1))).bind fun y42 => if ((y42.2) != 0) = true then some false
  else if (!(y42.1)) = true then some false
  else k40
  else k40)

/-! provender/history.CheckTerms -/
def M26_L1 (F : Nat) (a1 : (List TTerm)) (k4 : Option Int) : Nat → Int → Option Int
  | 0, _ => none
  | n + 1, n6 => if (decide (n6 < ((a1.length : Nat) : Int))) = true then (idx a1 n6).bind fun x8 => if (decide (x8.Severity < 0)) = true then some 9
  else if (decide (x8.Severity > 100)) = true then some 9
  else if (decide (x8.Days < 0)) = true then some 9
  else jn (M26_L1 F a1 k4 n (w64 (n6 + 1))) (fun k13 => if (decide (x8.Days > 10000)) = true then some 9
  else if (decide (n6 > 0)) = true then (idx a1 (w64 (n6 - 1))).bind fun x16 => if (decide (x8.Severity ≤ x16.Severity)) = true then some 10
  else k13
  else k13)
  else k4

def M26 (F : Nat) (a1 : (List TTerm)) : Option Int :=
  if (((a1.length : Nat) : Int) == 0) = true then some 13
  else if (decide (((a1.length : Nat) : Int) > 10)) = true then some 3
  else jn (some 0) (fun k4 => M26_L1 F a1 k4 F 0)

/-! (provender/history.week).due -/
def M79_L1 (F : Nat) (a2 : (List TTerm)) (a3 : TWindow) (k4 : Int → Option (Int × Bool × Int)) : Nat → Int → Int → Option (Int × Bool × Int)
  | 0, _, _ => none
  | n + 1, n8, n9 => if (decide (n9 < ((a2.length : Nat) : Int))) = true then (idx a2 n9).bind fun x11 => jn (fun (n14 : Int) => M79_L1 F a2 a3 k4 n n14 (w64 (n9 + 1))) (fun k13 => if (decide (x11.Severity ≤ a3.Severity)) = true then k13 x11.Days
  else k13 n8)
  else k4 n8

def M79 (F : Nat) (a1 : Thistory_week) (a2 : (List TTerm)) (a3 : TWindow) : Option (Int × Bool × Int) :=
  jn (fun (n5 : Int) => if (decide (n5 < 0)) = true then some (0, false, 0)
  else (M76 F a1 a3.From n5).bind fun y17 => if (!(y17.2)) = true then some (0, false, 3)
  else some ((y17.1), true, 0)) (fun k4 => M79_L1 F a2 a3 k4 F (-1) 0)

/-! provender/history.Due -/
def M24 (F : Nat) (a1 : TCalendar) (a2 : (List TTerm)) (a3 : TWindow) : Option (Int × Bool × Int) :=
  (M21 F a1).bind fun y4 => if (y4 != 0) = true then some (0, false, y4)
  else (M26 F a2).bind fun y7 => if (y7 != 0) = true then some (0, false, y7)
  else if (decide (a3.Severity < 0)) = true then some (0, false, 9)
  else if (decide (a3.Severity > 100)) = true then some (0, false, 9)
  else (M69 F a3.From).bind fun y12 => if (!y12) = true then some (0, false, 9)
  else (M70 F a1).bind fun y15 => (M79 F y15 a2 a3).bind fun y17 => some ((y17.1), (y17.2.1), (y17.2.2))

/-! provender/provenderref11.CheckTerms -/
def M27_L1 (F : Nat) (a1 : (List TTerm)) (k4 : Option Int) : Nat → Int → Option Int
  | 0, _ => none
  | n + 1, n6 => if (decide (n6 < ((a1.length : Nat) : Int))) = true then jn (fun (n9 : Int) (b10 : Bool) (n11 : Int) (b12 : Bool) (n13 : Int) (b14 : Bool) (n15 : Int) (n16 : Int) => M27_L1 F a1 k4 n (w64 (n6 + 1))) (fun k8 => (idx a1 n6).bind fun x17 => if (decide (x17.Severity < 0)) = true then some 9
  else if (decide (x17.Severity > 100)) = true then some 9
  else if (decide (x17.Days < 0)) = true then some 9
  else if (decide (x17.Days > 10000)) = true then some 9
  else if (decide (n6 > 0)) = true then (idx a1 (w64 (n6 - 1))).bind fun x24 => if (decide (x17.Severity ≤ x24.Severity)) = true then some 10
  else k8 x17.Severity (decide (x17.Severity > 100)) x17.Days (decide (x17.Days < 0)) x17.Days (decide (x17.Days > 10000)) x17.Severity x17.Days
  else k8 x17.Severity (decide (x17.Severity > 100)) x17.Days (decide (x17.Days < 0)) x17.Days (decide (x17.Days > 10000)) x17.Severity x17.Days)
  else k4

def M27 (F : Nat) (a1 : (List TTerm)) : Option Int :=
  if (((a1.length : Nat) : Int) == 0) = true then some 13
  else if (decide (((a1.length : Nat) : Int) > 10)) = true then some 3
  else jn (some 0) (fun k4 => M27_L1 F a1 k4 F 0)

/-! provender/provenderref11.term -/
def M80_L1 (F : Nat) (a1 : (List TTerm)) (a2 : Int) (k3 : Bool → Int → Int → Option (TTerm × Bool)) : Nat → Bool → Int → Int → Int → Option (TTerm × Bool)
  | 0, _, _, _, _ => none
  | n + 1, b11, n12, n13, n14 => if (decide (n12 < ((a1.length : Nat) : Int))) = true then (idx a1 n12).bind fun x16 => jn (fun (b19 : Bool) (n20 : Int) (n21 : Int) => M80_L1 F a1 a2 k3 n b19 (w64 (n12 + 1)) n20 n21) (fun k18 => if (decide (x16.Severity ≤ a2)) = true then k18 true x16.Severity x16.Days
  else k18 b11 n13 n14)
  else k3 b11 n13 n14

def M80 (F : Nat) (a1 : (List TTerm)) (a2 : Int) : Option (TTerm × Bool) :=
  jn (fun (b4 : Bool) (n5 : Int) (n6 : Int) => some ((TTerm.mk n5 n6), b4)) (fun k3 => M80_L1 F a1 a2 k3 F false 0 0 0)

/-! provender/provenderref11.Due -/
def M25 (F : Nat) (a1 : TCalendar) (a2 : (List TTerm)) (a3 : TWindow) : Option (Int × Bool × Int) :=
  (M22 F a1).bind fun y4 => if (y4 != 0) = true then some (0, false, y4)
  else (M27 F a2).bind fun y7 => if (y7 != 0) = true then some (0, false, y7)
  else if (decide (a3.Severity < 0)) = true then some (0, false, 9)
  else if (decide (a3.Severity > 100)) = true then some (0, false, 9)
  else (M72 F a3.From).bind fun y12 => if (!y12) = true then some (0, false, 9)
  else (M80 F a2 a3.Severity).bind fun y15 => if (!(y15.2)) = true then some (0, false, 0)
  else (M73 F a1).bind fun y18 => (M77 F y18 a3.From (y15.1).Days).bind fun y20 => if (!(y20.2)) = true then some (0, false, 3)
  else some ((y20.1), true, 0)

/-! provender/provenderlaw11.HistoryDueMatchesSpec -/
def M5 (F : Nat) (a1 : TCalendar) (a2 : (List TTerm)) (a3 : TWindow) : Option Bool :=
  (M24 F a1 a2 a3).bind fun y4 => (M25 F a1 a2 a3).bind fun y6 => (M26 F a2).bind fun y8 => (M27 F a2).bind fun y10 => if (y8 == y10) = true then if ((y4.1) == (y6.1)) = true then if ((y4.2.1) == (y6.2.1)) = true then if ((y4.2.2) == (y6.2.2)) = true then (M23 F).bind fun y16 => some y16
  else some false
  else some false
  else some false
  else some false

/-! provender/history.isRun -/
def M131_L1 (F : Nat) (a1 : (List UInt8)) (k2 : Option Bool) : Nat → Int → Option Bool
  | 0, _ => none
  | n + 1, n4 => if (decide (n4 < (a1.length : Int))) = true then (idx a1 n4).bind fun c6 => if (decide ((c6.toNat : Int) < 33)) = true then some false
  else (idx a1 n4).bind fun c9 => if (decide ((c9.toNat : Int) > 126)) = true then some false
  else M131_L1 F a1 k2 n (w64 (n4 + 1))
  else k2

def M131 (F : Nat) (a1 : (List UInt8)) : Option Bool :=
  jn (some (!(a1 == ([] : List UInt8)))) (fun k2 => M131_L1 F a1 k2 F 0)

/-! provender/history.isName -/
def M93 (F : Nat) (a1 : (List UInt8)) : Option Bool :=
  (M131 F a1).bind fun y2 => if y2 = true then some (decide ((a1.length : Int) ≤ 100))
  else some false

/-! provender/history.keyOf -/
def M84 (F : Nat) (a1 : TExposure) : Option Thistory_key :=
  some (Thistory_key.mk a1.Advisory a1.Component)

/-! cmp.isNaN[string] -/
def M152 (F : Nat) (a1 : (List UInt8)) : Option Bool :=
  some (!(a1 == a1))

/-! cmp.Compare[string] -/
def M138 (F : Nat) (a1 : (List UInt8)) (a2 : (List UInt8)) : Option Int :=
  (M152 F a1).bind fun y3 => (M152 F a2).bind fun y5 => if y3 = true then if y5 = true then some 0
  else some (-1)
  else if y5 = true then some 1
  else if (Op.bytesLess a1 a2) = true then some (-1)
  else if (!(Op.bytesLess a1 a2 || a1 == a2)) = true then some 1
  else some 0

/-! cmp.Or[int] -/
def M149_L1 (F : Nat) (a1 : (List Int)) (k2 : Option Int) : Nat → Int → Option Int
  | 0, _ => none
  | n + 1, n4 => if (decide (n4 < ((a1.length : Nat) : Int))) = true then (idx a1 n4).bind fun x6 => if (x6 != 0) = true then some x6
  else M149_L1 F a1 k2 n (w64 (n4 + 1))
  else k2

def M149 (F : Nat) (a1 : (List Int)) : Option Int :=
  jn (some 0) (fun k2 => M149_L1 F a1 k2 F 0)

/-! provender/history.orderKeys -/
def M146 (F : Nat) (a1 : Thistory_key) (a2 : Thistory_key) : Option Int :=
  (M138 F a1.advisory a2.advisory).bind fun y3 => (M138 F a1.component a2.component).bind fun y5 => (M149 F ([y3, y5] : List Int)).bind fun y7 => some y7

/-! provender/history.checkExposures -/
def M127_L1 (F : Nat) (a1 : (List TExposure)) (k3 : Option Int) : Nat → Int → Option Int
  | 0, _ => none
  | n + 1, n5 => if (decide (n5 < ((a1.length : Nat) : Int))) = true then (idx a1 n5).bind fun x7 => (M93 F x7.Advisory).bind fun y9 => if (!y9) = true then some 8
  else (M93 F x7.Component).bind fun y12 => jn (M127_L1 F a1 k3 n (w64 (n5 + 1))) (fun k14 => if (!y12) = true then some 8
  else if (decide (x7.Severity < 0)) = true then some 9
  else if (decide (x7.Severity > 100)) = true then some 9
  else if (decide (n5 > 0)) = true then (idx a1 (w64 (n5 - 1))).bind fun x19 => (M84 F x19).bind fun y21 => (M84 F x7).bind fun y23 => (M146 F y21 y23).bind fun y25 => if (decide (y25 ≥ 0)) = true then some 10
  else k14
  else k14)
  else k3

def M127 (F : Nat) (a1 : (List TExposure)) : Option Int :=
  if (decide (((a1.length : Nat) : Int) > 500)) = true then some 3
  else jn (some 0) (fun k3 => M127_L1 F a1 k3 F 0)

/-! provender/history.checkRelease -/
def M81 (F : Nat) (a1 : TRelease) : Option Int :=
  (M93 F a1.Version).bind fun y2 => if (!y2) = true then some 8
  else (M69 F a1.Day).bind fun y5 => if (!y5) = true then some 9
  else (M127 F a1.Exposures).bind fun y8 => some y8

/-! provender/history.Compare$1$1 -/
def M83 (F : Nat) (a1 : TExposure) (a2 : List UInt8) (a3 : List UInt8) (a4 : Int) : Option Bool :=
  (M84 F (TExposure.mk a2 a3 a4)).bind fun y5 => (M84 F a1).bind fun y7 => some (decide (y5 = y7))

/-! slices.IndexFunc[[]provender/api.Exposure,provender/api.Exposure] -/
def M100_L1 (F : Nat) (a1 : (List TExposure)) (a2 : List UInt8) (a3 : List UInt8) (a4 : Int) (k5 : Option Int) : Nat → Int → Option Int
  | 0, _ => none
  | n + 1, n7 => if (decide (n7 < ((a1.length : Nat) : Int))) = true then (idx a1 n7).bind fun x9 => (M83 F x9 a2 a3 a4).bind fun y11 => if y11 = true then some n7
  else M100_L1 F a1 a2 a3 a4 k5 n (w64 (n7 + 1))
  else k5

def M100 (F : Nat) (a1 : (List TExposure)) (a2 : List UInt8) (a3 : List UInt8) (a4 : Int) : Option Int :=
  jn (some (-1)) (fun k5 => M100_L1 F a1 a2 a3 a4 k5 F 0)

/-! slices.ContainsFunc[[]provender/api.Exposure,provender/api.Exposure] -/
def M43 (F : Nat) (a1 : (List TExposure)) (a2 : List UInt8) (a3 : List UInt8) (a4 : Int) : Option Bool :=
  (M100 F a1 a2 a3 a4).bind fun y5 => some (decide (y5 ≥ 0))

/-! provender/history.Compare$1 -/
def M82 (F : Nat) (a1 : (List TExposure)) (a2 : TExposure) : Option Bool :=
  (M43 F a1 a2.Advisory a2.Component a2.Severity).bind fun y3 => some y3

/-! provender/history.Compare -/
def M28_L3 (F : Nat) (a1 : TRelease) (a2 : TRelease) (k27 : (List TExposure) → (List TExposure) → Option ((List TExposure) × (List TExposure) × (List TExposure) × Int)) : Nat → Int → (List TExposure) → (List TExposure) → Option ((List TExposure) × (List TExposure) × (List TExposure) × Int)
  | 0, _, _, _ => none
  | n + 1, n33, l34, l35 => if (decide (n33 < ((a2.Exposures.length : Nat) : Int))) = true then (idx a2.Exposures n33).bind fun x37 => (M82 F a1.Exposures x37).bind fun y39 => jn (fun (l42 : List TExposure) (l43 : List TExposure) => M28_L3 F a1 a2 k27 n (w64 (n33 + 1)) l42 l43) (fun k41 => if y39 = true then if (l35 ++ ([x37] : List TExposure)).length * 40 ≤ 140737488355328 then k41 l34 (l35 ++ ([x37] : List TExposure)) else none
  else if (l34 ++ ([x37] : List TExposure)).length * 40 ≤ 140737488355328 then k41 (l34 ++ ([x37] : List TExposure)) l35 else none)
  else k27 l34 l35

def M28_L2 (F : Nat) (a1 : TRelease) (a2 : TRelease) (k12 : (List TExposure) → Option ((List TExposure) × (List TExposure) × (List TExposure) × Int)) : Nat → Int → (List TExposure) → Option ((List TExposure) × (List TExposure) × (List TExposure) × Int)
  | 0, _, _ => none
  | n + 1, n16, l17 => if (decide (n16 < ((a1.Exposures.length : Nat) : Int))) = true then (idx a1.Exposures n16).bind fun x19 => (M82 F a2.Exposures x19).bind fun y21 => jn (fun (l24 : List TExposure) => M28_L2 F a1 a2 k12 n (w64 (n16 + 1)) l24) (fun k23 => if (!y21) = true then if (l17 ++ ([x19] : List TExposure)).length * 40 ≤ 140737488355328 then k23 (l17 ++ ([x19] : List TExposure)) else none
  else k23 l17)
  else k12 l17

def M28_L1 (F : Nat) (a1 : TRelease) (a2 : TRelease) (k3 : Option ((List TExposure) × (List TExposure) × (List TExposure) × Int)) : Nat → Int → Option ((List TExposure) × (List TExposure) × (List TExposure) × Int)
  | 0, _ => none
  | n + 1, n5 => if (decide (n5 < ((2 : Nat) : Int))) = true then (idx ([a1, a2] : List TRelease) n5).bind fun x7 => (M81 F x7).bind fun y9 => if (y9 != 0) = true then some (([] : List TExposure), ([] : List TExposure), ([] : List TExposure), y9)
  else M28_L1 F a1 a2 k3 n (w64 (n5 + 1))
  else k3

def M28 (F : Nat) (a1 : TRelease) (a2 : TRelease) : Option ((List TExposure) × (List TExposure) × (List TExposure) × Int) :=
  jn (jn (fun (l13 : List TExposure) => jn (fun (l28 : List TExposure) (l29 : List TExposure) => some (l13, l28, l29, 0)) (fun k27 => M28_L3 F a1 a2 k27 F 0 ([] : List TExposure) ([] : List TExposure))) (fun k12 => M28_L2 F a1 a2 k12 F 0 ([] : List TExposure))) (fun k3 => M28_L1 F a1 a2 k3 F 0)

/-! provender/provenderref11.isName -/
def M95_L1 (F : Nat) (a1 : (List UInt8)) (k2 : Option Bool) : Nat → Int → Option Bool
  | 0, _ => none
  | n + 1, n4 => if (decide (n4 < (a1.length : Int))) = true then (idx a1 n4).bind fun c6 => if (decide ((c6.toNat : Int) < 33)) = true then some false
  else (idx a1 n4).bind fun c9 => if (decide ((c9.toNat : Int) > 126)) = true then some false
  else M95_L1 F a1 k2 n (w64 (n4 + 1))
  else k2

def M95 (F : Nat) (a1 : (List UInt8)) : Option Bool :=
  jn (if (decide ((a1.length : Int) ≥ 1)) = true then some (decide ((a1.length : Int) ≤ 100))
  else some false) (fun k2 => M95_L1 F a1 k2 F 0)

/-! provender/provenderref11.before -/
def M132 (F : Nat) (a1 : TExposure) (a2 : TExposure) : Option Bool :=
  if (Op.bytesLess a1.Advisory a2.Advisory) = true then some true
  else if (a1.Advisory == a2.Advisory) = true then some (Op.bytesLess a1.Component a2.Component)
  else some false

/-! provender/provenderref11.exposuresFault -/
def M96_L1 (F : Nat) (a1 : (List TExposure)) (k3 : Option Int) : Nat → Int → Option Int
  | 0, _ => none
  | n + 1, n5 => if (decide (n5 < ((a1.length : Nat) : Int))) = true then (idx a1 n5).bind fun x7 => (M95 F x7.Advisory).bind fun y9 => if (!y9) = true then some 8
  else (M95 F x7.Component).bind fun y12 => jn (M96_L1 F a1 k3 n (w64 (n5 + 1))) (fun k14 => if (!y12) = true then some 8
  else if (decide (x7.Severity < 0)) = true then some 9
  else if (decide (x7.Severity > 100)) = true then some 9
  else if (decide (n5 > 0)) = true then (idx a1 (w64 (n5 - 1))).bind fun x19 => (M132 F x19 x7).bind fun y21 => if (!y21) = true then some 10
  else k14
  else k14)
  else k3

def M96 (F : Nat) (a1 : (List TExposure)) : Option Int :=
  if (decide (((a1.length : Nat) : Int) > 500)) = true then some 3
  else jn (some 0) (fun k3 => M96_L1 F a1 k3 F 0)

/-! provender/provenderref11.releaseFault -/
def M85 (F : Nat) (a1 : TRelease) : Option Int :=
  (M95 F a1.Version).bind fun y2 => if (!y2) = true then some 8
  else (M72 F a1.Day).bind fun y5 => if (!y5) = true then some 9
  else (M96 F a1.Exposures).bind fun y8 => some y8

/-! provender/provenderref11.same -/
def M128 (F : Nat) (a1 : TExposure) (a2 : TExposure) : Option Bool :=
  if (a1.Advisory == a2.Advisory) = true then some (a1.Component == a2.Component)
  else some false

/-! provender/provenderref11.has -/
def M86_L1 (F : Nat) (a1 : (List TExposure)) (a2 : TExposure) (k3 : Option Bool) : Nat → Int → Option Bool
  | 0, _ => none
  | n + 1, n5 => if (decide (n5 < ((a1.length : Nat) : Int))) = true then (idx a1 n5).bind fun x7 => (M128 F a2 x7).bind fun y9 => if y9 = true then some true
  else M86_L1 F a1 a2 k3 n (w64 (n5 + 1))
  else k3

def M86 (F : Nat) (a1 : (List TExposure)) (a2 : TExposure) : Option Bool :=
  jn (some false) (fun k3 => M86_L1 F a1 a2 k3 F 0)

/-! provender/provenderref11.Compare -/
def M29_L3 (F : Nat) (a1 : TRelease) (a2 : TRelease) (k27 : (List TExposure) → (List TExposure) → Option ((List TExposure) × (List TExposure) × (List TExposure) × Int)) : Nat → Int → (List TExposure) → (List TExposure) → Option ((List TExposure) × (List TExposure) × (List TExposure) × Int)
  | 0, _, _, _ => none
  | n + 1, n33, l34, l35 => if (decide (n33 < ((a2.Exposures.length : Nat) : Int))) = true then (idx a2.Exposures n33).bind fun x37 => (M86 F a1.Exposures x37).bind fun y39 => jn (fun (l42 : List TExposure) (l43 : List TExposure) => M29_L3 F a1 a2 k27 n (w64 (n33 + 1)) l42 l43) (fun k41 => if y39 = true then if (l35 ++ ([x37] : List TExposure)).length * 40 ≤ 140737488355328 then k41 l34 (l35 ++ ([x37] : List TExposure)) else none
  else if (l34 ++ ([x37] : List TExposure)).length * 40 ≤ 140737488355328 then k41 (l34 ++ ([x37] : List TExposure)) l35 else none)
  else k27 l34 l35

def M29_L2 (F : Nat) (a1 : TRelease) (a2 : TRelease) (k12 : (List TExposure) → Option ((List TExposure) × (List TExposure) × (List TExposure) × Int)) : Nat → Int → (List TExposure) → Option ((List TExposure) × (List TExposure) × (List TExposure) × Int)
  | 0, _, _ => none
  | n + 1, n16, l17 => if (decide (n16 < ((a1.Exposures.length : Nat) : Int))) = true then (idx a1.Exposures n16).bind fun x19 => (M86 F a2.Exposures x19).bind fun y21 => jn (fun (l24 : List TExposure) => M29_L2 F a1 a2 k12 n (w64 (n16 + 1)) l24) (fun k23 => if (!y21) = true then if (l17 ++ ([x19] : List TExposure)).length * 40 ≤ 140737488355328 then k23 (l17 ++ ([x19] : List TExposure)) else none
  else k23 l17)
  else k12 l17

def M29_L1 (F : Nat) (a1 : TRelease) (a2 : TRelease) (k3 : Option ((List TExposure) × (List TExposure) × (List TExposure) × Int)) : Nat → Int → Option ((List TExposure) × (List TExposure) × (List TExposure) × Int)
  | 0, _ => none
  | n + 1, n5 => if (decide (n5 < ((2 : Nat) : Int))) = true then (idx ([a1, a2] : List TRelease) n5).bind fun x7 => (M85 F x7).bind fun y9 => if (y9 != 0) = true then some (([] : List TExposure), ([] : List TExposure), ([] : List TExposure), y9)
  else M29_L1 F a1 a2 k3 n (w64 (n5 + 1))
  else k3

def M29 (F : Nat) (a1 : TRelease) (a2 : TRelease) : Option ((List TExposure) × (List TExposure) × (List TExposure) × Int) :=
  jn (jn (fun (l13 : List TExposure) => jn (fun (l28 : List TExposure) (l29 : List TExposure) => some (l13, l28, l29, 0)) (fun k27 => M29_L3 F a1 a2 k27 F 0 ([] : List TExposure) ([] : List TExposure))) (fun k12 => M29_L2 F a1 a2 k12 F 0 ([] : List TExposure))) (fun k3 => M29_L1 F a1 a2 k3 F 0)

/-! slices.Equal[[]provender/api.Exposure,provender/api.Exposure] -/
def M30_L1 (F : Nat) (a1 : (List TExposure)) (a2 : (List TExposure)) (k4 : Option Bool) : Nat → Int → Option Bool
  | 0, _ => none
  | n + 1, n6 => if (decide (n6 < ((a1.length : Nat) : Int))) = true then (idx a1 n6).bind fun x8 => (idx a2 n6).bind fun x10 => if (!(decide (x8 = x10))) = true then some false
  else M30_L1 F a1 a2 k4 n (w64 (n6 + 1))
  else k4

def M30 (F : Nat) (a1 : (List TExposure)) (a2 : (List TExposure)) : Option Bool :=
  if (((a1.length : Nat) : Int) != ((a2.length : Nat) : Int)) = true then some false
  else jn (some true) (fun k4 => M30_L1 F a1 a2 k4 F 0)

/-! provender/provenderlaw11.HistoryCompareMatchesSpec -/
def M6 (F : Nat) (a1 : TRelease) (a2 : TRelease) : Option Bool :=
  (M28 F a1 a2).bind fun y3 => (M29 F a1 a2).bind fun y5 => (M30 F (y3.1) (y5.1)).bind fun y7 => if (!y7) = true then some false
  else (M30 F (y3.2.1) (y5.2.1)).bind fun y10 => if (!y10) = true then some false
  else (M30 F (y3.2.2.1) (y5.2.2.1)).bind fun y13 => if (!y13) = true then some false
  else if ((y3.2.2.2) != (y5.2.2.2)) = true then some false
  else jn ((M23 F).bind fun y29 => some y29) (fun k17 => if ((y3.2.2.2) == 0) = true then (M28 F a2 a1).bind fun y19 => if ((y19.2.2.2) != 0) = true then some false
  else (M30 F (y19.1) (y3.2.1)).bind fun y22 => if (!y22) = true then some false
  else (M30 F (y19.2.1) (y3.1)).bind fun y25 => if (!y25) = true then some false
  else if ((((y19.2.2.1).length : Nat) : Int) != (((y3.2.2.1).length : Nat) : Int)) = true then some false
  else k17
  else k17)

/-! provender/history.checkReleases -/
def M94_L1 (F : Nat) (a1 : TStory) (k2 : Option Int) : Nat → Int → (List ((List UInt8) × Bool)) → Option Int
  | 0, _, _ => none
  | n + 1, n5, m6 => if (decide (n5 < ((a1.Releases.length : Nat) : Int))) = true then (idx a1.Releases n5).bind fun x8 => (M93 F x8.Version).bind fun y10 => jn ((M127 F x8.Exposures).bind fun y21 => if (y21 != 0) = true then some y21
  else M94_L1 F a1 k2 n (w64 (n5 + 1)) (mput m6 x8.Version true)) (fun k12 => if (!y10) = true then some 8
  else if ((mget m6 x8.Version).getD false) = true then some 5
  else if (decide (x8.Day < 0)) = true then some 9
  else if (decide (x8.Day > a1.Until)) = true then some 9
  else if (decide (n5 > 0)) = true then (idx a1.Releases (w64 (n5 - 1))).bind fun x18 => if (decide (x8.Day ≤ x18.Day)) = true then some 10
  else k12
  else k12)
  else k2

def M94 (F : Nat) (a1 : TStory) : Option Int :=
  jn (some 0) (fun k2 => M94_L1 F a1 k2 F 0 ([] : List ((List UInt8) × Bool)))

/-! provender/history.Check -/
def M35_L3 (F : Nat) (m14 : List ((List UInt8) × Bool)) (x48 : TRelease) (k50 : Option Int) : Nat → Int → Option Int
  | 0, _ => none
  | n + 1, n52 => if (decide (n52 < ((x48.Exposures.length : Nat) : Int))) = true then (idx x48.Exposures n52).bind fun x54 => if (!((mget m14 x54.Advisory).getD false)) = true then some 4
  else M35_L3 F m14 x48 k50 n (w64 (n52 + 1))
  else k50

def M35_L2 (F : Nat) (a1 : TStory) (m14 : List ((List UInt8) × Bool)) (k43 : Option Int) : Nat → Int → Option Int
  | 0, _ => none
  | n + 1, n45 => if (decide (n45 < ((a1.Releases.length : Nat) : Int))) = true then jn (M35_L2 F a1 m14 k43 n (w64 (n45 + 1))) (fun k47 => (idx a1.Releases n45).bind fun x48 => jn (k47) (fun k50 => M35_L3 F m14 x48 k50 F 0))
  else k43

def M35_L1 (F : Nat) (a1 : TStory) (k13 : (List ((List UInt8) × Bool)) → Option Int) : Nat → Int → (List ((List UInt8) × Bool)) → Option Int
  | 0, _, _ => none
  | n + 1, n17, m18 => if (decide (n17 < ((a1.Known.length : Nat) : Int))) = true then (idx a1.Known n17).bind fun x20 => (M93 F x20.Advisory).bind fun y22 => jn (fun (b25 : Bool) => M35_L1 F a1 k13 n (w64 (n17 + 1)) (mput m18 x20.Advisory true)) (fun k24 => if (!y22) = true then some 8
  else if (decide (n17 > 0)) = true then (idx a1.Known (w64 (n17 - 1))).bind fun x28 => if (Op.bytesLess x20.Advisory x28.Advisory || x20.Advisory == x28.Advisory) = true then some 10
  else (M69 F x20.Day).bind fun y31 => if (!y31) = true then some 9
  else if (x20.Ended != (-1)) = true then if (decide (x20.Ended < x20.Day)) = true then some 9
  else if (decide (x20.Ended > 1000000)) = true then some 9
  else k24 (decide (x20.Ended > 1000000))
  else k24 false
  else (M69 F x20.Day).bind fun y37 => if (!y37) = true then some 9
  else if (x20.Ended != (-1)) = true then if (decide (x20.Ended < x20.Day)) = true then some 9
  else if (decide (x20.Ended > 1000000)) = true then some 9
  else k24 (decide (x20.Ended > 1000000))
  else k24 false)
  else k13 m18

def M35 (F : Nat) (a1 : TStory) : Option Int :=
  (M93 F a1.Product).bind fun y2 => if (!y2) = true then some 8
  else (M69 F a1.Until).bind fun y5 => if (!y5) = true then some 9
  else if (decide (((a1.Releases.length : Nat) : Int) > 500)) = true then some 3
  else if (decide (((a1.Known.length : Nat) : Int) > 2000)) = true then some 3
  else (M94 F a1).bind fun y10 => if (y10 != 0) = true then some y10
  else jn (fun (m14 : List ((List UInt8) × Bool)) => jn (some 0) (fun k43 => M35_L2 F a1 m14 k43 F 0)) (fun k13 => M35_L1 F a1 k13 F 0 ([] : List ((List UInt8) × Bool)))

/-! provender/history.used -/
def M87_L1 (F : Nat) (a1 : TStory) (a2 : Int) (k4 : Int → Option Int) : Nat → Int → Int → Option Int
  | 0, _, _ => none
  | n + 1, n8, n9 => if (decide (n9 < ((a1.Releases.length : Nat) : Int))) = true then (idx a1.Releases n9).bind fun x11 => jn (fun (n14 : Int) => M87_L1 F a1 a2 k4 n n14 (w64 (n9 + 1))) (fun k13 => if (decide (x11.Day ≤ a2)) = true then k13 n9
  else k13 n8)
  else k4 n8

def M87 (F : Nat) (a1 : TStory) (a2 : Int) : Option Int :=
  if (decide (a2 ≥ a1.Until)) = true then some (-1)
  else jn (fun (n5 : Int) => some n5) (fun k4 => M87_L1 F a1 a2 k4 F (-1) 0)

/-! slices.Clone[[]provender/api.Exposure,provender/api.Exposure] -/
def M129 (F : Nat) (a1 : (List TExposure)) : Option (List TExposure) :=
  nilq a1.length (fun b2 => if b2 = true then some ([] : List TExposure)
  else if (([] : List TExposure) ++ a1).length * 40 ≤ 140737488355328 then some (([] : List TExposure) ++ a1) else none)

/-! provender/history.copied -/
def M88 (F : Nat) (a1 : TRelease) : Option TRelease :=
  (M129 F a1.Exposures).bind fun y2 => some (TRelease.mk a1.Version a1.Day y2)

/-! provender/history.Used -/
def M31 (F : Nat) (a1 : TStory) (a2 : Int) : Option (TRelease × Bool × Int) :=
  (M35 F a1).bind fun y3 => if (y3 != 0) = true then some ((TRelease.mk ([] : List UInt8) 0 ([] : List TExposure)), false, y3)
  else (M69 F a2).bind fun y6 => if (!y6) = true then some ((TRelease.mk ([] : List UInt8) 0 ([] : List TExposure)), false, 9)
  else (M87 F a1 a2).bind fun y9 => if (decide (y9 < 0)) = true then some ((TRelease.mk ([] : List UInt8) 0 ([] : List TExposure)), false, 0)
  else (idx a1.Releases y9).bind fun x12 => (M88 F x12).bind fun y14 => some (y14, true, 0)

/-! provender/provenderref11.knownFault -/
def M97_L1 (F : Nat) (a1 : (List TPublished)) (k2 : Option Int) : Nat → Int → Option Int
  | 0, _ => none
  | n + 1, n4 => if (decide (n4 < ((a1.length : Nat) : Int))) = true then (idx a1 n4).bind fun x6 => (M95 F x6.Advisory).bind fun y8 => jn (fun (b11 : Bool) => M97_L1 F a1 k2 n (w64 (n4 + 1))) (fun k10 => if (!y8) = true then some 8
  else if (decide (n4 > 0)) = true then (idx a1 (w64 (n4 - 1))).bind fun x14 => if (Op.bytesLess x6.Advisory x14.Advisory || x6.Advisory == x14.Advisory) = true then some 10
  else (M72 F x6.Day).bind fun y17 => if (!y17) = true then some 9
  else if (x6.Ended != (-1)) = true then if (decide (x6.Ended < x6.Day)) = true then some 9
  else if (decide (x6.Ended > 1000000)) = true then some 9
  else k10 (decide (x6.Ended > 1000000))
  else k10 false
  else (M72 F x6.Day).bind fun y23 => if (!y23) = true then some 9
  else if (x6.Ended != (-1)) = true then if (decide (x6.Ended < x6.Day)) = true then some 9
  else if (decide (x6.Ended > 1000000)) = true then some 9
  else k10 (decide (x6.Ended > 1000000))
  else k10 false)
  else k2

def M97 (F : Nat) (a1 : (List TPublished)) : Option Int :=
  jn (some 0) (fun k2 => M97_L1 F a1 k2 F 0)

/-! provender/provenderref11.Check -/
def M36_L4 (F : Nat) (m36 : List ((List UInt8) × Bool)) (x49 : TRelease) (k51 : Option Int) : Nat → Int → Option Int
  | 0, _ => none
  | n + 1, n53 => if (decide (n53 < ((x49.Exposures.length : Nat) : Int))) = true then (idx x49.Exposures n53).bind fun x55 => if (!((mget m36 x55.Advisory).getD false)) = true then some 4
  else M36_L4 F m36 x49 k51 n (w64 (n53 + 1))
  else k51

def M36_L3 (F : Nat) (a1 : TStory) (m36 : List ((List UInt8) × Bool)) (k44 : Option Int) : Nat → Int → Option Int
  | 0, _ => none
  | n + 1, n46 => if (decide (n46 < ((a1.Releases.length : Nat) : Int))) = true then jn (M36_L3 F a1 m36 k44 n (w64 (n46 + 1))) (fun k48 => (idx a1.Releases n46).bind fun x49 => jn (k48) (fun k51 => M36_L4 F m36 x49 k51 F 0))
  else k44

def M36_L2 (F : Nat) (a1 : TStory) (k35 : (List ((List UInt8) × Bool)) → Option Int) : Nat → Int → (List ((List UInt8) × Bool)) → Option Int
  | 0, _, _ => none
  | n + 1, n39, m40 => if (decide (n39 < ((a1.Known.length : Nat) : Int))) = true then (idx a1.Known n39).bind fun x42 => M36_L2 F a1 k35 n (w64 (n39 + 1)) (mput m40 x42.Advisory true)
  else k35 m40

def M36_L1 (F : Nat) (a1 : TStory) (k10 : Option Int) : Nat → Int → (List ((List UInt8) × Bool)) → Option Int
  | 0, _, _ => none
  | n + 1, n13, m14 => if (decide (n13 < ((a1.Releases.length : Nat) : Int))) = true then (idx a1.Releases n13).bind fun x16 => (M95 F x16.Version).bind fun y18 => jn ((M96 F x16.Exposures).bind fun y29 => if (y29 != 0) = true then some y29
  else M36_L1 F a1 k10 n (w64 (n13 + 1)) (mput m14 x16.Version true)) (fun k20 => if (!y18) = true then some 8
  else if ((mget m14 x16.Version).getD false) = true then some 5
  else if (decide (x16.Day < 0)) = true then some 9
  else if (decide (x16.Day > a1.Until)) = true then some 9
  else if (decide (n13 > 0)) = true then (idx a1.Releases (w64 (n13 - 1))).bind fun x26 => if (decide (x16.Day ≤ x26.Day)) = true then some 10
  else k20
  else k20)
  else k10

def M36 (F : Nat) (a1 : TStory) : Option Int :=
  (M95 F a1.Product).bind fun y2 => if (!y2) = true then some 8
  else (M72 F a1.Until).bind fun y5 => if (!y5) = true then some 9
  else if (decide (((a1.Releases.length : Nat) : Int) > 500)) = true then some 3
  else if (decide (((a1.Known.length : Nat) : Int) > 2000)) = true then some 3
  else jn ((M97 F a1.Known).bind fun y32 => if (y32 != 0) = true then some y32
  else jn (fun (m36 : List ((List UInt8) × Bool)) => jn (some 0) (fun k44 => M36_L3 F a1 m36 k44 F 0)) (fun k35 => M36_L2 F a1 k35 F 0 ([] : List ((List UInt8) × Bool)))) (fun k10 => M36_L1 F a1 k10 F 0 ([] : List ((List UInt8) × Bool)))

/-! provender/provenderref11.used -/
def M89_L1 (F : Nat) (a1 : TStory) (a2 : Int) (k3 : Bool → (List UInt8) → Int → (List TExposure) → Option (TRelease × Bool)) : Nat → Bool → Int → (List UInt8) → Int → (List TExposure) → Option (TRelease × Bool)
  | 0, _, _, _, _, _ => none
  | n + 1, b13, n14, s15, n16, l17 => if (decide (n14 < ((a1.Releases.length : Nat) : Int))) = true then (idx a1.Releases n14).bind fun x19 => jn (fun (b22 : Bool) (s23 : List UInt8) (n24 : Int) (l25 : List TExposure) => M89_L1 F a1 a2 k3 n b22 (w64 (n14 + 1)) s23 n24 l25) (fun k21 => if (decide (x19.Day ≤ a2)) = true then k21 true x19.Version x19.Day x19.Exposures
  else k21 b13 s15 n16 l17)
  else k3 b13 s15 n16 l17

def M89 (F : Nat) (a1 : TStory) (a2 : Int) : Option (TRelease × Bool) :=
  jn (fun (b4 : Bool) (s5 : List UInt8) (n6 : Int) (l7 : List TExposure) => if (!b4) = true then some ((TRelease.mk ([] : List UInt8) 0 ([] : List TExposure)), false)
  else if (decide (a2 ≥ a1.Until)) = true then some ((TRelease.mk ([] : List UInt8) 0 ([] : List TExposure)), false)
  else some ((TRelease.mk s5 n6 l7), true)) (fun k3 => M89_L1 F a1 a2 k3 F false 0 ([] : List UInt8) 0 ([] : List TExposure))

/-! provender/provenderref11.Used -/
def M32 (F : Nat) (a1 : TStory) (a2 : Int) : Option (TRelease × Bool × Int) :=
  (M36 F a1).bind fun y3 => if (y3 != 0) = true then some ((TRelease.mk ([] : List UInt8) 0 ([] : List TExposure)), false, y3)
  else (M72 F a2).bind fun y6 => if (!y6) = true then some ((TRelease.mk ([] : List UInt8) 0 ([] : List TExposure)), false, 9)
  else (M89 F a1 a2).bind fun y9 => some ((y9.1), (y9.2), 0)

/-! provender/history.pieces -/
def M90_L3 (F : Nat) (m3 : List ((List UInt8) × TPublished)) (x20 : TRelease) (n23 : Int) (k27 : (List Thistory_piece) → Option (List Thistory_piece)) : Nat → Int → (List Thistory_piece) → Option (List Thistory_piece)
  | 0, _, _ => none
  | n + 1, n31, l32 => if (decide (n31 < ((x20.Exposures.length : Nat) : Int))) = true then (idx x20.Exposures n31).bind fun x34 => jn (fun (n37 : Int) => jn (fun (l40 : List Thistory_piece) => M90_L3 F m3 x20 n23 k27 n (w64 (n31 + 1)) l40) (fun k39 => if (decide ((if ((mget m3 x34.Advisory).getD (TPublished.mk ([] : List UInt8) 0 0)).Day > x20.Day then ((mget m3 x34.Advisory).getD (TPublished.mk ([] : List UInt8) 0 0)).Day else x20.Day) < n37)) = true then if (l32 ++ ([(Thistory_piece.mk x34 (if ((mget m3 x34.Advisory).getD (TPublished.mk ([] : List UInt8) 0 0)).Day > x20.Day then ((mget m3 x34.Advisory).getD (TPublished.mk ([] : List UInt8) 0 0)).Day else x20.Day) n37)] : List Thistory_piece)).length * 56 ≤ 140737488355328 then k39 (l32 ++ ([(Thistory_piece.mk x34 (if ((mget m3 x34.Advisory).getD (TPublished.mk ([] : List UInt8) 0 0)).Day > x20.Day then ((mget m3 x34.Advisory).getD (TPublished.mk ([] : List UInt8) 0 0)).Day else x20.Day) n37)] : List Thistory_piece)) else none
  else k39 l32)) (fun k36 => if (decide (((mget m3 x34.Advisory).getD (TPublished.mk ([] : List UInt8) 0 0)).Ended ≥ 0)) = true then k36 (if ((mget m3 x34.Advisory).getD (TPublished.mk ([] : List UInt8) 0 0)).Ended < n23 then ((mget m3 x34.Advisory).getD (TPublished.mk ([] : List UInt8) 0 0)).Ended else n23)
  else k36 n23)
  else k27 l32

def M90_L2 (F : Nat) (a1 : TStory) (m3 : List ((List UInt8) × TPublished)) (k11 : (List Thistory_piece) → Option (List Thistory_piece)) : Nat → Int → (List Thistory_piece) → Option (List Thistory_piece)
  | 0, _, _ => none
  | n + 1, n15, l16 => if (decide (n15 < ((a1.Releases.length : Nat) : Int))) = true then jn (fun (l19 : List Thistory_piece) => M90_L2 F a1 m3 k11 n (w64 (n15 + 1)) l19) (fun k18 => (idx a1.Releases n15).bind fun x20 => jn (fun (n23 : Int) => jn (fun (l28 : List Thistory_piece) => k18 l28) (fun k27 => M90_L3 F m3 x20 n23 k27 F 0 l16)) (fun k22 => if (decide ((w64 (n15 + 1)) < ((a1.Releases.length : Nat) : Int))) = true then (idx a1.Releases (w64 (n15 + 1))).bind fun x25 => k22 x25.Day
  else k22 a1.Until))
  else k11 l16

def M90_L1 (F : Nat) (a1 : TStory) (k2 : (List ((List UInt8) × TPublished)) → Option (List Thistory_piece)) : Nat → Int → (List ((List UInt8) × TPublished)) → Option (List Thistory_piece)
  | 0, _, _ => none
  | n + 1, n6, m7 => if (decide (n6 < ((a1.Known.length : Nat) : Int))) = true then (idx a1.Known n6).bind fun x9 => M90_L1 F a1 k2 n (w64 (n6 + 1)) (mput m7 x9.Advisory x9)
  else k2 m7

def M90 (F : Nat) (a1 : TStory) : Option (List Thistory_piece) :=
  jn (fun (m3 : List ((List UInt8) × TPublished)) => jn (fun (l12 : List Thistory_piece) => some l12) (fun k11 => M90_L2 F a1 m3 k11 F 0 ([] : List Thistory_piece))) (fun k2 => M90_L1 F a1 k2 F 0 ([] : List ((List UInt8) × TPublished)))

/-! provender/history.OpenOn -/
def M33_L1 (F : Nat) (a2 : Int) (y9 : (List Thistory_piece)) (k11 : (List TExposure) → Option ((List TExposure) × Int)) : Nat → Int → (List TExposure) → Option ((List TExposure) × Int)
  | 0, _, _ => none
  | n + 1, n15, l16 => if (decide (n15 < ((y9.length : Nat) : Int))) = true then jn (fun (l19 : List TExposure) => M33_L1 F a2 y9 k11 n (w64 (n15 + 1)) l19) (fun k18 => (idx y9 n15).bind fun x20 => if (decide (x20.from_ ≤ a2)) = true then jn (fun (l24 : List TExposure) => k18 l24) (fun k23 => if (decide (a2 < x20.to)) = true then if (l16 ++ ([x20.x] : List TExposure)).length * 40 ≤ 140737488355328 then k23 (l16 ++ ([x20.x] : List TExposure)) else none
  else k23 l16)
  else k18 l16)
  else k11 l16

def M33 (F : Nat) (a1 : TStory) (a2 : Int) : Option ((List TExposure) × Int) :=
  (M35 F a1).bind fun y3 => if (y3 != 0) = true then some (([] : List TExposure), y3)
  else (M69 F a2).bind fun y6 => if (!y6) = true then some (([] : List TExposure), 9)
  else (M90 F a1).bind fun y9 => jn (fun (l12 : List TExposure) => some (l12, 0)) (fun k11 => M33_L1 F a2 y9 k11 F 0 ([] : List TExposure))

/-! provender/provenderref11.viewOf -/
def M91_L1 (F : Nat) (a1 : TStory) (k2 : (List ((List UInt8) × TPublished)) → Option Tprovenderref11_view) : Nat → Int → (List ((List UInt8) × TPublished)) → Option Tprovenderref11_view
  | 0, _, _ => none
  | n + 1, n6, m7 => if (decide (n6 < ((a1.Known.length : Nat) : Int))) = true then (idx a1.Known n6).bind fun x9 => M91_L1 F a1 k2 n (w64 (n6 + 1)) (mput m7 x9.Advisory x9)
  else k2 m7

def M91 (F : Nat) (a1 : TStory) : Option Tprovenderref11_view :=
  jn (fun (m3 : List ((List UInt8) × TPublished)) => some (Tprovenderref11_view.mk a1 m3)) (fun k2 => M91_L1 F a1 k2 F 0 ([] : List ((List UInt8) × TPublished)))

/-! (provender/provenderref11.view).isOpen -/
def M130 (F : Nat) (a1 : Tprovenderref11_view) (a2 : TExposure) (a3 : Int) : Option Bool :=
  if (decide (((mget a1.known a2.Advisory).getD (TPublished.mk ([] : List UInt8) 0 0)).Day ≤ a3)) = true then if (((mget a1.known a2.Advisory).getD (TPublished.mk ([] : List UInt8) 0 0)).Ended == (-1)) = true then some true
  else some (decide (((mget a1.known a2.Advisory).getD (TPublished.mk ([] : List UInt8) 0 0)).Ended > a3))
  else some false

/-! (provender/provenderref11.view).open -/
def M92_L1 (F : Nat) (a1 : Tprovenderref11_view) (a2 : Int) (y3 : (TRelease × Bool)) (k5 : (List TExposure) → Option (List TExposure)) : Nat → Int → (List TExposure) → Option (List TExposure)
  | 0, _, _ => none
  | n + 1, n9, l10 => if (decide (n9 < (((y3.1).Exposures.length : Nat) : Int))) = true then (idx (y3.1).Exposures n9).bind fun x12 => (M130 F a1 x12 a2).bind fun y14 => jn (fun (l17 : List TExposure) => M92_L1 F a1 a2 y3 k5 n (w64 (n9 + 1)) l17) (fun k16 => if y14 = true then if (l10 ++ ([x12] : List TExposure)).length * 40 ≤ 140737488355328 then k16 (l10 ++ ([x12] : List TExposure)) else none
  else k16 l10)
  else k5 l10

def M92 (F : Nat) (a1 : Tprovenderref11_view) (a2 : Int) : Option (List TExposure) :=
  (M89 F a1.s a2).bind fun y3 => jn (fun (l6 : List TExposure) => some l6) (fun k5 => M92_L1 F a1 a2 y3 k5 F 0 ([] : List TExposure))

/-! provender/provenderref11.OpenOn -/
def M34 (F : Nat) (a1 : TStory) (a2 : Int) : Option ((List TExposure) × Int) :=
  (M36 F a1).bind fun y3 => if (y3 != 0) = true then some (([] : List TExposure), y3)
  else (M72 F a2).bind fun y6 => if (!y6) = true then some (([] : List TExposure), 9)
  else (M91 F a1).bind fun y9 => (M92 F y9 a2).bind fun y11 => some (y11, 0)

/-! provender/provenderlaw11.sameRelease -/
def M37 (F : Nat) (a1 : TRelease) (a2 : TRelease) : Option Bool :=
  if (a1.Version == a2.Version) = true then if (a1.Day == a2.Day) = true then (M30 F a1.Exposures a2.Exposures).bind fun y5 => some y5
  else some false
  else some false

/-! provender/provenderlaw11.HistoryCheckMatchesSpec -/
def M7 (F : Nat) (a1 : TStory) (a2 : Int) : Option Bool :=
  (M31 F a1 a2).bind fun y3 => (M32 F a1 a2).bind fun y5 => (M33 F a1 a2).bind fun y7 => (M34 F a1 a2).bind fun y9 => (M35 F a1).bind fun y11 => (M36 F a1).bind fun y13 => if (y11 == y13) = true then (M37 F (y3.1) (y5.1)).bind fun y16 => if y16 = true then if ((y3.2.1) == (y5.2.1)) = true then if ((y3.2.2) == (y5.2.2)) = true then (M30 F (y7.1) (y9.1)).bind fun y21 => if y21 = true then if ((y7.2) == (y9.2)) = true then (M23 F).bind fun y25 => some y25
  else some false
  else some false
  else some false
  else some false
  else some false
  else some false

/-! slices.Clone[[]provender/api.Window,provender/api.Window] -/
def M147 (F : Nat) (a1 : (List TWindow)) : Option (List TWindow) :=
  nilq a1.length (fun b2 => if b2 = true then some ([] : List TWindow)
  else if (([] : List TWindow) ++ a1).length * 64 ≤ 140737488355328 then some (([] : List TWindow) ++ a1) else none)

/-! cmp.Compare[int] -/
def M116 (F : Nat) (a1 : Int) (a2 : Int) : Option Int :=
  (M140 F a1).bind fun y3 => (M140 F a2).bind fun y5 => if y3 = true then if y5 = true then some 0
  else some (-1)
  else if y5 = true then some 1
  else if (decide (a1 < a2)) = true then some (-1)
  else if (decide (a1 > a2)) = true then some 1
  else some 0

/-! provender/history.orderWindows -/
def M134 (F : Nat) (a1 : TWindow) (a2 : TWindow) : Option Int :=
  (M116 F a1.From a2.From).bind fun y3 => (M138 F a1.Advisory a2.Advisory).bind fun y5 => (M138 F a1.Component a2.Component).bind fun y7 => (M149 F ([y3, y5, y7] : List Int)).bind fun y9 => some y9

/-! slices.Clone[[]provender/api.Published,provender/api.Published] -/
def M101 (F : Nat) (a1 : (List TPublished)) : Option (List TPublished) :=
  nilq a1.length (fun b2 => if b2 = true then some ([] : List TPublished)
  else if (([] : List TPublished) ++ a1).length * 32 ≤ 140737488355328 then some (([] : List TPublished) ++ a1) else none)

/-! provender/history.checkSpan -/
def M113 (F : Nat) (a1 : TStory) (a2 : Int) (a3 : Int) (a4 : Int) : Option Int :=
  (M35 F a1).bind fun y5 => if (y5 != 0) = true then some y5
  else if (decide (a2 < 0)) = true then some 9
  else if (decide (a2 > a3)) = true then some 9
  else if (decide (a3 > 1000000)) = true then some 9
  else if (decide (a4 < 0)) = true then some 9
  else if (decide (a4 > 100)) = true then some 9
  else some 0

/-! slices.Clone[[]provender/history.piece,provender/history.piece] -/
def M142 (F : Nat) (a1 : (List Thistory_piece)) : Option (List Thistory_piece) :=
  nilq a1.length (fun b2 => if b2 = true then some ([] : List Thistory_piece)
  else if (([] : List Thistory_piece) ++ a1).length * 56 ≤ 140737488355328 then some (([] : List Thistory_piece) ++ a1) else none)

/-! provender/history.Exposed$1 -/
def M115 (F : Nat) (a1 : Thistory_piece) (a2 : Thistory_piece) : Option Int :=
  (M116 F a1.from_ a2.from_).bind fun y3 => some y3

end
end Go.Proofs.Ytkciogeafbbggaa
