/- Part of the proof: HM. -/
import Derived.Test.YtkciogeafbbggaaLHT
namespace Go.Proofs.Ytkciogeafbbggaa
open Go Go.Pv
set_option linter.unusedVariables false
set_option maxRecDepth 100000
/-! provender/history.rising -/
def M78_L1 (F : Nat) (a1 : (List Int)) (a2 : Int) (k3 : Option Int) : Nat → Int → Option Int
  | 0, _ => none
  | n + 1, n5 => if (decide (n5 < ((a1.length : Nat) : Int))) = true then (idx a1 n5).bind fun x7 => if (decide (x7 < 0)) = true then some 9
  else jn (M78_L1 F a1 a2 k3 n (w64 (n5 + 1))) (fun k10 => if (decide (x7 > a2)) = true then some 9
  else if (decide (n5 > 0)) = true then (idx a1 (w64 (n5 - 1))).bind fun x13 => if (decide (x7 ≤ x13)) = true then some 10
  else k10
  else k10)
  else k3

def M78 (F : Nat) (a1 : (List Int)) (a2 : Int) : Option Int :=
  jn (some 0) (fun k3 => M78_L1 F a1 a2 k3 F 0)

/-! provender/history.CheckCalendar -/
def M21 (F : Nat) (a1 : TCalendar) : Option Int :=
  if (decide (((a1.Free.length : Nat) : Int) > 6)) = true then some 3
  else if (decide (((a1.Holidays.length : Nat) : Int) > 2000)) = true then some 3
  else (M78 F a1.Free 6).bind fun y4 => if (y4 != 0) = true then some y4
  else (M78 F a1.Holidays 1000000).bind fun y7 => some y7

/-! provender/history.isDay -/
def M69 (F : Nat) (a1 : Int) : Option Bool :=
  if (decide (a1 ≥ 0)) = true then some (decide (a1 ≤ 1000000))
  else some false

/-! provender/history.weekOf -/
def M70_L2 (F : Nat) (a1 : TCalendar) (f3 : Nat → Bool) (k12 : (List Int) → Option Thistory_week) : Nat → Int → (List Int) → Option Thistory_week
  | 0, _, _ => none
  | n + 1, n16, l17 => if (decide (n16 < ((a1.Holidays.length : Nat) : Int))) = true then (idx a1.Holidays n16).bind fun x19 => if 0 ≤ (Int.tmod x19 7) ∧ (Int.tmod x19 7).toNat < 7 then jn (fun (l23 : List Int) => M70_L2 F a1 f3 k12 n (w64 (n16 + 1)) l23) (fun k22 => if (!(f3 (Int.tmod x19 7).toNat)) = true then if (l17 ++ ([x19] : List Int)).length * 8 ≤ 140737488355328 then k22 (l17 ++ ([x19] : List Int)) else none
  else k22 l17) else none
  else k12 l17

def M70_L1 (F : Nat) (a1 : TCalendar) (k2 : (Nat → Bool) → Option Thistory_week) : Nat → Int → (Nat → Bool) → Option Thistory_week
  | 0, _, _ => none
  | n + 1, n6, f7 => if (decide (n6 < ((a1.Free.length : Nat) : Int))) = true then (idx a1.Free n6).bind fun x9 => if 0 ≤ x9 ∧ x9.toNat < 7 then M70_L1 F a1 k2 n (w64 (n6 + 1)) (upd f7 x9.toNat true) else none
  else k2 f7

def M70 (F : Nat) (a1 : TCalendar) : Option Thistory_week :=
  jn (fun (f3 : Nat → Bool) => jn (fun (l13 : List Int) => some (Thistory_week.mk f3 (w64 (7 - ((a1.Free.length : Nat) : Int))) l13)) (fun k12 => M70_L2 F a1 f3 k12 F 0 ([] : List Int))) (fun k2 => M70_L1 F a1 k2 F 0 (fun _ => false))

/-! cmp.isNaN[int] -/
def M140 (F : Nat) (a1 : Int) : Option Bool :=
  some (a1 != a1)

/-! cmp.Less[int] -/
def M108 (F : Nat) (a1 : Int) (a2 : Int) : Option Bool :=
  (M140 F a1).bind fun y3 => if y3 = true then (M140 F a2).bind fun y6 => if (!y6) = true then some true
  else some (decide (a1 < a2))
  else some (decide (a1 < a2))

/-! slices.isNaN[int] -/
def M109 (F : Nat) (a1 : Int) : Option Bool :=
  some (a1 != a1)

/-! slices.BinarySearch[[]int,int] -/
def M53_L1 (F : Nat) (a1 : (List Int)) (a2 : Int) (k3 : Int → Option (Int × Bool)) : Nat → Int → Int → Option (Int × Bool)
  | 0, _, _ => none
  | n + 1, n7, n8 => if (decide (n7 < n8)) = true then (idx a1 (w64 (Int.fdiv (IntKind.wrap .u64 (w64 (n7 + n8))) (2 ^ (min (Int.toNat 1) (IntKind.bits .u64)))))).bind fun x10 => (M108 F x10 a2).bind fun y12 => jn (fun (n15 : Int) (n16 : Int) => M53_L1 F a1 a2 k3 n n15 n16) (fun k14 => if y12 = true then k14 (w64 ((w64 (Int.fdiv (IntKind.wrap .u64 (w64 (n7 + n8))) (2 ^ (min (Int.toNat 1) (IntKind.bits .u64))))) + 1)) n8
  else k14 n7 (w64 (Int.fdiv (IntKind.wrap .u64 (w64 (n7 + n8))) (2 ^ (min (Int.toNat 1) (IntKind.bits .u64))))))
  else k3 n7

def M53 (F : Nat) (a1 : (List Int)) (a2 : Int) : Option (Int × Bool) :=
  jn (fun (n4 : Int) => if (decide (n4 < ((a1.length : Nat) : Int))) = true then (idx a1 n4).bind fun x19 => if (x19 == a2) = true then some (n4, true)
  else (idx a1 n4).bind fun x22 => (M109 F x22).bind fun y24 => if y24 = true then (M109 F a2).bind fun y27 => some (n4, y27)
  else some (n4, false)
  else some (n4, false)) (fun k3 => M53_L1 F a1 a2 k3 F 0 ((a1.length : Nat) : Int))

/-! (provender/history.week).count -/
def M71_L1 (F : Nat) (a1 : Thistory_week) (a2 : Int) (k3 : Int → Option Int) : Nat → Int → Int → Option Int
  | 0, _, _ => none
  | n + 1, n7, n8 => if (decide (n8 < (Int.tmod a2 7))) = true then if 0 ≤ n8 ∧ n8.toNat < 7 then jn (fun (n12 : Int) => M71_L1 F a1 a2 k3 n n12 (w64 (n8 + 1))) (fun k11 => if (!(a1.free n8.toNat)) = true then k11 (w64 (n7 + 1))
  else k11 n7) else none
  else k3 n7

def M71 (F : Nat) (a1 : Thistory_week) (a2 : Int) : Option Int :=
  jn (fun (n4 : Int) => (M53 F a1.holidays a2).bind fun y14 => some (w64 (n4 - (y14.1)))) (fun k3 => M71_L1 F a1 a2 k3 F (w64 ((w64 (Int.tdiv a2 7)) * a1.work)) 0)

/-! provender/history.IsWork -/
def M15 (F : Nat) (a1 : TCalendar) (a2 : Int) : Option (Bool × Int) :=
  (M21 F a1).bind fun y3 => if (y3 != 0) = true then some (false, y3)
  else (M69 F a2).bind fun y6 => if (!y6) = true then some (false, 9)
  else (M70 F a1).bind fun y9 => (M71 F y9 (w64 (a2 + 1))).bind fun y11 => (M71 F y9 a2).bind fun y13 => some ((decide (y11 > y13)), 0)

/-! provender/provenderref11.CheckCalendar -/
def M22_L2 (F : Nat) (a1 : TCalendar) (k19 : Option Int) : Nat → Int → Option Int
  | 0, _ => none
  | n + 1, n21 => if (decide (n21 < ((a1.Holidays.length : Nat) : Int))) = true then jn (fun (n24 : Int) (b25 : Bool) => M22_L2 F a1 k19 n (w64 (n21 + 1))) (fun k23 => (idx a1.Holidays n21).bind fun x26 => if (decide (x26 < 0)) = true then some 9
  else if (decide (x26 > 1000000)) = true then some 9
  else if (decide (n21 > 0)) = true then (idx a1.Holidays (w64 (n21 - 1))).bind fun x31 => if (decide (x26 ≤ x31)) = true then some 10
  else k23 x26 (decide (x26 > 1000000))
  else k23 x26 (decide (x26 > 1000000)))
  else k19

def M22_L1 (F : Nat) (a1 : TCalendar) (k4 : Option Int) : Nat → Int → Option Int
  | 0, _ => none
  | n + 1, n6 => if (decide (n6 < ((a1.Free.length : Nat) : Int))) = true then jn (fun (n9 : Int) (b10 : Bool) => M22_L1 F a1 k4 n (w64 (n6 + 1))) (fun k8 => (idx a1.Free n6).bind fun x11 => if (decide (x11 < 0)) = true then some 9
  else if (decide (x11 > 6)) = true then some 9
  else if (decide (n6 > 0)) = true then (idx a1.Free (w64 (n6 - 1))).bind fun x16 => if (decide (x11 ≤ x16)) = true then some 10
  else k8 x11 (decide (x11 > 6))
  else k8 x11 (decide (x11 > 6)))
  else k4

def M22 (F : Nat) (a1 : TCalendar) : Option Int :=
  if (decide (((a1.Free.length : Nat) : Int) > 6)) = true then some 3
  else if (decide (((a1.Holidays.length : Nat) : Int) > 2000)) = true then some 3
  else jn (jn (some 0) (fun k19 => M22_L2 F a1 k19 F 0)) (fun k4 => M22_L1 F a1 k4 F 0)

/-! provender/provenderref11.isDay -/
def M72 (F : Nat) (a1 : Int) : Option Bool :=
  if (decide (a1 ≥ 0)) = true then some (decide (a1 ≤ 1000000))
  else some false

/-! provender/provenderref11.calendarOf -/
def M73_L2 (F : Nat) (a1 : TCalendar) (k12 : (List (Int × Bool)) → Option Tprovenderref11_calendar) : Nat → Int → (List (Int × Bool)) → Option Tprovenderref11_calendar
  | 0, _, _ => none
  | n + 1, n16, m17 => if (decide (n16 < ((a1.Holidays.length : Nat) : Int))) = true then (idx a1.Holidays n16).bind fun x19 => M73_L2 F a1 k12 n (w64 (n16 + 1)) (mput m17 x19 true)
  else k12 m17

def M73_L1 (F : Nat) (a1 : TCalendar) (k2 : (Nat → Bool) → Option Tprovenderref11_calendar) : Nat → Int → (Nat → Bool) → Option Tprovenderref11_calendar
  | 0, _, _ => none
  | n + 1, n6, f7 => if (decide (n6 < ((a1.Free.length : Nat) : Int))) = true then (idx a1.Free n6).bind fun x9 => if 0 ≤ x9 ∧ x9.toNat < 7 then M73_L1 F a1 k2 n (w64 (n6 + 1)) (upd f7 x9.toNat true) else none
  else k2 f7

def M73 (F : Nat) (a1 : TCalendar) : Option Tprovenderref11_calendar :=
  jn (fun (f3 : Nat → Bool) => jn (fun (m13 : List (Int × Bool)) => some (Tprovenderref11_calendar.mk f3 m13)) (fun k12 => M73_L2 F a1 k12 F 0 ([] : List (Int × Bool)))) (fun k2 => M73_L1 F a1 k2 F 0 (fun _ => false))

/-! (provender/provenderref11.calendar).work -/
def M74 (F : Nat) (a1 : Tprovenderref11_calendar) (a2 : Int) : Option Bool :=
  if 0 ≤ (Int.tmod a2 7) ∧ (Int.tmod a2 7).toNat < 7 then if (!(a1.free (Int.tmod a2 7).toNat)) = true then some (!((mget a1.holidays a2).getD false))
  else some false else none

/-! provender/provenderref11.IsWork -/
def M16 (F : Nat) (a1 : TCalendar) (a2 : Int) : Option (Bool × Int) :=
  (M22 F a1).bind fun y3 => if (y3 != 0) = true then some (false, y3)
  else (M72 F a2).bind fun y6 => if (!y6) = true then some (false, 9)
  else (M73 F a1).bind fun y9 => (M74 F y9 a2).bind fun y11 => some (y11, 0)

/-! provender/history.WorkDays -/
def M17 (F : Nat) (a1 : TCalendar) (a2 : Int) (a3 : Int) : Option (Int × Int) :=
  (M21 F a1).bind fun y4 => if (y4 != 0) = true then some (0, y4)
  else (M69 F a2).bind fun y7 => if (!y7) = true then some (0, 9)
  else (M69 F a3).bind fun y10 => if (!y10) = true then some (0, 9)
  else if (decide (a2 > a3)) = true then some (0, 9)
  else (M70 F a1).bind fun y14 => (M71 F y14 a3).bind fun y16 => (M71 F y14 a2).bind fun y18 => some ((w64 (y16 - y18)), 0)

/-! (provender/provenderref11.calendar).count -/
def M75_L1 (F : Nat) (a1 : Tprovenderref11_calendar) (a3 : Int) (k4 : Int → Option Int) : Nat → Int → Int → Option Int
  | 0, _, _ => none
  | n + 1, n8, n9 => if (decide (n9 < a3)) = true then (M74 F a1 n9).bind fun y11 => jn (fun (n14 : Int) => M75_L1 F a1 a3 k4 n n14 (w64 (n9 + 1))) (fun k13 => if y11 = true then k13 (w64 (n8 + 1))
  else k13 n8)
  else k4 n8

def M75 (F : Nat) (a1 : Tprovenderref11_calendar) (a2 : Int) (a3 : Int) : Option Int :=
  jn (fun (n5 : Int) => some n5) (fun k4 => M75_L1 F a1 a3 k4 F 0 a2)

/-! provender/provenderref11.WorkDays -/
def M18 (F : Nat) (a1 : TCalendar) (a2 : Int) (a3 : Int) : Option (Int × Int) :=
  (M22 F a1).bind fun y4 => if (y4 != 0) = true then some (0, y4)
  else (M72 F a2).bind fun y7 => if (!y7) = true then some (0, 9)
  else (M72 F a3).bind fun y10 => if (!y10) = true then some (0, 9)
  else if (decide (a2 > a3)) = true then some (0, 9)
  else (M73 F a1).bind fun y14 => (M75 F y14 a2 a3).bind fun y16 => some (y16, 0)

/-! (provender/history.week).add$1 -/
def M126 (F : Nat) (a1 : Int) (a2 : Bool) (a3 : Bool) (a4 : Bool) (a5 : Bool) (a6 : Bool) (a7 : Bool) (a8 : Bool) (a9 : Int) (a10 : List Int) (a11 : Int) (a12 : Int) : Option Bool :=
  (M71 F (Thistory_week.mk (arrOf false [a2, a3, a4, a5, a6, a7, a8]) a9 a10) (w64 (a11 + a1))).bind fun y13 => some (decide (y13 ≥ a12))

/-! sort.Search -/
def M125_L1 (F : Nat) (a2 : Bool) (a3 : Bool) (a4 : Bool) (a5 : Bool) (a6 : Bool) (a7 : Bool) (a8 : Bool) (a9 : Int) (a10 : List Int) (a11 : Int) (a12 : Int) (k13 : Int → Option Int) : Nat → Int → Int → Option Int
  | 0, _, _ => none
  | n + 1, n17, n18 => if (decide (n17 < n18)) = true then (M126 F (w64 (Int.fdiv (IntKind.wrap .u64 (w64 (n17 + n18))) (2 ^ (min (Int.toNat 1) (IntKind.bits .u64))))) a2 a3 a4 a5 a6 a7 a8 a9 a10 a11 a12).bind fun y20 => jn (fun (n23 : Int) (n24 : Int) => M125_L1 F a2 a3 a4 a5 a6 a7 a8 a9 a10 a11 a12 k13 n n23 n24) (fun k22 => if (!y20) = true then k22 (w64 ((w64 (Int.fdiv (IntKind.wrap .u64 (w64 (n17 + n18))) (2 ^ (min (Int.toNat 1) (IntKind.bits .u64))))) + 1)) n18
  else k22 n17 (w64 (Int.fdiv (IntKind.wrap .u64 (w64 (n17 + n18))) (2 ^ (min (Int.toNat 1) (IntKind.bits .u64))))))
  else k13 n17

def M125 (F : Nat) (a1 : Int) (a2 : Bool) (a3 : Bool) (a4 : Bool) (a5 : Bool) (a6 : Bool) (a7 : Bool) (a8 : Bool) (a9 : Int) (a10 : List Int) (a11 : Int) (a12 : Int) : Option Int :=
  jn (fun (n14 : Int) => some n14) (fun k13 => M125_L1 F a2 a3 a4 a5 a6 a7 a8 a9 a10 a11 a12 k13 F 0 a1)

/-! (provender/history.week).add -/
def M76 (F : Nat) (a1 : Thistory_week) (a2 : Int) (a3 : Int) : Option (Int × Bool) :=
  (M71 F a1 a2).bind fun y4 => (M125 F (w64 (1000001 - a2)) (a1.free 0) (a1.free 1) (a1.free 2) (a1.free 3) (a1.free 4) (a1.free 5) (a1.free 6) a1.work a1.holidays a2 (w64 (y4 + a3))).bind fun y6 => some ((w64 (a2 + y6)), (decide ((w64 (a2 + y6)) ≤ 1000000)))

/-! provender/history.Add -/
def M19 (F : Nat) (a1 : TCalendar) (a2 : Int) (a3 : Int) : Option (Int × Int) :=
  (M21 F a1).bind fun y4 => if (y4 != 0) = true then some (0, y4)
  else (M69 F a2).bind fun y7 => if (!y7) = true then some (0, 9)
  else (M69 F a3).bind fun y10 => if (!y10) = true then some (0, 9)
  else (M70 F a1).bind fun y13 => (M76 F y13 a2 a3).bind fun y15 => if (!(y15.2)) = true then some (0, 3)
  else some ((y15.1), 0)

/-! (provender/provenderref11.calendar).add -/
def M77_L1 (F : Nat) (a1 : Tprovenderref11_calendar) (k4 : Int → Int → Option (Int × Bool)) : Nat → Int → Int → Option (Int × Bool)
  | 0, _, _ => none
  | n + 1, n9, n10 => if (decide (n9 > 0)) = true then if (decide (n10 ≤ 1000000)) = true then (M74 F a1 n10).bind fun y13 => jn (fun (n16 : Int) => M77_L1 F a1 k4 n n16 (w64 (n10 + 1))) (fun k15 => if y13 = true then k15 (w64 (n9 - 1))
  else k15 n9)
  else k4 n9 n10
  else k4 n9 n10

def M77 (F : Nat) (a1 : Tprovenderref11_calendar) (a2 : Int) (a3 : Int) : Option (Int × Bool) :=
  jn (fun (n5 : Int) (n6 : Int) => if (n5 == 0) = true then some (n6, (decide (n6 ≤ 1000000)))
  else some (n6, false)) (fun k4 => M77_L1 F a1 k4 F a3 a2)

/-! provender/provenderref11.Add -/
def M20 (F : Nat) (a1 : TCalendar) (a2 : Int) (a3 : Int) : Option (Int × Int) :=
  (M22 F a1).bind fun y4 => if (y4 != 0) = true then some (0, y4)
  else (M72 F a2).bind fun y7 => if (!y7) = true then some (0, 9)
  else (M72 F a3).bind fun y10 => if (!y10) = true then some (0, 9)
  else (M73 F a1).bind fun y13 => (M77 F y13 a2 a3).bind fun y15 => if (!(y15.2)) = true then some (0, 3)
  else some ((y15.1), 0)

/-! provender/provenderlaw11.told -/
def M23 (F : Nat) : Option Bool :=
  (M17 F (TCalendar.mk ([5, 6] : List Int) ([] : List Int)) 0 14).bind fun y1 => if ((y1.1) == 10) = true then some ((y1.2) == 0)
  else some false

/-! provender/provenderlaw11.HistoryDaysMatchSpec -/
def M3 (F : Nat) (a1 : TCalendar) (a2 : Int) (a3 : Int) (a4 : Int) : Option Bool :=
  (M15 F a1 a2).bind fun y5 => (M16 F a1 a2).bind fun y7 => (M17 F a1 a2 a3).bind fun y9 => (M18 F a1 a2 a3).bind fun y11 => (M19 F a1 a2 a4).bind fun y13 => (M20 F a1 a2 a4).bind fun y15 => (M21 F a1).bind fun y17 => (M22 F a1).bind fun y19 => if (y17 == y19) = true then if ((y5.1) == (y7.1)) = true then if ((y5.2) == (y7.2)) = true then if ((y9.1) == (y11.1)) = true then if ((y9.2) == (y11.2)) = true then if ((y13.1) == (y15.1)) = true then if ((y13.2) == (y15.2)) = true then (M23 F).bind fun y28 => some y28
  else some false
  else some false
  else some false
  else some false
  else some false
  else some false
  else some false

end Go.Proofs.Ytkciogeafbbggaa
