/- Part of the proof: HM. -/
import Derived.Test.YtkciogeafbbggaaJHT
namespace Go.Proofs.Ytkciogeafbbggaa
open Go Go.Pv
set_option linter.unusedVariables false
set_option maxRecDepth 100000
noncomputable section
def M78_L1 (F : Nat) (a1 : (List Int)) (a2 : Int) (k3 : Option Int) : Nat → Int → Option Int
  | 0, _ => none
  | n + 1, n5 => if (decide (n5 < ((a1.length : Nat) : Int))) = true then (idx a1 n5).bind fun x7 => if (decide (x7 < 0)) = true then some 9
  else jn (M78_L1 F a1 a2 k3 n (w64 (n5 + 1))) (fun k10 => if (decide (x7 > a2)) = true then some 9
  else if (decide (n5 > 0)) = true then (idx a1 (w64 (n5 - 1))).bind fun x13 => if (decide (x7 ≤ x13)) = true then some 10
  else k10
  else k10)
  else k3
def M78 (F : Nat) (a1 : (List Int)) (a2 : Int) : Option Int :=
  jn (some 0) (fun k3 => M78_L1 F a1 a2 k3 F 0)
def M21 (F : Nat) (a1 : TCalendar) : Option Int :=
  if (decide (((a1.Free.length : Nat) : Int) > 6)) = true then some 3
  else if (decide (((a1.Holidays.length : Nat) : Int) > 2000)) = true then some 3
  else (M78 F a1.Free 6).bind fun y4 => if (y4 != 0) = true then some y4
  else (M78 F a1.Holidays 1000000).bind fun y7 => some y7
def M69 (F : Nat) (a1 : Int) : Option Bool :=
  if (decide (a1 ≥ 0)) = true then some (decide (a1 ≤ 1000000))
  else some false
def M70_L2 (F : Nat) (a1 : TCalendar) (f3 : Nat → Bool) (k12 : (List Int) → Option Thistory_week) : Nat → Int → (List Int) → Option Thistory_week
  | 0, _, _ => none
  | n + 1, n16, l17 => if (decide (n16 < ((a1.Holidays.length : Nat) : Int))) = true then (idx a1.Holidays n16).bind fun x19 => if 0 ≤ (Int.tmod x19 7) ∧ (Int.tmod x19 7).toNat < 7 then jn (fun (l23 : List Int) => M70_L2 F a1 f3 k12 n (w64 (n16 + 1)) l23) (fun k22 => if (!(f3 (Int.tmod x19 7).toNat)) = true then if (l17 ++ ([x19] : List Int)).length * 8 ≤ 140737488355328 then k22 (l17 ++ ([x19] : List Int)) else none
  else k22 l17) else none
  else k12 l17
def M70_L1 (F : Nat) (a1 : TCalendar) (k2 : (Nat → Bool) → Option Thistory_week) : Nat → Int → (Nat → Bool) → Option Thistory_week
  | 0, _, _ => none
  | n + 1, n6, f7 => if (decide (n6 < ((a1.Free.length : Nat) : Int))) = true then (idx a1.Free n6).bind fun x9 => if 0 ≤ x9 ∧ x9.toNat < 7 then M70_L1 F a1 k2 n (w64 (n6 + 1)) (upd f7 x9.toNat true) else none
  else k2 f7
def M70 (F : Nat) (a1 : TCalendar) : Option Thistory_week :=
  jn (fun (f3 : Nat → Bool) => jn (fun (l13 : List Int) => some (Thistory_week.mk f3 (w64 (7 - ((a1.Free.length : Nat) : Int))) l13)) (fun k12 => M70_L2 F a1 f3 k12 F 0 ([] : List Int))) (fun k2 => M70_L1 F a1 k2 F 0 (fun _ => false))
def M140 (F : Nat) (a1 : Int) : Option Bool :=
  some (a1 != a1)
def M108 (F : Nat) (a1 : Int) (a2 : Int) : Option Bool :=
  (M140 F a1).bind fun y3 => if y3 = true then (M140 F a2).bind fun y6 => if (!y6) = true then some true
  else some (decide (a1 < a2))
  else some (decide (a1 < a2))
def M109 (F : Nat) (a1 : Int) : Option Bool :=
  some (a1 != a1)
def M53_L1 (F : Nat) (a1 : (List Int)) (a2 : Int) (k3 : Int → Option (Int × Bool)) : Nat → Int → Int → Option (Int × Bool)
  | 0, _, _ => none
  | n + 1, n7, n8 => if (decide (n7 < n8)) = true then (idx a1 (w64 (Int.fdiv (IntKind.wrap .u64 (w64 (n7 + n8))) (2 ^ (min (Int.toNat 1) (IntKind.bits .u64)))))).bind fun x10 => (M108 F x10 a2).bind fun y12 => jn (fun (n15 : Int) (n16 : Int) => M53_L1 F a1 a2 k3 n n15 n16) (fun k14 => if y12 = true then k14 (w64 ((w64 (Int.fdiv (IntKind.wrap .u64 (w64 (n7 + n8))) (2 ^ (min (Int.toNat 1) (IntKind.bits .u64))))) + 1)) n8
  else k14 n7 (w64 (Int.fdiv (IntKind.wrap .u64 (w64 (n7 + n8))) (2 ^ (min (Int.toNat 1) (IntKind.bits .u64))))))
  else k3 n7
def M53 (F : Nat) (a1 : (List Int)) (a2 : Int) : Option (Int × Bool) :=
  jn (fun (n4 : Int) => if (decide (n4 < ((a1.length : Nat) : Int))) = true then (idx a1 n4).bind fun x19 => if (x19 == a2) = true then some (n4, true)
  else (idx a1 n4).bind fun x22 => (M109 F x22).bind fun y24 => if y24 = true then (M109 F a2).bind fun y27 => some (n4, y27)
  else some (n4, false)
  else some (n4, false)) (fun k3 => M53_L1 F a1 a2 k3 F 0 ((a1.length : Nat) : Int))
def M71_L1 (F : Nat) (a1 : Thistory_week) (a2 : Int) (k3 : Int → Option Int) : Nat → Int → Int → Option Int
  | 0, _, _ => none
  | n + 1, n7, n8 => if (decide (n8 < (Int.tmod a2 7))) = true then if 0 ≤ n8 ∧ n8.toNat < 7 then jn (fun (n12 : Int) => M71_L1 F a1 a2 k3 n n12 (w64 (n8 + 1))) (fun k11 => if (!(a1.free n8.toNat)) = true then k11 (w64 (n7 + 1))
  else k11 n7) else none
  else k3 n7
def M71 (F : Nat) (a1 : Thistory_week) (a2 : Int) : Option Int :=
  jn (fun (n4 : Int) => (M53 F a1.holidays a2).bind fun y14 => some (w64 (n4 - (y14.1)))) (fun k3 => M71_L1 F a1 a2 k3 F (w64 ((w64 (Int.tdiv a2 7)) * a1.work)) 0)
def M72 (F : Nat) (a1 : Int) : Option Bool :=
  if (decide (a1 ≥ 0)) = true then some (decide (a1 ≤ 1000000))
  else some false
def M17 (F : Nat) (a1 : TCalendar) (a2 : Int) (a3 : Int) : Option (Int × Int) :=
  (M21 F a1).bind fun y4 => if (y4 != 0) = true then some (0, y4)
  else (M69 F a2).bind fun y7 => if (!y7) = true then some (0, 9)
  else (M69 F a3).bind fun y10 => if (!y10) = true then some (0, 9)
  else if (decide (a2 > a3)) = true then some (0, 9)
  else (M70 F a1).bind fun y14 => (M71 F y14 a3).bind fun y16 => (M71 F y14 a2).bind fun y18 => some ((w64 (y16 - y18)), 0)
def M23 (F : Nat) : Option Bool :=
  (M17 F (TCalendar.mk ([5, 6] : List Int) ([] : List Int)) 0 14).bind fun y1 => if ((y1.1) == 10) = true then some ((y1.2) == 0)
  else some false
def M131_L1 (F : Nat) (a1 : (List UInt8)) (k2 : Option Bool) : Nat → Int → Option Bool
  | 0, n4 => k2
  | tl1 + 1, n4 => (idx a1 n4).bind fun c6 => if (decide ((c6.toNat : Int) < 33)) = true then some false
 else (idx a1 n4).bind fun c9 => if (decide ((c9.toNat : Int) > 126)) = true then some false
 else M131_L1 F a1 k2 tl1 (n4 + 1)
def M131 (F : Nat) (a1 : (List UInt8)) : Option Bool :=
  jn (some (!(a1 == ([] : List UInt8)))) (fun k2 => if (a1.length : Int) ≤ 9223372036854775807 then M131_L1 F a1 k2 (((a1.length : Int)).toNat) 0 else none)
def M93 (F : Nat) (a1 : (List UInt8)) : Option Bool :=
  (M131 F a1).bind fun y2 => if y2 = true then some (decide ((a1.length : Int) ≤ 100))
  else some false
def M84 (F : Nat) (a1 : TExposure) : Option Thistory_key :=
  some (Thistory_key.mk a1.Advisory a1.Component)
def M152 (F : Nat) (a1 : (List UInt8)) : Option Bool :=
  some (!(a1 == a1))
def M138 (F : Nat) (a1 : (List UInt8)) (a2 : (List UInt8)) : Option Int :=
  (M152 F a1).bind fun y3 => (M152 F a2).bind fun y5 => if y3 = true then if y5 = true then some 0
  else some (-1)
  else if y5 = true then some 1
  else if (Op.bytesLess a1 a2) = true then some (-1)
  else if (!(Op.bytesLess a1 a2 || a1 == a2)) = true then some 1
  else some 0
def M149_L1 (F : Nat) (k2 : Option Int) : List Int → Option Int
  | [] => k2
  | x6 :: tl1 => if (x6 != 0) = true then some x6
 else M149_L1 F k2 tl1
def M149 (F : Nat) (a1 : (List Int)) : Option Int :=
  jn (some 0) (fun k2 => M149_L1 F k2 a1)
def M146 (F : Nat) (a1 : Thistory_key) (a2 : Thistory_key) : Option Int :=
  (M138 F a1.advisory a2.advisory).bind fun y3 => (M138 F a1.component a2.component).bind fun y5 => (M149 F ([y3, y5] : List Int)).bind fun y7 => some y7
def M127_L1 (F : Nat) (a1 : (List TExposure)) (k3 : Option Int) : List TExposure → Int → Option Int
  | [], n5 => k3
  | x7 :: tl1, n5 => (M93 F x7.Advisory).bind fun y9 => if (!y9) = true then some 8
 else (M93 F x7.Component).bind fun y12 => jn (M127_L1 F a1 k3 tl1 (n5 + 1)) (fun k14 => if (!y12) = true then some 8
 else if (decide (x7.Severity < 0)) = true then some 9
 else if (decide (x7.Severity > 100)) = true then some 9
 else if (decide (n5 > 0)) = true then (idx a1 (w64 (n5 - 1))).bind fun x19 => (M84 F x19).bind fun y21 => (M84 F x7).bind fun y23 => (M146 F y21 y23).bind fun y25 => if (decide (y25 ≥ 0)) = true then some 10
 else k14
 else k14)
def M127 (F : Nat) (a1 : (List TExposure)) : Option Int :=
  if (decide (((a1.length : Nat) : Int) > 500)) = true then some 3
  else jn (some 0) (fun k3 => M127_L1 F a1 k3 a1 0)
def M95_L1 (F : Nat) (a1 : (List UInt8)) (k2 : Option Bool) : Nat → Int → Option Bool
  | 0, n4 => k2
  | tl1 + 1, n4 => (idx a1 n4).bind fun c6 => if (decide ((c6.toNat : Int) < 33)) = true then some false
 else (idx a1 n4).bind fun c9 => if (decide ((c9.toNat : Int) > 126)) = true then some false
 else M95_L1 F a1 k2 tl1 (n4 + 1)
def M95 (F : Nat) (a1 : (List UInt8)) : Option Bool :=
  jn (if (decide ((a1.length : Int) ≥ 1)) = true then some (decide ((a1.length : Int) ≤ 100))
  else some false) (fun k2 => if (a1.length : Int) ≤ 9223372036854775807 then M95_L1 F a1 k2 (((a1.length : Int)).toNat) 0 else none)
def M132 (F : Nat) (a1 : TExposure) (a2 : TExposure) : Option Bool :=
  if (Op.bytesLess a1.Advisory a2.Advisory) = true then some true
  else if (a1.Advisory == a2.Advisory) = true then some (Op.bytesLess a1.Component a2.Component)
  else some false
def M96_L1 (F : Nat) (a1 : (List TExposure)) (k3 : Option Int) : List TExposure → Int → Option Int
  | [], n5 => k3
  | x7 :: tl1, n5 => (M95 F x7.Advisory).bind fun y9 => if (!y9) = true then some 8
 else (M95 F x7.Component).bind fun y12 => jn (M96_L1 F a1 k3 tl1 (n5 + 1)) (fun k14 => if (!y12) = true then some 8
 else if (decide (x7.Severity < 0)) = true then some 9
 else if (decide (x7.Severity > 100)) = true then some 9
 else if (decide (n5 > 0)) = true then (idx a1 (w64 (n5 - 1))).bind fun x19 => (M132 F x19 x7).bind fun y21 => if (!y21) = true then some 10
 else k14
 else k14)
def M96 (F : Nat) (a1 : (List TExposure)) : Option Int :=
  if (decide (((a1.length : Nat) : Int) > 500)) = true then some 3
  else jn (some 0) (fun k3 => M96_L1 F a1 k3 a1 0)
def M30_L1 (F : Nat) (a2 : (List TExposure)) (k4 : Option Bool) : List TExposure → Int → Option Bool
  | [], n6 => k4
  | x8 :: tl1, n6 => (idx a2 n6).bind fun x10 => if (!(decide (x8 = x10))) = true then some false
 else M30_L1 F a2 k4 tl1 (n6 + 1)
def M30 (F : Nat) (a1 : (List TExposure)) (a2 : (List TExposure)) : Option Bool :=
  if (((a1.length : Nat) : Int) != ((a2.length : Nat) : Int)) = true then some false
  else jn (some true) (fun k4 => M30_L1 F a2 k4 a1 0)
def M94_L1 (F : Nat) (a1 : TStory) (k2 : Option Int) : List TRelease → Int → (List ((List UInt8) × Bool)) → Option Int
  | [], n5, m6 => k2
  | x8 :: tl1, n5, m6 => (M93 F x8.Version).bind fun y10 => jn ((M127 F x8.Exposures).bind fun y21 => if (y21 != 0) = true then some y21
 else M94_L1 F a1 k2 tl1 (n5 + 1) (mput m6 x8.Version true)) (fun k12 => if (!y10) = true then some 8
 else if ((mget m6 x8.Version).getD false) = true then some 5
 else if (decide (x8.Day < 0)) = true then some 9
 else if (decide (x8.Day > a1.Until)) = true then some 9
 else if (decide (n5 > 0)) = true then (idx a1.Releases (w64 (n5 - 1))).bind fun x18 => if (decide (x8.Day ≤ x18.Day)) = true then some 10
 else k12
 else k12)
def M94 (F : Nat) (a1 : TStory) : Option Int :=
  jn (some 0) (fun k2 => M94_L1 F a1 k2 a1.Releases 0 ([] : List ((List UInt8) × Bool)))
def M35_L3 (F : Nat) (m14 : List ((List UInt8) × Bool)) (k51 : Option Int) : List TExposure → Option Int
  | [] => k51
  | x55 :: tl3 => if (!((mget m14 x55.Advisory).getD false)) = true then some 4
 else M35_L3 F m14 k51 tl3
def M35_L2 (F : Nat) (m14 : List ((List UInt8) × Bool)) (k44 : Option Int) : List TRelease → Option Int
  | [] => k44
  | x49 :: tl2 => jn (M35_L2 F m14 k44 tl2 ) (fun k48 => jn (k48) (fun k51 => M35_L3 F m14 k51 x49.Exposures))
def M35_L1 (F : Nat) (a1 : TStory) (k13 : (List ((List UInt8) × Bool)) → Option Int) : List TPublished → Int → (List ((List UInt8) × Bool)) → Option Int
  | [], n17, m18 => k13 m18
  | x20 :: tl1, n17, m18 => (M93 F x20.Advisory).bind fun y22 => jn (fun (b25 : Bool) => M35_L1 F a1 k13 tl1 (n17 + 1) (mput m18 x20.Advisory true)) (fun k24 => if (!y22) = true then some 8
 else if (decide (n17 > 0)) = true then (idx a1.Known (w64 (n17 - 1))).bind fun x28 => if (Op.bytesLess x20.Advisory x28.Advisory || x20.Advisory == x28.Advisory) = true then some 10
 else (M69 F x20.Day).bind fun y31 => if (!y31) = true then some 9
 else if (x20.Ended != (-1)) = true then if (decide (x20.Ended < x20.Day)) = true then some 9
 else if (decide (x20.Ended > 1000000)) = true then some 9
 else k24 (decide (x20.Ended > 1000000))
 else k24 false
 else (M69 F x20.Day).bind fun y37 => if (!y37) = true then some 9
 else if (x20.Ended != (-1)) = true then if (decide (x20.Ended < x20.Day)) = true then some 9
 else if (decide (x20.Ended > 1000000)) = true then some 9
 else k24 (decide (x20.Ended > 1000000))
 else k24 false)
def M35 (F : Nat) (a1 : TStory) : Option Int :=
  (M93 F a1.Product).bind fun y2 => if (!y2) = true then some 8
  else (M69 F a1.Until).bind fun y5 => if (!y5) = true then some 9
  else if (decide (((a1.Releases.length : Nat) : Int) > 500)) = true then some 3
  else if (decide (((a1.Known.length : Nat) : Int) > 2000)) = true then some 3
  else (M94 F a1).bind fun y10 => if (y10 != 0) = true then some y10
  else jn (fun (m14 : List ((List UInt8) × Bool)) => jn (some 0) (fun k44 => M35_L2 F m14 k44 a1.Releases)) (fun k13 => M35_L1 F a1 k13 a1.Known 0 ([] : List ((List UInt8) × Bool)))
def M129 (F : Nat) (a1 : (List TExposure)) : Option (List TExposure) :=
  nilq a1.length (fun b2 => if b2 = true then some ([] : List TExposure)
  else if (([] : List TExposure) ++ a1).length * 40 ≤ 140737488355328 then some (([] : List TExposure) ++ a1) else none)
def M88 (F : Nat) (a1 : TRelease) : Option TRelease :=
  (M129 F a1.Exposures).bind fun y2 => some (TRelease.mk a1.Version a1.Day y2)
def M97_L1 (F : Nat) (a1 : (List TPublished)) (k2 : Option Int) : List TPublished → Int → Option Int
  | [], n4 => k2
  | x6 :: tl1, n4 => (M95 F x6.Advisory).bind fun y8 => jn (fun (b11 : Bool) => M97_L1 F a1 k2 tl1 (n4 + 1)) (fun k10 => if (!y8) = true then some 8
 else if (decide (n4 > 0)) = true then (idx a1 (w64 (n4 - 1))).bind fun x14 => if (Op.bytesLess x6.Advisory x14.Advisory || x6.Advisory == x14.Advisory) = true then some 10
 else (M72 F x6.Day).bind fun y17 => if (!y17) = true then some 9
 else if (x6.Ended != (-1)) = true then if (decide (x6.Ended < x6.Day)) = true then some 9
 else if (decide (x6.Ended > 1000000)) = true then some 9
 else k10 (decide (x6.Ended > 1000000))
 else k10 false
 else (M72 F x6.Day).bind fun y23 => if (!y23) = true then some 9
 else if (x6.Ended != (-1)) = true then if (decide (x6.Ended < x6.Day)) = true then some 9
 else if (decide (x6.Ended > 1000000)) = true then some 9
 else k10 (decide (x6.Ended > 1000000))
 else k10 false)
def M97 (F : Nat) (a1 : (List TPublished)) : Option Int :=
  jn (some 0) (fun k2 => M97_L1 F a1 k2 a1 0)
def M36_L4 (F : Nat) (m37 : List ((List UInt8) × Bool)) (k53 : Option Int) : List TExposure → Option Int
  | [] => k53
  | x57 :: tl4 => if (!((mget m37 x57.Advisory).getD false)) = true then some 4
 else M36_L4 F m37 k53 tl4
def M36_L3 (F : Nat) (m37 : List ((List UInt8) × Bool)) (k46 : Option Int) : List TRelease → Option Int
  | [] => k46
  | x51 :: tl3 => jn (M36_L3 F m37 k46 tl3 ) (fun k50 => jn (k50) (fun k53 => M36_L4 F m37 k53 x51.Exposures))
def M36_L2 (F : Nat) (k36 : (List ((List UInt8) × Bool)) → Option Int) : List TPublished → (List ((List UInt8) × Bool)) → Option Int
  | [], m41 => k36 m41
  | x43 :: tl2, m41 => M36_L2 F k36 tl2 (mput m41 x43.Advisory true)
def M36_L1 (F : Nat) (a1 : TStory) (k10 : Option Int) : List TRelease → Int → (List ((List UInt8) × Bool)) → Option Int
  | [], n13, m14 => k10
  | x16 :: tl1, n13, m14 => (M95 F x16.Version).bind fun y18 => jn ((M96 F x16.Exposures).bind fun y29 => if (y29 != 0) = true then some y29
 else M36_L1 F a1 k10 tl1 (n13 + 1) (mput m14 x16.Version true)) (fun k20 => if (!y18) = true then some 8
 else if ((mget m14 x16.Version).getD false) = true then some 5
 else if (decide (x16.Day < 0)) = true then some 9
 else if (decide (x16.Day > a1.Until)) = true then some 9
 else if (decide (n13 > 0)) = true then (idx a1.Releases (w64 (n13 - 1))).bind fun x26 => if (decide (x16.Day ≤ x26.Day)) = true then some 10
 else k20
 else k20)
def M36 (F : Nat) (a1 : TStory) : Option Int :=
  (M95 F a1.Product).bind fun y2 => if (!y2) = true then some 8
  else (M72 F a1.Until).bind fun y5 => if (!y5) = true then some 9
  else if (decide (((a1.Releases.length : Nat) : Int) > 500)) = true then some 3
  else if (decide (((a1.Known.length : Nat) : Int) > 2000)) = true then some 3
  else jn ((M97 F a1.Known).bind fun y33 => if (y33 != 0) = true then some y33
  else jn (fun (m37 : List ((List UInt8) × Bool)) => jn (some 0) (fun k46 => M36_L3 F m37 k46 a1.Releases)) (fun k36 => M36_L2 F k36 a1.Known ([] : List ((List UInt8) × Bool)))) (fun k10 => M36_L1 F a1 k10 a1.Releases 0 ([] : List ((List UInt8) × Bool)))
def M37 (F : Nat) (a1 : TRelease) (a2 : TRelease) : Option Bool :=
  if (a1.Version == a2.Version) = true then if (a1.Day == a2.Day) = true then (M30 F a1.Exposures a2.Exposures).bind fun y5 => some y5
  else some false
  else some false
def M101 (F : Nat) (a1 : (List TPublished)) : Option (List TPublished) :=
  nilq a1.length (fun b2 => if b2 = true then some ([] : List TPublished)
  else if (([] : List TPublished) ++ a1).length * 32 ≤ 140737488355328 then some (([] : List TPublished) ++ a1) else none)
def M45_L1 (F : Nat) (a2 : Int) (k11 : (List TRelease) → Option (TStory × Int)) : List TRelease → (List TRelease) → Option (TStory × Int)
  | [], l16 => k11 l16
  | x18 :: tl1, l16 => jn (fun (l21 : List TRelease) => M45_L1 F a2 k11 tl1 l21) (fun k20 => if (decide (x18.Day < a2)) = true then (M88 F x18).bind fun y23 => if (l16 ++ ([y23] : List TRelease)).length * 48 ≤ 140737488355328 then k20 (l16 ++ ([y23] : List TRelease)) else none
 else k20 l16)
def M45 (F : Nat) (a1 : TStory) (a2 : Int) : Option (TStory × Int) :=
  (M35 F a1).bind fun y3 => if (y3 != 0) = true then some ((TStory.mk ([] : List UInt8) ([] : List TRelease) ([] : List TPublished) 0), y3)
  else (M69 F a2).bind fun y6 => if (!y6) = true then some ((TStory.mk ([] : List UInt8) ([] : List TRelease) ([] : List TPublished) 0), 9)
  else (M101 F a1.Known).bind fun y9 => jn (fun (l12 : List TRelease) => some ((TStory.mk a1.Product l12 y9 (if a2 < a1.Until then a2 else a1.Until)), 0)) (fun k11 => M45_L1 F a2 k11 a1.Releases ([] : List TRelease))
def M46_L1 (F : Nat) (a2 : Int) (k9 : (List TRelease) → Option (TStory × Int)) : List TRelease → (List TRelease) → Option (TStory × Int)
  | [], l14 => k9 l14
  | x16 :: tl1, l14 => jn (fun (l19 : List TRelease) => M46_L1 F a2 k9 tl1 l19) (fun k18 => if (decide (x16.Day < a2)) = true then if (l14 ++ ([x16] : List TRelease)).length * 48 ≤ 140737488355328 then k18 (l14 ++ ([x16] : List TRelease)) else none
 else k18 l14)
def M46 (F : Nat) (a1 : TStory) (a2 : Int) : Option (TStory × Int) :=
  (M36 F a1).bind fun y3 => if (y3 != 0) = true then some ((TStory.mk ([] : List UInt8) ([] : List TRelease) ([] : List TPublished) 0), y3)
  else (M72 F a2).bind fun y6 => if (!y6) = true then some ((TStory.mk ([] : List UInt8) ([] : List TRelease) ([] : List TPublished) 0), 9)
  else jn (fun (l10 : List TRelease) => some ((TStory.mk a1.Product l10 a1.Known (if a2 < a1.Until then a2 else a1.Until)), 0)) (fun k9 => M46_L1 F a2 k9 a1.Releases ([] : List TRelease))
def M101_1 (F : Nat) (a1 : (List TPublished)) : Option (List TPublished) :=
  nilq a1.length (fun b7 => if b7 = true then some ([] : List TPublished)
  else if (([] : List TPublished) ++ a1).length * 32 ≤ 140737488355328 then some (([] : List TPublished) ++ a1) else none)
def M137 (F : Nat) (a1 : TPublished) (a2 : TPublished) : Option Int :=
  (M138 F a1.Advisory a2.Advisory).bind fun y3 => some y3
def M173_L2 (F : Nat) (a1 : Int) (k41 : (List TPublished) → Option (List TPublished)) : Nat → Int → (List TPublished) → Option (List TPublished)
  | 0, _, _ => none
  | n + 1, n45, l46 => if (decide (n45 > a1)) = true then (idx l46 n45).bind fun x48 => (idx l46 (w64 (n45 - 1))).bind fun x50 => (M137 F x48 x50).bind fun y52 => if (decide (y52 < 0)) = true then (idx l46 (w64 (n45 - 1))).bind fun x55 => (idx l46 n45).bind fun x57 => (idx l46 n45).bind fun x59 => (idx (l46.set n45.toNat x55) (w64 (n45 - 1))).bind fun x61 => M173_L2 F a1 k41 n (w64 (n45 - 1)) ((l46.set n45.toNat x55).set (w64 (n45 - 1)).toNat x57)
  else k41 l46
  else k41 l46
def M173_L1 (F : Nat) (a1 : Int) (a2 : Int) : Nat → Int → (List TPublished) → Option (List TPublished)
  | 0, _, _ => none
  | n + 1, n36, l37 => if (decide (n36 < a2)) = true then jn (fun (l40 : List TPublished) => M173_L1 F a1 a2 n (w64 (n36 + 1)) l40) (fun k39 => jn (fun (l42 : List TPublished) => k39 l42) (fun k41 => M173_L2 F a1 k41 F n36 l37))
  else some l37
def M173 (F : Nat) (a1 : Int) (a2 : Int) (a3 : List TPublished) : Option (List TPublished) :=
  M173_L1 F a1 a2 F (w64 (a1 + 1)) a3
def M186_L1 (F : Nat) (a1 : Int) (a2 : Int) : Nat → Int → (List TPublished) → Option (List TPublished)
  | 0, n22, l23 => some l23
  | tl1 + 1, n22, l23 => (idx l23 (w64 (a2 + n22))).bind fun x25 => (idx l23 (w64 (a1 + n22))).bind fun x27 => (idx l23 (w64 (a1 + n22))).bind fun x29 => (idx (l23.set (w64 (a1 + n22)).toNat x25) (w64 (a2 + n22))).bind fun x31 => M186_L1 F a1 a2 tl1 (n22 + 1) ((l23.set (w64 (a1 + n22)).toNat x25).set (w64 (a2 + n22)).toNat x27)
def M186 (F : Nat) (a1 : Int) (a2 : Int) (a3 : Int) (a4 : List TPublished) : Option (List TPublished) :=
  if a3 ≤ 9223372036854775807 then M186_L1 F a1 a2 ((a3).toNat) 0 a4 else none
def M182_L1 (F : Nat) (a2 : Int) (k30 : Int → (List TPublished) → Option (List TPublished)) : Nat → Int → Int → (List TPublished) → Option (List TPublished)
  | 0, _, _, _ => none
  | n + 1, n36, n37, l38 => if (n36 != n37) = true then jn (fun (n41 : Int) (n42 : Int) (l43 : List TPublished) => M182_L1 F a2 k30 n n41 n42 l43) (fun k40 => if (decide (n36 > n37)) = true then (M186 F (w64 (a2 - n36)) a2 n37 l38).bind fun y45 => if y45.length = l38.length then k40 (w64 (n36 - n37)) n37 y45 else none
  else (M186 F (w64 (a2 - n36)) (w64 ((w64 (a2 + n37)) - n36)) n36 l38).bind fun y48 => if y48.length = l38.length then k40 n36 (w64 (n37 - n36)) y48 else none)
  else k30 n36 l38
def M182 (F : Nat) (a1 : Int) (a2 : Int) (a3 : Int) (a4 : List TPublished) : Option (List TPublished) :=
  jn (fun (n31 : Int) (l32 : List TPublished) => (M186 F (w64 (a2 - n31)) a2 n31 l32).bind fun y51 => if y51.length = l32.length then some y51 else none) (fun k30 => M182_L1 F a2 k30 F (w64 (a2 - a1)) (w64 (a3 - a2)) a4)
def M174_L2 (F : Nat) (n114 : Int) (k130 : (List TPublished) → Option (List TPublished)) : Nat → Int → (List TPublished) → Option (List TPublished)
  | 0, _, _ => none
  | n + 1, n134, l135 => if (decide (n134 < (w64 (n114 - 1)))) = true then (idx l135 (w64 (n134 + 1))).bind fun x137 => (idx l135 n134).bind fun x139 => (idx l135 n134).bind fun x141 => (idx (l135.set n134.toNat x137) (w64 (n134 + 1))).bind fun x143 => M174_L2 F n114 k130 n (w64 (n134 + 1)) ((l135.set n134.toNat x137).set (w64 (n134 + 1)).toNat x139)
  else k130 l135
def M174_L1 (F : Nat) (a1 : Int) (a4 : List TPublished) (k113 : Int → Option (List TPublished)) : Nat → Int → Int → Option (List TPublished)
  | 0, _, _ => none
  | n + 1, n117, n118 => if (decide (n117 < n118)) = true then (idx a4 (w64 (Int.fdiv (IntKind.wrap .u64 (w64 (n117 + n118))) (2 ^ (min (Int.toNat 1) (IntKind.bits .u64)))))).bind fun x120 => (idx a4 a1).bind fun x122 => (M137 F x120 x122).bind fun y124 => jn (fun (n127 : Int) (n128 : Int) => M174_L1 F a1 a4 k113 n n127 n128) (fun k126 => if (decide (y124 < 0)) = true then k126 (w64 ((w64 (Int.fdiv (IntKind.wrap .u64 (w64 (n117 + n118))) (2 ^ (min (Int.toNat 1) (IntKind.bits .u64))))) + 1)) n118
  else k126 n117 (w64 (Int.fdiv (IntKind.wrap .u64 (w64 (n117 + n118))) (2 ^ (min (Int.toNat 1) (IntKind.bits .u64))))))
  else k113 n117
def M174_L4 (F : Nat) (n147 : Int) (k163 : (List TPublished) → Option (List TPublished)) : Nat → Int → (List TPublished) → Option (List TPublished)
  | 0, _, _ => none
  | n + 1, n167, l168 => if (decide (n167 > n147)) = true then (idx l168 (w64 (n167 - 1))).bind fun x170 => (idx l168 n167).bind fun x172 => (idx l168 n167).bind fun x174 => (idx (l168.set n167.toNat x170) (w64 (n167 - 1))).bind fun x176 => M174_L4 F n147 k163 n (w64 (n167 - 1)) ((l168.set n167.toNat x170).set (w64 (n167 - 1)).toNat x172)
  else k163 l168
def M174_L3 (F : Nat) (a2 : Int) (a4 : List TPublished) (k146 : Int → Option (List TPublished)) : Nat → Int → Int → Option (List TPublished)
  | 0, _, _ => none
  | n + 1, n150, n151 => if (decide (n150 < n151)) = true then (idx a4 a2).bind fun x153 => (idx a4 (w64 (Int.fdiv (IntKind.wrap .u64 (w64 (n150 + n151))) (2 ^ (min (Int.toNat 1) (IntKind.bits .u64)))))).bind fun x155 => (M137 F x153 x155).bind fun y157 => jn (fun (n160 : Int) (n161 : Int) => M174_L3 F a2 a4 k146 n n160 n161) (fun k159 => if (!(decide (y157 < 0))) = true then k159 (w64 ((w64 (Int.fdiv (IntKind.wrap .u64 (w64 (n150 + n151))) (2 ^ (min (Int.toNat 1) (IntKind.bits .u64))))) + 1)) n151
  else k159 n150 (w64 (Int.fdiv (IntKind.wrap .u64 (w64 (n150 + n151))) (2 ^ (min (Int.toNat 1) (IntKind.bits .u64))))))
  else k146 n150
def M174_L5 (F : Nat) (a1 : Int) (a2 : Int) (a3 : Int) (a4 : List TPublished) (k182 : Int → Option (List TPublished)) : Nat → Int → Int → Option (List TPublished)
  | 0, _, _ => none
  | n + 1, n186, n187 => if (decide (n186 < n187)) = true then (idx a4 (w64 ((w64 ((w64 ((w64 (Int.fdiv (IntKind.wrap .u64 (w64 (a1 + a3))) (2 ^ (min (Int.toNat 1) (IntKind.bits .u64))))) + a2)) - 1)) - (w64 (Int.fdiv (IntKind.wrap .u64 (w64 (n186 + n187))) (2 ^ (min (Int.toNat 1) (IntKind.bits .u64)))))))).bind fun x189 => (idx a4 (w64 (Int.fdiv (IntKind.wrap .u64 (w64 (n186 + n187))) (2 ^ (min (Int.toNat 1) (IntKind.bits .u64)))))).bind fun x191 => (M137 F x189 x191).bind fun y193 => jn (fun (n196 : Int) (n197 : Int) => M174_L5 F a1 a2 a3 a4 k182 n n196 n197) (fun k195 => if (!(decide (y193 < 0))) = true then k195 (w64 ((w64 (Int.fdiv (IntKind.wrap .u64 (w64 (n186 + n187))) (2 ^ (min (Int.toNat 1) (IntKind.bits .u64))))) + 1)) n187
  else k195 n186 (w64 (Int.fdiv (IntKind.wrap .u64 (w64 (n186 + n187))) (2 ^ (min (Int.toNat 1) (IntKind.bits .u64))))))
  else k182 n186
def M174_B (R174 : Int → Int → Int → (List TPublished) → Option (List TPublished)) (F : Nat) (a1 : Int) (a2 : Int) (a3 : Int) (a4 : List TPublished) : Option (List TPublished) :=
  if ((w64 (a2 - a1)) == 1) = true then jn (fun (n114 : Int) => jn (fun (l131 : List TPublished) => some l131) (fun k130 => M174_L2 F n114 k130 F a1 a4)) (fun k113 => M174_L1 F a1 a4 k113 F a2 a3)
  else if ((w64 (a3 - a2)) == 1) = true then jn (fun (n147 : Int) => jn (fun (l164 : List TPublished) => some l164) (fun k163 => M174_L4 F n147 k163 F a2 a4)) (fun k146 => M174_L3 F a2 a4 k146 F a1 a2)
  else jn (fun (n179 : Int) (n180 : Int) => jn (fun (n183 : Int) => if (decide (n183 < a2)) = true then jn (fun (l201 : List TPublished) => if (decide (a1 < n183)) = true then jn (fun (l208 : List TPublished) => if (decide ((w64 (Int.fdiv (IntKind.wrap .u64 (w64 (a1 + a3))) (2 ^ (min (Int.toNat 1) (IntKind.bits .u64))))) < (w64 ((w64 ((w64 (Int.fdiv (IntKind.wrap .u64 (w64 (a1 + a3))) (2 ^ (min (Int.toNat 1) (IntKind.bits .u64))))) + a2)) - n183)))) = true then if (decide ((w64 ((w64 ((w64 (Int.fdiv (IntKind.wrap .u64 (w64 (a1 + a3))) (2 ^ (min (Int.toNat 1) (IntKind.bits .u64))))) + a2)) - n183)) < a3)) = true then (R174 (w64 (Int.fdiv (IntKind.wrap .u64 (w64 (a1 + a3))) (2 ^ (min (Int.toNat 1) (IntKind.bits .u64))))) (w64 ((w64 ((w64 (Int.fdiv (IntKind.wrap .u64 (w64 (a1 + a3))) (2 ^ (min (Int.toNat 1) (IntKind.bits .u64))))) + a2)) - n183)) a3 l208).bind fun y215 => if y215.length = l208.length then some y215 else none
  else some l208
  else some l208) (fun k207 => if (decide (n183 < (w64 (Int.fdiv (IntKind.wrap .u64 (w64 (a1 + a3))) (2 ^ (min (Int.toNat 1) (IntKind.bits .u64))))))) = true then (R174 a1 n183 (w64 (Int.fdiv (IntKind.wrap .u64 (w64 (a1 + a3))) (2 ^ (min (Int.toNat 1) (IntKind.bits .u64))))) l201).bind fun y210 => if y210.length = l201.length then k207 y210 else none
  else k207 l201)
  else if (decide ((w64 (Int.fdiv (IntKind.wrap .u64 (w64 (a1 + a3))) (2 ^ (min (Int.toNat 1) (IntKind.bits .u64))))) < (w64 ((w64 ((w64 (Int.fdiv (IntKind.wrap .u64 (w64 (a1 + a3))) (2 ^ (min (Int.toNat 1) (IntKind.bits .u64))))) + a2)) - n183)))) = true then if (decide ((w64 ((w64 ((w64 (Int.fdiv (IntKind.wrap .u64 (w64 (a1 + a3))) (2 ^ (min (Int.toNat 1) (IntKind.bits .u64))))) + a2)) - n183)) < a3)) = true then (R174 (w64 (Int.fdiv (IntKind.wrap .u64 (w64 (a1 + a3))) (2 ^ (min (Int.toNat 1) (IntKind.bits .u64))))) (w64 ((w64 ((w64 (Int.fdiv (IntKind.wrap .u64 (w64 (a1 + a3))) (2 ^ (min (Int.toNat 1) (IntKind.bits .u64))))) + a2)) - n183)) a3 l201).bind fun y220 => if y220.length = l201.length then some y220 else none
  else some l201
  else some l201) (fun k200 => if (decide (a2 < (w64 ((w64 ((w64 (Int.fdiv (IntKind.wrap .u64 (w64 (a1 + a3))) (2 ^ (min (Int.toNat 1) (IntKind.bits .u64))))) + a2)) - n183)))) = true then (M182 F n183 a2 (w64 ((w64 ((w64 (Int.fdiv (IntKind.wrap .u64 (w64 (a1 + a3))) (2 ^ (min (Int.toNat 1) (IntKind.bits .u64))))) + a2)) - n183)) a4).bind fun y203 => if y203.length = a4.length then k200 y203 else none
  else k200 a4)
  else if (decide (a1 < n183)) = true then jn (fun (l225 : List TPublished) => if (decide ((w64 (Int.fdiv (IntKind.wrap .u64 (w64 (a1 + a3))) (2 ^ (min (Int.toNat 1) (IntKind.bits .u64))))) < (w64 ((w64 ((w64 (Int.fdiv (IntKind.wrap .u64 (w64 (a1 + a3))) (2 ^ (min (Int.toNat 1) (IntKind.bits .u64))))) + a2)) - n183)))) = true then if (decide ((w64 ((w64 ((w64 (Int.fdiv (IntKind.wrap .u64 (w64 (a1 + a3))) (2 ^ (min (Int.toNat 1) (IntKind.bits .u64))))) + a2)) - n183)) < a3)) = true then (R174 (w64 (Int.fdiv (IntKind.wrap .u64 (w64 (a1 + a3))) (2 ^ (min (Int.toNat 1) (IntKind.bits .u64))))) (w64 ((w64 ((w64 (Int.fdiv (IntKind.wrap .u64 (w64 (a1 + a3))) (2 ^ (min (Int.toNat 1) (IntKind.bits .u64))))) + a2)) - n183)) a3 l225).bind fun y232 => if y232.length = l225.length then some y232 else none
  else some l225
  else some l225) (fun k224 => if (decide (n183 < (w64 (Int.fdiv (IntKind.wrap .u64 (w64 (a1 + a3))) (2 ^ (min (Int.toNat 1) (IntKind.bits .u64))))))) = true then (R174 a1 n183 (w64 (Int.fdiv (IntKind.wrap .u64 (w64 (a1 + a3))) (2 ^ (min (Int.toNat 1) (IntKind.bits .u64))))) a4).bind fun y227 => if y227.length = a4.length then k224 y227 else none
  else k224 a4)
  else if (decide ((w64 (Int.fdiv (IntKind.wrap .u64 (w64 (a1 + a3))) (2 ^ (min (Int.toNat 1) (IntKind.bits .u64))))) < (w64 ((w64 ((w64 (Int.fdiv (IntKind.wrap .u64 (w64 (a1 + a3))) (2 ^ (min (Int.toNat 1) (IntKind.bits .u64))))) + a2)) - n183)))) = true then if (decide ((w64 ((w64 ((w64 (Int.fdiv (IntKind.wrap .u64 (w64 (a1 + a3))) (2 ^ (min (Int.toNat 1) (IntKind.bits .u64))))) + a2)) - n183)) < a3)) = true then (R174 (w64 (Int.fdiv (IntKind.wrap .u64 (w64 (a1 + a3))) (2 ^ (min (Int.toNat 1) (IntKind.bits .u64))))) (w64 ((w64 ((w64 (Int.fdiv (IntKind.wrap .u64 (w64 (a1 + a3))) (2 ^ (min (Int.toNat 1) (IntKind.bits .u64))))) + a2)) - n183)) a3 a4).bind fun y237 => if y237.length = a4.length then some y237 else none
  else some a4
  else some a4) (fun k182 => M174_L5 F a1 a2 a3 a4 k182 F n179 n180)) (fun k178 => if (decide (a2 > (w64 (Int.fdiv (IntKind.wrap .u64 (w64 (a1 + a3))) (2 ^ (min (Int.toNat 1) (IntKind.bits .u64))))))) = true then k178 (w64 ((w64 ((w64 (Int.fdiv (IntKind.wrap .u64 (w64 (a1 + a3))) (2 ^ (min (Int.toNat 1) (IntKind.bits .u64))))) + a2)) - a3)) (w64 (Int.fdiv (IntKind.wrap .u64 (w64 (a1 + a3))) (2 ^ (min (Int.toNat 1) (IntKind.bits .u64)))))
  else k178 a1 a2)
def M174 : Nat → Int → Int → Int → (List TPublished) → Option (List TPublished)
  | 0, _, _, _, _ => none
  | F + 1, a1, a2, a3, a4 => M174_B (M174 F) F a1 a2 a3 a4
def M158_L3 (F : Nat) (a1 : Int) (n64 : Int) (k69 : Int → (List TPublished) → Option (List TPublished)) : Nat → Int → Int → (List TPublished) → Option (List TPublished)
  | 0, _, _, _ => none
  | n + 1, n75, n76, l77 => if (decide (n76 ≤ a1)) = true then (M174 F n75 (w64 (n75 + n64)) n76 l77).bind fun y79 => if y79.length = l77.length then M158_L3 F a1 n64 k69 n n76 (w64 (n76 + (w64 (2 * n64)))) y79 else none
  else k69 n75 l77
def M158_L2 (F : Nat) (a1 : Int) : Nat → Int → (List TPublished) → Option (List TPublished)
  | 0, _, _ => none
  | n + 1, n64, l65 => if (decide (n64 < a1)) = true then jn (fun (l68 : List TPublished) => M158_L2 F a1 n (w64 (n64 * 2)) l68) (fun k67 => jn (fun (n70 : Int) (l71 : List TPublished) => jn (fun (l83 : List TPublished) => k67 l83) (fun k82 => if (decide ((w64 (n70 + n64)) < a1)) = true then (M174 F n70 (w64 (n70 + n64)) a1 l71).bind fun y85 => if y85.length = l71.length then k82 y85 else none
  else k82 l71)) (fun k69 => M158_L3 F a1 n64 k69 F 0 (w64 (2 * n64)) l65))
  else some l65
def M158_L1 (F : Nat) (a1 : Int) (k46 : Int → (List TPublished) → Option (List TPublished)) : Nat → Int → Int → (List TPublished) → Option (List TPublished)
  | 0, _, _, _ => none
  | n + 1, n52, n53, l54 => if (decide (n53 ≤ a1)) = true then (M173 F n52 n53 l54).bind fun y56 => if y56.length = l54.length then M158_L1 F a1 k46 n n53 (w64 (n53 + 20)) y56 else none
  else k46 n52 l54
def M158 (F : Nat) (a1 : Int) (a2 : List TPublished) : Option (List TPublished) :=
  jn (fun (n47 : Int) (l48 : List TPublished) => (M173 F n47 a1 l48).bind fun y59 => if y59.length = l48.length then M158_L2 F a1 F 20 y59 else none) (fun k46 => M158_L1 F a1 k46 F 0 20 a2)
def M151 (F : Nat) (a1 : List TPublished) : Option (List TPublished) :=
  (M158 F ((a1.length : Nat) : Int) a1).bind fun y6 => if y6.length = a1.length then some y6 else none
def M136 (F : Nat) (a1 : (List TPublished)) : Option (List TPublished) :=
  (M101_1 F a1).bind fun y2 => (M151 F y2).bind fun y4 => if y4.length = y2.length then some y4 else none
def M102_L2 (F : Nat) (m6 : List ((List UInt8) × TPublished)) (k15 : (List TPublished) → Option ((List TPublished) × Bool)) : List TPublished → (List TPublished) → Option ((List TPublished) × Bool)
  | [], l20 => k15 l20
  | x24 :: tl2, l20 => jn (fun (l23 : List TPublished) => M102_L2 F m6 k15 tl2 l23) (fun k22 => if ((mget m6 x24.Advisory).isSome) = true then if (!(decide (((mget m6 x24.Advisory).getD (TPublished.mk ([] : List UInt8) 0 0)) = x24))) = true then some (([] : List TPublished), false)
 else jn (fun (l29 : List TPublished) => k22 l29) (fun k28 => if (!((mget m6 x24.Advisory).isSome)) = true then if (l20 ++ ([x24] : List TPublished)).length * 32 ≤ 140737488355328 then k28 (l20 ++ ([x24] : List TPublished)) else none
 else k28 l20)
 else jn (fun (l33 : List TPublished) => k22 l33) (fun k32 => if (!((mget m6 x24.Advisory).isSome)) = true then if (l20 ++ ([x24] : List TPublished)).length * 32 ≤ 140737488355328 then k32 (l20 ++ ([x24] : List TPublished)) else none
 else k32 l20))
def M102_L1 (F : Nat) (k5 : (List ((List UInt8) × TPublished)) → Option ((List TPublished) × Bool)) : List TPublished → (List ((List UInt8) × TPublished)) → Option ((List TPublished) × Bool)
  | [], m10 => k5 m10
  | x12 :: tl1, m10 => M102_L1 F k5 tl1 (mput m10 x12.Advisory x12)
def M102 (F : Nat) (a1 : (List TPublished)) (a2 : (List TPublished)) : Option ((List TPublished) × Bool) :=
  (M101_1 F a1).bind fun y3 => jn (fun (m6 : List ((List UInt8) × TPublished)) => jn (fun (l16 : List TPublished) => (M136 F l16).bind fun y37 => some (y37, true)) (fun k15 => M102_L2 F m6 k15 a2 y3)) (fun k5 => M102_L1 F k5 a1 ([] : List ((List UInt8) × TPublished)))
def M104 (F : Nat) (a1 : TRelease) (a2 : List UInt8) (a3 : Int) (a4 : List TExposure) : Option Bool :=
  some (a1.Version == a2)
def M139_L1 (F : Nat) (a2 : List UInt8) (a3 : Int) (a4 : List TExposure) (k5 : Option Int) : List TRelease → Int → Option Int
  | [], n7 => k5
  | x9 :: tl1, n7 => (M104 F x9 a2 a3 a4).bind fun y11 => if y11 = true then some n7
 else M139_L1 F a2 a3 a4 k5 tl1 (n7 + 1)
def M139 (F : Nat) (a1 : (List TRelease)) (a2 : List UInt8) (a3 : Int) (a4 : List TExposure) : Option Int :=
  jn (some (-1)) (fun k5 => M139_L1 F a2 a3 a4 k5 a1 0)
def M103 (F : Nat) (a1 : (List TRelease)) (a2 : List UInt8) (a3 : Int) (a4 : List TExposure) : Option Bool :=
  (M139 F a1 a2 a3 a4).bind fun y5 => some (decide (y5 ≥ 0))
def M47_L2 (F : Nat) (k40 : (List TRelease) → Option (TStory × Int)) : List TRelease → (List TRelease) → Option (TStory × Int)
  | [], l45 => k40 l45
  | x47 :: tl2, l45 => (M103 F l45 x47.Version x47.Day x47.Exposures).bind fun y49 => if y49 = true then some ((TStory.mk ([] : List UInt8) ([] : List TRelease) ([] : List TPublished) 0), 5)
 else (M88 F x47).bind fun y52 => if (l45 ++ ([y52] : List TRelease)).length * 48 ≤ 140737488355328 then M47_L2 F k40 tl2 (l45 ++ ([y52] : List TRelease)) else none
def M47_L1 (F : Nat) (a2 : TStory) (k16 : (List TRelease) → Option (TStory × Int)) : List TRelease → (List TRelease) → Option (TStory × Int)
  | [], l21 => k16 l21
  | x25 :: tl1, l21 => jn (fun (l24 : List TRelease) => M47_L1 F a2 k16 tl1 l24) (fun k23 => if (((a2.Releases.length : Nat) : Int) == 0) = true then (M88 F x25).bind fun y28 => if (l21 ++ ([y28] : List TRelease)).length * 48 ≤ 140737488355328 then k23 (l21 ++ ([y28] : List TRelease)) else none
 else (idx a2.Releases 0).bind fun x31 => jn (fun (l34 : List TRelease) => k23 l34) (fun k33 => if (decide (x25.Day < x31.Day)) = true then (M88 F x25).bind fun y36 => if (l21 ++ ([y36] : List TRelease)).length * 48 ≤ 140737488355328 then k33 (l21 ++ ([y36] : List TRelease)) else none
 else k33 l21))
def M47 (F : Nat) (a1 : TStory) (a2 : TStory) : Option (TStory × Int) :=
  (M35 F a1).bind fun y3 => if (y3 != 0) = true then some ((TStory.mk ([] : List UInt8) ([] : List TRelease) ([] : List TPublished) 0), y3)
  else (M35 F a2).bind fun y6 => if (y6 != 0) = true then some ((TStory.mk ([] : List UInt8) ([] : List TRelease) ([] : List TPublished) 0), y6)
  else jn ((M102 F a1.Known a2.Known).bind fun y13 => if (!(y13.2)) = true then some ((TStory.mk ([] : List UInt8) ([] : List TRelease) ([] : List TPublished) 0), 5)
  else jn (fun (l17 : List TRelease) => jn (fun (l41 : List TRelease) => (M35 F (TStory.mk a1.Product l41 (y13.1) a2.Until)).bind fun y56 => if (y56 != 0) = true then some ((TStory.mk ([] : List UInt8) ([] : List TRelease) ([] : List TPublished) 0), y56)
  else some ((TStory.mk a1.Product l41 (y13.1) a2.Until), 0)) (fun k40 => M47_L2 F k40 a2.Releases l17)) (fun k16 => M47_L1 F a2 k16 a1.Releases ([] : List TRelease))) (fun k9 => if (!(a1.Product == a2.Product)) = true then some ((TStory.mk ([] : List UInt8) ([] : List TRelease) ([] : List TPublished) 0), 8)
  else if (decide (((a2.Releases.length : Nat) : Int) > 0)) = true then if (decide (a2.Until < a1.Until)) = true then some ((TStory.mk ([] : List UInt8) ([] : List TRelease) ([] : List TPublished) 0), 10)
  else k9
  else k9)
def M105_L1 (F : Nat) (k3 : (List TPublished) → Option ((List TPublished) × Bool)) : Nat → (List TPublished) → (List TPublished) → (List TPublished) → Option ((List TPublished) × Bool)
  | 0, _, _, _ => none
  | n + 1, l8, l9, l10 => if (decide (((l8.length : Nat) : Int) > 0)) = true then jn (fun (l13 : List TPublished) (l14 : List TPublished) (l15 : List TPublished) => M105_L1 F k3 n l13 l14 l15) (fun k12 => if (((l9.length : Nat) : Int) == 0) = true then (idx l8 0).bind fun x17 => if (l10 ++ ([x17] : List TPublished)).length * 32 ≤ 140737488355328 then if 1 ≤ l8.length then k12 (l8.drop 1) l9 (l10 ++ ([x17] : List TPublished)) else none else none
  else (idx l8 0).bind fun x21 => (idx l9 0).bind fun x23 => jn (fun (l26 : List TPublished) (l27 : List TPublished) (l28 : List TPublished) => k12 l26 l27 l28) (fun k25 => if (Op.bytesLess x21.Advisory x23.Advisory) = true then (idx l8 0).bind fun x30 => if (l10 ++ ([x30] : List TPublished)).length * 32 ≤ 140737488355328 then if 1 ≤ l8.length then k25 (l8.drop 1) l9 (l10 ++ ([x30] : List TPublished)) else none else none
  else if (((l8.length : Nat) : Int) == 0) = true then (idx l9 0).bind fun x35 => if (l10 ++ ([x35] : List TPublished)).length * 32 ≤ 140737488355328 then if 1 ≤ l9.length then k25 l8 (l9.drop 1) (l10 ++ ([x35] : List TPublished)) else none else none
  else (idx l8 0).bind fun x39 => (idx l9 0).bind fun x41 => if (!(Op.bytesLess x39.Advisory x41.Advisory || x39.Advisory == x41.Advisory)) = true then (idx l9 0).bind fun x44 => if (l10 ++ ([x44] : List TPublished)).length * 32 ≤ 140737488355328 then if 1 ≤ l9.length then k25 l8 (l9.drop 1) (l10 ++ ([x44] : List TPublished)) else none else none
  else (idx l8 0).bind fun x48 => (idx l9 0).bind fun x50 => if (!(decide (x48 = x50))) = true then some (([] : List TPublished), false)
  else (idx l8 0).bind fun x53 => if (l10 ++ ([x53] : List TPublished)).length * 32 ≤ 140737488355328 then if 1 ≤ l8.length then if 1 ≤ l9.length then k25 (l8.drop 1) (l9.drop 1) (l10 ++ ([x53] : List TPublished)) else none else none else none))
  else if (decide (((l9.length : Nat) : Int) > 0)) = true then jn (fun (l60 : List TPublished) (l61 : List TPublished) (l62 : List TPublished) => M105_L1 F k3 n l60 l61 l62) (fun k59 => if (((l9.length : Nat) : Int) == 0) = true then (idx l8 0).bind fun x64 => if (l10 ++ ([x64] : List TPublished)).length * 32 ≤ 140737488355328 then if 1 ≤ l8.length then k59 (l8.drop 1) l9 (l10 ++ ([x64] : List TPublished)) else none else none
  else if (((l8.length : Nat) : Int) == 0) = true then (idx l9 0).bind fun x69 => if (l10 ++ ([x69] : List TPublished)).length * 32 ≤ 140737488355328 then if 1 ≤ l9.length then k59 l8 (l9.drop 1) (l10 ++ ([x69] : List TPublished)) else none else none
  else (idx l8 0).bind fun x73 => (idx l9 0).bind fun x75 => jn (fun (l78 : List TPublished) (l79 : List TPublished) => k59 l78 (l9.drop 1) l79) (fun k77 => if (!(Op.bytesLess x73.Advisory x75.Advisory || x73.Advisory == x75.Advisory)) = true then (idx l9 0).bind fun x81 => if (l10 ++ ([x81] : List TPublished)).length * 32 ≤ 140737488355328 then if 1 ≤ l9.length then k77 l8 (l10 ++ ([x81] : List TPublished)) else none else none
  else (idx l8 0).bind fun x85 => (idx l9 0).bind fun x87 => if (!(decide (x85 = x87))) = true then some (([] : List TPublished), false)
  else (idx l8 0).bind fun x90 => if (l10 ++ ([x90] : List TPublished)).length * 32 ≤ 140737488355328 then if 1 ≤ l8.length then if 1 ≤ l9.length then k77 (l8.drop 1) (l10 ++ ([x90] : List TPublished)) else none else none else none))
  else k3 l10
def M105 (F : Nat) (a1 : (List TPublished)) (a2 : (List TPublished)) : Option ((List TPublished) × Bool) :=
  jn (fun (l4 : List TPublished) => some (l4, true)) (fun k3 => M105_L1 F k3 F a1 a2 ([] : List TPublished))
def M48_L4 (F : Nat) (a2 : TStory) (k58 : Option (TStory × Int)) : List TRelease → Option (TStory × Int)
  | [] => k58
  | x62 :: tl4 => if (decide (x62.Day > a2.Until)) = true then some ((TStory.mk ([] : List UInt8) ([] : List TRelease) ([] : List TPublished) 0), 9)
 else M48_L4 F a2 k58 tl4
def M48_L3 (F : Nat) (k39 : Bool → Option (TStory × Int)) : List TRelease → Bool → (List ((List UInt8) × Bool)) → Option (TStory × Int)
  | [], b44, m46 => k39 b44
  | x51 :: tl3, b44, m46 => jn (fun (b49 : Bool) (m50 : List ((List UInt8) × Bool)) => M48_L3 F k39 tl3 b49 m50) (fun k48 => if b44 = true then k48 (!((mget m46 x51.Version).getD false)) (mput m46 x51.Version true)
 else k48 false (mput m46 x51.Version true))
def M48_L2 (F : Nat) (a2 : TStory) (k16 : (List TRelease) → Option (TStory × Int)) : List TRelease → (List TRelease) → Option (TStory × Int)
  | [], l21 => k16 l21
  | x25 :: tl2, l21 => jn (fun (l24 : List TRelease) => M48_L2 F a2 k16 tl2 l24) (fun k23 => if (((a2.Releases.length : Nat) : Int) == 0) = true then if (l21 ++ ([x25] : List TRelease)).length * 48 ≤ 140737488355328 then k23 (l21 ++ ([x25] : List TRelease)) else none
 else (idx a2.Releases 0).bind fun x29 => jn (fun (l32 : List TRelease) => k23 l32) (fun k31 => if (decide (x25.Day < x29.Day)) = true then if (l21 ++ ([x25] : List TRelease)).length * 48 ≤ 140737488355328 then k31 (l21 ++ ([x25] : List TRelease)) else none
 else k31 l21))
def M48_L7 (F : Nat) (a2 : TStory) (k108 : Option (TStory × Int)) : List TRelease → Option (TStory × Int)
  | [] => k108
  | x112 :: tl7 => if (decide (x112.Day > a2.Until)) = true then some ((TStory.mk ([] : List UInt8) ([] : List TRelease) ([] : List TPublished) 0), 9)
 else M48_L7 F a2 k108 tl7
def M48_L6 (F : Nat) (k89 : Bool → Option (TStory × Int)) : List TRelease → Bool → (List ((List UInt8) × Bool)) → Option (TStory × Int)
  | [], b94, m96 => k89 b94
  | x101 :: tl6, b94, m96 => jn (fun (b99 : Bool) (m100 : List ((List UInt8) × Bool)) => M48_L6 F k89 tl6 b99 m100) (fun k98 => if b94 = true then k98 (!((mget m96 x101.Version).getD false)) (mput m96 x101.Version true)
 else k98 false (mput m96 x101.Version true))
def M48_L5 (F : Nat) (a2 : TStory) (k66 : (List TRelease) → Option (TStory × Int)) : List TRelease → (List TRelease) → Option (TStory × Int)
  | [], l71 => k66 l71
  | x75 :: tl5, l71 => jn (fun (l74 : List TRelease) => M48_L5 F a2 k66 tl5 l74) (fun k73 => if (((a2.Releases.length : Nat) : Int) == 0) = true then if (l71 ++ ([x75] : List TRelease)).length * 48 ≤ 140737488355328 then k73 (l71 ++ ([x75] : List TRelease)) else none
 else (idx a2.Releases 0).bind fun x79 => jn (fun (l82 : List TRelease) => k73 l82) (fun k81 => if (decide (x75.Day < x79.Day)) = true then if (l71 ++ ([x75] : List TRelease)).length * 48 ≤ 140737488355328 then k81 (l71 ++ ([x75] : List TRelease)) else none
 else k81 l71))
def M48_L1 (F : Nat) (a1 : TStory) (a2 : TStory) (k3 : Option (TStory × Int)) : Nat → Int → Option (TStory × Int)
  | 0, n5 => k3
  | tl1 + 1, n5 => (idx ([a1, a2] : List TStory) n5).bind fun x7 => (M36 F x7).bind fun y9 => if (y9 != 0) = true then some ((TStory.mk ([] : List UInt8) ([] : List TRelease) ([] : List TPublished) 0), y9)
 else M48_L1 F a1 a2 k3 tl1 (n5 + 1)
def M48 (F : Nat) (a1 : TStory) (a2 : TStory) : Option (TStory × Int) :=
  jn (if (!(a1.Product == a2.Product)) = true then some ((TStory.mk ([] : List UInt8) ([] : List TRelease) ([] : List TPublished) 0), 8)
  else if (decide (((a2.Releases.length : Nat) : Int) > 0)) = true then if (decide (a2.Until < a1.Until)) = true then some ((TStory.mk ([] : List UInt8) ([] : List TRelease) ([] : List TPublished) 0), 10)
  else jn (fun (l17 : List TRelease) => if (l17 ++ a2.Releases).length * 48 ≤ 140737488355328 then (M105 F a1.Known a2.Known).bind fun y37 => jn (fun (b40 : Bool) => if (!b40) = true then some ((TStory.mk ([] : List UInt8) ([] : List TRelease) ([] : List TPublished) 0), 5)
  else if (decide ((((l17 ++ a2.Releases).length : Nat) : Int) > 500)) = true then some ((TStory.mk ([] : List UInt8) ([] : List TRelease) ([] : List TPublished) 0), 3)
  else if (decide ((((y37.1).length : Nat) : Int) > 2000)) = true then some ((TStory.mk ([] : List UInt8) ([] : List TRelease) ([] : List TPublished) 0), 3)
  else jn (some ((TStory.mk a1.Product (l17 ++ a2.Releases) (y37.1) a2.Until), 0)) (fun k58 => M48_L4 F a2 k58 (l17 ++ a2.Releases))) (fun k39 => M48_L3 F k39 (l17 ++ a2.Releases) (y37.2) ([] : List ((List UInt8) × Bool))) else none) (fun k16 => M48_L2 F a2 k16 a1.Releases ([] : List TRelease))
  else jn (fun (l67 : List TRelease) => if (l67 ++ a2.Releases).length * 48 ≤ 140737488355328 then (M105 F a1.Known a2.Known).bind fun y87 => jn (fun (b90 : Bool) => if (!b90) = true then some ((TStory.mk ([] : List UInt8) ([] : List TRelease) ([] : List TPublished) 0), 5)
  else if (decide ((((l67 ++ a2.Releases).length : Nat) : Int) > 500)) = true then some ((TStory.mk ([] : List UInt8) ([] : List TRelease) ([] : List TPublished) 0), 3)
  else if (decide ((((y87.1).length : Nat) : Int) > 2000)) = true then some ((TStory.mk ([] : List UInt8) ([] : List TRelease) ([] : List TPublished) 0), 3)
  else jn (some ((TStory.mk a1.Product (l67 ++ a2.Releases) (y87.1) a2.Until), 0)) (fun k108 => M48_L7 F a2 k108 (l67 ++ a2.Releases))) (fun k89 => M48_L6 F k89 (l67 ++ a2.Releases) (y87.2) ([] : List ((List UInt8) × Bool))) else none) (fun k66 => M48_L5 F a2 k66 a1.Releases ([] : List TRelease))) (fun k3 => if ((2 : Nat) : Int) ≤ 9223372036854775807 then M48_L1 F a1 a2 k3 ((((2 : Nat) : Int)).toNat) 0 else none)
def M106_L1 (F : Nat) (a2 : (List TRelease)) (k4 : Option Bool) : List TRelease → Int → Option Bool
  | [], n6 => k4
  | x8 :: tl1, n6 => (idx a2 n6).bind fun x10 => (M37 F x8 x10).bind fun y12 => if (!y12) = true then some false
 else M106_L1 F a2 k4 tl1 (n6 + 1)
def M106 (F : Nat) (a1 : (List TRelease)) (a2 : (List TRelease)) : Option Bool :=
  if (((a1.length : Nat) : Int) != ((a2.length : Nat) : Int)) = true then some false
  else jn (some true) (fun k4 => M106_L1 F a2 k4 a1 0)
def M107_L1 (F : Nat) (a2 : (List TPublished)) (k4 : Option Bool) : List TPublished → Int → Option Bool
  | [], n6 => k4
  | x8 :: tl1, n6 => (idx a2 n6).bind fun x10 => if (!(decide (x8 = x10))) = true then some false
 else M107_L1 F a2 k4 tl1 (n6 + 1)
def M107 (F : Nat) (a1 : (List TPublished)) (a2 : (List TPublished)) : Option Bool :=
  if (((a1.length : Nat) : Int) != ((a2.length : Nat) : Int)) = true then some false
  else jn (some true) (fun k4 => M107_L1 F a2 k4 a1 0)
def M49 (F : Nat) (a1 : TStory) (a2 : TStory) : Option Bool :=
  if (a1.Product == a2.Product) = true then if (a1.Until == a2.Until) = true then (M106 F a1.Releases a2.Releases).bind fun y5 => if y5 = true then (M107 F a1.Known a2.Known).bind fun y8 => some y8
  else some false
  else some false
  else some false
def M12_L1 (F : Nat) (a2 : Int) (k11 : (List TRelease) → Option Bool) : List TRelease → (List TRelease) → Option Bool
  | [], l16 => k11 l16
  | x18 :: tl1, l16 => jn (fun (l21 : List TRelease) => M12_L1 F a2 k11 tl1 l21) (fun k20 => if (decide (x18.Day ≥ a2)) = true then if (l16 ++ ([x18] : List TRelease)).length * 48 ≤ 140737488355328 then k20 (l16 ++ ([x18] : List TRelease)) else none
 else k20 l16)
def M12 (F : Nat) (a1 : TStory) (a2 : Int) : Option Bool :=
  (M45 F a1 a2).bind fun y3 => if ((y3.2) != 0) = true then (M46 F a1 a2).bind fun y6 => if ((y3.2) == (y6.2)) = true then (M23 F).bind fun y9 => some y9
  else some false
  else jn (fun (l12 : List TRelease) => (M47 F (y3.1) (TStory.mk a1.Product l12 a1.Known a1.Until)).bind fun y25 => if ((y25.2) == 0) = true then (M49 F (y25.1) a1).bind fun y28 => if y28 = true then (M23 F).bind fun y31 => some y31
  else some false
  else some false) (fun k11 => M12_L1 F a2 k11 a1.Releases ([] : List TRelease))
end
end Go.Proofs.Ytkciogeafbbggaa
