/- Part of the proof: AHM. -/
import Derived.Test.YtiphmdpaajjdeaaGreatDoorHAHT
namespace Go.Proofs.YtiphmdpaajjdeaaGreatDoor
open Go Go.Pv
set_option linter.unusedVariables false
set_option maxRecDepth 100000
noncomputable section
def M77_L1 (F : Nat) (a1 : (List UInt8)) (k2 : Option Bool) : Nat → Int → Option Bool
  | 0, n4 => k2
  | tl1 + 1, n4 => (idx a1 n4).bind fun c6 => if (decide ((c6.toNat : Int) < 33)) = true then some false
 else (idx a1 n4).bind fun c9 => if (decide ((c9.toNat : Int) > 126)) = true then some false
 else M77_L1 F a1 k2 tl1 (n4 + 1)
def M77 (F : Nat) (a1 : (List UInt8)) : Option Bool :=
  jn (some (!(a1 == ([] : List UInt8)))) (fun k2 => if (a1.length : Int) ≤ 9223372036854775807 then M77_L1 F a1 k2 (((a1.length : Int) : Int).toNat) 0 else none)
def M52 (F : Nat) (a1 : (List UInt8)) : Option Bool :=
  (M77 F a1).bind fun y2 => if y2 = true then some (decide ((a1.length : Int) ≤ 100))
  else some false
def M27 (F : Nat) (a1 : Int) : Option Bool :=
  if (decide (a1 ≥ 0)) = true then some (decide (a1 ≤ 1000000))
  else some false
def M54 (F : Nat) (a1 : TExposure) : Option Thistory_key :=
  some (Thistory_key.mk a1.Advisory a1.Component)
def M93 (F : Nat) (a1 : (List UInt8)) : Option Bool :=
  some (!(a1 == a1))
def M82 (F : Nat) (a1 : (List UInt8)) (a2 : (List UInt8)) : Option Int :=
  (M93 F a1).bind fun y3 => (M93 F a2).bind fun y5 => if y3 = true then if y5 = true then some 0
  else some (-1)
  else if y5 = true then some 1
  else if (Op.bytesLess a1 a2) = true then some (-1)
  else if (!(Op.bytesLess a1 a2 || a1 == a2)) = true then some 1
  else some 0
def M81_L1 (F : Nat) (k2 : Option Int) : List Int → Option Int
  | [] => k2
  | x6 :: tl1 => if (x6 != 0) = true then some x6
 else M81_L1 F k2 tl1
def M81 (F : Nat) (a1 : (List Int)) : Option Int :=
  jn (some 0) (fun k2 => M81_L1 F k2 a1)
def M91 (F : Nat) (a1 : Thistory_key) (a2 : Thistory_key) : Option Int :=
  (M82 F a1.advisory a2.advisory).bind fun y3 => (M82 F a1.component a2.component).bind fun y5 => (M81 F ([y3, y5] : List Int)).bind fun y7 => some y7
def M78_L1 (F : Nat) (a1 : (List TExposure)) (k3 : Option Int) : List TExposure → Int → Option Int
  | [], n5 => k3
  | x7 :: tl1, n5 => (M52 F x7.Advisory).bind fun y9 => if (!y9) = true then some 8
 else (M52 F x7.Component).bind fun y12 => jn (M78_L1 F a1 k3 tl1 (n5 + 1)) (fun k14 => if (!y12) = true then some 8
 else if (decide (x7.Severity < 0)) = true then some 9
 else if (decide (x7.Severity > 100)) = true then some 9
 else if (decide (n5 > 0)) = true then (idx a1 (w64 (n5 - 1))).bind fun x19 => (M54 F x19).bind fun y21 => (M54 F x7).bind fun y23 => (M91 F y21 y23).bind fun y25 => if (decide (y25 ≥ 0)) = true then some 10
 else k14
 else k14)
def M78 (F : Nat) (a1 : (List TExposure)) : Option Int :=
  if (decide (((a1.length : Nat) : Int) > 500)) = true then some 3
  else jn (some 0) (fun k3 => M78_L1 F a1 k3 a1 0)
def M53_L1 (F : Nat) (a1 : TStory) (k2 : Option Int) : List TRelease → Int → (List ((List UInt8) × Bool)) → Option Int
  | [], n5, m6 => k2
  | x8 :: tl1, n5, m6 => (M52 F x8.Version).bind fun y10 => jn ((M78 F x8.Exposures).bind fun y21 => if (y21 != 0) = true then some y21
 else M53_L1 F a1 k2 tl1 (n5 + 1) (mput m6 x8.Version true)) (fun k12 => if (!y10) = true then some 8
 else if ((mget m6 x8.Version).getD false) = true then some 5
 else if (decide (x8.Day < 0)) = true then some 9
 else if (decide (x8.Day > a1.Until)) = true then some 9
 else if (decide (n5 > 0)) = true then (idx a1.Releases (w64 (n5 - 1))).bind fun x18 => if (decide (x8.Day ≤ x18.Day)) = true then some 10
 else k12
 else k12)
def M53 (F : Nat) (a1 : TStory) : Option Int :=
  jn (some 0) (fun k2 => M53_L1 F a1 k2 a1.Releases 0 ([] : List ((List UInt8) × Bool)))
def M25_L3 (F : Nat) (m14 : List ((List UInt8) × Bool)) (k52 : Option Int) : List TExposure → Option Int
  | [] => k52
  | x56 :: tl3 => if (!((mget m14 x56.Advisory).getD false)) = true then some 4
 else M25_L3 F m14 k52 tl3
def M25_L2 (F : Nat) (m14 : List ((List UInt8) × Bool)) (k45 : Option Int) : List TRelease → Option Int
  | [] => k45
  | x50 :: tl2 => jn (M25_L2 F m14 k45 tl2 ) (fun k49 => jn (k49) (fun k52 => M25_L3 F m14 k52 x50.Exposures))
def M25_L1 (F : Nat) (a1 : TStory) (k13 : (List ((List UInt8) × Bool)) → Option Int) : List TPublished → Int → (List ((List UInt8) × Bool)) → Option Int
  | [], n17, m18 => k13 m18
  | x20 :: tl1, n17, m18 => (M52 F x20.Advisory).bind fun y22 => jn (fun (b25 : Bool) (b26 : Bool) => M25_L1 F a1 k13 tl1 (n17 + 1) (mput m18 x20.Advisory true)) (fun k24 => if (!y22) = true then some 8
 else if (decide (n17 > 0)) = true then (idx a1.Known (w64 (n17 - 1))).bind fun x29 => if (Op.bytesLess x20.Advisory x29.Advisory || x20.Advisory == x29.Advisory) = true then some 10
 else (M27 F x20.Day).bind fun y32 => if (!y32) = true then some 9
 else if (x20.Ended != (-1)) = true then if (decide (x20.Ended < x20.Day)) = true then some 9
 else if (decide (x20.Ended > 1000000)) = true then some 9
 else k24 true (decide (x20.Ended > 1000000))
 else k24 false false
 else (M27 F x20.Day).bind fun y38 => if (!y38) = true then some 9
 else if (x20.Ended != (-1)) = true then if (decide (x20.Ended < x20.Day)) = true then some 9
 else if (decide (x20.Ended > 1000000)) = true then some 9
 else k24 true (decide (x20.Ended > 1000000))
 else k24 false false)
def M25 (F : Nat) (a1 : TStory) : Option Int :=
  (M52 F a1.Product).bind fun y2 => if (!y2) = true then some 8
  else (M27 F a1.Until).bind fun y5 => if (!y5) = true then some 9
  else if (decide (((a1.Releases.length : Nat) : Int) > 500)) = true then some 3
  else if (decide (((a1.Known.length : Nat) : Int) > 2000)) = true then some 3
  else (M53 F a1).bind fun y10 => if (y10 != 0) = true then some y10
  else jn (fun (m14 : List ((List UInt8) × Bool)) => jn (some 0) (fun k45 => M25_L2 F m14 k45 a1.Releases)) (fun k13 => M25_L1 F a1 k13 a1.Known 0 ([] : List ((List UInt8) × Bool)))
def M34_L3 (F : Nat) (m3 : List ((List UInt8) × TPublished)) (x21 : TRelease) (n24 : Int) (k28 : (List Thistory_piece) → Option (List Thistory_piece)) : List TExposure → (List Thistory_piece) → Option (List Thistory_piece)
  | [], l33 => k28 l33
  | x35 :: tl3, l33 => jn (fun (n38 : Int) => jn (fun (l41 : List Thistory_piece) => M34_L3 F m3 x21 n24 k28 tl3 l41) (fun k40 => if (decide ((if ((mget m3 x35.Advisory).getD (TPublished.mk ([] : List UInt8) 0 0)).Day > x21.Day then ((mget m3 x35.Advisory).getD (TPublished.mk ([] : List UInt8) 0 0)).Day else x21.Day) < n38)) = true then if (l33 ++ ([(Thistory_piece.mk x35 (if ((mget m3 x35.Advisory).getD (TPublished.mk ([] : List UInt8) 0 0)).Day > x21.Day then ((mget m3 x35.Advisory).getD (TPublished.mk ([] : List UInt8) 0 0)).Day else x21.Day) n38)] : List Thistory_piece)).length * 56 ≤ 140737488355328 then k40 (l33 ++ ([(Thistory_piece.mk x35 (if ((mget m3 x35.Advisory).getD (TPublished.mk ([] : List UInt8) 0 0)).Day > x21.Day then ((mget m3 x35.Advisory).getD (TPublished.mk ([] : List UInt8) 0 0)).Day else x21.Day) n38)] : List Thistory_piece)) else none
 else k40 l33)) (fun k37 => if (decide (((mget m3 x35.Advisory).getD (TPublished.mk ([] : List UInt8) 0 0)).Ended ≥ 0)) = true then k37 (if ((mget m3 x35.Advisory).getD (TPublished.mk ([] : List UInt8) 0 0)).Ended < n24 then ((mget m3 x35.Advisory).getD (TPublished.mk ([] : List UInt8) 0 0)).Ended else n24)
 else k37 n24)
def M34_L2 (F : Nat) (a1 : TStory) (m3 : List ((List UInt8) × TPublished)) (k12 : (List Thistory_piece) → Option (List Thistory_piece)) : List TRelease → Int → (List Thistory_piece) → Option (List Thistory_piece)
  | [], n16, l17 => k12 l17
  | x21 :: tl2, n16, l17 => jn (fun (l20 : List Thistory_piece) => M34_L2 F a1 m3 k12 tl2 (n16 + 1) l20) (fun k19 => jn (fun (n24 : Int) => jn (fun (l29 : List Thistory_piece) => k19 l29) (fun k28 => M34_L3 F m3 x21 n24 k28 x21.Exposures l17)) (fun k23 => if (decide ((w64 (n16 + 1)) < ((a1.Releases.length : Nat) : Int))) = true then (idx a1.Releases (w64 (n16 + 1))).bind fun x26 => k23 x26.Day
 else k23 a1.Until))
def M34_L1 (F : Nat) (k2 : (List ((List UInt8) × TPublished)) → Option (List Thistory_piece)) : List TPublished → (List ((List UInt8) × TPublished)) → Option (List Thistory_piece)
  | [], m7 => k2 m7
  | x9 :: tl1, m7 => M34_L1 F k2 tl1 (mput m7 x9.Advisory x9)
def M34 (F : Nat) (a1 : TStory) : Option (List Thistory_piece) :=
  jn (fun (m3 : List ((List UInt8) × TPublished)) => jn (fun (l13 : List Thistory_piece) => some l13) (fun k12 => M34_L2 F a1 m3 k12 a1.Releases 0 ([] : List Thistory_piece))) (fun k2 => M34_L1 F k2 a1.Known ([] : List ((List UInt8) × TPublished)))
def M79 (F : Nat) (a1 : (List TWindow)) : Option (List TWindow) :=
  nilq a1.length (fun b7 => if b7 = true then some ([] : List TWindow)
  else if (([] : List TWindow) ++ a1).length * 64 ≤ 140737488355328 then some (([] : List TWindow) ++ a1) else none)
def M67 (F : Nat) (a1 : Int) : Option Bool :=
  some (a1 != a1)
def M36 (F : Nat) (a1 : Int) (a2 : Int) : Option Int :=
  (M67 F a1).bind fun y3 => (M67 F a2).bind fun y5 => if y3 = true then if y5 = true then some 0
  else some (-1)
  else if y5 = true then some 1
  else if (decide (a1 < a2)) = true then some (-1)
  else if (decide (a1 > a2)) = true then some 1
  else some 0
def M56 (F : Nat) (a1 : TWindow) (a2 : TWindow) : Option Int :=
  (M36 F a1.From a2.From).bind fun y3 => (M82 F a1.Advisory a2.Advisory).bind fun y5 => (M82 F a1.Component a2.Component).bind fun y7 => (M81 F ([y3, y5, y7] : List Int)).bind fun y9 => some y9
def M107_L2 (F : Nat) (a1 : Int) (k41 : (List TWindow) → Option (List TWindow)) : Nat → Int → (List TWindow) → Option (List TWindow)
  | 0, _, _ => none
  | n + 1, n45, l46 => if (decide (n45 > a1)) = true then (idx l46 n45).bind fun x48 => (idx l46 (w64 (n45 - 1))).bind fun x50 => (M56 F x48 x50).bind fun y52 => if (decide (y52 < 0)) = true then (idx l46 (w64 (n45 - 1))).bind fun x55 => (idx l46 n45).bind fun x57 => (idx l46 n45).bind fun x59 => (idx (l46.set n45.toNat x55) (w64 (n45 - 1))).bind fun x61 => M107_L2 F a1 k41 n (w64 (n45 - 1)) ((l46.set n45.toNat x55).set (w64 (n45 - 1)).toNat x57)
  else k41 l46
  else k41 l46
def M107_L1 (F : Nat) (a1 : Int) (a2 : Int) : Nat → Int → (List TWindow) → Option (List TWindow)
  | 0, _, _ => none
  | n + 1, n36, l37 => if (decide (n36 < a2)) = true then jn (fun (l40 : List TWindow) => M107_L1 F a1 a2 n (w64 (n36 + 1)) l40) (fun k39 => jn (fun (l42 : List TWindow) => k39 l42) (fun k41 => M107_L2 F a1 k41 F n36 l37))
  else some l37
def M107 (F : Nat) (a1 : Int) (a2 : Int) (a3 : List TWindow) : Option (List TWindow) :=
  M107_L1 F a1 a2 F (w64 (a1 + 1)) a3
def M137_L1 (F : Nat) (a1 : Int) (a2 : Int) : Nat → Int → (List TWindow) → Option (List TWindow)
  | 0, n22, l23 => some l23
  | tl1 + 1, n22, l23 => (idx l23 (w64 (a2 + n22))).bind fun x25 => (idx l23 (w64 (a1 + n22))).bind fun x27 => (idx l23 (w64 (a1 + n22))).bind fun x29 => (idx (l23.set (w64 (a1 + n22)).toNat x25) (w64 (a2 + n22))).bind fun x31 => M137_L1 F a1 a2 tl1 (n22 + 1) ((l23.set (w64 (a1 + n22)).toNat x25).set (w64 (a2 + n22)).toNat x27)
def M137 (F : Nat) (a1 : Int) (a2 : Int) (a3 : Int) (a4 : List TWindow) : Option (List TWindow) :=
  if a3 ≤ 9223372036854775807 then M137_L1 F a1 a2 ((a3 : Int).toNat) 0 a4 else none
def M122_L1 (F : Nat) (a2 : Int) (k30 : Int → (List TWindow) → Option (List TWindow)) : Nat → Int → Int → (List TWindow) → Option (List TWindow)
  | 0, _, _, _ => none
  | n + 1, n36, n37, l38 => if (n36 != n37) = true then jn (fun (n41 : Int) (n42 : Int) (l43 : List TWindow) => M122_L1 F a2 k30 n n41 n42 l43) (fun k40 => if (decide (n36 > n37)) = true then (M137 F (w64 (a2 - n36)) a2 n37 l38).bind fun y45 => if y45.length = l38.length then k40 (w64 (n36 - n37)) n37 y45 else none
  else (M137 F (w64 (a2 - n36)) (w64 ((w64 (a2 + n37)) - n36)) n36 l38).bind fun y48 => if y48.length = l38.length then k40 n36 (w64 (n37 - n36)) y48 else none)
  else k30 n36 l38
def M122 (F : Nat) (a1 : Int) (a2 : Int) (a3 : Int) (a4 : List TWindow) : Option (List TWindow) :=
  jn (fun (n31 : Int) (l32 : List TWindow) => (M137 F (w64 (a2 - n31)) a2 n31 l32).bind fun y51 => if y51.length = l32.length then some y51 else none) (fun k30 => M122_L1 F a2 k30 F (w64 (a2 - a1)) (w64 (a3 - a2)) a4)
def M108_L2 (F : Nat) (n136 : Int) (k152 : (List TWindow) → Option (List TWindow)) : Nat → Int → (List TWindow) → Option (List TWindow)
  | 0, _, _ => none
  | n + 1, n156, l157 => if (decide (n156 < (w64 (n136 - 1)))) = true then (idx l157 (w64 (n156 + 1))).bind fun x159 => (idx l157 n156).bind fun x161 => (idx l157 n156).bind fun x163 => (idx (l157.set n156.toNat x159) (w64 (n156 + 1))).bind fun x165 => M108_L2 F n136 k152 n (w64 (n156 + 1)) ((l157.set n156.toNat x159).set (w64 (n156 + 1)).toNat x161)
  else k152 l157
def M108_L1 (F : Nat) (a1 : Int) (a4 : List TWindow) (k135 : Int → Option (List TWindow)) : Nat → Int → Int → Option (List TWindow)
  | 0, _, _ => none
  | n + 1, n139, n140 => if (decide (n139 < n140)) = true then (idx a4 (w64 (Int.fdiv (IntKind.wrap .u64 (w64 (n139 + n140))) (2 ^ (min (Int.toNat 1) (IntKind.bits .u64)))))).bind fun x142 => (idx a4 a1).bind fun x144 => (M56 F x142 x144).bind fun y146 => jn (fun (n149 : Int) (n150 : Int) => M108_L1 F a1 a4 k135 n n149 n150) (fun k148 => if (decide (y146 < 0)) = true then k148 (w64 ((w64 (Int.fdiv (IntKind.wrap .u64 (w64 (n139 + n140))) (2 ^ (min (Int.toNat 1) (IntKind.bits .u64))))) + 1)) n140
  else k148 n139 (w64 (Int.fdiv (IntKind.wrap .u64 (w64 (n139 + n140))) (2 ^ (min (Int.toNat 1) (IntKind.bits .u64))))))
  else k135 n139
def M108_L4 (F : Nat) (n169 : Int) (k185 : (List TWindow) → Option (List TWindow)) : Nat → Int → (List TWindow) → Option (List TWindow)
  | 0, _, _ => none
  | n + 1, n189, l190 => if (decide (n189 > n169)) = true then (idx l190 (w64 (n189 - 1))).bind fun x192 => (idx l190 n189).bind fun x194 => (idx l190 n189).bind fun x196 => (idx (l190.set n189.toNat x192) (w64 (n189 - 1))).bind fun x198 => M108_L4 F n169 k185 n (w64 (n189 - 1)) ((l190.set n189.toNat x192).set (w64 (n189 - 1)).toNat x194)
  else k185 l190
def M108_L3 (F : Nat) (a2 : Int) (a4 : List TWindow) (k168 : Int → Option (List TWindow)) : Nat → Int → Int → Option (List TWindow)
  | 0, _, _ => none
  | n + 1, n172, n173 => if (decide (n172 < n173)) = true then (idx a4 a2).bind fun x175 => (idx a4 (w64 (Int.fdiv (IntKind.wrap .u64 (w64 (n172 + n173))) (2 ^ (min (Int.toNat 1) (IntKind.bits .u64)))))).bind fun x177 => (M56 F x175 x177).bind fun y179 => jn (fun (n182 : Int) (n183 : Int) => M108_L3 F a2 a4 k168 n n182 n183) (fun k181 => if (!(decide (y179 < 0))) = true then k181 (w64 ((w64 (Int.fdiv (IntKind.wrap .u64 (w64 (n172 + n173))) (2 ^ (min (Int.toNat 1) (IntKind.bits .u64))))) + 1)) n173
  else k181 n172 (w64 (Int.fdiv (IntKind.wrap .u64 (w64 (n172 + n173))) (2 ^ (min (Int.toNat 1) (IntKind.bits .u64))))))
  else k168 n172
def M108_L5 (F : Nat) (a1 : Int) (a2 : Int) (a3 : Int) (a4 : List TWindow) (k204 : Int → Option (List TWindow)) : Nat → Int → Int → Option (List TWindow)
  | 0, _, _ => none
  | n + 1, n208, n209 => if (decide (n208 < n209)) = true then (idx a4 (w64 ((w64 ((w64 ((w64 (Int.fdiv (IntKind.wrap .u64 (w64 (a1 + a3))) (2 ^ (min (Int.toNat 1) (IntKind.bits .u64))))) + a2)) - 1)) - (w64 (Int.fdiv (IntKind.wrap .u64 (w64 (n208 + n209))) (2 ^ (min (Int.toNat 1) (IntKind.bits .u64)))))))).bind fun x211 => (idx a4 (w64 (Int.fdiv (IntKind.wrap .u64 (w64 (n208 + n209))) (2 ^ (min (Int.toNat 1) (IntKind.bits .u64)))))).bind fun x213 => (M56 F x211 x213).bind fun y215 => jn (fun (n218 : Int) (n219 : Int) => M108_L5 F a1 a2 a3 a4 k204 n n218 n219) (fun k217 => if (!(decide (y215 < 0))) = true then k217 (w64 ((w64 (Int.fdiv (IntKind.wrap .u64 (w64 (n208 + n209))) (2 ^ (min (Int.toNat 1) (IntKind.bits .u64))))) + 1)) n209
  else k217 n208 (w64 (Int.fdiv (IntKind.wrap .u64 (w64 (n208 + n209))) (2 ^ (min (Int.toNat 1) (IntKind.bits .u64))))))
  else k204 n208
def M108_B (R108 : Int → Int → Int → (List TWindow) → Option (List TWindow)) (F : Nat) (a1 : Int) (a2 : Int) (a3 : Int) (a4 : List TWindow) : Option (List TWindow) :=
  if ((w64 (a2 - a1)) == 1) = true then jn (fun (n136 : Int) => jn (fun (l153 : List TWindow) => some l153) (fun k152 => M108_L2 F n136 k152 F a1 a4)) (fun k135 => M108_L1 F a1 a4 k135 F a2 a3)
  else if ((w64 (a3 - a2)) == 1) = true then jn (fun (n169 : Int) => jn (fun (l186 : List TWindow) => some l186) (fun k185 => M108_L4 F n169 k185 F a2 a4)) (fun k168 => M108_L3 F a2 a4 k168 F a1 a2)
  else jn (fun (n201 : Int) (n202 : Int) => jn (fun (n205 : Int) => if (decide (n205 < a2)) = true then jn (fun (l223 : List TWindow) => if (decide (a1 < n205)) = true then jn (fun (l230 : List TWindow) => if (decide ((w64 (Int.fdiv (IntKind.wrap .u64 (w64 (a1 + a3))) (2 ^ (min (Int.toNat 1) (IntKind.bits .u64))))) < (w64 ((w64 ((w64 (Int.fdiv (IntKind.wrap .u64 (w64 (a1 + a3))) (2 ^ (min (Int.toNat 1) (IntKind.bits .u64))))) + a2)) - n205)))) = true then if (decide ((w64 ((w64 ((w64 (Int.fdiv (IntKind.wrap .u64 (w64 (a1 + a3))) (2 ^ (min (Int.toNat 1) (IntKind.bits .u64))))) + a2)) - n205)) < a3)) = true then (R108 (w64 (Int.fdiv (IntKind.wrap .u64 (w64 (a1 + a3))) (2 ^ (min (Int.toNat 1) (IntKind.bits .u64))))) (w64 ((w64 ((w64 (Int.fdiv (IntKind.wrap .u64 (w64 (a1 + a3))) (2 ^ (min (Int.toNat 1) (IntKind.bits .u64))))) + a2)) - n205)) a3 l230).bind fun y237 => if y237.length = l230.length then some y237 else none
  else some l230
  else some l230) (fun k229 => if (decide (n205 < (w64 (Int.fdiv (IntKind.wrap .u64 (w64 (a1 + a3))) (2 ^ (min (Int.toNat 1) (IntKind.bits .u64))))))) = true then (R108 a1 n205 (w64 (Int.fdiv (IntKind.wrap .u64 (w64 (a1 + a3))) (2 ^ (min (Int.toNat 1) (IntKind.bits .u64))))) l223).bind fun y232 => if y232.length = l223.length then k229 y232 else none
  else k229 l223)
  else if (decide ((w64 (Int.fdiv (IntKind.wrap .u64 (w64 (a1 + a3))) (2 ^ (min (Int.toNat 1) (IntKind.bits .u64))))) < (w64 ((w64 ((w64 (Int.fdiv (IntKind.wrap .u64 (w64 (a1 + a3))) (2 ^ (min (Int.toNat 1) (IntKind.bits .u64))))) + a2)) - n205)))) = true then if (decide ((w64 ((w64 ((w64 (Int.fdiv (IntKind.wrap .u64 (w64 (a1 + a3))) (2 ^ (min (Int.toNat 1) (IntKind.bits .u64))))) + a2)) - n205)) < a3)) = true then (R108 (w64 (Int.fdiv (IntKind.wrap .u64 (w64 (a1 + a3))) (2 ^ (min (Int.toNat 1) (IntKind.bits .u64))))) (w64 ((w64 ((w64 (Int.fdiv (IntKind.wrap .u64 (w64 (a1 + a3))) (2 ^ (min (Int.toNat 1) (IntKind.bits .u64))))) + a2)) - n205)) a3 l223).bind fun y242 => if y242.length = l223.length then some y242 else none
  else some l223
  else some l223) (fun k222 => if (decide (a2 < (w64 ((w64 ((w64 (Int.fdiv (IntKind.wrap .u64 (w64 (a1 + a3))) (2 ^ (min (Int.toNat 1) (IntKind.bits .u64))))) + a2)) - n205)))) = true then (M122 F n205 a2 (w64 ((w64 ((w64 (Int.fdiv (IntKind.wrap .u64 (w64 (a1 + a3))) (2 ^ (min (Int.toNat 1) (IntKind.bits .u64))))) + a2)) - n205)) a4).bind fun y225 => if y225.length = a4.length then k222 y225 else none
  else k222 a4)
  else if (decide (a1 < n205)) = true then jn (fun (l247 : List TWindow) => if (decide ((w64 (Int.fdiv (IntKind.wrap .u64 (w64 (a1 + a3))) (2 ^ (min (Int.toNat 1) (IntKind.bits .u64))))) < (w64 ((w64 ((w64 (Int.fdiv (IntKind.wrap .u64 (w64 (a1 + a3))) (2 ^ (min (Int.toNat 1) (IntKind.bits .u64))))) + a2)) - n205)))) = true then if (decide ((w64 ((w64 ((w64 (Int.fdiv (IntKind.wrap .u64 (w64 (a1 + a3))) (2 ^ (min (Int.toNat 1) (IntKind.bits .u64))))) + a2)) - n205)) < a3)) = true then (R108 (w64 (Int.fdiv (IntKind.wrap .u64 (w64 (a1 + a3))) (2 ^ (min (Int.toNat 1) (IntKind.bits .u64))))) (w64 ((w64 ((w64 (Int.fdiv (IntKind.wrap .u64 (w64 (a1 + a3))) (2 ^ (min (Int.toNat 1) (IntKind.bits .u64))))) + a2)) - n205)) a3 l247).bind fun y254 => if y254.length = l247.length then some y254 else none
  else some l247
  else some l247) (fun k246 => if (decide (n205 < (w64 (Int.fdiv (IntKind.wrap .u64 (w64 (a1 + a3))) (2 ^ (min (Int.toNat 1) (IntKind.bits .u64))))))) = true then (R108 a1 n205 (w64 (Int.fdiv (IntKind.wrap .u64 (w64 (a1 + a3))) (2 ^ (min (Int.toNat 1) (IntKind.bits .u64))))) a4).bind fun y249 => if y249.length = a4.length then k246 y249 else none
  else k246 a4)
  else if (decide ((w64 (Int.fdiv (IntKind.wrap .u64 (w64 (a1 + a3))) (2 ^ (min (Int.toNat 1) (IntKind.bits .u64))))) < (w64 ((w64 ((w64 (Int.fdiv (IntKind.wrap .u64 (w64 (a1 + a3))) (2 ^ (min (Int.toNat 1) (IntKind.bits .u64))))) + a2)) - n205)))) = true then if (decide ((w64 ((w64 ((w64 (Int.fdiv (IntKind.wrap .u64 (w64 (a1 + a3))) (2 ^ (min (Int.toNat 1) (IntKind.bits .u64))))) + a2)) - n205)) < a3)) = true then (R108 (w64 (Int.fdiv (IntKind.wrap .u64 (w64 (a1 + a3))) (2 ^ (min (Int.toNat 1) (IntKind.bits .u64))))) (w64 ((w64 ((w64 (Int.fdiv (IntKind.wrap .u64 (w64 (a1 + a3))) (2 ^ (min (Int.toNat 1) (IntKind.bits .u64))))) + a2)) - n205)) a3 a4).bind fun y259 => if y259.length = a4.length then some y259 else none
  else some a4
  else some a4) (fun k204 => M108_L5 F a1 a2 a3 a4 k204 F n201 n202)) (fun k200 => if (decide (a2 > (w64 (Int.fdiv (IntKind.wrap .u64 (w64 (a1 + a3))) (2 ^ (min (Int.toNat 1) (IntKind.bits .u64))))))) = true then k200 (w64 ((w64 ((w64 (Int.fdiv (IntKind.wrap .u64 (w64 (a1 + a3))) (2 ^ (min (Int.toNat 1) (IntKind.bits .u64))))) + a2)) - a3)) (w64 (Int.fdiv (IntKind.wrap .u64 (w64 (a1 + a3))) (2 ^ (min (Int.toNat 1) (IntKind.bits .u64)))))
  else k200 a1 a2)
def M108 : Nat → Int → Int → Int → (List TWindow) → Option (List TWindow)
  | 0, _, _, _, _ => none
  | F + 1, a1, a2, a3, a4 => M108_B (M108 F) F a1 a2 a3 a4
def M92_L3 (F : Nat) (a1 : Int) (n64 : Int) (k69 : Int → (List TWindow) → Option (List TWindow)) : Nat → Int → Int → (List TWindow) → Option (List TWindow)
  | 0, _, _, _ => none
  | n + 1, n75, n76, l77 => if (decide (n76 ≤ a1)) = true then (M108 F n75 (w64 (n75 + n64)) n76 l77).bind fun y79 => if y79.length = l77.length then M92_L3 F a1 n64 k69 n n76 (w64 (n76 + (w64 (2 * n64)))) y79 else none
  else k69 n75 l77
def M92_L2 (F : Nat) (a1 : Int) : Nat → Int → (List TWindow) → Option (List TWindow)
  | 0, _, _ => none
  | n + 1, n64, l65 => if (decide (n64 < a1)) = true then jn (fun (l68 : List TWindow) => M92_L2 F a1 n (w64 (n64 * 2)) l68) (fun k67 => jn (fun (n70 : Int) (l71 : List TWindow) => jn (fun (l83 : List TWindow) => k67 l83) (fun k82 => if (decide ((w64 (n70 + n64)) < a1)) = true then (M108 F n70 (w64 (n70 + n64)) a1 l71).bind fun y85 => if y85.length = l71.length then k82 y85 else none
  else k82 l71)) (fun k69 => M92_L3 F a1 n64 k69 F 0 (w64 (2 * n64)) l65))
  else some l65
def M92_L1 (F : Nat) (a1 : Int) (k46 : Int → (List TWindow) → Option (List TWindow)) : Nat → Int → Int → (List TWindow) → Option (List TWindow)
  | 0, _, _, _ => none
  | n + 1, n52, n53, l54 => if (decide (n53 ≤ a1)) = true then (M107 F n52 n53 l54).bind fun y56 => if y56.length = l54.length then M92_L1 F a1 k46 n n53 (w64 (n53 + 20)) y56 else none
  else k46 n52 l54
def M92 (F : Nat) (a1 : Int) (a2 : List TWindow) : Option (List TWindow) :=
  jn (fun (n47 : Int) (l48 : List TWindow) => (M107 F n47 a1 l48).bind fun y59 => if y59.length = l48.length then M92_L2 F a1 F 20 y59 else none) (fun k46 => M92_L1 F a1 k46 F 0 20 a2)
def M80 (F : Nat) (a1 : List TWindow) : Option (List TWindow) :=
  (M92 F ((a1.length : Nat) : Int) a1).bind fun y6 => if y6.length = a1.length then some y6 else none
def M55 (F : Nat) (a1 : (List TWindow)) : Option (List TWindow) :=
  (M79 F a1).bind fun y2 => (M80 F y2).bind fun y4 => if y4.length = y2.length then some y4 else none
def M26_L2 (F : Nat) (a1 : TStory) (k31 : (List TWindow) → Option (List TWindow)) : Nat → Int → (List TWindow) → Option (List TWindow)
  | 0, n35, l36 => k31 l36
  | tl2 + 1, n35, l36 => (idx l36 n35).bind fun x38 => (idx l36 n35).bind fun x40 => M26_L2 F a1 k31 tl2 (n35 + 1) (l36.set n35.toNat (TWindow.mk x40.Advisory x40.Component x40.Severity x40.From x40.To (x38.To == a1.Until)))
def M26_L1 (F : Nat) (k4 : (List TWindow) → Option (List TWindow)) : List Thistory_piece → (List TWindow) → (List (Thistory_key × Int)) → Option (List TWindow)
  | [], l10, m11 => k4 l10
  | x16 :: tl1, l10, m11 => jn (fun (l14 : List TWindow) (m15 : List (Thistory_key × Int)) => M26_L1 F k4 tl1 l14 m15) (fun k13 => (M54 F x16.x).bind fun y18 => if ((mget m11 y18).isSome) = true then (idx l10 ((mget m11 y18).getD 0)).bind fun x21 => if (x21.To == x16.from_) = true then (idx l10 ((mget m11 y18).getD 0)).bind fun x24 => (idx (l10.set ((mget m11 y18).getD 0).toNat (TWindow.mk x24.Advisory x24.Component x24.Severity x24.From x16.to x24.Open)) ((mget m11 y18).getD 0)).bind fun x26 => k13 ((l10.set ((mget m11 y18).getD 0).toNat (TWindow.mk x24.Advisory x24.Component x24.Severity x24.From x16.to x24.Open)).set ((mget m11 y18).getD 0).toNat (TWindow.mk x26.Advisory x26.Component x16.x.Severity x26.From x26.To x26.Open)) m11
 else if (l10 ++ ([(TWindow.mk x16.x.Advisory x16.x.Component x16.x.Severity x16.from_ x16.to false)] : List TWindow)).length * 64 ≤ 140737488355328 then k13 (l10 ++ ([(TWindow.mk x16.x.Advisory x16.x.Component x16.x.Severity x16.from_ x16.to false)] : List TWindow)) (mput m11 y18 ((l10.length : Nat) : Int)) else none
 else if (l10 ++ ([(TWindow.mk x16.x.Advisory x16.x.Component x16.x.Severity x16.from_ x16.to false)] : List TWindow)).length * 64 ≤ 140737488355328 then k13 (l10 ++ ([(TWindow.mk x16.x.Advisory x16.x.Component x16.x.Severity x16.from_ x16.to false)] : List TWindow)) (mput m11 y18 ((l10.length : Nat) : Int)) else none)
def M26 (F : Nat) (a1 : TStory) : Option (List TWindow) :=
  (M34 F a1).bind fun y2 => jn (fun (l5 : List TWindow) => jn (fun (l32 : List TWindow) => (M55 F l32).bind fun y43 => some y43) (fun k31 => M26_L2 F a1 k31 ((((l5.length : Nat) : Int) : Int).toNat) 0 l5)) (fun k4 => M26_L1 F k4 y2 ([] : List TWindow) ([] : List (Thistory_key × Int)))
def M5 (F : Nat) (a1 : TStory) : Option ((List TWindow) × Int) :=
  (M25 F a1).bind fun y2 => if (y2 != 0) = true then some (([] : List TWindow), y2)
  else (M26 F a1).bind fun y5 => some (y5, 0)
def M28 (F : Nat) (a1 : (List TPublished)) : Option (List TPublished) :=
  nilq a1.length (fun b2 => if b2 = true then some ([] : List TPublished)
  else if (([] : List TPublished) ++ a1).length * 32 ≤ 140737488355328 then some (([] : List TPublished) ++ a1) else none)
def M57 (F : Nat) (a1 : (List TExposure)) : Option (List TExposure) :=
  nilq a1.length (fun b2 => if b2 = true then some ([] : List TExposure)
  else if (([] : List TExposure) ++ a1).length * 40 ≤ 140737488355328 then some (([] : List TExposure) ++ a1) else none)
def M29 (F : Nat) (a1 : TRelease) : Option TRelease :=
  (M57 F a1.Exposures).bind fun y2 => some (TRelease.mk a1.Version a1.Day y2)
def M6_L1 (F : Nat) (a2 : Int) (k11 : (List TRelease) → Option (TStory × Int)) : List TRelease → (List TRelease) → Option (TStory × Int)
  | [], l16 => k11 l16
  | x18 :: tl1, l16 => jn (fun (l21 : List TRelease) => M6_L1 F a2 k11 tl1 l21) (fun k20 => if (decide (x18.Day < a2)) = true then (M29 F x18).bind fun y23 => if (l16 ++ ([y23] : List TRelease)).length * 48 ≤ 140737488355328 then k20 (l16 ++ ([y23] : List TRelease)) else none
 else k20 l16)
def M6 (F : Nat) (a1 : TStory) (a2 : Int) : Option (TStory × Int) :=
  (M25 F a1).bind fun y3 => if (y3 != 0) = true then some ((TStory.mk ([] : List UInt8) ([] : List TRelease) ([] : List TPublished) 0), y3)
  else (M27 F a2).bind fun y6 => if (!y6) = true then some ((TStory.mk ([] : List UInt8) ([] : List TRelease) ([] : List TPublished) 0), 9)
  else (M28 F a1.Known).bind fun y9 => jn (fun (l12 : List TRelease) => some ((TStory.mk a1.Product l12 y9 (if a2 < a1.Until then a2 else a1.Until)), 0)) (fun k11 => M6_L1 F a2 k11 a1.Releases ([] : List TRelease))
def M7 (F : Nat) : Option Bool := some true
def M8 (F : Nat) (a1 : TWindow) (a2 : TWindow) : Option Bool :=
  if (a1.Advisory == a2.Advisory) = true then if (a1.Component == a2.Component) = true then if (a1.From == a2.From) = true then some (a1.To == a2.To)
  else some false
  else some false
  else some false
def M9_L1 (F : Nat) (a2 : (List TWindow)) (k4 : Option Bool) : List TWindow → Int → Option Bool
  | [], n6 => k4
  | x8 :: tl1, n6 => (idx a2 n6).bind fun x10 => (M8 F x8 x10).bind fun y12 => if (!y12) = true then some false
 else M9_L1 F a2 k4 tl1 (n6 + 1)
def M9 (F : Nat) (a1 : (List TWindow)) (a2 : (List TWindow)) : Option Bool :=
  if (((a1.length : Nat) : Int) != ((a2.length : Nat) : Int)) = true then some false
  else jn (some true) (fun k4 => M9_L1 F a2 k4 a1 0)
def M32 (F : Nat) (a1 : TStory) (a2 : Int) (a3 : Int) (a4 : Int) : Option Int :=
  (M25 F a1).bind fun y5 => if (y5 != 0) = true then some y5
  else if (decide (a2 < 0)) = true then some 9
  else if (decide (a2 > a3)) = true then some 9
  else if (decide (a3 > 1000000)) = true then some 9
  else if (decide (a4 < 0)) = true then some 9
  else if (decide (a4 > 100)) = true then some 9
  else some 0
def M65 (F : Nat) (a1 : (List Thistory_piece)) : Option (List Thistory_piece) :=
  nilq a1.length (fun b7 => if b7 = true then some ([] : List Thistory_piece)
  else if (([] : List Thistory_piece) ++ a1).length * 56 ≤ 140737488355328 then some (([] : List Thistory_piece) ++ a1) else none)
def M35 (F : Nat) (a1 : Thistory_piece) (a2 : Thistory_piece) : Option Int :=
  (M36 F a1.from_ a2.from_).bind fun y3 => some y3
def M98_L2 (F : Nat) (a1 : Int) (k41 : (List Thistory_piece) → Option (List Thistory_piece)) : Nat → Int → (List Thistory_piece) → Option (List Thistory_piece)
  | 0, _, _ => none
  | n + 1, n45, l46 => if (decide (n45 > a1)) = true then (idx l46 n45).bind fun x48 => (idx l46 (w64 (n45 - 1))).bind fun x50 => (M35 F x48 x50).bind fun y52 => if (decide (y52 < 0)) = true then (idx l46 (w64 (n45 - 1))).bind fun x55 => (idx l46 n45).bind fun x57 => (idx l46 n45).bind fun x59 => (idx (l46.set n45.toNat x55) (w64 (n45 - 1))).bind fun x61 => M98_L2 F a1 k41 n (w64 (n45 - 1)) ((l46.set n45.toNat x55).set (w64 (n45 - 1)).toNat x57)
  else k41 l46
  else k41 l46
def M98_L1 (F : Nat) (a1 : Int) (a2 : Int) : Nat → Int → (List Thistory_piece) → Option (List Thistory_piece)
  | 0, _, _ => none
  | n + 1, n36, l37 => if (decide (n36 < a2)) = true then jn (fun (l40 : List Thistory_piece) => M98_L1 F a1 a2 n (w64 (n36 + 1)) l40) (fun k39 => jn (fun (l42 : List Thistory_piece) => k39 l42) (fun k41 => M98_L2 F a1 k41 F n36 l37))
  else some l37
def M98 (F : Nat) (a1 : Int) (a2 : Int) (a3 : List Thistory_piece) : Option (List Thistory_piece) :=
  M98_L1 F a1 a2 F (w64 (a1 + 1)) a3
def M129_L1 (F : Nat) (a1 : Int) (a2 : Int) : Nat → Int → (List Thistory_piece) → Option (List Thistory_piece)
  | 0, n22, l23 => some l23
  | tl1 + 1, n22, l23 => (idx l23 (w64 (a2 + n22))).bind fun x25 => (idx l23 (w64 (a1 + n22))).bind fun x27 => (idx l23 (w64 (a1 + n22))).bind fun x29 => (idx (l23.set (w64 (a1 + n22)).toNat x25) (w64 (a2 + n22))).bind fun x31 => M129_L1 F a1 a2 tl1 (n22 + 1) ((l23.set (w64 (a1 + n22)).toNat x25).set (w64 (a2 + n22)).toNat x27)
def M129 (F : Nat) (a1 : Int) (a2 : Int) (a3 : Int) (a4 : List Thistory_piece) : Option (List Thistory_piece) :=
  if a3 ≤ 9223372036854775807 then M129_L1 F a1 a2 ((a3 : Int).toNat) 0 a4 else none
def M112_L1 (F : Nat) (a2 : Int) (k30 : Int → (List Thistory_piece) → Option (List Thistory_piece)) : Nat → Int → Int → (List Thistory_piece) → Option (List Thistory_piece)
  | 0, _, _, _ => none
  | n + 1, n36, n37, l38 => if (n36 != n37) = true then jn (fun (n41 : Int) (n42 : Int) (l43 : List Thistory_piece) => M112_L1 F a2 k30 n n41 n42 l43) (fun k40 => if (decide (n36 > n37)) = true then (M129 F (w64 (a2 - n36)) a2 n37 l38).bind fun y45 => if y45.length = l38.length then k40 (w64 (n36 - n37)) n37 y45 else none
  else (M129 F (w64 (a2 - n36)) (w64 ((w64 (a2 + n37)) - n36)) n36 l38).bind fun y48 => if y48.length = l38.length then k40 n36 (w64 (n37 - n36)) y48 else none)
  else k30 n36 l38
def M112 (F : Nat) (a1 : Int) (a2 : Int) (a3 : Int) (a4 : List Thistory_piece) : Option (List Thistory_piece) :=
  jn (fun (n31 : Int) (l32 : List Thistory_piece) => (M129 F (w64 (a2 - n31)) a2 n31 l32).bind fun y51 => if y51.length = l32.length then some y51 else none) (fun k30 => M112_L1 F a2 k30 F (w64 (a2 - a1)) (w64 (a3 - a2)) a4)
def M99_L2 (F : Nat) (n136 : Int) (k152 : (List Thistory_piece) → Option (List Thistory_piece)) : Nat → Int → (List Thistory_piece) → Option (List Thistory_piece)
  | 0, _, _ => none
  | n + 1, n156, l157 => if (decide (n156 < (w64 (n136 - 1)))) = true then (idx l157 (w64 (n156 + 1))).bind fun x159 => (idx l157 n156).bind fun x161 => (idx l157 n156).bind fun x163 => (idx (l157.set n156.toNat x159) (w64 (n156 + 1))).bind fun x165 => M99_L2 F n136 k152 n (w64 (n156 + 1)) ((l157.set n156.toNat x159).set (w64 (n156 + 1)).toNat x161)
  else k152 l157
def M99_L1 (F : Nat) (a1 : Int) (a4 : List Thistory_piece) (k135 : Int → Option (List Thistory_piece)) : Nat → Int → Int → Option (List Thistory_piece)
  | 0, _, _ => none
  | n + 1, n139, n140 => if (decide (n139 < n140)) = true then (idx a4 (w64 (Int.fdiv (IntKind.wrap .u64 (w64 (n139 + n140))) (2 ^ (min (Int.toNat 1) (IntKind.bits .u64)))))).bind fun x142 => (idx a4 a1).bind fun x144 => (M35 F x142 x144).bind fun y146 => jn (fun (n149 : Int) (n150 : Int) => M99_L1 F a1 a4 k135 n n149 n150) (fun k148 => if (decide (y146 < 0)) = true then k148 (w64 ((w64 (Int.fdiv (IntKind.wrap .u64 (w64 (n139 + n140))) (2 ^ (min (Int.toNat 1) (IntKind.bits .u64))))) + 1)) n140
  else k148 n139 (w64 (Int.fdiv (IntKind.wrap .u64 (w64 (n139 + n140))) (2 ^ (min (Int.toNat 1) (IntKind.bits .u64))))))
  else k135 n139
def M99_L4 (F : Nat) (n169 : Int) (k185 : (List Thistory_piece) → Option (List Thistory_piece)) : Nat → Int → (List Thistory_piece) → Option (List Thistory_piece)
  | 0, _, _ => none
  | n + 1, n189, l190 => if (decide (n189 > n169)) = true then (idx l190 (w64 (n189 - 1))).bind fun x192 => (idx l190 n189).bind fun x194 => (idx l190 n189).bind fun x196 => (idx (l190.set n189.toNat x192) (w64 (n189 - 1))).bind fun x198 => M99_L4 F n169 k185 n (w64 (n189 - 1)) ((l190.set n189.toNat x192).set (w64 (n189 - 1)).toNat x194)
  else k185 l190
def M99_L3 (F : Nat) (a2 : Int) (a4 : List Thistory_piece) (k168 : Int → Option (List Thistory_piece)) : Nat → Int → Int → Option (List Thistory_piece)
  | 0, _, _ => none
  | n + 1, n172, n173 => if (decide (n172 < n173)) = true then (idx a4 a2).bind fun x175 => (idx a4 (w64 (Int.fdiv (IntKind.wrap .u64 (w64 (n172 + n173))) (2 ^ (min (Int.toNat 1) (IntKind.bits .u64)))))).bind fun x177 => (M35 F x175 x177).bind fun y179 => jn (fun (n182 : Int) (n183 : Int) => M99_L3 F a2 a4 k168 n n182 n183) (fun k181 => if (!(decide (y179 < 0))) = true then k181 (w64 ((w64 (Int.fdiv (IntKind.wrap .u64 (w64 (n172 + n173))) (2 ^ (min (Int.toNat 1) (IntKind.bits .u64))))) + 1)) n173
  else k181 n172 (w64 (Int.fdiv (IntKind.wrap .u64 (w64 (n172 + n173))) (2 ^ (min (Int.toNat 1) (IntKind.bits .u64))))))
  else k168 n172
def M99_L5 (F : Nat) (a1 : Int) (a2 : Int) (a3 : Int) (a4 : List Thistory_piece) (k204 : Int → Option (List Thistory_piece)) : Nat → Int → Int → Option (List Thistory_piece)
  | 0, _, _ => none
  | n + 1, n208, n209 => if (decide (n208 < n209)) = true then (idx a4 (w64 ((w64 ((w64 ((w64 (Int.fdiv (IntKind.wrap .u64 (w64 (a1 + a3))) (2 ^ (min (Int.toNat 1) (IntKind.bits .u64))))) + a2)) - 1)) - (w64 (Int.fdiv (IntKind.wrap .u64 (w64 (n208 + n209))) (2 ^ (min (Int.toNat 1) (IntKind.bits .u64)))))))).bind fun x211 => (idx a4 (w64 (Int.fdiv (IntKind.wrap .u64 (w64 (n208 + n209))) (2 ^ (min (Int.toNat 1) (IntKind.bits .u64)))))).bind fun x213 => (M35 F x211 x213).bind fun y215 => jn (fun (n218 : Int) (n219 : Int) => M99_L5 F a1 a2 a3 a4 k204 n n218 n219) (fun k217 => if (!(decide (y215 < 0))) = true then k217 (w64 ((w64 (Int.fdiv (IntKind.wrap .u64 (w64 (n208 + n209))) (2 ^ (min (Int.toNat 1) (IntKind.bits .u64))))) + 1)) n209
  else k217 n208 (w64 (Int.fdiv (IntKind.wrap .u64 (w64 (n208 + n209))) (2 ^ (min (Int.toNat 1) (IntKind.bits .u64))))))
  else k204 n208
def M99_B (R99 : Int → Int → Int → (List Thistory_piece) → Option (List Thistory_piece)) (F : Nat) (a1 : Int) (a2 : Int) (a3 : Int) (a4 : List Thistory_piece) : Option (List Thistory_piece) :=
  if ((w64 (a2 - a1)) == 1) = true then jn (fun (n136 : Int) => jn (fun (l153 : List Thistory_piece) => some l153) (fun k152 => M99_L2 F n136 k152 F a1 a4)) (fun k135 => M99_L1 F a1 a4 k135 F a2 a3)
  else if ((w64 (a3 - a2)) == 1) = true then jn (fun (n169 : Int) => jn (fun (l186 : List Thistory_piece) => some l186) (fun k185 => M99_L4 F n169 k185 F a2 a4)) (fun k168 => M99_L3 F a2 a4 k168 F a1 a2)
  else jn (fun (n201 : Int) (n202 : Int) => jn (fun (n205 : Int) => if (decide (n205 < a2)) = true then jn (fun (l223 : List Thistory_piece) => if (decide (a1 < n205)) = true then jn (fun (l230 : List Thistory_piece) => if (decide ((w64 (Int.fdiv (IntKind.wrap .u64 (w64 (a1 + a3))) (2 ^ (min (Int.toNat 1) (IntKind.bits .u64))))) < (w64 ((w64 ((w64 (Int.fdiv (IntKind.wrap .u64 (w64 (a1 + a3))) (2 ^ (min (Int.toNat 1) (IntKind.bits .u64))))) + a2)) - n205)))) = true then if (decide ((w64 ((w64 ((w64 (Int.fdiv (IntKind.wrap .u64 (w64 (a1 + a3))) (2 ^ (min (Int.toNat 1) (IntKind.bits .u64))))) + a2)) - n205)) < a3)) = true then (R99 (w64 (Int.fdiv (IntKind.wrap .u64 (w64 (a1 + a3))) (2 ^ (min (Int.toNat 1) (IntKind.bits .u64))))) (w64 ((w64 ((w64 (Int.fdiv (IntKind.wrap .u64 (w64 (a1 + a3))) (2 ^ (min (Int.toNat 1) (IntKind.bits .u64))))) + a2)) - n205)) a3 l230).bind fun y237 => if y237.length = l230.length then some y237 else none
  else some l230
  else some l230) (fun k229 => if (decide (n205 < (w64 (Int.fdiv (IntKind.wrap .u64 (w64 (a1 + a3))) (2 ^ (min (Int.toNat 1) (IntKind.bits .u64))))))) = true then (R99 a1 n205 (w64 (Int.fdiv (IntKind.wrap .u64 (w64 (a1 + a3))) (2 ^ (min (Int.toNat 1) (IntKind.bits .u64))))) l223).bind fun y232 => if y232.length = l223.length then k229 y232 else none
  else k229 l223)
  else if (decide ((w64 (Int.fdiv (IntKind.wrap .u64 (w64 (a1 + a3))) (2 ^ (min (Int.toNat 1) (IntKind.bits .u64))))) < (w64 ((w64 ((w64 (Int.fdiv (IntKind.wrap .u64 (w64 (a1 + a3))) (2 ^ (min (Int.toNat 1) (IntKind.bits .u64))))) + a2)) - n205)))) = true then if (decide ((w64 ((w64 ((w64 (Int.fdiv (IntKind.wrap .u64 (w64 (a1 + a3))) (2 ^ (min (Int.toNat 1) (IntKind.bits .u64))))) + a2)) - n205)) < a3)) = true then (R99 (w64 (Int.fdiv (IntKind.wrap .u64 (w64 (a1 + a3))) (2 ^ (min (Int.toNat 1) (IntKind.bits .u64))))) (w64 ((w64 ((w64 (Int.fdiv (IntKind.wrap .u64 (w64 (a1 + a3))) (2 ^ (min (Int.toNat 1) (IntKind.bits .u64))))) + a2)) - n205)) a3 l223).bind fun y242 => if y242.length = l223.length then some y242 else none
  else some l223
  else some l223) (fun k222 => if (decide (a2 < (w64 ((w64 ((w64 (Int.fdiv (IntKind.wrap .u64 (w64 (a1 + a3))) (2 ^ (min (Int.toNat 1) (IntKind.bits .u64))))) + a2)) - n205)))) = true then (M112 F n205 a2 (w64 ((w64 ((w64 (Int.fdiv (IntKind.wrap .u64 (w64 (a1 + a3))) (2 ^ (min (Int.toNat 1) (IntKind.bits .u64))))) + a2)) - n205)) a4).bind fun y225 => if y225.length = a4.length then k222 y225 else none
  else k222 a4)
  else if (decide (a1 < n205)) = true then jn (fun (l247 : List Thistory_piece) => if (decide ((w64 (Int.fdiv (IntKind.wrap .u64 (w64 (a1 + a3))) (2 ^ (min (Int.toNat 1) (IntKind.bits .u64))))) < (w64 ((w64 ((w64 (Int.fdiv (IntKind.wrap .u64 (w64 (a1 + a3))) (2 ^ (min (Int.toNat 1) (IntKind.bits .u64))))) + a2)) - n205)))) = true then if (decide ((w64 ((w64 ((w64 (Int.fdiv (IntKind.wrap .u64 (w64 (a1 + a3))) (2 ^ (min (Int.toNat 1) (IntKind.bits .u64))))) + a2)) - n205)) < a3)) = true then (R99 (w64 (Int.fdiv (IntKind.wrap .u64 (w64 (a1 + a3))) (2 ^ (min (Int.toNat 1) (IntKind.bits .u64))))) (w64 ((w64 ((w64 (Int.fdiv (IntKind.wrap .u64 (w64 (a1 + a3))) (2 ^ (min (Int.toNat 1) (IntKind.bits .u64))))) + a2)) - n205)) a3 l247).bind fun y254 => if y254.length = l247.length then some y254 else none
  else some l247
  else some l247) (fun k246 => if (decide (n205 < (w64 (Int.fdiv (IntKind.wrap .u64 (w64 (a1 + a3))) (2 ^ (min (Int.toNat 1) (IntKind.bits .u64))))))) = true then (R99 a1 n205 (w64 (Int.fdiv (IntKind.wrap .u64 (w64 (a1 + a3))) (2 ^ (min (Int.toNat 1) (IntKind.bits .u64))))) a4).bind fun y249 => if y249.length = a4.length then k246 y249 else none
  else k246 a4)
  else if (decide ((w64 (Int.fdiv (IntKind.wrap .u64 (w64 (a1 + a3))) (2 ^ (min (Int.toNat 1) (IntKind.bits .u64))))) < (w64 ((w64 ((w64 (Int.fdiv (IntKind.wrap .u64 (w64 (a1 + a3))) (2 ^ (min (Int.toNat 1) (IntKind.bits .u64))))) + a2)) - n205)))) = true then if (decide ((w64 ((w64 ((w64 (Int.fdiv (IntKind.wrap .u64 (w64 (a1 + a3))) (2 ^ (min (Int.toNat 1) (IntKind.bits .u64))))) + a2)) - n205)) < a3)) = true then (R99 (w64 (Int.fdiv (IntKind.wrap .u64 (w64 (a1 + a3))) (2 ^ (min (Int.toNat 1) (IntKind.bits .u64))))) (w64 ((w64 ((w64 (Int.fdiv (IntKind.wrap .u64 (w64 (a1 + a3))) (2 ^ (min (Int.toNat 1) (IntKind.bits .u64))))) + a2)) - n205)) a3 a4).bind fun y259 => if y259.length = a4.length then some y259 else none
  else some a4
  else some a4) (fun k204 => M99_L5 F a1 a2 a3 a4 k204 F n201 n202)) (fun k200 => if (decide (a2 > (w64 (Int.fdiv (IntKind.wrap .u64 (w64 (a1 + a3))) (2 ^ (min (Int.toNat 1) (IntKind.bits .u64))))))) = true then k200 (w64 ((w64 ((w64 (Int.fdiv (IntKind.wrap .u64 (w64 (a1 + a3))) (2 ^ (min (Int.toNat 1) (IntKind.bits .u64))))) + a2)) - a3)) (w64 (Int.fdiv (IntKind.wrap .u64 (w64 (a1 + a3))) (2 ^ (min (Int.toNat 1) (IntKind.bits .u64)))))
  else k200 a1 a2)
def M99 : Nat → Int → Int → Int → (List Thistory_piece) → Option (List Thistory_piece)
  | 0, _, _, _, _ => none
  | F + 1, a1, a2, a3, a4 => M99_B (M99 F) F a1 a2 a3 a4
def M87_L3 (F : Nat) (a1 : Int) (n64 : Int) (k69 : Int → (List Thistory_piece) → Option (List Thistory_piece)) : Nat → Int → Int → (List Thistory_piece) → Option (List Thistory_piece)
  | 0, _, _, _ => none
  | n + 1, n75, n76, l77 => if (decide (n76 ≤ a1)) = true then (M99 F n75 (w64 (n75 + n64)) n76 l77).bind fun y79 => if y79.length = l77.length then M87_L3 F a1 n64 k69 n n76 (w64 (n76 + (w64 (2 * n64)))) y79 else none
  else k69 n75 l77
def M87_L2 (F : Nat) (a1 : Int) : Nat → Int → (List Thistory_piece) → Option (List Thistory_piece)
  | 0, _, _ => none
  | n + 1, n64, l65 => if (decide (n64 < a1)) = true then jn (fun (l68 : List Thistory_piece) => M87_L2 F a1 n (w64 (n64 * 2)) l68) (fun k67 => jn (fun (n70 : Int) (l71 : List Thistory_piece) => jn (fun (l83 : List Thistory_piece) => k67 l83) (fun k82 => if (decide ((w64 (n70 + n64)) < a1)) = true then (M99 F n70 (w64 (n70 + n64)) a1 l71).bind fun y85 => if y85.length = l71.length then k82 y85 else none
  else k82 l71)) (fun k69 => M87_L3 F a1 n64 k69 F 0 (w64 (2 * n64)) l65))
  else some l65
def M87_L1 (F : Nat) (a1 : Int) (k46 : Int → (List Thistory_piece) → Option (List Thistory_piece)) : Nat → Int → Int → (List Thistory_piece) → Option (List Thistory_piece)
  | 0, _, _, _ => none
  | n + 1, n52, n53, l54 => if (decide (n53 ≤ a1)) = true then (M98 F n52 n53 l54).bind fun y56 => if y56.length = l54.length then M87_L1 F a1 k46 n n53 (w64 (n53 + 20)) y56 else none
  else k46 n52 l54
def M87 (F : Nat) (a1 : Int) (a2 : List Thistory_piece) : Option (List Thistory_piece) :=
  jn (fun (n47 : Int) (l48 : List Thistory_piece) => (M98 F n47 a1 l48).bind fun y59 => if y59.length = l48.length then M87_L2 F a1 F 20 y59 else none) (fun k46 => M87_L1 F a1 k46 F 0 20 a2)
def M66 (F : Nat) (a1 : List Thistory_piece) : Option (List Thistory_piece) :=
  (M87 F ((a1.length : Nat) : Int) a1).bind fun y6 => if y6.length = a1.length then some y6 else none
def M33 (F : Nat) (a1 : (List Thistory_piece)) : Option (List Thistory_piece) :=
  (M65 F a1).bind fun y2 => (M66 F y2).bind fun y4 => if y4.length = y2.length then some y4 else none
def M10_L1 (F : Nat) (a3 : Int) (a4 : Int) (k12 : Int → Option (Int × Int)) : List Thistory_piece → Int → Int → Option (Int × Int)
  | [], n17, n18 => k12 n17
  | x24 :: tl1, n17, n18 => jn (fun (n22 : Int) (n23 : Int) => M10_L1 F a3 a4 k12 tl1 n22 n23) (fun k21 => if (decide (x24.x.Severity < a4)) = true then k21 n17 n18
 else jn (fun (n28 : Int) (n29 : Int) => k21 n28 n29) (fun k27 => if (decide ((if x24.from_ > n18 then x24.from_ else n18) < (if x24.to < a3 then x24.to else a3))) = true then k27 (w64 (n17 + (w64 ((if x24.to < a3 then x24.to else a3) - (if x24.from_ > n18 then x24.from_ else n18))))) (if x24.to < a3 then x24.to else a3)
 else k27 n17 n18))
def M10 (F : Nat) (a1 : TStory) (a2 : Int) (a3 : Int) (a4 : Int) : Option (Int × Int) :=
  (M32 F a1 a2 a3 a4).bind fun y5 => if (y5 != 0) = true then some (0, y5)
  else (M34 F a1).bind fun y8 => (M33 F y8).bind fun y10 => jn (fun (n13 : Int) => some (n13, 0)) (fun k12 => M10_L1 F a3 a4 k12 y10 0 a2)
def M37_L1 (F : Nat) (a2 : Int) (k4 : Int → Option Int) : List TRelease → Int → Int → Option Int
  | [], n9, n8 => k4 n8
  | x11 :: tl1, n9, n8 => jn (fun (n14 : Int) => M37_L1 F a2 k4 tl1 (n9 + 1) n14) (fun k13 => if (decide (x11.Day ≤ a2)) = true then k13 n9
 else k13 n8)
def M37 (F : Nat) (a1 : TStory) (a2 : Int) : Option Int :=
  if (decide (a2 ≥ a1.Until)) = true then some (-1)
  else jn (fun (n5 : Int) => some n5) (fun k4 => M37_L1 F a2 k4 a1.Releases 0 (-1))
def M11 (F : Nat) (a1 : TStory) (a2 : Int) : Option (TRelease × Bool × Int) :=
  (M25 F a1).bind fun y3 => if (y3 != 0) = true then some ((TRelease.mk ([] : List UInt8) 0 ([] : List TExposure)), false, y3)
  else (M27 F a2).bind fun y6 => if (!y6) = true then some ((TRelease.mk ([] : List UInt8) 0 ([] : List TExposure)), false, 9)
  else (M37 F a1 a2).bind fun y9 => if (decide (y9 < 0)) = true then some ((TRelease.mk ([] : List UInt8) 0 ([] : List TExposure)), false, 0)
  else (idx a1.Releases y9).bind fun x12 => (M29 F x12).bind fun y14 => some (y14, true, 0)
def M13 (F : Nat) (a1 : TExposure) (a2 : List UInt8) (a3 : List UInt8) (a4 : Int) (a5 : Int) (a6 : Int) (a7 : Bool) : Option Bool :=
  if (a1.Advisory == a2) = true then some (a1.Component == a3)
  else some false
def M38_L1 (F : Nat) (a2 : List UInt8) (a3 : List UInt8) (a4 : Int) (a5 : Int) (a6 : Int) (a7 : Bool) (k8 : Option Int) : List TExposure → Int → Option Int
  | [], n10 => k8
  | x12 :: tl1, n10 => (M13 F x12 a2 a3 a4 a5 a6 a7).bind fun y14 => if y14 = true then some n10
 else M38_L1 F a2 a3 a4 a5 a6 a7 k8 tl1 (n10 + 1)
def M38 (F : Nat) (a1 : (List TExposure)) (a2 : List UInt8) (a3 : List UInt8) (a4 : Int) (a5 : Int) (a6 : Int) (a7 : Bool) : Option Int :=
  jn (some (-1)) (fun k8 => M38_L1 F a2 a3 a4 a5 a6 a7 k8 a1 0)
def M12 (F : Nat) (a1 : (List TExposure)) (a2 : List UInt8) (a3 : List UInt8) (a4 : Int) (a5 : Int) (a6 : Int) (a7 : Bool) : Option Bool :=
  (M38 F a1 a2 a3 a4 a5 a6 a7).bind fun y8 => some (decide (y8 ≥ 0))
def M3_L3 (F : Nat) (a1 : TStory) (x55 : TWindow) (k57 : Option Bool) : Nat → Int → Option Bool
  | 0, n59 => k57
  | tl3 + 1, n59 => (idx ([x55.From, (w64 (x55.To - 1))] : List Int) n59).bind fun x61 => (M11 F a1 x61).bind fun y63 => if ((y63.2.2) != 0) = true then some false
 else if (!(y63.2.1)) = true then some false
 else (M12 F (y63.1).Exposures x55.Advisory x55.Component x55.Severity x55.From x55.To x55.Open).bind fun y67 => if (!y67) = true then some false
 else M3_L3 F a1 x55 k57 tl3 (n59 + 1)
def M3_L2 (F : Nat) (a1 : TStory) (k50 : Option Bool) : List TWindow → Option Bool
  | [] => k50
  | x55 :: tl2 => jn (M3_L2 F a1 k50 tl2 ) (fun k54 => jn (k54) (fun k57 => if ((2 : Nat) : Int) ≤ 9223372036854775807 then M3_L3 F a1 x55 k57 ((((2 : Nat) : Int) : Int).toNat) 0 else none))
def M3_L1 (F : Nat) (a2 : Int) (k23 : (List TWindow) → Option Bool) : List TWindow → (List TWindow) → Option Bool
  | [], l28 => k23 l28
  | x30 :: tl1, l28 => jn (fun (l33 : List TWindow) => M3_L1 F a2 k23 tl1 l33) (fun k32 => if (decide (x30.From < a2)) = true then if (l28 ++ ([(TWindow.mk x30.Advisory x30.Component x30.Severity x30.From (if a2 < x30.To then a2 else x30.To) x30.Open)] : List TWindow)).length * 64 ≤ 140737488355328 then k32 (l28 ++ ([(TWindow.mk x30.Advisory x30.Component x30.Severity x30.From (if a2 < x30.To then a2 else x30.To) x30.Open)] : List TWindow)) else none
 else k32 l28)
def M3 (F : Nat) (a1 : TStory) (a2 : Int) (a3 : Int) : Option Bool :=
  (M5 F a1).bind fun y4 => (M6 F a1 a2).bind fun y6 => if ((y4.2) != 0) = true then (M7 F).bind fun y9 => some y9
  else if ((y6.2) != 0) = true then (M7 F).bind fun y12 => some y12
  else if (decide (a3 < 0)) = true then (M7 F).bind fun y15 => some y15
  else if (decide (a3 > 100)) = true then (M7 F).bind fun y18 => some y18
  else (M5 F (y6.1)).bind fun y20 => if ((y20.2) != 0) = true then some false
  else jn (fun (l24 : List TWindow) => (M9 F (y20.1) l24).bind fun y37 => if (!y37) = true then some false
  else (M10 F a1 0 a2 a3).bind fun y40 => (M10 F a1 a2 1000000 a3).bind fun y42 => (M10 F a1 0 1000000 a3).bind fun y44 => if ((y40.2) != 0) = true then some false
  else if ((y42.2) != 0) = true then some false
  else if ((y44.2) != 0) = true then some false
  else if ((w64 ((y40.1) + (y42.1))) != (y44.1)) = true then some false
  else jn ((M7 F).bind fun y72 => some y72) (fun k50 => M3_L2 F a1 k50 (y4.1))) (fun k23 => M3_L1 F a2 k23 (y4.1) ([] : List TWindow))
end
end Go.Proofs.YtiphmdpaajjdeaaGreatDoor
