/- Part of the proof: H3M, Q, X. -/
import Derived.Test.YtcoppoeibjkinaaDoorLH3O
import Derived.Test.YtcoppoeibjkinaaDoorLPvU
import Derived.Test.YtcoppoeibjkinaaDoorLPvT
namespace Go.Proofs.YtcoppoeibjkinaaDoor
open Go Go.Pv
set_option linter.unusedVariables false
set_option maxRecDepth 100000
variable {mx : Int}
noncomputable section
def M11 (F : Nat) (a1 : (List UInt8)) (a2 : (List UInt8)) : Option (List (List UInt8)) := if a1.length < 4294967281 ∧ 1 ≤ a2.length then some (Lib.split a1 a2) else none
def M28_L1 (F : Nat) (a1 : (List UInt8)) (k2 : Option Bool) : Nat → Int → Option Bool
  | 0, n4 => k2
  | tl1 + 1, n4 => (idx a1 n4).bind fun c6 => if (decide ((c6.toNat : Int) < 33)) = true then some false
 else (idx a1 n4).bind fun c9 => if (decide ((c9.toNat : Int) > 126)) = true then some false
 else M28_L1 F a1 k2 tl1 (n4 + 1)
def M28 (F : Nat) (a1 : (List UInt8)) : Option Bool :=
 jn (some (!(a1 == ([] : List UInt8)))) (fun k2 => if (a1.length : Int) ≤ 9223372036854775807 then M28_L1 F a1 k2 (((a1.length : Int) : Int).toNat) 0 else none)
def M49 (F : Nat) (a1 : (List UInt8)) : Option (Int × Unit) := match Lib.atoi a1 with | some n => if a1.length ≤ 18 then some (n, ()) else none | none => none
def M29_L1 (F : Nat) (a1 : (List UInt8)) (k8 : Option (Int × Bool)) : Nat → Int → Option (Int × Bool)
  | 0, n10 => k8
  | tl1 + 1, n10 => (idx a1 n10).bind fun c12 => if (decide ((c12.toNat : Int) < 48)) = true then some (0, false)
 else (idx a1 n10).bind fun c15 => if (decide ((c15.toNat : Int) > 57)) = true then some (0, false)
 else M29_L1 F a1 k8 tl1 (n10 + 1)
def M29_L2 (F : Nat) (a1 : (List UInt8)) (k21 : Option (Int × Bool)) : Nat → Int → Option (Int × Bool)
  | 0, n23 => k21
  | tl2 + 1, n23 => (idx a1 n23).bind fun c25 => if (decide ((c25.toNat : Int) < 48)) = true then some (0, false)
 else (idx a1 n23).bind fun c28 => if (decide ((c28.toNat : Int) > 57)) = true then some (0, false)
 else M29_L2 F a1 k21 tl2 (n23 + 1)
def M29 (F : Nat) (a1 : (List UInt8)) : Option (Int × Bool) :=
 if (a1 == ([] : List UInt8)) = true then some (0, false)
 else if (decide ((a1.length : Int) > 7)) = true then some (0, false)
 else if (decide ((a1.length : Int) > 1)) = true then (idx a1 0).bind fun c5 => if ((c5.toNat : Int) == 48) = true then some (0, false)
 else jn ((M49 F a1).bind fun y19 => some ((y19.1), true)) (fun k8 => if (a1.length : Int) ≤ 9223372036854775807 then M29_L1 F a1 k8 (((a1.length : Int) : Int).toNat) 0 else none)
 else jn ((M49 F a1).bind fun y32 => some ((y32.1), true)) (fun k21 => if (a1.length : Int) ≤ 9223372036854775807 then M29_L2 F a1 k21 (((a1.length : Int) : Int).toNat) 0 else none)
def M13_L1 (F : Nat) (a2 : Int) (k3 : (List Int) → Option ((List Int) × Bool)) : List (List UInt8) → Int → (List Int) → Option ((List Int) × Bool)
  | [], n7, l8 => k3 l8
  | x12 :: tl1, n7, l8 => jn (fun (l11 : List Int) => M13_L1 F a2 k3 tl1 (n7 + 1) l11) (fun k10 => if (decide (n7 < a2)) = true then (M28 F x12).bind fun y15 => if (!y15) = true then some (([] : List Int), false)
 else k10 l8
 else (M29 F x12).bind fun y18 => if (!(y18.2)) = true then some (([] : List Int), false)
 else if (l8 ++ ([(y18.1)] : List Int)).length * 8 ≤ 140737488355328 then k10 (l8 ++ ([(y18.1)] : List Int)) else none)
def M13 (F : Nat) (a1 : (List (List UInt8))) (a2 : Int) : Option ((List Int) × Bool) :=
 jn (fun (l4 : List Int) => some (l4, true)) (fun k3 => M13_L1 F a2 k3 a1 0 ([] : List Int))
def M27 (F : Nat) (a1 : (List (List UInt8))) (a2 : (List UInt8)) (a3 : Int) (a4 : List TRelease) (a5 : List TPublished) : Option (Bool × (List TPublished)) :=
 (M13 F a1 1).bind fun y23 => if (!(y23.2)) = true then some (false, a5)
 else if (decide ((((y23.1).length : Nat) : Int) < 1)) = true then some (false, a5)
 else if (decide ((((y23.1).length : Nat) : Int) > 2)) = true then some (false, a5)
 else (idx a1 0).bind fun x28 => (idx (y23.1) 0).bind fun x30 => jn (fun (n33 : Int) => if (a5 ++ ([(TPublished.mk x28 x30 n33)] : List TPublished)).length * 32 ≤ 140737488355328 then some (true, (a5 ++ ([(TPublished.mk x28 x30 n33)] : List TPublished))) else none) (fun k32 => if ((((y23.1).length : Nat) : Int) == 2) = true then (idx (y23.1) 1).bind fun x35 => k32 x35
 else k32 (-1))
def M12 (F : Nat) (a1 : (List (List UInt8))) (a2 : (List UInt8)) (a3 : Int) (a4 : List TRelease) (a5 : List TPublished) : Option (Bool × (List TRelease) × (List TPublished)) :=
 jn (some (false, a4, a5)) (fun k139 => (idx a1 0).bind fun x140 => if (x140 == ([114, 101, 108, 101, 97, 115, 101] : List UInt8)) = true then if (((a1.length : Nat) : Int) == 3) = true then jn (k139) (fun k144 => if (((a5.length : Nat) : Int) == 0) = true then if 1 ≤ a1.length then (M13 F (a1.drop 1) 1).bind fun y147 => jn (fun (l150 : List TRelease) => some ((y147.2), l150, a5)) (fun k149 => if (y147.2) = true then (idx a1 1).bind fun x152 => (idx (y147.1) 0).bind fun x154 => if (a4 ++ [(TRelease.mk x152 x154 ([] : List TExposure))]).length * 48 ≤ 140737488355328 then k149 (a4 ++ [(TRelease.mk x152 x154 ([] : List TExposure))]) else none
 else k149 a4) else none
 else (idx a1 0).bind fun x157 => if (x157 == ([104, 97, 115] : List UInt8)) = true then if (((a1.length : Nat) : Int) == 4) = true then (idx a1 0).bind fun x161 => if (x161 == ([107, 110, 111, 119, 110] : List UInt8)) = true then if 1 ≤ a1.length then (M27 F (a1.drop 1) a2 a3 a4 a5).bind fun y165 => some ((y165.1), a4, (y165.2)) else none
 else k144
 else (idx a1 0).bind fun x167 => if (x167 == ([107, 110, 111, 119, 110] : List UInt8)) = true then if 1 ≤ a1.length then (M27 F (a1.drop 1) a2 a3 a4 a5).bind fun y171 => some ((y171.1), a4, (y171.2)) else none
 else k144
 else (idx a1 0).bind fun x173 => if (x173 == ([107, 110, 111, 119, 110] : List UInt8)) = true then if 1 ≤ a1.length then (M27 F (a1.drop 1) a2 a3 a4 a5).bind fun y177 => some ((y177.1), a4, (y177.2)) else none
 else k144)
 else (idx a1 0).bind fun x179 => if (x179 == ([104, 97, 115] : List UInt8)) = true then if (((a1.length : Nat) : Int) == 4) = true then if (((a5.length : Nat) : Int) == 0) = true then if (decide (((a4.length : Nat) : Int) > 0)) = true then if 1 ≤ a1.length then (M13 F (a1.drop 1) 2).bind fun y186 => jn (fun (l189 : List TRelease) => some ((y186.2), l189, a5)) (fun k188 => if (y186.2) = true then (idx a4 (w64 (((a4.length : Nat) : Int) - 1))).bind fun x191 => (idx a1 1).bind fun x193 => (idx a1 2).bind fun x195 => (idx (y186.1) 0).bind fun x197 => if (x191.Exposures ++ ([(TExposure.mk x193 x195 x197)] : List TExposure)).length * 40 ≤ 140737488355328 then k188 (a4.set ((w64 (((a4.length : Nat) : Int) - 1)).toNat) ({ x191 with Exposures := (x191.Exposures ++ ([(TExposure.mk x193 x195 x197)] : List TExposure)) } : TRelease)) else none
 else k188 a4) else none
 else (idx a1 0).bind fun x200 => if (x200 == ([107, 110, 111, 119, 110] : List UInt8)) = true then if 1 ≤ a1.length then (M27 F (a1.drop 1) a2 a3 a4 a5).bind fun y204 => some ((y204.1), a4, (y204.2)) else none
 else k139
 else (idx a1 0).bind fun x206 => if (x206 == ([107, 110, 111, 119, 110] : List UInt8)) = true then if 1 ≤ a1.length then (M27 F (a1.drop 1) a2 a3 a4 a5).bind fun y210 => some ((y210.1), a4, (y210.2)) else none
 else k139
 else (idx a1 0).bind fun x212 => if (x212 == ([107, 110, 111, 119, 110] : List UInt8)) = true then if 1 ≤ a1.length then (M27 F (a1.drop 1) a2 a3 a4 a5).bind fun y216 => some ((y216.1), a4, (y216.2)) else none
 else k139
 else (idx a1 0).bind fun x218 => if (x218 == ([107, 110, 111, 119, 110] : List UInt8)) = true then if 1 ≤ a1.length then (M27 F (a1.drop 1) a2 a3 a4 a5).bind fun y222 => some ((y222.1), a4, (y222.2)) else none
 else k139
 else (idx a1 0).bind fun x224 => if (x224 == ([104, 97, 115] : List UInt8)) = true then if (((a1.length : Nat) : Int) == 4) = true then if (((a5.length : Nat) : Int) == 0) = true then if (decide (((a4.length : Nat) : Int) > 0)) = true then if 1 ≤ a1.length then (M13 F (a1.drop 1) 2).bind fun y231 => jn (fun (l234 : List TRelease) => some ((y231.2), l234, a5)) (fun k233 => if (y231.2) = true then (idx a4 (w64 (((a4.length : Nat) : Int) - 1))).bind fun x236 => (idx a1 1).bind fun x238 => (idx a1 2).bind fun x240 => (idx (y231.1) 0).bind fun x242 => if (x236.Exposures ++ ([(TExposure.mk x238 x240 x242)] : List TExposure)).length * 40 ≤ 140737488355328 then k233 (a4.set ((w64 (((a4.length : Nat) : Int) - 1)).toNat) ({ x236 with Exposures := (x236.Exposures ++ ([(TExposure.mk x238 x240 x242)] : List TExposure)) } : TRelease)) else none
 else k233 a4) else none
 else (idx a1 0).bind fun x245 => if (x245 == ([107, 110, 111, 119, 110] : List UInt8)) = true then if 1 ≤ a1.length then (M27 F (a1.drop 1) a2 a3 a4 a5).bind fun y249 => some ((y249.1), a4, (y249.2)) else none
 else k139
 else (idx a1 0).bind fun x251 => if (x251 == ([107, 110, 111, 119, 110] : List UInt8)) = true then if 1 ≤ a1.length then (M27 F (a1.drop 1) a2 a3 a4 a5).bind fun y255 => some ((y255.1), a4, (y255.2)) else none
 else k139
 else (idx a1 0).bind fun x257 => if (x257 == ([107, 110, 111, 119, 110] : List UInt8)) = true then if 1 ≤ a1.length then (M27 F (a1.drop 1) a2 a3 a4 a5).bind fun y261 => some ((y261.1), a4, (y261.2)) else none
 else k139
 else (idx a1 0).bind fun x263 => if (x263 == ([107, 110, 111, 119, 110] : List UInt8)) = true then if 1 ≤ a1.length then (M27 F (a1.drop 1) a2 a3 a4 a5).bind fun y267 => some ((y267.1), a4, (y267.2)) else none
 else k139)
def M30 (F : Nat) (a1 : (List UInt8)) : Option Bool :=
 (M28 F a1).bind fun y2 => if y2 = true then some (decide ((a1.length : Int) ≤ 100))
 else some false
def M31 (F : Nat) (a1 : Int) : Option Bool :=
 if (decide (a1 ≥ 0)) = true then some (decide (a1 ≤ 1000000))
 else some false
def M64 (F : Nat) (a1 : TExposure) : Option Thistory_key :=
 some (Thistory_key.mk a1.Advisory a1.Component)
def M96 (F : Nat) (a1 : (List UInt8)) : Option Bool :=
 some (!(a1 == a1))
def M83 (F : Nat) (a1 : (List UInt8)) (a2 : (List UInt8)) : Option Int :=
 (M96 F a1).bind fun y3 => (M96 F a2).bind fun y5 => if y3 = true then if y5 = true then some 0
 else some (-1)
 else if y5 = true then some 1
 else if (Op.bytesLess a1 a2) = true then some (-1)
 else if (!(Op.bytesLess a1 a2 || a1 == a2)) = true then some 1
 else some 0
def M82_L1 (F : Nat) (k2 : Option Int) : List Int → Option Int
  | [] => k2
  | x6 :: tl1 => if (x6 != 0) = true then some x6
 else M82_L1 F k2 tl1
def M82 (F : Nat) (a1 : (List Int)) : Option Int :=
 jn (some 0) (fun k2 => M82_L1 F k2 a1)
def M63 (F : Nat) (a1 : Thistory_key) (a2 : Thistory_key) : Option Int :=
 (M83 F a1.advisory a2.advisory).bind fun y3 => (M83 F a1.component a2.component).bind fun y5 => (M82 F ([y3, y5] : List Int)).bind fun y7 => some y7
def M50_L1 (F : Nat) (a1 : (List TExposure)) (k3 : Option Int) : List TExposure → Int → Option Int
  | [], n5 => k3
  | x7 :: tl1, n5 => (M30 F x7.Advisory).bind fun y9 => if (!y9) = true then some 8
 else (M30 F x7.Component).bind fun y12 => jn (M50_L1 F a1 k3 tl1 (n5 + 1)) (fun k14 => if (!y12) = true then some 8
 else if (decide (x7.Severity < 0)) = true then some 9
 else if (decide (x7.Severity > 100)) = true then some 9
 else if (decide (n5 > 0)) = true then (idx a1 (w64 (n5 - 1))).bind fun x19 => (M64 F x19).bind fun y21 => (M64 F x7).bind fun y23 => (M63 F y21 y23).bind fun y25 => if (decide (y25 ≥ 0)) = true then some 10
 else k14
 else k14)
def M50 (F : Nat) (a1 : (List TExposure)) : Option Int :=
 if (decide (((a1.length : Nat) : Int) > 500)) = true then some 3
 else jn (some 0) (fun k3 => M50_L1 F a1 k3 a1 0)
def M32_L1 (F : Nat) (a1 : TStory) (k2 : Option Int) : List TRelease → Int → (List ((List UInt8) × Bool)) → Option Int
  | [], n5, m6 => k2
  | x8 :: tl1, n5, m6 => (M30 F x8.Version).bind fun y10 => jn ((M50 F x8.Exposures).bind fun y21 => if (y21 != 0) = true then some y21
 else M32_L1 F a1 k2 tl1 (n5 + 1) (mput m6 x8.Version true)) (fun k12 => if (!y10) = true then some 8
 else if ((mget m6 x8.Version).getD false) = true then some 5
 else if (decide (x8.Day < 0)) = true then some 9
 else if (decide (x8.Day > a1.Until)) = true then some 9
 else if (decide (n5 > 0)) = true then (idx a1.Releases (w64 (n5 - 1))).bind fun x18 => if (decide (x8.Day ≤ x18.Day)) = true then some 10
 else k12
 else k12)
def M32 (F : Nat) (a1 : TStory) : Option Int :=
 jn (some 0) (fun k2 => M32_L1 F a1 k2 a1.Releases 0 ([] : List ((List UInt8) × Bool)))
def M14_L3 (F : Nat) (m14 : List ((List UInt8) × Bool)) (k51 : Option Int) : List TExposure → Option Int
  | [] => k51
  | x55 :: tl3 => if (!((mget m14 x55.Advisory).getD false)) = true then some 4
 else M14_L3 F m14 k51 tl3
def M14_L2 (F : Nat) (m14 : List ((List UInt8) × Bool)) (k44 : Option Int) : List TRelease → Option Int
 | [] => k44
 | x49 :: tl2 => jn (M14_L2 F m14 k44 tl2 ) (fun k48 => jn (k48) (fun k51 => M14_L3 F m14 k51 x49.Exposures))
def M14_L1 (F : Nat) (a1 : TStory) (k13 : (List ((List UInt8) × Bool)) → Option Int) : List TPublished → Int → (List ((List UInt8) × Bool)) → Option Int
  | [], n17, m18 => k13 m18
  | x20 :: tl1, n17, m18 => (M30 F x20.Advisory).bind fun y22 => jn (fun (b25 : Bool) => M14_L1 F a1 k13 tl1 (n17 + 1) (mput m18 x20.Advisory true)) (fun k24 => if (!y22) = true then some 8
 else if (decide (n17 > 0)) = true then (idx a1.Known (w64 (n17 - 1))).bind fun x28 => if (Op.bytesLess x20.Advisory x28.Advisory || x20.Advisory == x28.Advisory) = true then some 10
 else (M31 F x20.Day).bind fun y31 => if (!y31) = true then some 9
 else if (x20.Ended != (-1)) = true then if (decide (x20.Ended < x20.Day)) = true then some 9
 else if (decide (x20.Ended > 1000000)) = true then some 9
 else k24 (decide (x20.Ended > 1000000))
 else k24 false
 else (M31 F x20.Day).bind fun y37 => if (!y37) = true then some 9
 else if (x20.Ended != (-1)) = true then if (decide (x20.Ended < x20.Day)) = true then some 9
 else if (decide (x20.Ended > 1000000)) = true then some 9
 else k24 (decide (x20.Ended > 1000000))
 else k24 false)
def M14 (F : Nat) (a1 : TStory) : Option Int :=
 (M30 F a1.Product).bind fun y2 => if (!y2) = true then some 8
 else (M31 F a1.Until).bind fun y5 => if (!y5) = true then some 9
 else if (decide (((a1.Releases.length : Nat) : Int) > 500)) = true then some 3
 else if (decide (((a1.Known.length : Nat) : Int) > 2000)) = true then some 3
 else (M32 F a1).bind fun y10 => if (y10 != 0) = true then some y10
 else jn (fun (m14 : List ((List UInt8) × Bool)) => jn (some 0) (fun k44 => M14_L2 F m14 k44 a1.Releases)) (fun k13 => M14_L1 F a1 k13 a1.Known 0 ([] : List ((List UInt8) × Bool)))
def M5_L1 (F : Nat) (k11 : (List UInt8) → Int → (List TRelease) → (List TPublished) → Option (TStory × Int × Int)) : List (List UInt8) → Int → (List UInt8) → Int → (List TRelease) → (List TPublished) → Option (TStory × Int × Int)
  | [], n21, s22, n23, l24, l25 => k11 s22 n23 l24 l25
  | x27 :: tl1, n21, s22, n23, l24, l25 => (M11 F x27 ([32] : List UInt8)).bind fun y29 => jn (fun (b32 : Bool) (s33 : List UInt8) (n34 : Int) (l35 : List TRelease) (l36 : List TPublished) => if (!b32) = true then some ((TStory.mk ([] : List UInt8) ([] : List TRelease) ([] : List TPublished) 0), n21, 6)
 else M5_L1 F k11 tl1 (n21 + 1) s33 n34 l35 l36) (fun k31 => if (decide (n21 > 0)) = true then (M12 F y29 s22 n23 l24 l25).bind fun y38 => k31 (y38.1) s22 n23 (y38.2.1) (y38.2.2)
 else (idx y29 0).bind fun x40 => if (x40 == ([115, 116, 111, 114, 121] : List UInt8)) = true then if (((y29.length : Nat) : Int) == 3) = true then if 1 ≤ y29.length then (M13 F (y29.drop 1) 1).bind fun y45 => if (y45.2) = true then (idx y29 1).bind fun x48 => (idx (y45.1) 0).bind fun x50 => k31 (y45.2) x48 x50 l24 l25
 else k31 (y45.2) s22 n23 l24 l25 else none
 else k31 false s22 n23 l24 l25
 else k31 false s22 n23 l24 l25)
def M5 (F : Nat) (a1 : (List UInt8)) : Option (TStory × Int × Int) :=
 if (decide ((a1.length : Int) > 1000000)) = true then some ((TStory.mk ([] : List UInt8) ([] : List TRelease) ([] : List TPublished) 0), 0, 3)
 else (M11 F a1 ([10] : List UInt8)).bind fun y3 => (idx y3 (w64 (((y3.length : Nat) : Int) - 1))).bind fun x5 => jn (fun (l8 : List (List UInt8)) => jn (fun (s12 : List UInt8) (n13 : Int) (l14 : List TRelease) (l15 : List TPublished) => if (((l8.length : Nat) : Int) == 0) = true then some ((TStory.mk ([] : List UInt8) ([] : List TRelease) ([] : List TPublished) 0), ((l8.length : Nat) : Int), 6)
 else if (!(x5 == ([] : List UInt8))) = true then some ((TStory.mk ([] : List UInt8) ([] : List TRelease) ([] : List TPublished) 0), ((l8.length : Nat) : Int), 6)
 else (M14 F (TStory.mk s12 l14 l15 n13)).bind fun y56 => if (y56 != 0) = true then some ((TStory.mk ([] : List UInt8) ([] : List TRelease) ([] : List TPublished) 0), 0, y56)
 else some ((TStory.mk s12 l14 l15 n13), 0, 0)) (fun k11 => M5_L1 F k11 l8 0 ([] : List UInt8) 0 ([] : List TRelease) ([] : List TPublished))) (fun k7 => if (x5 == ([] : List UInt8)) = true then if 0 ≤ (w64 (((y3.length : Nat) : Int) - 1)) ∧ (w64 (((y3.length : Nat) : Int) - 1)).toNat ≤ y3.length then k7 (y3.take (w64 (((y3.length : Nat) : Int) - 1)).toNat) else none
 else k7 y3)
def M33_L1 (F : Nat) (a1 : (List UInt8)) (k2 : Option Bool) : Nat → Int → Option Bool
  | 0, n4 => k2
  | tl1 + 1, n4 => (idx a1 n4).bind fun c6 => if (decide ((c6.toNat : Int) < 33)) = true then some false
 else (idx a1 n4).bind fun c9 => if (decide ((c9.toNat : Int) > 126)) = true then some false
 else M33_L1 F a1 k2 tl1 (n4 + 1)
def M33 (F : Nat) (a1 : (List UInt8)) : Option Bool :=
 jn (some (!(a1 == ([] : List UInt8)))) (fun k2 => if (a1.length : Int) ≤ 9223372036854775807 then M33_L1 F a1 k2 (((a1.length : Int) : Int).toNat) 0 else none)
def M34_L1 (F : Nat) (a1 : (List UInt8)) (k8 : Int → Option (Int × Bool)) : Nat → Int → Int → Option (Int × Bool)
  | 0, n13, n12 => k8 n12
  | tl1 + 1, n13, n12 => (idx a1 n13).bind fun c15 => if (decide ((c15.toNat : Int) < 48)) = true then some (0, false)
 else (idx a1 n13).bind fun c18 => if (decide ((c18.toNat : Int) > 57)) = true then some (0, false)
 else (idx a1 n13).bind fun c21 => M34_L1 F a1 k8 tl1 (n13 + 1) (w64 ((w64 (10 * n12)) + (w64 (IntKind.wrap .u8 ((c21.toNat : Int) - 48)))))
def M34_L2 (F : Nat) (a1 : (List UInt8)) (k24 : Int → Option (Int × Bool)) : Nat → Int → Int → Option (Int × Bool)
  | 0, n29, n28 => k24 n28
  | tl2 + 1, n29, n28 => (idx a1 n29).bind fun c31 => if (decide ((c31.toNat : Int) < 48)) = true then some (0, false)
 else (idx a1 n29).bind fun c34 => if (decide ((c34.toNat : Int) > 57)) = true then some (0, false)
 else (idx a1 n29).bind fun c37 => M34_L2 F a1 k24 tl2 (n29 + 1) (w64 ((w64 (10 * n28)) + (w64 (IntKind.wrap .u8 ((c37.toNat : Int) - 48)))))
def M34 (F : Nat) (a1 : (List UInt8)) : Option (Int × Bool) :=
 if (a1 == ([] : List UInt8)) = true then some (0, false)
 else if (decide ((a1.length : Int) > 7)) = true then some (0, false)
 else (idx a1 0).bind fun c4 => if ((c4.toNat : Int) == 48) = true then if (!(a1 == ([48] : List UInt8))) = true then some (0, false)
 else jn (fun (n9 : Int) => some (n9, true)) (fun k8 => if (a1.length : Int) ≤ 9223372036854775807 then M34_L1 F a1 k8 (((a1.length : Int) : Int).toNat) 0 0 else none)
 else jn (fun (n25 : Int) => some (n25, true)) (fun k24 => if (a1.length : Int) ≤ 9223372036854775807 then M34_L2 F a1 k24 (((a1.length : Int) : Int).toNat) 0 0 else none)
def M15_L1 (F : Nat) (a3 : (List UInt8)) (a4 : Int) (a5 : List TRelease) (a6 : List TPublished) (k513 : Option (Bool × (List UInt8) × Int × (List TRelease) × (List TPublished))) : List (List UInt8) → Option (Bool × (List UInt8) × Int × (List TRelease) × (List TPublished))
  | [] => k513
  | x517 :: tl1 => (M33 F x517).bind fun y519 => if (!y519) = true then some (false, a3, a4, a5, a6)
 else M15_L1 F a3 a4 a5 a6 k513 tl1
def M15 (F : Nat) (a1 : (List (List UInt8))) (a2 : Bool) (a3 : (List UInt8)) (a4 : Int) (a5 : List TRelease) (a6 : List TPublished) : Option (Bool × (List UInt8) × Int × (List TRelease) × (List TPublished)) :=
 jn ((idx a1 (w64 (((a1.length : Nat) : Int) - 1))).bind fun x523 => (M34 F x523).bind fun y525 => if (!(y525.2)) = true then some (false, a3, a4, a5, a6)
 else (idx a1 0).bind fun x528 => if (a2 != (x528 == ([115, 116, 111, 114, 121] : List UInt8))) = true then some (false, a3, a4, a5, a6)
 else jn (fun (s532 : List UInt8) (n533 : Int) (l534 : List TRelease) (l535 : List TPublished) => some (true, s532, n533, l534, l535)) (fun k531 => (idx a1 0).bind fun x536 => if (x536 == ([115, 116, 111, 114, 121] : List UInt8)) = true then jn (fun (s540 : List UInt8) (n541 : Int) (l542 : List TRelease) => k531 s540 n541 l542 a6) (fun k539 => if (((a1.length : Nat) : Int) == 3) = true then (idx a1 1).bind fun x544 => k539 x544 (y525.1) a5
 else (idx a1 0).bind fun x546 => if (x546 == ([114, 101, 108, 101, 97, 115, 101] : List UInt8)) = true then (idx a1 0).bind fun x549 => if (x549 == ([104, 97, 115] : List UInt8)) = true then if (((a1.length : Nat) : Int) == 4) = true then if (decide (((a5.length : Nat) : Int) > 0)) = true then if (((a6.length : Nat) : Int) == 0) = true then (idx a5 (w64 (((a5.length : Nat) : Int) - 1))).bind fun x555 => (idx a1 1).bind fun x557 => (idx a1 2).bind fun x559 => if (x555.Exposures ++ ([(TExposure.mk x557 x559 (y525.1))] : List TExposure)).length * 40 ≤ 140737488355328 then k539 a3 a4 (a5.set ((w64 (((a5.length : Nat) : Int) - 1)).toNat) ({ x555 with Exposures := (x555.Exposures ++ ([(TExposure.mk x557 x559 (y525.1))] : List TExposure)) } : TRelease)) else none
 else (idx a1 0).bind fun x562 => if (x562 == ([107, 110, 111, 119, 110] : List UInt8)) = true then (idx a1 0).bind fun x565 => if (x565 == ([107, 110, 111, 119, 110] : List UInt8)) = true then (idx a1 2).bind fun x568 => (M34 F x568).bind fun y570 => (idx a1 1).bind fun x572 => if (a6 ++ ([(TPublished.mk x572 (y570.1) (y525.1))] : List TPublished)).length * 32 ≤ 140737488355328 then some ((y570.2), a3, a4, a5, (a6 ++ ([(TPublished.mk x572 (y570.1) (y525.1))] : List TPublished))) else none
 else some (false, a3, a4, a5, a6)
 else (idx a1 0).bind fun x575 => if (x575 == ([107, 110, 111, 119, 110] : List UInt8)) = true then (idx a1 2).bind fun x578 => (M34 F x578).bind fun y580 => (idx a1 1).bind fun x582 => if (a6 ++ ([(TPublished.mk x582 (y580.1) (y525.1))] : List TPublished)).length * 32 ≤ 140737488355328 then some ((y580.2), a3, a4, a5, (a6 ++ ([(TPublished.mk x582 (y580.1) (y525.1))] : List TPublished))) else none
 else some (false, a3, a4, a5, a6)
 else (idx a1 0).bind fun x585 => if (x585 == ([107, 110, 111, 119, 110] : List UInt8)) = true then (idx a1 0).bind fun x588 => if (x588 == ([107, 110, 111, 119, 110] : List UInt8)) = true then (idx a1 2).bind fun x591 => (M34 F x591).bind fun y593 => (idx a1 1).bind fun x595 => if (a6 ++ ([(TPublished.mk x595 (y593.1) (y525.1))] : List TPublished)).length * 32 ≤ 140737488355328 then some ((y593.2), a3, a4, a5, (a6 ++ ([(TPublished.mk x595 (y593.1) (y525.1))] : List TPublished))) else none
 else some (false, a3, a4, a5, a6)
 else (idx a1 0).bind fun x598 => if (x598 == ([107, 110, 111, 119, 110] : List UInt8)) = true then (idx a1 2).bind fun x601 => (M34 F x601).bind fun y603 => (idx a1 1).bind fun x605 => if (a6 ++ ([(TPublished.mk x605 (y603.1) (y525.1))] : List TPublished)).length * 32 ≤ 140737488355328 then some ((y603.2), a3, a4, a5, (a6 ++ ([(TPublished.mk x605 (y603.1) (y525.1))] : List TPublished))) else none
 else some (false, a3, a4, a5, a6)
 else (idx a1 0).bind fun x608 => if (x608 == ([107, 110, 111, 119, 110] : List UInt8)) = true then (idx a1 0).bind fun x611 => if (x611 == ([107, 110, 111, 119, 110] : List UInt8)) = true then some (false, a3, a4, a5, a6)
 else some (false, a3, a4, a5, a6)
 else (idx a1 0).bind fun x614 => if (x614 == ([107, 110, 111, 119, 110] : List UInt8)) = true then some (false, a3, a4, a5, a6)
 else some (false, a3, a4, a5, a6)
 else (idx a1 0).bind fun x617 => if (x617 == ([107, 110, 111, 119, 110] : List UInt8)) = true then (idx a1 0).bind fun x620 => if (x620 == ([107, 110, 111, 119, 110] : List UInt8)) = true then if (((a1.length : Nat) : Int) == 4) = true then (idx a1 2).bind fun x624 => (M34 F x624).bind fun y626 => (idx a1 1).bind fun x628 => if (a6 ++ ([(TPublished.mk x628 (y626.1) (y525.1))] : List TPublished)).length * 32 ≤ 140737488355328 then some ((y626.2), a3, a4, a5, (a6 ++ ([(TPublished.mk x628 (y626.1) (y525.1))] : List TPublished))) else none
 else some (false, a3, a4, a5, a6)
 else some (false, a3, a4, a5, a6)
 else (idx a1 0).bind fun x631 => if (x631 == ([107, 110, 111, 119, 110] : List UInt8)) = true then if (((a1.length : Nat) : Int) == 4) = true then (idx a1 2).bind fun x635 => (M34 F x635).bind fun y637 => (idx a1 1).bind fun x639 => if (a6 ++ ([(TPublished.mk x639 (y637.1) (y525.1))] : List TPublished)).length * 32 ≤ 140737488355328 then some ((y637.2), a3, a4, a5, (a6 ++ ([(TPublished.mk x639 (y637.1) (y525.1))] : List TPublished))) else none
 else some (false, a3, a4, a5, a6)
 else some (false, a3, a4, a5, a6)
 else (idx a1 0).bind fun x642 => if (x642 == ([104, 97, 115] : List UInt8)) = true then if (((a1.length : Nat) : Int) == 4) = true then if (decide (((a5.length : Nat) : Int) > 0)) = true then if (((a6.length : Nat) : Int) == 0) = true then (idx a5 (w64 (((a5.length : Nat) : Int) - 1))).bind fun x648 => (idx a1 1).bind fun x650 => (idx a1 2).bind fun x652 => if (x648.Exposures ++ ([(TExposure.mk x650 x652 (y525.1))] : List TExposure)).length * 40 ≤ 140737488355328 then k539 a3 a4 (a5.set ((w64 (((a5.length : Nat) : Int) - 1)).toNat) ({ x648 with Exposures := (x648.Exposures ++ ([(TExposure.mk x650 x652 (y525.1))] : List TExposure)) } : TRelease)) else none
 else (idx a1 0).bind fun x655 => if (x655 == ([107, 110, 111, 119, 110] : List UInt8)) = true then (idx a1 0).bind fun x658 => if (x658 == ([107, 110, 111, 119, 110] : List UInt8)) = true then (idx a1 2).bind fun x661 => (M34 F x661).bind fun y663 => (idx a1 1).bind fun x665 => if (a6 ++ ([(TPublished.mk x665 (y663.1) (y525.1))] : List TPublished)).length * 32 ≤ 140737488355328 then some ((y663.2), a3, a4, a5, (a6 ++ ([(TPublished.mk x665 (y663.1) (y525.1))] : List TPublished))) else none
 else some (false, a3, a4, a5, a6)
 else (idx a1 0).bind fun x668 => if (x668 == ([107, 110, 111, 119, 110] : List UInt8)) = true then (idx a1 2).bind fun x671 => (M34 F x671).bind fun y673 => (idx a1 1).bind fun x675 => if (a6 ++ ([(TPublished.mk x675 (y673.1) (y525.1))] : List TPublished)).length * 32 ≤ 140737488355328 then some ((y673.2), a3, a4, a5, (a6 ++ ([(TPublished.mk x675 (y673.1) (y525.1))] : List TPublished))) else none
 else some (false, a3, a4, a5, a6)
 else (idx a1 0).bind fun x678 => if (x678 == ([107, 110, 111, 119, 110] : List UInt8)) = true then (idx a1 0).bind fun x681 => if (x681 == ([107, 110, 111, 119, 110] : List UInt8)) = true then (idx a1 2).bind fun x684 => (M34 F x684).bind fun y686 => (idx a1 1).bind fun x688 => if (a6 ++ ([(TPublished.mk x688 (y686.1) (y525.1))] : List TPublished)).length * 32 ≤ 140737488355328 then some ((y686.2), a3, a4, a5, (a6 ++ ([(TPublished.mk x688 (y686.1) (y525.1))] : List TPublished))) else none
 else some (false, a3, a4, a5, a6)
 else (idx a1 0).bind fun x691 => if (x691 == ([107, 110, 111, 119, 110] : List UInt8)) = true then (idx a1 2).bind fun x694 => (M34 F x694).bind fun y696 => (idx a1 1).bind fun x698 => if (a6 ++ ([(TPublished.mk x698 (y696.1) (y525.1))] : List TPublished)).length * 32 ≤ 140737488355328 then some ((y696.2), a3, a4, a5, (a6 ++ ([(TPublished.mk x698 (y696.1) (y525.1))] : List TPublished))) else none
 else some (false, a3, a4, a5, a6)
 else (idx a1 0).bind fun x701 => if (x701 == ([107, 110, 111, 119, 110] : List UInt8)) = true then (idx a1 0).bind fun x704 => if (x704 == ([107, 110, 111, 119, 110] : List UInt8)) = true then some (false, a3, a4, a5, a6)
 else some (false, a3, a4, a5, a6)
 else (idx a1 0).bind fun x707 => if (x707 == ([107, 110, 111, 119, 110] : List UInt8)) = true then some (false, a3, a4, a5, a6)
 else some (false, a3, a4, a5, a6)
 else (idx a1 0).bind fun x710 => if (x710 == ([107, 110, 111, 119, 110] : List UInt8)) = true then (idx a1 0).bind fun x713 => if (x713 == ([107, 110, 111, 119, 110] : List UInt8)) = true then if (((a1.length : Nat) : Int) == 4) = true then (idx a1 2).bind fun x717 => (M34 F x717).bind fun y719 => (idx a1 1).bind fun x721 => if (a6 ++ ([(TPublished.mk x721 (y719.1) (y525.1))] : List TPublished)).length * 32 ≤ 140737488355328 then some ((y719.2), a3, a4, a5, (a6 ++ ([(TPublished.mk x721 (y719.1) (y525.1))] : List TPublished))) else none
 else some (false, a3, a4, a5, a6)
 else some (false, a3, a4, a5, a6)
 else (idx a1 0).bind fun x724 => if (x724 == ([107, 110, 111, 119, 110] : List UInt8)) = true then if (((a1.length : Nat) : Int) == 4) = true then (idx a1 2).bind fun x728 => (M34 F x728).bind fun y730 => (idx a1 1).bind fun x732 => if (a6 ++ ([(TPublished.mk x732 (y730.1) (y525.1))] : List TPublished)).length * 32 ≤ 140737488355328 then some ((y730.2), a3, a4, a5, (a6 ++ ([(TPublished.mk x732 (y730.1) (y525.1))] : List TPublished))) else none
 else some (false, a3, a4, a5, a6)
 else some (false, a3, a4, a5, a6))
 else (idx a1 0).bind fun x735 => if (x735 == ([114, 101, 108, 101, 97, 115, 101] : List UInt8)) = true then if (((a1.length : Nat) : Int) == 3) = true then jn (fun (l740 : List TRelease) (l741 : List TPublished) => k531 a3 a4 l740 l741) (fun k739 => if (((a6.length : Nat) : Int) == 0) = true then (idx a1 1).bind fun x743 => if (a5 ++ [(TRelease.mk x743 (y525.1) ([] : List TExposure))]).length * 48 ≤ 140737488355328 then k739 (a5 ++ [(TRelease.mk x743 (y525.1) ([] : List TExposure))]) a6 else none
 else (idx a1 0).bind fun x746 => if (x746 == ([104, 97, 115] : List UInt8)) = true then if (((a1.length : Nat) : Int) == 4) = true then if (decide (((a5.length : Nat) : Int) > 0)) = true then (idx a1 0).bind fun x751 => if (x751 == ([107, 110, 111, 119, 110] : List UInt8)) = true then (idx a1 1).bind fun x754 => if (a6 ++ ([(TPublished.mk x754 (y525.1) (-1))] : List TPublished)).length * 32 ≤ 140737488355328 then k739 a5 (a6 ++ ([(TPublished.mk x754 (y525.1) (-1))] : List TPublished)) else none
 else (idx a1 0).bind fun x757 => if (x757 == ([107, 110, 111, 119, 110] : List UInt8)) = true then (idx a1 2).bind fun x760 => (M34 F x760).bind fun y762 => (idx a1 1).bind fun x764 => if (a6 ++ ([(TPublished.mk x764 (y762.1) (y525.1))] : List TPublished)).length * 32 ≤ 140737488355328 then some ((y762.2), a3, a4, a5, (a6 ++ ([(TPublished.mk x764 (y762.1) (y525.1))] : List TPublished))) else none
 else some (false, a3, a4, a5, a6)
 else (idx a1 0).bind fun x767 => if (x767 == ([107, 110, 111, 119, 110] : List UInt8)) = true then (idx a1 1).bind fun x770 => if (a6 ++ ([(TPublished.mk x770 (y525.1) (-1))] : List TPublished)).length * 32 ≤ 140737488355328 then k739 a5 (a6 ++ ([(TPublished.mk x770 (y525.1) (-1))] : List TPublished)) else none
 else (idx a1 0).bind fun x773 => if (x773 == ([107, 110, 111, 119, 110] : List UInt8)) = true then (idx a1 2).bind fun x776 => (M34 F x776).bind fun y778 => (idx a1 1).bind fun x780 => if (a6 ++ ([(TPublished.mk x780 (y778.1) (y525.1))] : List TPublished)).length * 32 ≤ 140737488355328 then some ((y778.2), a3, a4, a5, (a6 ++ ([(TPublished.mk x780 (y778.1) (y525.1))] : List TPublished))) else none
 else some (false, a3, a4, a5, a6)
 else (idx a1 0).bind fun x783 => if (x783 == ([107, 110, 111, 119, 110] : List UInt8)) = true then (idx a1 1).bind fun x786 => if (a6 ++ ([(TPublished.mk x786 (y525.1) (-1))] : List TPublished)).length * 32 ≤ 140737488355328 then k739 a5 (a6 ++ ([(TPublished.mk x786 (y525.1) (-1))] : List TPublished)) else none
 else (idx a1 0).bind fun x789 => if (x789 == ([107, 110, 111, 119, 110] : List UInt8)) = true then some (false, a3, a4, a5, a6)
 else some (false, a3, a4, a5, a6)
 else (idx a1 0).bind fun x792 => if (x792 == ([107, 110, 111, 119, 110] : List UInt8)) = true then (idx a1 1).bind fun x795 => if (a6 ++ ([(TPublished.mk x795 (y525.1) (-1))] : List TPublished)).length * 32 ≤ 140737488355328 then k739 a5 (a6 ++ ([(TPublished.mk x795 (y525.1) (-1))] : List TPublished)) else none
 else (idx a1 0).bind fun x798 => if (x798 == ([107, 110, 111, 119, 110] : List UInt8)) = true then if (((a1.length : Nat) : Int) == 4) = true then (idx a1 2).bind fun x802 => (M34 F x802).bind fun y804 => (idx a1 1).bind fun x806 => if (a6 ++ ([(TPublished.mk x806 (y804.1) (y525.1))] : List TPublished)).length * 32 ≤ 140737488355328 then some ((y804.2), a3, a4, a5, (a6 ++ ([(TPublished.mk x806 (y804.1) (y525.1))] : List TPublished))) else none
 else some (false, a3, a4, a5, a6)
 else some (false, a3, a4, a5, a6))
 else (idx a1 0).bind fun x809 => if (x809 == ([104, 97, 115] : List UInt8)) = true then if (((a1.length : Nat) : Int) == 4) = true then if (decide (((a5.length : Nat) : Int) > 0)) = true then if (((a6.length : Nat) : Int) == 0) = true then (idx a5 (w64 (((a5.length : Nat) : Int) - 1))).bind fun x815 => (idx a1 1).bind fun x817 => (idx a1 2).bind fun x819 => if (x815.Exposures ++ ([(TExposure.mk x817 x819 (y525.1))] : List TExposure)).length * 40 ≤ 140737488355328 then k531 a3 a4 (a5.set ((w64 (((a5.length : Nat) : Int) - 1)).toNat) ({ x815 with Exposures := (x815.Exposures ++ ([(TExposure.mk x817 x819 (y525.1))] : List TExposure)) } : TRelease)) a6 else none
 else (idx a1 0).bind fun x822 => if (x822 == ([107, 110, 111, 119, 110] : List UInt8)) = true then (idx a1 0).bind fun x825 => if (x825 == ([107, 110, 111, 119, 110] : List UInt8)) = true then (idx a1 2).bind fun x828 => (M34 F x828).bind fun y830 => (idx a1 1).bind fun x832 => if (a6 ++ ([(TPublished.mk x832 (y830.1) (y525.1))] : List TPublished)).length * 32 ≤ 140737488355328 then some ((y830.2), a3, a4, a5, (a6 ++ ([(TPublished.mk x832 (y830.1) (y525.1))] : List TPublished))) else none
 else some (false, a3, a4, a5, a6)
 else (idx a1 0).bind fun x835 => if (x835 == ([107, 110, 111, 119, 110] : List UInt8)) = true then (idx a1 2).bind fun x838 => (M34 F x838).bind fun y840 => (idx a1 1).bind fun x842 => if (a6 ++ ([(TPublished.mk x842 (y840.1) (y525.1))] : List TPublished)).length * 32 ≤ 140737488355328 then some ((y840.2), a3, a4, a5, (a6 ++ ([(TPublished.mk x842 (y840.1) (y525.1))] : List TPublished))) else none
 else some (false, a3, a4, a5, a6)
 else (idx a1 0).bind fun x845 => if (x845 == ([107, 110, 111, 119, 110] : List UInt8)) = true then (idx a1 0).bind fun x848 => if (x848 == ([107, 110, 111, 119, 110] : List UInt8)) = true then (idx a1 2).bind fun x851 => (M34 F x851).bind fun y853 => (idx a1 1).bind fun x855 => if (a6 ++ ([(TPublished.mk x855 (y853.1) (y525.1))] : List TPublished)).length * 32 ≤ 140737488355328 then some ((y853.2), a3, a4, a5, (a6 ++ ([(TPublished.mk x855 (y853.1) (y525.1))] : List TPublished))) else none
 else some (false, a3, a4, a5, a6)
 else (idx a1 0).bind fun x858 => if (x858 == ([107, 110, 111, 119, 110] : List UInt8)) = true then (idx a1 2).bind fun x861 => (M34 F x861).bind fun y863 => (idx a1 1).bind fun x865 => if (a6 ++ ([(TPublished.mk x865 (y863.1) (y525.1))] : List TPublished)).length * 32 ≤ 140737488355328 then some ((y863.2), a3, a4, a5, (a6 ++ ([(TPublished.mk x865 (y863.1) (y525.1))] : List TPublished))) else none
 else some (false, a3, a4, a5, a6)
 else (idx a1 0).bind fun x868 => if (x868 == ([107, 110, 111, 119, 110] : List UInt8)) = true then (idx a1 0).bind fun x871 => if (x871 == ([107, 110, 111, 119, 110] : List UInt8)) = true then some (false, a3, a4, a5, a6)
 else some (false, a3, a4, a5, a6)
 else (idx a1 0).bind fun x874 => if (x874 == ([107, 110, 111, 119, 110] : List UInt8)) = true then some (false, a3, a4, a5, a6)
 else some (false, a3, a4, a5, a6)
 else (idx a1 0).bind fun x877 => if (x877 == ([107, 110, 111, 119, 110] : List UInt8)) = true then (idx a1 0).bind fun x880 => if (x880 == ([107, 110, 111, 119, 110] : List UInt8)) = true then if (((a1.length : Nat) : Int) == 4) = true then (idx a1 2).bind fun x884 => (M34 F x884).bind fun y886 => (idx a1 1).bind fun x888 => if (a6 ++ ([(TPublished.mk x888 (y886.1) (y525.1))] : List TPublished)).length * 32 ≤ 140737488355328 then some ((y886.2), a3, a4, a5, (a6 ++ ([(TPublished.mk x888 (y886.1) (y525.1))] : List TPublished))) else none
 else some (false, a3, a4, a5, a6)
 else some (false, a3, a4, a5, a6)
 else (idx a1 0).bind fun x891 => if (x891 == ([107, 110, 111, 119, 110] : List UInt8)) = true then if (((a1.length : Nat) : Int) == 4) = true then (idx a1 2).bind fun x895 => (M34 F x895).bind fun y897 => (idx a1 1).bind fun x899 => if (a6 ++ ([(TPublished.mk x899 (y897.1) (y525.1))] : List TPublished)).length * 32 ≤ 140737488355328 then some ((y897.2), a3, a4, a5, (a6 ++ ([(TPublished.mk x899 (y897.1) (y525.1))] : List TPublished))) else none
 else some (false, a3, a4, a5, a6)
 else some (false, a3, a4, a5, a6)
 else (idx a1 0).bind fun x902 => if (x902 == ([104, 97, 115] : List UInt8)) = true then if (((a1.length : Nat) : Int) == 4) = true then if (decide (((a5.length : Nat) : Int) > 0)) = true then jn (fun (l908 : List TRelease) (l909 : List TPublished) => k531 a3 a4 l908 l909) (fun k907 => if (((a6.length : Nat) : Int) == 0) = true then (idx a5 (w64 (((a5.length : Nat) : Int) - 1))).bind fun x911 => (idx a1 1).bind fun x913 => (idx a1 2).bind fun x915 => if (x911.Exposures ++ ([(TExposure.mk x913 x915 (y525.1))] : List TExposure)).length * 40 ≤ 140737488355328 then k907 (a5.set ((w64 (((a5.length : Nat) : Int) - 1)).toNat) ({ x911 with Exposures := (x911.Exposures ++ ([(TExposure.mk x913 x915 (y525.1))] : List TExposure)) } : TRelease)) a6 else none
 else (idx a1 0).bind fun x918 => if (x918 == ([107, 110, 111, 119, 110] : List UInt8)) = true then if (((a1.length : Nat) : Int) == 3) = true then (idx a1 1).bind fun x922 => if (a6 ++ ([(TPublished.mk x922 (y525.1) (-1))] : List TPublished)).length * 32 ≤ 140737488355328 then k907 a5 (a6 ++ ([(TPublished.mk x922 (y525.1) (-1))] : List TPublished)) else none
 else (idx a1 0).bind fun x925 => if (x925 == ([107, 110, 111, 119, 110] : List UInt8)) = true then (idx a1 2).bind fun x928 => (M34 F x928).bind fun y930 => (idx a1 1).bind fun x932 => if (a6 ++ ([(TPublished.mk x932 (y930.1) (y525.1))] : List TPublished)).length * 32 ≤ 140737488355328 then some ((y930.2), a3, a4, a5, (a6 ++ ([(TPublished.mk x932 (y930.1) (y525.1))] : List TPublished))) else none
 else some (false, a3, a4, a5, a6)
 else (idx a1 0).bind fun x935 => if (x935 == ([107, 110, 111, 119, 110] : List UInt8)) = true then (idx a1 2).bind fun x938 => (M34 F x938).bind fun y940 => (idx a1 1).bind fun x942 => if (a6 ++ ([(TPublished.mk x942 (y940.1) (y525.1))] : List TPublished)).length * 32 ≤ 140737488355328 then some ((y940.2), a3, a4, a5, (a6 ++ ([(TPublished.mk x942 (y940.1) (y525.1))] : List TPublished))) else none
 else some (false, a3, a4, a5, a6))
 else (idx a1 0).bind fun x945 => if (x945 == ([107, 110, 111, 119, 110] : List UInt8)) = true then if (((a1.length : Nat) : Int) == 3) = true then (idx a1 1).bind fun x949 => if (a6 ++ ([(TPublished.mk x949 (y525.1) (-1))] : List TPublished)).length * 32 ≤ 140737488355328 then k531 a3 a4 a5 (a6 ++ ([(TPublished.mk x949 (y525.1) (-1))] : List TPublished)) else none
 else (idx a1 0).bind fun x952 => if (x952 == ([107, 110, 111, 119, 110] : List UInt8)) = true then (idx a1 2).bind fun x955 => (M34 F x955).bind fun y957 => (idx a1 1).bind fun x959 => if (a6 ++ ([(TPublished.mk x959 (y957.1) (y525.1))] : List TPublished)).length * 32 ≤ 140737488355328 then some ((y957.2), a3, a4, a5, (a6 ++ ([(TPublished.mk x959 (y957.1) (y525.1))] : List TPublished))) else none
 else some (false, a3, a4, a5, a6)
 else (idx a1 0).bind fun x962 => if (x962 == ([107, 110, 111, 119, 110] : List UInt8)) = true then (idx a1 2).bind fun x965 => (M34 F x965).bind fun y967 => (idx a1 1).bind fun x969 => if (a6 ++ ([(TPublished.mk x969 (y967.1) (y525.1))] : List TPublished)).length * 32 ≤ 140737488355328 then some ((y967.2), a3, a4, a5, (a6 ++ ([(TPublished.mk x969 (y967.1) (y525.1))] : List TPublished))) else none
 else some (false, a3, a4, a5, a6)
 else (idx a1 0).bind fun x972 => if (x972 == ([107, 110, 111, 119, 110] : List UInt8)) = true then if (((a1.length : Nat) : Int) == 3) = true then (idx a1 1).bind fun x976 => if (a6 ++ ([(TPublished.mk x976 (y525.1) (-1))] : List TPublished)).length * 32 ≤ 140737488355328 then k531 a3 a4 a5 (a6 ++ ([(TPublished.mk x976 (y525.1) (-1))] : List TPublished)) else none
 else (idx a1 0).bind fun x979 => if (x979 == ([107, 110, 111, 119, 110] : List UInt8)) = true then some (false, a3, a4, a5, a6)
 else some (false, a3, a4, a5, a6)
 else (idx a1 0).bind fun x982 => if (x982 == ([107, 110, 111, 119, 110] : List UInt8)) = true then some (false, a3, a4, a5, a6)
 else some (false, a3, a4, a5, a6)
 else (idx a1 0).bind fun x985 => if (x985 == ([107, 110, 111, 119, 110] : List UInt8)) = true then if (((a1.length : Nat) : Int) == 3) = true then (idx a1 1).bind fun x989 => if (a6 ++ ([(TPublished.mk x989 (y525.1) (-1))] : List TPublished)).length * 32 ≤ 140737488355328 then k531 a3 a4 a5 (a6 ++ ([(TPublished.mk x989 (y525.1) (-1))] : List TPublished)) else none
 else (idx a1 0).bind fun x992 => if (x992 == ([107, 110, 111, 119, 110] : List UInt8)) = true then if (((a1.length : Nat) : Int) == 4) = true then (idx a1 2).bind fun x996 => (M34 F x996).bind fun y998 => (idx a1 1).bind fun x1000 => if (a6 ++ ([(TPublished.mk x1000 (y998.1) (y525.1))] : List TPublished)).length * 32 ≤ 140737488355328 then some ((y998.2), a3, a4, a5, (a6 ++ ([(TPublished.mk x1000 (y998.1) (y525.1))] : List TPublished))) else none
 else some (false, a3, a4, a5, a6)
 else some (false, a3, a4, a5, a6)
 else (idx a1 0).bind fun x1003 => if (x1003 == ([107, 110, 111, 119, 110] : List UInt8)) = true then if (((a1.length : Nat) : Int) == 4) = true then (idx a1 2).bind fun x1007 => (M34 F x1007).bind fun y1009 => (idx a1 1).bind fun x1011 => if (a6 ++ ([(TPublished.mk x1011 (y1009.1) (y525.1))] : List TPublished)).length * 32 ≤ 140737488355328 then some ((y1009.2), a3, a4, a5, (a6 ++ ([(TPublished.mk x1011 (y1009.1) (y525.1))] : List TPublished))) else none
 else some (false, a3, a4, a5, a6)
 else some (false, a3, a4, a5, a6))) (fun k513 => M15_L1 F a3 a4 a5 a6 k513 a1)
def M35_L1 (F : Nat) (a1 : (List UInt8)) (k2 : Option Bool) : Nat → Int → Option Bool
  | 0, n4 => k2
  | tl1 + 1, n4 => (idx a1 n4).bind fun c6 => if (decide ((c6.toNat : Int) < 33)) = true then some false
 else (idx a1 n4).bind fun c9 => if (decide ((c9.toNat : Int) > 126)) = true then some false
 else M35_L1 F a1 k2 tl1 (n4 + 1)
def M35 (F : Nat) (a1 : (List UInt8)) : Option Bool :=
 jn (if (decide ((a1.length : Int) ≥ 1)) = true then some (decide ((a1.length : Int) ≤ 100))
 else some false) (fun k2 => if (a1.length : Int) ≤ 9223372036854775807 then M35_L1 F a1 k2 (((a1.length : Int) : Int).toNat) 0 else none)
def M36 (F : Nat) (a1 : Int) : Option Bool :=
 if (decide (a1 ≥ 0)) = true then some (decide (a1 ≤ 1000000))
 else some false
def M51 (F : Nat) (a1 : TExposure) (a2 : TExposure) : Option Bool :=
 if (Op.bytesLess a1.Advisory a2.Advisory) = true then some true
 else if (a1.Advisory == a2.Advisory) = true then some (Op.bytesLess a1.Component a2.Component)
 else some false
def M37_L1 (F : Nat) (a1 : (List TExposure)) (k3 : Option Int) : List TExposure → Int → Option Int
  | [], n5 => k3
  | x7 :: tl1, n5 => (M35 F x7.Advisory).bind fun y9 => if (!y9) = true then some 8
 else (M35 F x7.Component).bind fun y12 => jn (M37_L1 F a1 k3 tl1 (n5 + 1)) (fun k14 => if (!y12) = true then some 8
 else if (decide (x7.Severity < 0)) = true then some 9
 else if (decide (x7.Severity > 100)) = true then some 9
 else if (decide (n5 > 0)) = true then (idx a1 (w64 (n5 - 1))).bind fun x19 => (M51 F x19 x7).bind fun y21 => if (!y21) = true then some 10
 else k14
 else k14)
def M37 (F : Nat) (a1 : (List TExposure)) : Option Int :=
 if (decide (((a1.length : Nat) : Int) > 500)) = true then some 3
 else jn (some 0) (fun k3 => M37_L1 F a1 k3 a1 0)
def M38_L1 (F : Nat) (a1 : (List TPublished)) (k2 : Option Int) : List TPublished → Int → Option Int
  | [], n4 => k2
  | x6 :: tl1, n4 => (M35 F x6.Advisory).bind fun y8 => jn (fun (b11 : Bool) => M38_L1 F a1 k2 tl1 (n4 + 1)) (fun k10 => if (!y8) = true then some 8
 else if (decide (n4 > 0)) = true then (idx a1 (w64 (n4 - 1))).bind fun x14 => if (Op.bytesLess x6.Advisory x14.Advisory || x6.Advisory == x14.Advisory) = true then some 10
 else (M36 F x6.Day).bind fun y17 => if (!y17) = true then some 9
 else if (x6.Ended != (-1)) = true then if (decide (x6.Ended < x6.Day)) = true then some 9
 else if (decide (x6.Ended > 1000000)) = true then some 9
 else k10 (decide (x6.Ended > 1000000))
 else k10 false
 else (M36 F x6.Day).bind fun y23 => if (!y23) = true then some 9
 else if (x6.Ended != (-1)) = true then if (decide (x6.Ended < x6.Day)) = true then some 9
 else if (decide (x6.Ended > 1000000)) = true then some 9
 else k10 (decide (x6.Ended > 1000000))
 else k10 false)
def M38 (F : Nat) (a1 : (List TPublished)) : Option Int :=
 jn (some 0) (fun k2 => M38_L1 F a1 k2 a1 0)
def M16_L4 (F : Nat) (m37 : List ((List UInt8) × Bool)) (k53 : Option Int) : List TExposure → Option Int
  | [] => k53
  | x57 :: tl4 => if (!((mget m37 x57.Advisory).getD false)) = true then some 4
 else M16_L4 F m37 k53 tl4
def M16_L3 (F : Nat) (m37 : List ((List UInt8) × Bool)) (k46 : Option Int) : List TRelease → Option Int
 | [] => k46
 | x51 :: tl3 => jn (M16_L3 F m37 k46 tl3 ) (fun k50 => jn (k50) (fun k53 => M16_L4 F m37 k53 x51.Exposures))
def M16_L2 (F : Nat) (k36 : (List ((List UInt8) × Bool)) → Option Int) : List TPublished → (List ((List UInt8) × Bool)) → Option Int
 | [], m41 => k36 m41
 | x43 :: tl2, m41 => M16_L2 F k36 tl2 (mput m41 x43.Advisory true)
def M16_L1 (F : Nat) (a1 : TStory) (k10 : Option Int) : List TRelease → Int → (List ((List UInt8) × Bool)) → Option Int
  | [], n13, m14 => k10
  | x16 :: tl1, n13, m14 => (M35 F x16.Version).bind fun y18 => jn ((M37 F x16.Exposures).bind fun y29 => if (y29 != 0) = true then some y29
 else M16_L1 F a1 k10 tl1 (n13 + 1) (mput m14 x16.Version true)) (fun k20 => if (!y18) = true then some 8
 else if ((mget m14 x16.Version).getD false) = true then some 5
 else if (decide (x16.Day < 0)) = true then some 9
 else if (decide (x16.Day > a1.Until)) = true then some 9
 else if (decide (n13 > 0)) = true then (idx a1.Releases (w64 (n13 - 1))).bind fun x26 => if (decide (x16.Day ≤ x26.Day)) = true then some 10
 else k20
 else k20)
def M16 (F : Nat) (a1 : TStory) : Option Int :=
 (M35 F a1.Product).bind fun y2 => if (!y2) = true then some 8
 else (M36 F a1.Until).bind fun y5 => if (!y5) = true then some 9
 else if (decide (((a1.Releases.length : Nat) : Int) > 500)) = true then some 3
 else if (decide (((a1.Known.length : Nat) : Int) > 2000)) = true then some 3
 else jn ((M38 F a1.Known).bind fun y33 => if (y33 != 0) = true then some y33
 else jn (fun (m37 : List ((List UInt8) × Bool)) => jn (some 0) (fun k46 => M16_L3 F m37 k46 a1.Releases)) (fun k36 => M16_L2 F k36 a1.Known ([] : List ((List UInt8) × Bool)))) (fun k10 => M16_L1 F a1 k10 a1.Releases 0 ([] : List ((List UInt8) × Bool)))
def M6_L1 (F : Nat) (k8 : (List UInt8) → Int → (List TRelease) → (List TPublished) → Option (TStory × Int × Int)) : List (List UInt8) → Int → (List UInt8) → Int → (List TRelease) → (List TPublished) → Option (TStory × Int × Int)
  | [], n18, s19, n20, l21, l22 => k8 s19 n20 l21 l22
  | x24 :: tl1, n18, s19, n20, l21, l22 => (M11 F x24 ([32] : List UInt8)).bind fun y26 => (M15 F y26 (n18 == 0) s19 n20 l21 l22).bind fun y28 => if (!(y28.1)) = true then some ((TStory.mk ([] : List UInt8) ([] : List TRelease) ([] : List TPublished) 0), n18, 6)
 else M6_L1 F k8 tl1 (n18 + 1) (y28.2.1) (y28.2.2.1) (y28.2.2.2.1) (y28.2.2.2.2)
def M6 (F : Nat) (a1 : (List UInt8)) : Option (TStory × Int × Int) :=
 if (decide ((a1.length : Int) > 1000000)) = true then some ((TStory.mk ([] : List UInt8) ([] : List TRelease) ([] : List TPublished) 0), 0, 3)
 else (M11 F a1 ([10] : List UInt8)).bind fun y3 => (idx y3 (w64 (((y3.length : Nat) : Int) - 1))).bind fun x5 => if 0 ≤ (w64 (((y3.length : Nat) : Int) - 1)) ∧ (w64 (((y3.length : Nat) : Int) - 1)).toNat ≤ y3.length then jn (fun (s9 : List UInt8) (n10 : Int) (l11 : List TRelease) (l12 : List TPublished) => if (!(x5 == ([] : List UInt8))) = true then (M11 F x5 ([32] : List UInt8)).bind fun y33 => (M15 F y33 ((((y3.take (w64 (((y3.length : Nat) : Int) - 1)).toNat).length : Nat) : Int) == 0) s9 n10 l11 l12).bind fun y35 => if (y35.1) = true then some ((TStory.mk ([] : List UInt8) ([] : List TRelease) ([] : List TPublished) 0), (w64 ((((y3.take (w64 (((y3.length : Nat) : Int) - 1)).toNat).length : Nat) : Int) + 1)), 6)
 else some ((TStory.mk ([] : List UInt8) ([] : List TRelease) ([] : List TPublished) 0), (((y3.take (w64 (((y3.length : Nat) : Int) - 1)).toNat).length : Nat) : Int), 6)
 else if ((((y3.take (w64 (((y3.length : Nat) : Int) - 1)).toNat).length : Nat) : Int) == 0) = true then some ((TStory.mk ([] : List UInt8) ([] : List TRelease) ([] : List TPublished) 0), 0, 6)
 else (M16 F (TStory.mk s9 l11 l12 n10)).bind fun y39 => if (y39 != 0) = true then some ((TStory.mk ([] : List UInt8) ([] : List TRelease) ([] : List TPublished) 0), 0, y39)
 else some ((TStory.mk s9 l11 l12 n10), 0, 0)) (fun k8 => M6_L1 F k8 (y3.take (w64 (((y3.length : Nat) : Int) - 1)).toNat) 0 ([] : List UInt8) 0 ([] : List TRelease) ([] : List TPublished)) else none
def M39_L1 (F : Nat) (a2 : (List TExposure)) (k4 : Option Bool) : List TExposure → Int → Option Bool
  | [], n6 => k4
  | x8 :: tl1, n6 => (idx a2 n6).bind fun x10 => if (!(decide (x8 = x10))) = true then some false
 else M39_L1 F a2 k4 tl1 (n6 + 1)
def M39 (F : Nat) (a1 : (List TExposure)) (a2 : (List TExposure)) : Option Bool :=
 if (((a1.length : Nat) : Int) != ((a2.length : Nat) : Int)) = true then some false
 else jn (some true) (fun k4 => M39_L1 F a2 k4 a1 0)
def M18 (F : Nat) (a1 : TRelease) (a2 : TRelease) : Option Bool :=
 if (a1.Version == a2.Version) = true then if (a1.Day == a2.Day) = true then (M39 F a1.Exposures a2.Exposures).bind fun y5 => some y5
 else some false
 else some false
def M17_L1 (F : Nat) (a2 : (List TRelease)) (k4 : Option Bool) : List TRelease → Int → Option Bool
  | [], n6 => k4
  | x8 :: tl1, n6 => (idx a2 n6).bind fun x10 => (M18 F x8 x10).bind fun y12 => if (!y12) = true then some false
 else M17_L1 F a2 k4 tl1 (n6 + 1)
def M17 (F : Nat) (a1 : (List TRelease)) (a2 : (List TRelease)) : Option Bool :=
 if (((a1.length : Nat) : Int) != ((a2.length : Nat) : Int)) = true then some false
 else jn (some true) (fun k4 => M17_L1 F a2 k4 a1 0)
def M19_L1 (F : Nat) (a2 : (List TPublished)) (k4 : Option Bool) : List TPublished → Int → Option Bool
  | [], n6 => k4
  | x8 :: tl1, n6 => (idx a2 n6).bind fun x10 => if (!(decide (x8 = x10))) = true then some false
 else M19_L1 F a2 k4 tl1 (n6 + 1)
def M19 (F : Nat) (a1 : (List TPublished)) (a2 : (List TPublished)) : Option Bool :=
 if (((a1.length : Nat) : Int) != ((a2.length : Nat) : Int)) = true then some false
 else jn (some true) (fun k4 => M19_L1 F a2 k4 a1 0)
def M7 (F : Nat) (a1 : TStory) (a2 : TStory) : Option Bool :=
 if (a1.Product == a2.Product) = true then if (a1.Until == a2.Until) = true then (M17 F a1.Releases a2.Releases).bind fun y5 => if y5 = true then (M19 F a1.Known a2.Known).bind fun y8 => some y8
 else some false
 else some false
 else some false
def M52_L1 (F : Nat) (a1 : (List Int)) (a2 : Int) (k3 : Option Int) : List Int → Int → Option Int
  | [], n5 => k3
  | x7 :: tl1, n5 => if (decide (x7 < 0)) = true then some 9
 else jn (M52_L1 F a1 a2 k3 tl1 (n5 + 1)) (fun k10 => if (decide (x7 > a2)) = true then some 9
 else if (decide (n5 > 0)) = true then (idx a1 (w64 (n5 - 1))).bind fun x13 => if (decide (x7 ≤ x13)) = true then some 10
 else k10
 else k10)
def M52 (F : Nat) (a1 : (List Int)) (a2 : Int) : Option Int :=
 jn (some 0) (fun k3 => M52_L1 F a1 a2 k3 a1 0)
def M40 (F : Nat) (a1 : TCalendar) : Option Int :=
 if (decide (((a1.Free.length : Nat) : Int) > 6)) = true then some 3
 else if (decide (((a1.Holidays.length : Nat) : Int) > 2000)) = true then some 3
 else (M52 F a1.Free 6).bind fun y4 => if (y4 != 0) = true then some y4
 else (M52 F a1.Holidays 1000000).bind fun y7 => some y7
def M41_L2 (F : Nat) (f3 : Nat → Bool) (k13 : (List Int) → Option Thistory_week) : List Int → (List Int) → Option Thistory_week
  | [], l18 => k13 l18
  | x20 :: tl2, l18 => if 0 ≤ (Int.tmod x20 7) ∧ (Int.tmod x20 7).toNat < 7 then jn (fun (l24 : List Int) => M41_L2 F f3 k13 tl2 l24) (fun k23 => if (!(f3 (Int.tmod x20 7).toNat)) = true then if (l18 ++ ([x20] : List Int)).length * 8 ≤ 140737488355328 then k23 (l18 ++ ([x20] : List Int)) else none
 else k23 l18) else none
def M41_L1 (F : Nat) (k2 : (Nat → Bool) → Option Thistory_week) : List Int → (Nat → Bool) → Option Thistory_week
 | [], f7 => k2 f7
 | x9 :: tl1, f7 => if 0 ≤ x9 ∧ x9.toNat < 7 then M41_L1 F k2 tl1 (upd f7 x9.toNat true) else none
def M41 (F : Nat) (a1 : TCalendar) : Option Thistory_week :=
 jn (fun (f3 : Nat → Bool) => jn (fun (l14 : List Int) => some (Thistory_week.mk f3 (w64 (7 - ((a1.Free.length : Nat) : Int))) l14)) (fun k13 => M41_L2 F f3 k13 a1.Holidays ([] : List Int))) (fun k2 => M41_L1 F k2 a1.Free (fun _ => false))
def M84 (F : Nat) (a1 : Int) : Option Bool :=
 some (a1 != a1)
def M65 (F : Nat) (a1 : Int) (a2 : Int) : Option Bool :=
 (M84 F a1).bind fun y3 => if y3 = true then (M84 F a2).bind fun y6 => if (!y6) = true then some true
 else some (decide (a1 < a2))
 else some (decide (a1 < a2))
def M66 (F : Nat) (a1 : Int) : Option Bool :=
 some (a1 != a1)
def M53_L1 (F : Nat) (a1 : (List Int)) (a2 : Int) (k3 : Int → Option (Int × Bool)) : Nat → Int → Int → Option (Int × Bool)
 | 0, _, _ => none
 | n + 1, n7, n8 => if (decide (n7 < n8)) = true then (idx a1 (w64 (Int.fdiv (IntKind.wrap .u64 (w64 (n7 + n8))) (2 ^ (min (Int.toNat 1) (IntKind.bits .u64)))))).bind fun x10 => (M65 F x10 a2).bind fun y12 => jn (fun (n15 : Int) (n16 : Int) => M53_L1 F a1 a2 k3 n n15 n16) (fun k14 => if y12 = true then k14 (w64 ((w64 (Int.fdiv (IntKind.wrap .u64 (w64 (n7 + n8))) (2 ^ (min (Int.toNat 1) (IntKind.bits .u64))))) + 1)) n8
 else k14 n7 (w64 (Int.fdiv (IntKind.wrap .u64 (w64 (n7 + n8))) (2 ^ (min (Int.toNat 1) (IntKind.bits .u64))))))
 else k3 n7
def M53 (F : Nat) (a1 : (List Int)) (a2 : Int) : Option (Int × Bool) :=
 jn (fun (n4 : Int) => if (decide (n4 < ((a1.length : Nat) : Int))) = true then (idx a1 n4).bind fun x19 => if (x19 == a2) = true then some (n4, true)
 else (idx a1 n4).bind fun x22 => (M66 F x22).bind fun y24 => if y24 = true then (M66 F a2).bind fun y27 => some (n4, y27)
 else some (n4, false)
 else some (n4, false)) (fun k3 => M53_L1 F a1 a2 k3 F 0 ((a1.length : Nat) : Int))
def M42_L1 (F : Nat) (a1 : Thistory_week) (k3 : Int → Option Int) : Nat → Int → Int → Option Int
  | 0, n8, n7 => k3 n7
  | tl1 + 1, n8, n7 => if 0 ≤ n8 ∧ n8.toNat < 7 then jn (fun (n12 : Int) => M42_L1 F a1 k3 tl1 (n8 + 1) n12) (fun k11 => if (!(a1.free n8.toNat)) = true then k11 (w64 (n7 + 1))
 else k11 n7) else none
def M42 (F : Nat) (a1 : Thistory_week) (a2 : Int) : Option Int :=
 jn (fun (n4 : Int) => (M53 F a1.holidays a2).bind fun y15 => some (w64 (n4 - (y15.1)))) (fun k3 => if (Int.tmod a2 7) ≤ 9223372036854775807 then M42_L1 F a1 k3 (((Int.tmod a2 7) : Int).toNat) 0 (w64 ((w64 (Int.tdiv a2 7)) * a1.work)) else none)
def M20 (F : Nat) (a1 : TCalendar) (a2 : Int) (a3 : Int) : Option (Int × Int) :=
 (M40 F a1).bind fun y4 => if (y4 != 0) = true then some (0, y4)
 else (M31 F a2).bind fun y7 => if (!y7) = true then some (0, 9)
 else (M31 F a3).bind fun y10 => if (!y10) = true then some (0, 9)
 else if (decide (a2 > a3)) = true then some (0, 9)
 else (M41 F a1).bind fun y14 => (M42 F y14 a3).bind fun y16 => (M42 F y14 a2).bind fun y18 => some ((w64 (y16 - y18)), 0)
def M8 (F : Nat) : Option Bool :=
 (M20 F (TCalendar.mk ([5, 6] : List Int) ([] : List Int)) 0 14).bind fun y1 => if ((y1.1) == 10) = true then some ((y1.2) == 0)
 else some false
def M3 (F : Nat) (a1 : (List UInt8)) : Option Bool :=
 (M5 F a1).bind fun y2 => (M6 F a1).bind fun y4 => (M7 F (y2.1) (y4.1)).bind fun y6 => if y6 = true then if ((y2.2.1) == (y4.2.1)) = true then if ((y2.2.2) == (y4.2.2)) = true then (M8 F).bind fun y11 => some y11
 else some false
 else some false
 else some false
end
end Go.Proofs.YtcoppoeibjkinaaDoor
namespace Go.Pv
open Go
theorem w64_id {n : Int} (h : -9223372036854775808 ≤ n) (h' : n ≤ 9223372036854775807) : w64 n = n := by
 have : w64 n = if n % 18446744073709551616 ≥ 9223372036854775808 then n % 18446744073709551616 - 18446744073709551616 else n % 18446744073709551616 := by
  simp [w64, IntKind.wrap, IntKind.signed, IntKind.bits]
 rw [this]
 split <;> omega
theorem jn_def {α β : Type} (k : α) (b : α → β) : jn k b = b k := rfl
theorem idx_nat {α : Type} {xs : List α} {j : Nat} (h : j < xs.length) : idx xs (j : Int) = some xs[j] := by
 simp [idx, h]
theorem if_t {α : Type} {p : Prop} [Decidable p] {x y : α} (h : p) : (if decide p = true then x else y) = x := by simp [h]
theorem if_f {α : Type} {p : Prop} [Decidable p] {x y : α} (h : ¬ p) : (if decide p = true then x else y) = y := by simp [h]
theorem bl_cons (x : UInt8) (a : List UInt8) (y : UInt8) (b : List UInt8) : Op.bytesLess (x :: a) (y :: b) = (decide (x < y) || (x == y && Op.bytesLess a b)) := by
 rw [Op.bytesLess]
theorem bl_irrefl : ∀ a : List UInt8, Op.bytesLess a a = false
 | [] => by simp [Op.bytesLess]
 | x :: a => by rw [bl_cons, bl_irrefl a]; simp
theorem bl_trans : ∀ {a b c : List UInt8}, Op.bytesLess a b = true → Op.bytesLess b c = true → Op.bytesLess a c = true
 | [], [], _, h, _ => by simp [Op.bytesLess] at h
 | [], y :: b, [], _, h => by simp [Op.bytesLess] at h
 | [], y :: b, z :: c, _, _ => by simp [Op.bytesLess]
 | x :: a, [], _, h, _ => by simp [Op.bytesLess] at h
 | x :: a, y :: b, [], _, h => by simp [Op.bytesLess] at h
 | x :: a, y :: b, z :: c, h, g => by
  rw [bl_cons] at *
  simp only [Bool.or_eq_true, decide_eq_true_eq, Bool.and_eq_true, beq_iff_eq, UInt8.lt_iff_toNat_lt] at *
  rcases h with h | ⟨rfl, h⟩ <;> rcases g with g | ⟨rfl, g⟩
  ·exact .inl (by omega)
  ·exact .inl h
  ·exact .inl g
  ·exact .inr ⟨rfl, bl_trans h g⟩
theorem bl_tri : ∀ a b : List UInt8, Op.bytesLess a b = true ∨ a = b ∨ Op.bytesLess b a = true
 | [], [] => by simp
 | [], y :: b => by simp [Op.bytesLess]
 | x :: a, [] => by simp [Op.bytesLess]
 | x :: a, y :: b => by
  rw [bl_cons, bl_cons]
  simp only [Bool.or_eq_true, decide_eq_true_eq, Bool.and_eq_true, beq_iff_eq, UInt8.lt_iff_toNat_lt, List.cons.injEq]
  rcases Nat.lt_trichotomy x.toNat y.toNat with h | h | h
  ·exact .inl (.inl h)
  ·have := UInt8.toNat_inj.1 h
   subst this
   rcases bl_tri a b with h | h | h
   ·exact .inl (.inr ⟨rfl, h⟩)
   ·exact .inr (.inl ⟨rfl, h⟩)
   ·exact .inr (.inr (.inr ⟨rfl, h⟩))
  ·exact .inr (.inr (.inl h))
theorem bl_asymm {a b : List UInt8} (h : Op.bytesLess a b = true) : Op.bytesLess b a = false := by
 cases h' : Op.bytesLess b a with
 | false => rfl
 | true => have := bl_trans h h'; rw [bl_irrefl] at this; simp at this
theorem bl_ne {a b : List UInt8} (h : Op.bytesLess a b = true) : a ≠ b := by rintro rfl; rw [bl_irrefl] at h; simp at h
theorem bl_gt (a b : List UInt8) : (!(Op.bytesLess a b || a == b)) = Op.bytesLess b a := by
 rcases bl_tri a b with h | h | h
 ·rw [h, bl_asymm h]; simp
 ·subst h; simp [bl_irrefl]
 ·rw [h, bl_asymm h]; simp; exact fun e => bl_ne h e.symm
def cmpS (a b : List UInt8) : Int := if Op.bytesLess a b = true then -1 else if Op.bytesLess b a = true then 1 else 0
theorem cmpS_lt {a b : List UInt8} : cmpS a b < 0 ↔ Op.bytesLess a b = true := by unfold cmpS; split <;> (try split) <;> simp_all
theorem cmpS_eq {a b : List UInt8} : cmpS a b = 0 ↔ a = b := by
 unfold cmpS; split
 ·rename_i h; simp [bl_ne h]
 ·split
  ·rename_i h; simp; exact fun e => bl_ne h e.symm
  ·rename_i h h'
   simp
   rcases bl_tri a b with g | g | g
   ·exact absurd g h
   ·exact g
   ·exact absurd g h'
theorem eqL_at {α : Type} [DecidableEq α] {g : List α → Int → Option Bool} (b : List α) (k : Option Bool)
  (h0 : ∀ n, g [] n = k) (h1 : ∀ x l n, g (x :: l) n = (idx b n).bind fun y => if (!(decide (x = y))) = true then some false else g l (n + 1)) :
  ∀ (l : List α) (n : Nat), n + l.length ≤ b.length → g l n = if l = (b.drop n).take l.length then k else some false
 | [], n, _ => by simp [h0]
 | x :: l, n, h => by
  have hn : n < b.length := by simp at h; omega
  rw [h1, idx_nat hn, Option.bind_some]
  have ih := eqL_at b k h0 h1 l (n + 1) (by simp at h; omega)
  have e : ((n : Int) + 1) = ((n + 1 : Nat) : Int) := rfl
  rw [e, ih, List.drop_eq_getElem_cons hn]
  simp only [List.length_cons, List.take_succ_cons, List.cons.injEq]
  by_cases hx : x = b[n]
  ·simp [hx]
  ·simp [hx]
theorem eqL_all {α : Type} [DecidableEq α] {g : List α → Int → Option Bool} (b : List α)
  (h0 : ∀ n, g [] n = some true) (h1 : ∀ x l n, g (x :: l) n = (idx b n).bind fun y => if (!(decide (x = y))) = true then some false else g l (n + 1)) (a : List α) :
  (if (((a.length : Nat) : Int) != ((b.length : Nat) : Int)) = true then some false else g a 0) = some (decide (a = b)) := by
 by_cases h : a.length = b.length
 ·rw [if_neg (by simp [h])]
  have := eqL_at b (some true) h0 h1 a 0 (by omega)
  rw [show ((0 : Nat) : Int) = 0 from rfl] at this
  rw [this, List.drop_zero, List.take_of_length_le (by omega)]
  split <;> simp [*]
 ·rw [if_pos (by simp; omega)]
  have : a ≠ b := fun e => h (by rw [e])
  simp [this]
theorem bytesL {β : Type} {g : Nat → Int → Option β} {k : Option β} {f : β} (s : List UInt8) (p : UInt8 → Bool) (h0 : ∀ n, g 0 n = k)
  (h1 : ∀ m n, g (m + 1) n = (idx s n).bind fun c => if p c = true then g m (n + 1) else some f) :
  ∀ (m n : Nat), n + m = s.length → g m n = if (s.drop n).all p = true then k else some f
 | 0, n, h => by rw [h0, List.drop_eq_nil_of_le (by omega)]; simp
 | m + 1, n, h => by
  have hn : n < s.length := by omega
  have e : ((n : Int) + 1) = ((n + 1 : Nat) : Int) := rfl
  rw [h1, idx_nat hn, Option.bind_some, e, bytesL s p h0 h1 m (n + 1) (by omega), List.drop_eq_getElem_cons hn, List.all_cons]
  cases h : p s[n]
  ·simp only [Bool.false_and, Bool.false_eq_true, if_false]
  ·simp only [Bool.true_and, if_true]
end Go.Pv
