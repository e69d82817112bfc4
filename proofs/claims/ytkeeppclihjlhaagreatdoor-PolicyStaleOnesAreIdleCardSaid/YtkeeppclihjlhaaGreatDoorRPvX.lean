/- Part of the proof: C3M, K, KT, Q, X. -/
import Derived.Test.YtkeeppclihjlhaaGreatDoorRC3T
import Derived.Test.YtkeeppclihjlhaaGreatDoorRPvU
import Derived.WideKeyArgs
import Derived.Deep.Slices
import Derived.ProofKit
import Derived.OpenShut
import Derived.JoinedCond
import Derived.Test.YtkeeppclihjlhaaGreatDoorRZA
namespace Go.Proofs.YtkeeppclihjlhaaGreatDoor
open Go Go.Pv
set_option linter.unusedVariables false
set_option maxRecDepth 100000
noncomputable section
def M40_L1 (R40 : TTest → Int → Option (Int × Int)) (F : Nat) (a2 : Int) (k4 : Int → Int → Option (Int × Int)) : List KRow → Int → Int → Option (Int × Int)
 | [], n10, n11 => k4 n10 n11
 | x14 :: tl1, n10, n11 => (kdec encTTest x14).bind fun y16 => (R40 y16 (w64 (a2 + 1))).bind fun y18 => M40_L1 R40 F a2 k4 tl1 (if 61 < (w64 (n10 + (y18.1))) then 61 else (w64 (n10 + (y18.1)))) (if (y18.2) > n11 then (y18.2) else n11)
def M40_B (R40 : TTest → Int → Option (Int × Int)) (F : Nat) (a1 : TTest) (a2 : Int) : Option (Int × Int) :=
 if (decide (a2 > 12)) = true then some (1, a2)
 else jn (fun (n5 : Int) (n6 : Int) => some (n5, n6)) (fun k4 => M40_L1 R40 F a2 k4 a1.Kids 1 a2)
def M40 : Nat → TTest → Int → Option (Int × Int)
 | 0, _, _ => none
 | F + 1, a1, a2 => M40_B (M40 F) F a1 a2
def M65 (F : Nat) : Option (Nat → Tpolicy_uses) :=
 some (arrOf (Tpolicy_uses.mk false false false 0) [(Tpolicy_uses.mk false false false 0), (Tpolicy_uses.mk false false false 0), (Tpolicy_uses.mk true true false 0), (Tpolicy_uses.mk true true false 0), (Tpolicy_uses.mk true false false 0), (Tpolicy_uses.mk true false true 0), (Tpolicy_uses.mk false false false 1), (Tpolicy_uses.mk false false false (-1)), (Tpolicy_uses.mk false false false (-1))])
def M66 (F : Nat) (a1 : TTest) : Option Bool :=
 (M65 F).bind fun y2 => if 0 ≤ a1.Kind ∧ a1.Kind.toNat < 9 then if (!(y2 a1.Kind.toNat).name) = true then if (!(a1.Name == ([] : List UInt8))) = true then some false
 else if (!(y2 a1.Kind.toNat).texts) = true then if (decide (((a1.Texts.length : Nat) : Int) > 0)) = true then some false
 else if (!(y2 a1.Kind.toNat).number) = true then if (a1.Op != 0) = true then some false
 else if (a1.N != 0) = true then some false
 else if (decide ((y2 a1.Kind.toNat).kids < 0)) = true then some (decide (((a1.Kids.length : Nat) : Int) ≥ 2))
 else some (((a1.Kids.length : Nat) : Int) == (y2 a1.Kind.toNat).kids)
 else if (decide ((y2 a1.Kind.toNat).kids < 0)) = true then some (decide (((a1.Kids.length : Nat) : Int) ≥ 2))
 else some (((a1.Kids.length : Nat) : Int) == (y2 a1.Kind.toNat).kids)
 else if (!(y2 a1.Kind.toNat).number) = true then if (a1.Op != 0) = true then some false
 else if (a1.N != 0) = true then some false
 else if (decide ((y2 a1.Kind.toNat).kids < 0)) = true then some (decide (((a1.Kids.length : Nat) : Int) ≥ 2))
 else some (((a1.Kids.length : Nat) : Int) == (y2 a1.Kind.toNat).kids)
 else if (decide ((y2 a1.Kind.toNat).kids < 0)) = true then some (decide (((a1.Kids.length : Nat) : Int) ≥ 2))
 else some (((a1.Kids.length : Nat) : Int) == (y2 a1.Kind.toNat).kids)
 else if (!(y2 a1.Kind.toNat).texts) = true then if (decide (((a1.Texts.length : Nat) : Int) > 0)) = true then some false
 else if (!(y2 a1.Kind.toNat).number) = true then if (a1.Op != 0) = true then some false
 else if (a1.N != 0) = true then some false
 else if (decide ((y2 a1.Kind.toNat).kids < 0)) = true then some (decide (((a1.Kids.length : Nat) : Int) ≥ 2))
 else some (((a1.Kids.length : Nat) : Int) == (y2 a1.Kind.toNat).kids)
 else if (decide ((y2 a1.Kind.toNat).kids < 0)) = true then some (decide (((a1.Kids.length : Nat) : Int) ≥ 2))
 else some (((a1.Kids.length : Nat) : Int) == (y2 a1.Kind.toNat).kids)
 else if (!(y2 a1.Kind.toNat).number) = true then if (a1.Op != 0) = true then some false
 else if (a1.N != 0) = true then some false
 else if (decide ((y2 a1.Kind.toNat).kids < 0)) = true then some (decide (((a1.Kids.length : Nat) : Int) ≥ 2))
 else some (((a1.Kids.length : Nat) : Int) == (y2 a1.Kind.toNat).kids)
 else if (decide ((y2 a1.Kind.toNat).kids < 0)) = true then some (decide (((a1.Kids.length : Nat) : Int) ≥ 2))
 else some (((a1.Kids.length : Nat) : Int) == (y2 a1.Kind.toNat).kids) else none
def M62 (F : Nat) (a1 : (List UInt8)) : Option Bool :=
 jn (fun (b3 : Bool) => if b3 = true then some true
 else some false) (fun k2 => if (a1 == ([114, 117, 108, 101] : List UInt8)) = true then k2 (a1 == ([114, 117, 108, 101] : List UInt8))
 else if (a1 == ([97, 98, 111, 117, 116] : List UInt8)) = true then k2 (a1 == ([97, 98, 111, 117, 116] : List UInt8))
 else if (a1 == ([119, 104, 101, 110] : List UInt8)) = true then k2 (a1 == ([119, 104, 101, 110] : List UInt8))
 else if (a1 == ([119, 97, 105, 118, 101] : List UInt8)) = true then k2 (a1 == ([119, 97, 105, 118, 101] : List UInt8))
 else if (a1 == ([102, 111, 114] : List UInt8)) = true then k2 (a1 == ([102, 111, 114] : List UInt8))
 else if (a1 == ([102, 114, 111, 109] : List UInt8)) = true then k2 (a1 == ([102, 114, 111, 109] : List UInt8))
 else if (a1 == ([116, 111] : List UInt8)) = true then k2 (a1 == ([116, 111] : List UInt8))
 else if (a1 == ([98, 121] : List UInt8)) = true then k2 (a1 == ([98, 121] : List UInt8))
 else if (a1 == ([97, 115] : List UInt8)) = true then k2 (a1 == ([97, 115] : List UInt8))
 else if (a1 == ([112, 97, 115, 115] : List UInt8)) = true then k2 (a1 == ([112, 97, 115, 115] : List UInt8))
 else if (a1 == ([110, 111, 116, 101] : List UInt8)) = true then k2 (a1 == ([110, 111, 116, 101] : List UInt8))
 else if (a1 == ([119, 97, 114, 110] : List UInt8)) = true then k2 (a1 == ([119, 97, 114, 110] : List UInt8))
 else if (a1 == ([100, 101, 110, 121] : List UInt8)) = true then k2 (a1 == ([100, 101, 110, 121] : List UInt8))
 else if (a1 == ([111, 114] : List UInt8)) = true then k2 (a1 == ([111, 114] : List UInt8))
 else if (a1 == ([97, 110, 100] : List UInt8)) = true then k2 (a1 == ([97, 110, 100] : List UInt8))
 else if (a1 == ([116, 114, 117, 101] : List UInt8)) = true then k2 (a1 == ([116, 114, 117, 101] : List UInt8))
 else if (a1 == ([105, 115] : List UInt8)) = true then k2 (a1 == ([105, 115] : List UInt8))
 else if (a1 == ([98, 101, 103, 105, 110, 115] : List UInt8)) = true then k2 (a1 == ([98, 101, 103, 105, 110, 115] : List UInt8))
 else if (a1 == ([104, 97, 115] : List UInt8)) = true then k2 (a1 == ([104, 97, 115] : List UInt8))
 else k2 (a1 == ([110, 111, 116] : List UInt8)))
def M34_L1 (F : Nat) (a1 : (List UInt8)) (k2 : Option Bool) : Nat → Int → Option Bool
  | 0, n4 => k2
  | tl1 + 1, n4 => jn (M34_L1 F a1 k2 tl1 (n4 + 1)) (fun k6 => (idx a1 n4).bind fun c7 => if (decide ((c7.toNat : Int) ≥ 97)) = true then if (decide ((c7.toNat : Int) ≤ 122)) = true then k6
 else if (decide (n4 > 0)) = true then if (decide ((c7.toNat : Int) ≥ 48)) = true then if (decide ((c7.toNat : Int) ≤ 57)) = true then k6
 else if (!((c7.toNat : Int) == 45)) = true then some false
 else k6
 else if (!((c7.toNat : Int) == 45)) = true then some false
 else k6
 else some false
 else if (decide (n4 > 0)) = true then if (decide ((c7.toNat : Int) ≥ 48)) = true then if (decide ((c7.toNat : Int) ≤ 57)) = true then k6
 else if (!((c7.toNat : Int) == 45)) = true then some false
 else k6
 else if (!((c7.toNat : Int) == 45)) = true then some false
 else k6
 else some false)
def M34 (F : Nat) (a1 : (List UInt8)) : Option Bool :=
 jn (if (!(a1 == ([] : List UInt8))) = true then if (decide ((a1.length : Int) ≤ 40)) = true then (M62 F a1).bind fun y24 => some (!y24)
 else some false
 else some false) (fun k2 => if (a1.length : Int) ≤ 9223372036854775807 then M34_L1 F a1 k2 (((a1.length : Int) : Int).toNat) 0 else none)
def M35_L1 (F : Nat) (a1 : (List UInt8)) (k2 : Option Bool) : Nat → Int → Option Bool
  | 0, n4 => k2
  | tl1 + 1, n4 => (idx a1 n4).bind fun c6 => if (decide ((c6.toNat : Int) < 32)) = true then some false
 else (idx a1 n4).bind fun c9 => if (decide ((c9.toNat : Int) > 126)) = true then some false
 else M35_L1 F a1 k2 tl1 (n4 + 1)
def M35 (F : Nat) (a1 : (List UInt8)) : Option Bool :=
 jn (some (decide ((a1.length : Int) ≤ 1000))) (fun k2 => if (a1.length : Int) ≤ 9223372036854775807 then M35_L1 F a1 k2 (((a1.length : Int) : Int).toNat) 0 else none)
def M67_L1 (F : Nat) (a1 : (List (List UInt8))) (k4 : Option Int) : List (List UInt8) → Int → Option Int
  | [], n6 => k4
  | x8 :: tl1, n6 => (M35 F x8).bind fun y10 => jn (M67_L1 F a1 k4 tl1 (n6 + 1)) (fun k12 => if (!y10) = true then some 2
 else if (decide (n6 > 0)) = true then (idx a1 (w64 (n6 - 1))).bind fun x15 => if (Op.bytesLess x8 x15 || x8 == x15) = true then some 10
 else k12
 else k12)
def M67 (F : Nat) (a1 : (List (List UInt8))) : Option Int :=
 if (((a1.length : Nat) : Int) == 0) = true then some 13
 else if (decide (((a1.length : Nat) : Int) > 50)) = true then some 3
 else jn (some 0) (fun k4 => M67_L1 F a1 k4 a1 0)
def M36 (F : Nat) (a1 : Int) : Option Bool :=
 if (decide (a1 ≥ (-1000000000000))) = true then some (decide (a1 ≤ 1000000000000))
 else some false
def M41_L1 (R41 : TTest → Option Int) (F : Nat) (k27 : Option Int) : List KRow → Option Int
  | [] => k27
  | x31 :: tl1 => (kdec encTTest x31).bind fun y33 => (R41 y33).bind fun y35 => if (y35 != 0) = true then some y35
 else M41_L1 R41 F k27 tl1
def M41_B (R41 : TTest → Option Int) (F : Nat) (a1 : TTest) : Option Int :=
 if (decide (a1.Kind < 1)) = true then some 7
 else if (decide (a1.Kind > 8)) = true then some 7
 else (M65 F).bind fun y4 => if 0 ≤ a1.Kind ∧ a1.Kind.toNat < 9 then (M66 F a1).bind fun y7 => jn (jn (jn (jn (some 0) (fun k27 => M41_L1 R41 F k27 a1.Kids)) (fun k20 => if (y4 a1.Kind.toNat).number = true then if (decide (a1.Op < 1)) = true then some 7
 else if (decide (a1.Op > 5)) = true then some 7
 else (M36 F a1.N).bind fun y24 => if (!y24) = true then some 9
 else k20
 else k20)) (fun k15 => if (y4 a1.Kind.toNat).texts = true then (M67 F a1.Texts).bind fun y17 => if (y17 != 0) = true then some y17
 else k15
 else k15)) (fun k9 => if (!y7) = true then some 2
 else if (y4 a1.Kind.toNat).name = true then (M34 F a1.Name).bind fun y12 => if (!y12) = true then some 8
 else k9
 else k9) else none
def M41 : Nat → TTest → Option Int
 | 0, _ => none
 | F + 1, a1 => M41_B (M41 F) F a1
def M12 (F : Nat) (a1 : TTest) : Option Int :=
 (M40 F a1 1).bind fun y2 => if (decide ((y2.1) > 60)) = true then some 3
 else if (decide ((y2.2) > 12)) = true then some 3
 else (M41 F a1).bind fun y6 => some y6
def M10_L2 (F : Nat) (a1 : TFact) (k28 : Option Int) : List TAmount → Int → Option Int
  | [], n30 => k28
  | x32 :: tl2, n30 => (M34 F x32.Name).bind fun y34 => jn (M10_L2 F a1 k28 tl2 (n30 + 1)) (fun k36 => if (!y34) = true then some 8
 else (M36 F x32.N).bind fun y38 => if (!y38) = true then some 9
 else if (decide (n30 > 0)) = true then (idx a1.Numbers (w64 (n30 - 1))).bind fun x42 => if (Op.bytesLess x32.Name x42.Name || x32.Name == x42.Name) = true then some 10
 else k36
 else k36)
def M10_L1 (F : Nat) (a1 : TFact) (k9 : Option Int) : List TPair → Int → Option Int
  | [], n11 => k9
  | x13 :: tl1, n11 => (M34 F x13.Name).bind fun y15 => jn (M10_L1 F a1 k9 tl1 (n11 + 1)) (fun k17 => if (!y15) = true then some 8
 else (M35 F x13.Value).bind fun y19 => if (!y19) = true then some 2
 else if (decide (n11 > 0)) = true then (idx a1.Texts (w64 (n11 - 1))).bind fun x23 => if (Op.bytesLess x13.Name x23.Name || x13.Name == x23.Name) = true then some 10
 else k17
 else k17)
def M10 (F : Nat) (a1 : TFact) : Option Int :=
 (M34 F a1.Kind).bind fun y2 => if (!y2) = true then some 8
 else (M35 F a1.Subject).bind fun y5 => if (!y5) = true then some 2
 else if (decide (((a1.Texts.length : Nat) : Int) > 30)) = true then some 3
 else jn (if (decide (((a1.Numbers.length : Nat) : Int) > 30)) = true then some 3
 else jn (some 0) (fun k28 => M10_L2 F a1 k28 a1.Numbers 0)) (fun k9 => M10_L1 F a1 k9 a1.Texts 0)
def M31_L1 (R31 : TTest → Option KV) (F : Nat) (k2 : (List KV) → Option KV) : List KRow → (List KV) → Option KV
 | [], l7 => k2 l7
 | x9 :: tl1, l7 => (kdec encTTest x9).bind fun y11 => (R31 y11).bind fun y13 => if (l7 ++ ([y13] : List KV)).length * 16 ≤ 140737488355328 then M31_L1 R31 F k2 tl1 (l7 ++ ([y13] : List KV)) else none
def M31_B (R31 : TTest → Option KV) (F : Nat) (a1 : TTest) : Option KV :=
 jn (fun (l3 : List KV) => if (a1.Kind == 2) = true then some (mkK 105 encTpolicy_condIs (Tpolicy_condIs.mk a1.Name a1.Texts))
 else if (a1.Kind == 3) = true then some (mkK 106 encTpolicy_condBegins (Tpolicy_condBegins.mk a1.Name a1.Texts))
 else if (a1.Kind == 4) = true then some (mkK 108 encTpolicy_condHas (Tpolicy_condHas.mk a1.Name))
 else if (a1.Kind == 5) = true then some (mkK 110 encTpolicy_condNumber (Tpolicy_condNumber.mk a1.Name a1.Op a1.N))
 else if (a1.Kind == 6) = true then (idx l3 0).bind fun x22 => some (mkK 112 encTpolicy_condNot (Tpolicy_condNot.mk x22))
 else if (a1.Kind == 7) = true then some (mkK 114 encTpolicy_condAll (Tpolicy_condAll.mk l3))
 else if (a1.Kind == 8) = true then some (mkK 115 encTpolicy_condAny (Tpolicy_condAny.mk l3))
 else some (mkK 117 encTpolicy_condTrue Tpolicy_condTrue.mk)) (fun k2 => M31_L1 R31 F k2 a1.Kids ([] : List KV))
def M31 : Nat → TTest → Option KV
 | 0, _ => none
 | F + 1, a1 => M31_B (M31 F) F a1
def M32_L2 (F : Nat) (k12 : (List ((List UInt8) × Tpolicy_value)) → Option Tpolicy_values) : List TAmount → (List ((List UInt8) × Tpolicy_value)) → Option Tpolicy_values
 | [], m17 => k12 m17
 | x19 :: tl2, m17 => M32_L2 F k12 tl2 (mput m17 x19.Name (Tpolicy_value.mk ((mget m17 x19.Name).getD (Tpolicy_value.mk false false ([] : List UInt8) 0)).hasText true ((mget m17 x19.Name).getD (Tpolicy_value.mk false false ([] : List UInt8) 0)).text x19.N))
def M32_L1 (F : Nat) (k2 : (List ((List UInt8) × Tpolicy_value)) → Option Tpolicy_values) : List TPair → (List ((List UInt8) × Tpolicy_value)) → Option Tpolicy_values
 | [], m7 => k2 m7
 | x9 :: tl1, m7 => M32_L1 F k2 tl1 (mput m7 x9.Name (Tpolicy_value.mk true ((mget m7 x9.Name).getD (Tpolicy_value.mk false false ([] : List UInt8) 0)).hasNumber x9.Value ((mget m7 x9.Name).getD (Tpolicy_value.mk false false ([] : List UInt8) 0)).number))
def M32 (F : Nat) (a1 : TFact) : Option Tpolicy_values :=
 jn (fun (m3 : List ((List UInt8) × Tpolicy_value)) => jn (fun (m13 : List ((List UInt8) × Tpolicy_value)) => some (Tpolicy_values.mk m13 ())) (fun k12 => M32_L2 F k12 a1.Numbers m3)) (fun k2 => M32_L1 F k2 a1.Texts ([] : List ((List UInt8) × Tpolicy_value)))
def M177 (F : Nat) (a1 : Tpolicy_values) (a2 : (List UInt8)) : Option (Tpolicy_value × Bool) :=
 some (((mget a1.by_ a2).getD (Tpolicy_value.mk false false ([] : List UInt8) 0)), true)
def M115_L1 (F : Nat) (a2 : (List UInt8)) (k3 : Option Int) : List (List UInt8) → Int → Option Int
  | [], n5 => k3
  | x7 :: tl1, n5 => if (a2 == x7) = true then some n5
 else M115_L1 F a2 k3 tl1 (n5 + 1)
def M115 (F : Nat) (a1 : (List (List UInt8))) (a2 : (List UInt8)) : Option Int :=
 jn (some (-1)) (fun k3 => M115_L1 F a2 k3 a1 0)
def M180 (F : Nat) (a1 : (List (List UInt8))) (a2 : (List UInt8)) : Option Bool :=
 (M115 F a1 a2).bind fun y3 => some (decide (y3 ≥ 0))
def M179 (F : Nat) (a1 : Bool) : Option Int :=
 if a1 = true then some 1
 else some 2
def M178 (F : Nat) (a1 : Tpolicy_condIs) (a2 : Tpolicy_values) : Option Int :=
 (M177 F a2 a1.name).bind fun y3 => if (!(y3.2)) = true then some 0
 else if (y3.1).hasText = true then (M180 F a1.texts (y3.1).text).bind fun y7 => (M179 F y7).bind fun y9 => some y9
 else (M179 F false).bind fun y11 => some y11
def M114 (F : Nat) (a1 : (List UInt8)) (a2 : (List UInt8)) : Option Bool :=
 if (decide ((a1.length : Int) ≥ (a2.length : Int))) = true then if 0 ≤ (a2.length : Int) ∧ (a2.length : Int).toNat ≤ a1.length then some ((a1.take (a2.length : Int).toNat) == a2) else none
 else some false
def M93 (F : Nat) (a1 : (List UInt8)) (a2 : (List UInt8)) : Option Bool :=
 (M114 F a1 a2).bind fun y3 => some y3
def M183 (F : Nat) (a1 : (List UInt8)) (a2 : Bool) (a3 : Bool) (a4 : List UInt8) (a5 : Int) : Option Bool :=
 (M93 F a4 a1).bind fun y6 => some y6
def M184_L1 (F : Nat) (a2 : Bool) (a3 : Bool) (a4 : List UInt8) (a5 : Int) (k6 : Option Int) : List (List UInt8) → Int → Option Int
  | [], n8 => k6
  | x10 :: tl1, n8 => (M183 F x10 a2 a3 a4 a5).bind fun y12 => if y12 = true then some n8
 else M184_L1 F a2 a3 a4 a5 k6 tl1 (n8 + 1)
def M184 (F : Nat) (a1 : (List (List UInt8))) (a2 : Bool) (a3 : Bool) (a4 : List UInt8) (a5 : Int) : Option Int :=
 jn (some (-1)) (fun k6 => M184_L1 F a2 a3 a4 a5 k6 a1 0)
def M182 (F : Nat) (a1 : (List (List UInt8))) (a2 : Bool) (a3 : Bool) (a4 : List UInt8) (a5 : Int) : Option Bool :=
 (M184 F a1 a2 a3 a4 a5).bind fun y6 => some (decide (y6 ≥ 0))
def M181 (F : Nat) (a1 : Tpolicy_condBegins) (a2 : Tpolicy_values) : Option Int :=
 (M177 F a2 a1.name).bind fun y3 => if (!(y3.2)) = true then some 0
 else if (y3.1).hasText = true then (M182 F a1.texts (y3.1).hasText (y3.1).hasNumber (y3.1).text (y3.1).number).bind fun y7 => (M179 F y7).bind fun y9 => some y9
 else (M179 F false).bind fun y11 => some y11
def M185 (F : Nat) (a1 : Tpolicy_condHas) (a2 : Tpolicy_values) : Option Int :=
 (M177 F a2 a1.name).bind fun y3 => if (!(y3.2)) = true then some 0
 else if (y3.1).hasText = true then (M179 F true).bind fun y7 => some y7
 else (M179 F (y3.1).hasNumber).bind fun y9 => some y9
def M187 (F : Nat) (a1 : Int) (a2 : Int) (a3 : Int) : Option Bool :=
 if (a2 == 1) = true then some (decide (a1 < a3))
 else if (a2 == 2) = true then some (decide (a1 ≤ a3))
 else if (a2 == 3) = true then some (a1 == a3)
 else if (a2 == 4) = true then some (decide (a1 ≥ a3))
 else some (decide (a1 > a3))
def M186 (F : Nat) (a1 : Tpolicy_condNumber) (a2 : Tpolicy_values) : Option Int :=
 (M177 F a2 a1.name).bind fun y3 => if (!(y3.2)) = true then some 0
 else if (y3.1).hasNumber = true then (M187 F (y3.1).number a1.op a1.n).bind fun y7 => (M179 F y7).bind fun y9 => some y9
 else (M179 F false).bind fun y11 => some y11
def M176 (F : Nat) (a1 : Int) : Option Int :=
 if (a1 == 1) = true then some 2
 else if (a1 == 2) = true then some 1
 else some 0
def M188 (Riholds : KV → Tpolicy_values → Option Int) (F : Nat) (a1 : Tpolicy_condNot) (a2 : Tpolicy_values) : Option Int :=
 (Riholds a1.kid a2).bind fun y3 => (M176 F y3).bind fun y5 => some y5
def M189_L1 (Riholds : KV → Tpolicy_values → Option Int) (F : Nat) (a2 : Tpolicy_values) (k3 : Int → Option Int) : List KV → Int → Option Int
  | [], n7 => k3 n7
  | x10 :: tl1, n7 => (Riholds x10 a2).bind fun y12 => jn (fun (n15 : Int) => M189_L1 Riholds F a2 k3 tl1 n15) (fun k14 => if (y12 == 2) = true then some 2
 else if (y12 == 0) = true then k14 0
 else k14 n7)
def M189 (Riholds : KV → Tpolicy_values → Option Int) (F : Nat) (a1 : Tpolicy_condAll) (a2 : Tpolicy_values) : Option Int :=
 jn (fun (n4 : Int) => some n4) (fun k3 => M189_L1 Riholds F a2 k3 a1.kids 1)
def M190_L1 (Riholds : KV → Tpolicy_values → Option Int) (F : Nat) (a2 : Tpolicy_values) (k3 : Int → Option Int) : List KV → Int → Option Int
  | [], n7 => k3 n7
  | x10 :: tl1, n7 => (Riholds x10 a2).bind fun y12 => jn (fun (n15 : Int) => M190_L1 Riholds F a2 k3 tl1 n15) (fun k14 => if (y12 == 1) = true then some 1
 else if (y12 == 0) = true then k14 0
 else k14 n7)
def M190 (Riholds : KV → Tpolicy_values → Option Int) (F : Nat) (a1 : Tpolicy_condAny) (a2 : Tpolicy_values) : Option Int :=
 jn (fun (n4 : Int) => some n4) (fun k3 => M190_L1 Riholds F a2 k3 a1.kids 2)
def M191 (F : Nat) (a1 : Tpolicy_condTrue) (a2 : Tpolicy_values) : Option Int :=
 some 1
def Miholds_B (Riholds : KV → Tpolicy_values → Option Int) (F : Nat) (k : KV) (a1 : Tpolicy_values) : Option Int :=
 oel (vdec encTpolicy_condIs 105 k) (fun y => M178 F y a1) (oel (vdec encTpolicy_condBegins 106 k) (fun y => M181 F y a1) (oel (vdec encTpolicy_condHas 108 k) (fun y => M185 F y a1) (oel (vdec encTpolicy_condNumber 110 k) (fun y => M186 F y a1) (oel (vdec encTpolicy_condNot 112 k) (fun y => M188 Riholds F y a1) (oel (vdec encTpolicy_condAll 114 k) (fun y => M189 Riholds F y a1) (oel (vdec encTpolicy_condAny 115 k) (fun y => M190 Riholds F y a1) (oel (vdec encTpolicy_condTrue 117 k) (fun y => M191 F y a1) (none))))))))
def Miholds : Nat → KV → Tpolicy_values → Option Int
 | 0, _, _ => none
 | F + 1, k, a1 => Miholds_B (Miholds F) F k a1
def M38_L1 (F : Nat) (a1 : (List UInt8)) (k3 : Option Bool) : Nat → Int → Option Bool
  | 0, n5 => k3
  | tl1 + 1, n5 => (idx a1 n5).bind fun c7 => if (decide ((c7.toNat : Int) < 32)) = true then some false
 else (idx a1 n5).bind fun c10 => if (decide ((c10.toNat : Int) > 126)) = true then some false
 else M38_L1 F a1 k3 tl1 (n5 + 1)
def M38 (F : Nat) (a1 : (List UInt8)) : Option Bool :=
 if (decide ((a1.length : Int) > 1000)) = true then some false
 else jn (some true) (fun k3 => if (a1.length : Int) ≤ 9223372036854775807 then M38_L1 F a1 k3 (((a1.length : Int) : Int).toNat) 0 else none)
def M87 (F : Nat) (a1 : (List UInt8)) (a2 : (List UInt8)) : Option Bool :=
 if (decide ((a1.length : Int) ≥ (a2.length : Int))) = true then if 0 ≤ (a2.length : Int) ∧ (a2.length : Int).toNat ≤ a1.length then some ((a1.take (a2.length : Int).toNat) == a2) else none
 else some false
def M69 (F : Nat) (a1 : (List UInt8)) (a2 : Int) : Option Int := some (Lib.indexByte a1 a2.toNat.toUInt8)
def M71 (F : Nat) (a1 : TPolicyRule) (a2 : List UInt8) (a3 : List UInt8) (a4 : Int) (a5 : Int) (a6 : List UInt8) (a7 : Int) : Option Bool :=
 some (a1.Name == a2)
def M80_L1 (F : Nat) (a2 : List UInt8) (a3 : List UInt8) (a4 : Int) (a5 : Int) (a6 : List UInt8) (a7 : Int) (k8 : Option Int) : List TPolicyRule → Int → Option Int
  | [], n10 => k8
  | x12 :: tl1, n10 => (M71 F x12 a2 a3 a4 a5 a6 a7).bind fun y14 => if y14 = true then some n10
 else M80_L1 F a2 a3 a4 a5 a6 a7 k8 tl1 (n10 + 1)
def M80 (F : Nat) (a1 : (List TPolicyRule)) (a2 : List UInt8) (a3 : List UInt8) (a4 : Int) (a5 : Int) (a6 : List UInt8) (a7 : Int) : Option Int :=
 jn (some (-1)) (fun k8 => M80_L1 F a2 a3 a4 a5 a6 a7 k8 a1 0)
def M70 (F : Nat) (a1 : (List TPolicyRule)) (a2 : List UInt8) (a3 : List UInt8) (a4 : Int) (a5 : Int) (a6 : List UInt8) (a7 : Int) : Option Bool :=
 (M80 F a1 a2 a3 a4 a5 a6 a7).bind fun y8 => some (decide (y8 ≥ 0))
def M45 (F : Nat) (a1 : TPolicy) (a2 : TWaiver) : Option Int :=
 (M69 F a2.Subject 42).bind fun y3 => (M70 F a1.Rules a2.Rule a2.Subject a2.From a2.To a2.Owner a2.Level).bind fun y5 => jn (some 0) (fun k7 => if (!y5) = true then some 4
 else (M35 F a2.Subject).bind fun y9 => if (!y9) = true then some 2
 else if (decide (y3 ≥ 0)) = true then if (decide (y3 < (w64 ((a2.Subject.length : Int) - 1)))) = true then some 2
 else if (decide (a2.From < 0)) = true then some 9
 else if (decide (a2.From > a2.To)) = true then some 9
 else if (decide (a2.To > 1000000)) = true then some 9
 else (M34 F a2.Owner).bind fun y17 => if (!y17) = true then some 8
 else if (decide (a2.Level < 1)) = true then some 7
 else if (decide (a2.Level > 3)) = true then some 7
 else k7
 else if (decide (a2.From < 0)) = true then some 9
 else if (decide (a2.From > a2.To)) = true then some 9
 else if (decide (a2.To > 1000000)) = true then some 9
 else (M34 F a2.Owner).bind fun y25 => if (!y25) = true then some 8
 else if (decide (a2.Level < 1)) = true then some 7
 else if (decide (a2.Level > 3)) = true then some 7
 else k7)
def M14_L2 (F : Nat) (a1 : TPolicy) (k25 : Option Int) : List TWaiver → Option Int
  | [] => k25
  | x29 :: tl2 => (M45 F a1 x29).bind fun y31 => if (y31 != 0) = true then some y31
 else M14_L2 F a1 k25 tl2
def M14_L1 (F : Nat) (k4 : Option Int) : List TPolicyRule → (List ((List UInt8) × Bool)) → Option Int
  | [], m8 => k4
  | x10 :: tl1, m8 => (M34 F x10.Name).bind fun y12 => if (!y12) = true then some 8
 else if ((mget m8 x10.Name).getD false) = true then some 5
 else (M34 F x10.About).bind fun y16 => if (!y16) = true then some 8
 else (M12 F x10.When).bind fun y19 => if (y19 != 0) = true then some y19
 else if (decide (x10.Level < 1)) = true then some 7
 else if (decide (x10.Level > 4)) = true then some 7
 else M14_L1 F k4 tl1 (mput m8 x10.Name true)
def M14 (F : Nat) (a1 : TPolicy) : Option Int :=
 if (decide (((a1.Rules.length : Nat) : Int) > 100)) = true then some 3
 else if (decide (((a1.Waivers.length : Nat) : Int) > 200)) = true then some 3
 else jn (jn (some 0) (fun k25 => M14_L2 F a1 k25 a1.Waivers)) (fun k4 => M14_L1 F k4 a1.Rules ([] : List ((List UInt8) × Bool)))
def M16 (F : Nat) : Option Bool := some true
def M81 (F : Nat) (a1 : TPolicyRule) (a2 : List UInt8) (a3 : List UInt8) (a4 : List TPair) (a5 : List TAmount) : Option Bool :=
 if (a1.About == a2) = true then (M31 F a1.When).bind fun y7 => (M32 F (TFact.mk a2 a3 a4 a5)).bind fun y9 => if y7.t ∈ ([105, 106, 108, 110, 112, 114, 115, 117] : List Nat) then (Miholds F y7 y9).bind fun y12 => some (y12 == 1) else none
 else some false
def M80_1_L1 (F : Nat) (a2 : List UInt8) (a3 : List UInt8) (a4 : List TPair) (a5 : List TAmount) (k6 : Option Int) : List TPolicyRule → Int → Option Int
  | [], n8 => k6
  | x10 :: tl1, n8 => (M81 F x10 a2 a3 a4 a5).bind fun y12 => if y12 = true then some n8
 else M80_1_L1 F a2 a3 a4 a5 k6 tl1 (n8 + 1)
def M80_1 (F : Nat) (a1 : (List TPolicyRule)) (a2 : List UInt8) (a3 : List UInt8) (a4 : List TPair) (a5 : List TAmount) : Option Int :=
 jn (some (-1)) (fun k6 => M80_1_L1 F a2 a3 a4 a5 k6 a1 0)
def M52 (F : Nat) (a1 : TPolicy) (a2 : TFact) : Option Int :=
 (M80_1 F a1.Rules a2.Kind a2.Subject a2.Texts a2.Numbers).bind fun y3 => some y3
def M78_L1 (F : Nat) (k3 : Option Int) : List TFact → Option Int
  | [] => k3
  | x7 :: tl1 => (M10 F x7).bind fun y9 => if (y9 != 0) = true then some y9
 else M78_L1 F k3 tl1
def M78 (F : Nat) (a1 : (List TFact)) : Option Int :=
 if (decide (((a1.length : Nat) : Int) > 5000)) = true then some 3
 else jn (some 0) (fun k3 => M78_L1 F k3 a1)
def M49 (F : Nat) (a1 : TPolicy) (a2 : (List TFact)) (a3 : Int) : Option Int :=
 (M14 F a1).bind fun y4 => if (y4 != 0) = true then some y4
 else (M78 F a2).bind fun y7 => if (y7 != 0) = true then some y7
 else if (decide (a3 < 0)) = true then some 9
 else if (decide (a3 > 1000000)) = true then some 9
 else some 0
def M134 (F : Nat) (a1 : (List UInt8)) (a2 : (List UInt8)) : Option Bool :=
 if (decide ((a1.length : Int) ≥ (a2.length : Int))) = true then if 0 ≤ (w64 ((a1.length : Int) - (a2.length : Int))) ∧ (w64 ((a1.length : Int) - (a2.length : Int))).toNat ≤ a1.length then some ((a1.drop (w64 ((a1.length : Int) - (a2.length : Int))).toNat) == a2) else none
 else some false
def M123 (F : Nat) (a1 : (List UInt8)) (a2 : (List UInt8)) : Option ((List UInt8) × Bool) :=
 (M134 F a1 a2).bind fun y3 => if (!y3) = true then some (a1, false)
 else if 0 ≤ (w64 ((a1.length : Int) - (a2.length : Int))) ∧ (w64 ((a1.length : Int) - (a2.length : Int))).toNat ≤ a1.length then some ((a1.take (w64 ((a1.length : Int) - (a2.length : Int))).toNat), true) else none
def M100 (F : Nat) (a1 : (List UInt8)) (a2 : (List UInt8)) : Option ((List UInt8) × Bool) :=
 (M123 F a1 a2).bind fun y3 => some ((y3.1), (y3.2))
def M79 (F : Nat) (a1 : TWaiver) (a2 : (List UInt8)) : Option Bool :=
 (M100 F a1.Subject ([42] : List UInt8)).bind fun y3 => if (y3.2) = true then (M93 F a2 (y3.1)).bind fun y6 => some y6
 else some (a1.Subject == a2)
def M51_L2 (F : Nat) (x12 : TFact) (x20 : TPolicyRule) (k22 : (List Int) → Option (List Tpolicy_ruling)) : List TWaiver → Int → (List Int) → Option (List Tpolicy_ruling)
  | [], n26, l27 => k22 l27
  | x31 :: tl2, n26, l27 => jn (fun (l30 : List Int) => M51_L2 F x12 x20 k22 tl2 (n26 + 1) l30) (fun k29 => if (x31.Rule == x20.Name) = true then if (decide (x31.Level < x20.Level)) = true then (M79 F x31 x12.Subject).bind fun y35 => jn (fun (l38 : List Int) => k29 l38) (fun k37 => if y35 = true then if (l27 ++ ([n26] : List Int)).length * 8 ≤ 140737488355328 then k37 (l27 ++ ([n26] : List Int)) else none
 else k37 l27)
 else k29 l27
 else k29 l27)
def M51_L1 (F : Nat) (a1 : TPolicy) (k3 : (List Tpolicy_ruling) → Option (List Tpolicy_ruling)) : List TFact → (List Tpolicy_ruling) → Option (List Tpolicy_ruling)
  | [], l8 => k3 l8
  | x12 :: tl1, l8 => jn (fun (l11 : List Tpolicy_ruling) => M51_L1 F a1 k3 tl1 l11) (fun k10 => (M52 F a1 x12).bind fun y14 => jn (fun (n17 : Int) (l18 : List Int) => if (l8 ++ ([(Tpolicy_ruling.mk y14 n17 l18)] : List Tpolicy_ruling)).length * 40 ≤ 140737488355328 then k10 (l8 ++ ([(Tpolicy_ruling.mk y14 n17 l18)] : List Tpolicy_ruling)) else none) (fun k16 => if (decide (y14 ≥ 0)) = true then (idx a1.Rules y14).bind fun x20 => jn (fun (l23 : List Int) => k16 x20.Level l23) (fun k22 => M51_L2 F x12 x20 k22 a1.Waivers 0 ([] : List Int))
 else k16 1 ([] : List Int)))
def M51 (F : Nat) (a1 : TPolicy) (a2 : (List TFact)) : Option (List Tpolicy_ruling) :=
 jn (fun (l4 : List Tpolicy_ruling) => some l4) (fun k3 => M51_L1 F a1 k3 a2 ([] : List Tpolicy_ruling))
def M50_L2 (F : Nat) (a1 : TPolicy) (a3 : Int) (x41 : Tpolicy_ruling) (k43 : Int → Int → Option (List TDecision)) : List Int → Option (List TDecision)
  | [] => k43 (-1) x41.level
  | x50 :: tl2 => jn (M50_L2 F a1 a3 x41 k43 tl2 ) (fun k49 => (idx a1.Waivers x50).bind fun x52 => if (decide (a3 ≥ x52.From)) = true then if (decide (a3 ≤ x52.To)) = true then k43 x50 x52.Level
 else k49
 else k49)
def M50_L1 (F : Nat) (a1 : TPolicy) (a3 : Int) (k32 : (List TDecision) → Option (List TDecision)) : List Tpolicy_ruling → Int → (List TDecision) → Option (List TDecision)
 | [], n36, l37 => k32 l37
 | x41 :: tl1, n36, l37 => jn (fun (l40 : List TDecision) => M50_L1 F a1 a3 k32 tl1 (n36 + 1) l40) (fun k39 => jn (fun (n44 : Int) (n45 : Int) => if (l37 ++ ([(TDecision.mk n36 x41.rule n44 n45)] : List TDecision)).length * 32 ≤ 140737488355328 then k39 (l37 ++ ([(TDecision.mk n36 x41.rule n44 n45)] : List TDecision)) else none) (fun k43 => M50_L2 F a1 a3 x41 k43 x41.waivers))
def M50 (F : Nat) (a1 : TPolicy) (a2 : (List Tpolicy_ruling)) (a3 : Int) : Option (List TDecision) :=
 jn (fun (l33 : List TDecision) => some l33) (fun k32 => M50_L1 F a1 a3 k32 a2 0 ([] : List TDecision))
def M24_L1 (F : Nat) (a2 : (List TDecision)) (k4 : Option Bool) : List TDecision → Int → Option Bool
  | [], n6 => k4
  | x8 :: tl1, n6 => (idx a2 n6).bind fun x10 => if (!(decide (x8 = x10))) = true then some false
 else M24_L1 F a2 k4 tl1 (n6 + 1)
def M24 (F : Nat) (a1 : (List TDecision)) (a2 : (List TDecision)) : Option Bool :=
 if (((a1.length : Nat) : Int) != ((a2.length : Nat) : Int)) = true then some false
 else jn (some true) (fun k4 => M24_L1 F a2 k4 a1 0)
def M50_1_L2 (F : Nat) (a1 : TPolicy) (a3 : Int) (x13 : Tpolicy_ruling) (k15 : Int → Int → Option (List TDecision)) : List Int → Option (List TDecision)
  | [] => k15 (-1) x13.level
  | x22 :: tl2 => jn (M50_1_L2 F a1 a3 x13 k15 tl2 ) (fun k21 => (idx a1.Waivers x22).bind fun x24 => if (decide (a3 ≥ x24.From)) = true then if (decide (a3 ≤ x24.To)) = true then k15 x22 x24.Level
 else k21
 else k21)
def M50_1_L1 (F : Nat) (a1 : TPolicy) (a3 : Int) (k4 : (List TDecision) → Option (List TDecision)) : List Tpolicy_ruling → Int → (List TDecision) → Option (List TDecision)
 | [], n8, l9 => k4 l9
 | x13 :: tl1, n8, l9 => jn (fun (l12 : List TDecision) => M50_1_L1 F a1 a3 k4 tl1 (n8 + 1) l12) (fun k11 => jn (fun (n16 : Int) (n17 : Int) => if (l9 ++ ([(TDecision.mk n8 x13.rule n16 n17)] : List TDecision)).length * 32 ≤ 140737488355328 then k11 (l9 ++ ([(TDecision.mk n8 x13.rule n16 n17)] : List TDecision)) else none) (fun k15 => M50_1_L2 F a1 a3 x13 k15 x13.waivers))
def M50_1 (F : Nat) (a1 : TPolicy) (a2 : (List Tpolicy_ruling)) (a3 : Int) : Option (List TDecision) :=
 jn (fun (l5 : List TDecision) => some l5) (fun k4 => M50_1_L1 F a1 a3 k4 a2 0 ([] : List TDecision))
def M27_L2 (F : Nat) (a3 : Int) (m12 : List (Int × Bool)) (k21 : (List Int) → Option ((List Int) × Int)) : List TWaiver → Int → (List Int) → Option ((List Int) × Int)
  | [], n25, l26 => k21 l26
  | x30 :: tl2, n25, l26 => jn (fun (l29 : List Int) => M27_L2 F a3 m12 k21 tl2 (n25 + 1) l29) (fun k28 => if (!((mget m12 n25).getD false)) = true then if (decide (a3 ≥ x30.From)) = true then jn (fun (l35 : List Int) => k28 l35) (fun k34 => if (decide (a3 ≤ x30.To)) = true then if (l26 ++ ([n25] : List Int)).length * 8 ≤ 140737488355328 then k34 (l26 ++ ([n25] : List Int)) else none
 else k34 l26)
 else k28 l26
 else k28 l26)
def M27_L1 (F : Nat) (k11 : (List (Int × Bool)) → Option ((List Int) × Int)) : List TDecision → (List (Int × Bool)) → Option ((List Int) × Int)
 | [], m16 => k11 m16
 | x18 :: tl1, m16 => M27_L1 F k11 tl1 (mput m16 x18.Waiver true)
def M27 (F : Nat) (a1 : TPolicy) (a2 : (List TFact)) (a3 : Int) : Option ((List Int) × Int) :=
 (M49 F a1 a2 a3).bind fun y4 => if (y4 != 0) = true then some (([] : List Int), y4)
 else (M51 F a1 a2).bind fun y7 => (M50_1 F a1 y7 a3).bind fun y9 => jn (fun (m12 : List (Int × Bool)) => jn (fun (l22 : List Int) => some (l22, 0)) (fun k21 => M27_L2 F a3 m12 k21 a1.Waivers 0 ([] : List Int))) (fun k11 => M27_L1 F k11 y9 ([] : List (Int × Bool)))
def M18 (F : Nat) (a1 : (List TWaiver)) : Option (List TWaiver) :=
 nilq a1.length (fun b7 => if b7 = true then some ([] : List TWaiver)
 else if (([] : List TWaiver) ++ a1).length * 72 ≤ 140737488355328 then some (([] : List TWaiver) ++ a1) else none)
def M17_1 (F : Nat) (a1 : TPolicy) (a2 : (List TFact)) (a3 : Int) : Option (Int × (List TDecision)) :=
 (M49 F a1 a2 a3).bind fun y13 => if (y13 != 0) = true then some (y13, ([] : List TDecision))
 else (M51 F a1 a2).bind fun y16 => (M50 F a1 y16 a3).bind fun y18 => some (0, y18)
def M30 (F : Nat) (a1 : Int) (a2 : Int) (a3 : List TWaiver) : Option (List TWaiver) := if 0 ≤ a1 ∧ a1 ≤ a2 ∧ a2.toNat ≤ a3.length then some (a3.take a1.toNat ++ a3.drop a2.toNat) else none
def M7_L2 (F : Nat) (x22 : Int) (k30 : (List TDecision) → Option Bool) : Nat → Int → (List TDecision) → Option Bool
  | 0, n34, l35 => k30 l35
  | tl2 + 1, n34, l35 => (idx l35 n34).bind fun x37 => jn (fun (l40 : List TDecision) => M7_L2 F x22 k30 tl2 (n34 + 1) l40) (fun k39 => if (decide (x37.Waiver ≥ x22)) = true then (idx l35 n34).bind fun x42 => (idx l35 n34).bind fun x44 => k39 (l35.set n34.toNat (TDecision.mk x44.Fact x44.Rule (w64 (x42.Waiver + 1)) x44.Level))
 else k39 l35)
def M7_L1 (F : Nat) (a1 : TPolicy) (a2 : (List TFact)) (a3 : Int) (y6 : (Int × (List TDecision))) (k16 : Option Bool) : List Int → Option Bool
  | [] => k16
  | x22 :: tl1 => jn (fun (b21 : Bool) => M7_L1 F a1 a2 a3 y6 k16 tl1 ) (fun k20 => (M18 F a1.Waivers).bind fun y24 => (M30 F x22 (w64 (x22 + 1)) y24).bind fun y26 => (M17_1 F (TPolicy.mk a1.Rules y26) a2 a3).bind fun y28 => jn (fun (l31 : List TDecision) => if ((y28.1) != 0) = true then some false
 else (M24 F (y6.2) l31).bind fun y48 => if (!y48) = true then some false
 else k20 (!y48)) (fun k30 => M7_L2 F x22 k30 (((((y28.2).length : Nat) : Int) : Int).toNat) 0 (y28.2)))
def M7 (F : Nat) (a1 : TPolicy) (a2 : (List TFact)) (a3 : Int) : Option Bool :=
 (M27 F a1 a2 a3).bind fun y4 => (M17_1 F a1 a2 a3).bind fun y6 => if ((y4.2) != 0) = true then if ((y4.2) == (y6.1)) = true then (M16 F).bind fun y10 => some y10
 else some false
 else if ((y6.1) != 0) = true then if ((y4.2) == (y6.1)) = true then (M16 F).bind fun y14 => some y14
 else some false
 else jn ((M16 F).bind fun y52 => some y52) (fun k16 => M7_L1 F a1 a2 a3 y6 k16 (y4.1))
end
end Go.Proofs.YtkeeppclihjlhaaGreatDoor
namespace Go.Pv
open Go Go.ChangeShapes Go.WideShapes
mutual
def bulk {H : Type} : DataW H → Nat
 | .lit (.string bytes) => bytes.length + 1
 | .lit _ => 1
 | .nil => 1
 | .ptr d => bulk d + 1
 | .slice elems spare => bulkAll elems + bulkAll spare + 1
 | .agg parts => bulkAll parts + 1
 | .iface _ d => bulk d + 1
 | .map entries => bulkEnts entries + 1
 | .held _ => 1
def bulkAll {H : Type} : List (DataW H) → Nat
 | [] => 0
 | d :: r => bulk d + bulkAll r
def bulkEnts {H : Type} : List (Lit × DataW H) → Nat
 | [] => 0
 | x :: r => bulkEnt x + bulkEnts r
def bulkEnt {H : Type} : Lit × DataW H → Nat
 | (.string bytes, d) => bytes.length + bulk d + 1
 | (_, d) => bulk d + 1
end
def memOf (w : World) : Mem := fun b => w.heap[b]?
def IRelL (m : Mem) (ds : List V) (cs : List Value) : Prop :=
 ds.length = cs.length ∧ ∀ (i : Nat) (c : V) (v : Value), ds[i]? = some c → cs[i]? = some v → IRel m c v
theorem IRelL.one {m : Mem} {d : V} {c : Value} (h : IRel m d c) : IRelL m [d] [c] :=
 ⟨rfl, fun i d' c' hd hc => by
  match i with
  | 0 => simp at hd hc; subst hd; subst hc; exact h
  | _ + 1 => simp at hd⟩
theorem IRelL.app {m : Mem} {a b : List V} {x y : List Value} (h : IRelL m a x) (h' : IRelL m b y) : IRelL m (a ++ b) (x ++ y) := by
 refine ⟨by simp [h.1, h'.1], fun i c v hc hv => ?_⟩
 by_cases hi : i < a.length
 ·rw [List.getElem?_append_left hi] at hc
  rw [List.getElem?_append_left (by rw [← h.1]; exact hi)] at hv
  exact h.2 i c v hc hv
 ·rw [List.getElem?_append_right (by omega)] at hc
  rw [List.getElem?_append_right (by rw [← h.1]; omega), ← h.1] at hv
  exact h'.2 _ c v hc hv
section
variable {P : Program} {t e : TypeId} {α β : Type}
def wOk {H : Type} (P : Program) (t : TypeId) (d : DataW H) : Prop := (d.weights P t).all (· ≤ reachBytes) = true
def wOks {H : Type} (P : Program) (ts : List TypeId) (ds : List (DataW H)) : Prop := (DataW.weightsEach P ts ds).all (· ≤ reachBytes) = true
theorem wOks_cons {H : Type} {P : Program} {t : TypeId} {ts : List TypeId} {d : DataW H} {ds : List (DataW H)} (h : wOks P (t :: ts) (d :: ds)) : wOk P t d ∧ wOks P ts ds := by
 unfold wOks wOk at *
 rw [DataW.weightsEach, List.all_append, Bool.and_eq_true] at h
 exact h
theorem wAll {H : Type} {P : Program} {e : TypeId} : ∀ (l : List (DataW H)), (DataW.weightsAll P e l).all (· ≤ reachBytes) = true → ∀ d, d ∈ l → wOk P e d
 | [], _, d, hd => by simp at hd
 | x :: l, h, d, hd => by
  rw [DataW.weightsAll, List.all_append, Bool.and_eq_true] at h
  rcases List.mem_cons.1 hd with rfl | hd
  ·exact h.1
  ·exact wAll l h.2 d hd
def Opens (P : Program) (t : TypeId) (e : α → List V) (sz : α → Nat) (ok : α → Prop) : Prop :=
 ∀ {H : Type} (enc : TypeId × Value → H) (w : World) (fuel : Nat) (cs : List Value) (x : DataW H × List MemPlace),
  DataW.trod enc P w 0 (fun _ => true) true fuel t cs = some x → wOk P t x.1 → ∃ a : α, IRelL (memOf w) (e a) cs ∧ sz a ≤ bulk x.1 ∧ ok a
theorem opens_int {k : IntKind} (ht : P.underlying t = some (.int k)) : Opens P t (fun n : Int => [V.con (.int k n)]) (fun _ => 1) (fun n => k.min ≤ n ∧ n ≤ k.max) := by
 intro H enc w fuel cs x h hw
 obtain ⟨n, rfl, rfl, hw'⟩ := DataW.trod_int ht h
 simp only [Lit.wf, Bool.and_eq_true, decide_eq_true_eq] at hw'
 exact ⟨n, IRelL.one (.con _), by simp [bulk], hw'⟩
theorem opens_stringW (ht : P.underlying t = some .string) : Opens P t (fun s : List UInt8 => [sV s]) (fun s => s.length + 1) (fun s => s.length ≤ 140737488351232) := by
 intro H enc w fuel cs x h hw
 obtain ⟨s, rfl, rfl, hs⟩ := DataW.trod_string ht h
 refine ⟨s.data.toList, IRelL.one ?_, by simp [bulk], ?_⟩
 ·have : str s.data.toList = .string s := by simp [str]
  unfold sV
  rw [this]
  exact .con _
 ·unfold wOk at hw
  rw [DataW.weights, List.all_cons, Bool.and_eq_true] at hw
  have := of_decide_eq_true hw.1
  unfold reachBytes at this
  simpa using this
theorem list_of {p : Nat → α → Prop} : ∀ {n : Nat}, (∀ i, i < n → ∃ a, p i a) → ∃ l : List α, l.length = n ∧ ∀ i a, l[i]? = some a → p i a
 | 0, _ => ⟨[], rfl, by simp⟩
 | n + 1, h => by
  obtain ⟨l, hl, hp⟩ := list_of (n := n) fun i hi => h i (by omega)
  obtain ⟨a, ha⟩ := h n (by omega)
  refine ⟨l ++ [a], by simp [hl], fun i b hb => ?_⟩
  by_cases hi : i < l.length
  ·rw [List.getElem?_append_left hi] at hb; exact hp i b hb
  ·rw [List.getElem?_append_right (by omega)] at hb
   have : i - l.length = 0 := by
    have := (List.getElem?_eq_some_iff.1 hb).1
    simp at this; omega
   rw [this] at hb
   simp at hb
   subst hb
   rw [show i = n by omega]; exact ha
theorem bulkAll_map {H : Type} {n : Nat} (D : Nat → DataW H) : bulkAll ((List.range n).map D) = ((List.range n).map fun i => bulk (D i)).sum := by
 generalize List.range n = l
 induction l with
 | nil => rfl
 | cons a l ih => simp [bulkAll, ih]
theorem sum_le {l : List α} {sz : α → Nat} {g : Nat → Nat} (h : ∀ i a, l[i]? = some a → sz a ≤ g i) : (l.map sz).sum ≤ ((List.range l.length).map g).sum := by
 induction l generalizing g with
 | nil => simp
 | cons a l ih =>
  rw [List.length_cons, List.range_succ_eq_map]
  simp only [List.map_cons, List.sum_cons, List.map_map]
  have h0 := h 0 a rfl
  have h1 := ih (g := g ∘ Nat.succ) fun i b hb => h (i + 1) b (by simpa using hb)
  exact Nat.add_le_add h0 h1
theorem opens_slice {k : Nat} {ee : α → List V} {sz : α → Nat} {ok : α → Prop} (ht : P.underlying t = some (.slice e)) (hk : P.cellsOf e = k) (h0 : 0 < k) (he : Opens P e ee sz ok) :
  Opens P t (fun l : List α => [V.lst k (l.map ee)]) (fun l => (l.map sz).sum + 1) (fun l => (∀ a, a ∈ l → ok a) ∧ l.length ≤ maxLen) := by
 intro H enc w fuel cs x h hw
 rcases Deep.open_slice ht h with ⟨rfl, rfl⟩ | ⟨a, len, cap, m, n, D, Pl, rfl, _, hlc, hcm, hm, rfl, hel⟩
 ·exact ⟨[], IRelL.one (.nil _ _ _), by simp [bulk], by simp⟩
 ·simp only [if_true] at hm
  subst hm
  obtain ⟨l, hl, hp⟩ := list_of (n := len) (p := fun i (b : α) => sz b ≤ bulk (D i) ∧ ok b ∧ ∃ cs', w.cells? 0 (a.add (i * P.cellsOf e)) (P.cellsOf e) = some cs' ∧ IRelL (memOf w) (ee b) cs') (by
   intro i hi
   obtain ⟨cs', hc, hd⟩ := hel i (by omega)
   obtain ⟨b, h1, h2, h3⟩ := he _ _ _ _ _ hd (by
    unfold wOk at hw
    rw [DataW.weights] at hw
    simp only [ht, List.all_cons, List.all_append, Bool.and_eq_true] at hw
    exact wAll _ hw.2.1 _ (List.mem_map.2 ⟨i, List.mem_range.2 hi, rfl⟩))
   exact ⟨b, h2, h3, cs', hc, h1⟩)
  refine ⟨l, IRelL.one ?_, ?_, fun b hb => ?_, by omega⟩
  ·by_cases hz : len = 0
   ·subst hz
    have : l = [] := List.length_eq_zero_iff.1 hl
    subst this
    exact .nil _ _ _
   ·have hcell : ∀ i j b, l[i]? = some b → j < k → ∃ v, w.cell? ((a.add (i * k)).add j) = some v ∧ (∃ c, (ee b)[j]? = some c) ∧ ∀ c, (ee b)[j]? = some c → IRel (memOf w) c v := by
     intro i j b hb hj
     obtain ⟨_, _, cs', hc, hr⟩ := hp i b hb
     rw [hk] at hc
     obtain ⟨_, hn, hcs⟩ := World.cells?_some hc
     have hj' : j < cs'.length := by omega
     have hv : cs'[j]? = some cs'[j] := List.getElem?_eq_getElem hj'
     have hj2 : j < (ee b).length := by rw [hr.1]; exact hj'
     exact ⟨cs'[j], (hcs j hj).trans hv, ⟨(ee b)[j], List.getElem?_eq_getElem hj2⟩, fun c hcc => hr.2 j c _ hcc hv⟩
    have hlen : ∀ b, b ∈ l → (ee b).length = k := by
     intro b hb
     obtain ⟨i, hi⟩ := List.mem_iff_getElem?.1 hb
     obtain ⟨_, _, cs', hc, hr⟩ := hp i b hi
     rw [hk] at hc
     rw [hr.1, (World.cells?_some hc).2.1]
    have hb0 : ∃ b, l[0]? = some b := ⟨l[0]'(by omega), List.getElem?_eq_getElem _⟩
    obtain ⟨b0, hb0⟩ := hb0
    obtain ⟨v0, hv0, _⟩ := hcell 0 0 b0 hb0 h0
    have hadd0 : (a.add (0 * k)).add 0 = a := by simp [Addr.add]
    rw [hadd0] at hv0
    unfold World.cell? at hv0
    split at hv0
    case h_2 => simp at hv0
    rename_i arr T fr hblk
    have hsp : a.spot = none := by
     cases hs : a.spot with
     | none => rfl
     | some s => simp [hs] at hv0
    have hget : ∀ i j b, l[i]? = some b → j < k → ∃ v, arr[a.off + (i * k + j)]? = some v ∧ (∃ c, (ee b)[j]? = some c) ∧ ∀ c, (ee b)[j]? = some c → IRel (memOf w) c v := by
     intro i j b hb hj
     obtain ⟨v, hv, hc⟩ := hcell i j b hb hj
     rw [Deep.add_add] at hv
     unfold World.cell? at hv
     have hbk : (a.add (i * k + j)).block = a.block := by unfold Addr.add; split <;> rfl
     have hso : (a.add (i * k + j)).spot = none := by unfold Addr.add; split <;> simp [hsp]
     have hof : (a.add (i * k + j)).off = a.off + (i * k + j) := by unfold Addr.add; split <;> simp [*]
     rw [hbk, hblk] at hv
     simp only [hso, hof] at hv
     exact ⟨v, by simpa using hv, hc⟩
    refine IRel.lst (arr := arr) (T := T) (fr := fr) (fun i => (arr[a.off + i]?).getD undef) hblk hsp (by simpa using hl) hlc (by omega) ?_ ?_ ?_
    ·intro row hrow
     obtain ⟨b, hb, rfl⟩ := List.mem_map.1 hrow
     exact hlen b hb
    ·intro i hi
     rw [List.length_map] at hi
     have hq : i / k < l.length := Nat.div_lt_of_lt_mul (by rw [Nat.mul_comm]; exact hi)
     obtain ⟨v, hv, _⟩ := hget (i / k) (i % k) l[i / k] (List.getElem?_eq_getElem hq) (Nat.mod_lt _ h0)
     have : i / k * k + i % k = i := by rw [Nat.mul_comm]; exact Nat.div_add_mod i k
     rw [this] at hv
     simp [hv]
    ·intro i j row c hrow hc
     rw [List.getElem?_map, Option.map_eq_some_iff] at hrow
     obtain ⟨b, hb, rfl⟩ := hrow
     have hj : j < k := by
      have := (List.getElem?_eq_some_iff.1 hc).1
      rw [hlen b (List.mem_iff_getElem?.2 ⟨i, hb⟩)] at this
      exact this
     obtain ⟨v, hv, _, hcr⟩ := hget i j b hb hj
     simp only [hv, Option.getD_some]
     exact hcr c hc
  ·simp only [bulk]
   rw [bulkAll_map]
   have := sum_le (l := l) (sz := sz) (g := fun i => bulk (D i)) fun i b hb => (hp i b hb).1
   rw [hl] at this
   omega
  ·obtain ⟨i, hi⟩ := List.mem_iff_getElem?.1 hb
   exact (hp i b hi).2.1
def FOpens (P : Program) (N : Nat) (fs : List (TypeId × Nat × Nat)) (off : Nat) (e : α → List V) (sz : α → Nat) (ok : α → Prop) : Prop :=
 ∀ {H : Type} (enc : TypeId × Value → H) (w : World) (n : Nat) (cs : List Value) (xs : List (DataW H × List MemPlace)), cs.length = N → xs.length = fs.length →
  (∀ (i : Nat) (f : TypeId × Nat × Nat), fs[i]? = some f → DataW.trod enc P w 0 (fun _ => true) true n f.1 ((cs.drop f.2.1).take f.2.2) = xs[i]?) →
  wOks P (fs.map (·.1)) (xs.map (·.1)) → ∃ a : α, IRelL (memOf w) (e a) (cs.drop off) ∧ sz a ≤ bulkAll (xs.map (·.1)) ∧ ok a
theorem fopens_nil {N : Nat} : FOpens P N [] N (fun _ : Unit => []) (fun _ => 0) (fun _ => True) := by
 intro H enc w n cs xs hN hx _ _
 refine ⟨(), ?_, by simp, trivial⟩
 rw [← hN]
 simp [IRelL]
theorem fopens_cons {N k off : Nat} {ft : TypeId} {fs : List (TypeId × Nat × Nat)} {ea : α → List V} {eb : β → List V} {sa : α → Nat} {sb : β → Nat} {oa : α → Prop} {ob : β → Prop}
  (h : Opens P ft ea sa oa) (hr : FOpens P N fs (off + k) eb sb ob) : FOpens P N ((ft, off, k) :: fs) off (fun p : α × β => ea p.1 ++ eb p.2) (fun p => sa p.1 + sb p.2) (fun p => oa p.1 ∧ ob p.2) := by
 intro H enc w n cs xs hN hx hf hw
 match xs, hx with
 | x :: xs, hx =>
  have h1 := hf 0 _ rfl
  simp only [List.getElem?_cons_zero] at h1
  have hw' := wOks_cons hw
  obtain ⟨a, ha, hs, ho⟩ := h enc w n _ x h1 hw'.1
  have hb' := hr enc w n cs xs hN (by simpa using hx) fun i f hi => by
   have := hf (i + 1) f (by simpa using hi)
   simpa using this
  obtain ⟨b, hb, hs', ho'⟩ := hb' hw'.2
  refine ⟨(a, b), ?_, by simp only [List.map_cons, bulkAll]; omega, ho, ho'⟩
  have := ha.app hb
  rw [show (cs.drop off).take k ++ cs.drop (off + k) = cs.drop off by rw [← List.drop_drop]; exact List.take_append_drop _ _] at this
  exact this
def fieldsOf (P : Program) (t : TypeId) : Option (List (TypeId × Nat × Nat)) :=
 match P.underlying t with
 | some (.struct fs) => some (fs.toList.map fun f => (f.type, f.offset, P.cellsOf f.type))
 | _ => none
theorem opens_struct {N : Nat} {fs : List (TypeId × Nat × Nat)} {e : α → List V} {sz : α → Nat} {ok : α → Prop} (ht : fieldsOf P t = some fs) (hN : P.cellsOf t = N) (h : FOpens P N fs 0 e sz ok) :
  Opens P t e (fun a => sz a + 1) ok := by
 intro H enc w fuel cs x hx hw
 unfold fieldsOf at ht
 split at ht
 case h_2 => simp at ht
 rename_i gs hu
 simp only [Option.some.injEq] at ht
 subst ht
 obtain ⟨xs, n, _, rfl, hl, hxl, hf⟩ := DataW.trod_struct hu hx
 have ha' := h enc w n cs xs (hl.trans hN) (by simpa using hxl) fun i f hi => by
  rw [List.getElem?_map, Option.map_eq_some_iff] at hi
  obtain ⟨g, hg, rfl⟩ := hi
  exact hf i g (by simpa using hg)
 obtain ⟨a, h1, h2, h3⟩ := ha' (by
  unfold wOk at hw
  rw [DataW.weights] at hw
  simp only [hu] at hw
  unfold wOks
  rw [List.map_map]
  exact hw)
 exact ⟨a, by simpa using h1, by simp only [bulk]; omega, h3⟩
theorem opens_map {ea : α → List V} {eb : β → List V} {sa : α → Nat} {sb : β → Nat} {oa : α → Prop} {ob : β → Prop} (h : Opens P t ea sa oa) (g : α → β)
  (he : ∀ a, eb (g a) = ea a) (hs : ∀ a, sb (g a) = sa a) (ho : ∀ a, oa a → ob (g a)) : Opens P t eb sb ob := by
 intro H enc w fuel cs x hx hw
 obtain ⟨a, h1, h2, h3⟩ := h enc w fuel cs x hx hw
 exact ⟨g a, by rw [he]; exact h1, by rw [hs]; exact h2, ho a h3⟩
def OpensV (P : Program) (t : TypeId) (e : α → V) (sz : α → Nat) (ok : α → Prop) : Prop :=
 ∀ {H : Type} (enc : TypeId × Value → H) (w : World) (base : Nat) (v : Value) (d : DataW H) (p : List MemPlace),
  Value.okWide P w .any base t v → DataW.Trod enc P w 0 (fun _ => true) true t v d p → wOk P t d → ∃ a : α, IRel (memOf w) (e a) v ∧ sz a ≤ bulk d ∧ ok a
theorem opensV_agg {fs : List (TypeId × Nat × Nat)} {e : α → List V} {sz : α → Nat} {ok : α → Prop} (ht : fieldsOf P t = some fs) (h : Opens P t e sz ok) : OpensV P t (fun a => .agg (e a)) sz ok := by
 intro H enc w base v d p hv ⟨n, hd⟩ hw
 unfold fieldsOf at ht
 split at ht
 case h_2 => simp at ht
 rename_i gs hu
 obtain ⟨cs, rfl, _⟩ := okWide_struct hu hv
 obtain ⟨a, h1, h2, h3⟩ := h enc w n _ _ hd hw
 exact ⟨a, .agg (by simpa [Value.cells] using h1.1) (fun i c v' hc hv' => h1.2 i c v' hc (by simpa [Value.cells] using hv')), h2, h3⟩
def cellKind (P : Program) (t : TypeId) : Bool :=
 match P.underlying t with
 | some (.int _) | some .bool | some .string | some (.slice _) => true
 | _ => false
theorem opensV_cell {e : α → V} {sz : α → Nat} {ok : α → Prop} (ht : cellKind P t = true) (h : Opens P t (fun a => [e a]) sz ok) : OpensV P t e sz ok := by
 intro H enc w base v d p hv ⟨n, hd⟩ hw
 obtain ⟨a, h1, h2, h3⟩ := h enc w n _ _ hd hw
 have hna : ∀ cs, v ≠ .agg cs := by
  rintro cs rfl
  unfold cellKind at ht
  unfold Value.okWide at hv
  split at ht <;> rename_i hu <;> first | exact absurd ht (by decide) | (simp only [hu, Cell.okWide, Cell.ok] at hv)
 have hc : v.cells.toList = [v] := by cases v <;> first | rfl | exact absurd rfl (hna _)
 rw [hc] at h1
 exact ⟨a, h1.2 0 _ _ rfl rfl, h2, h3⟩
theorem sameAt_of {w w' : World} (h : ∀ b, b < w.heap.size → w'.heap[b]? = w.heap[b]?) {p : MemPlace} (hp : p.block < w.heap.size) : w.sameAt w' p := by
 cases p with
 | cell b o => simp only [World.sameAt, World.cell?]; rw [h b hp]
 | map b => exact h b hp
theorem trodAll_stays {H : Type} {enc : TypeId × Value → H} (hl : laidOutB P = true) {w w' : World} {sp : Nat → Bool} (hh : ∀ b, b < w.heap.size → w'.heap[b]? = w.heap[b]?)
  (hs : ∀ b, b < w.heap.size → sp b = true) : ∀ {ts : List TypeId} {vs : List Value} {ds : List (DataW H)} {ps : List MemPlace},
  (ts.all fun t => P.readableRec t && decide (t < P.types.size)) = true → DataW.TrodAll enc P w 0 (fun _ => true) true ts vs ds ps → (∀ p ∈ ps, p.block < w.heap.size) → DataW.TrodAll enc P w' 0 sp true ts vs ds ps
 | [], [], [], _, _, h, _ => h
 | t :: ts, v :: vs, d :: ds, _, hr, ⟨p, q, h1, h2, e⟩, hlt => by
  subst e
  simp only [List.all_cons, Bool.and_eq_true, decide_eq_true_eq] at hr
  exact ⟨p, q, WideElems.Trod_stays hl hr.1.1 hr.1.2 h1 (fun x hx => sameAt_of hh (hlt x (List.mem_append_left _ hx))) (fun x hx => hs _ (hlt x (List.mem_append_left _ hx))),
   trodAll_stays hl hh hs (by simpa using hr.2) h2 (fun x hx => hlt x (List.mem_append_right _ hx)), rfl⟩
theorem kept_of {w w' : World} (hs : Same w w') (hh : ∀ b, b < w.heap.size → w'.heap[b]? = w.heap[b]?) (may : MemPlace → Prop) : w.keptBut w' may := by
 refine ⟨hs.os, hs.output, fun i hi => ?_⟩
 rw [hh i hi]
 split <;> first | exact ⟨rfl, rfl, rfl, fun _ _ => rfl⟩ | exact .inr ⟨rfl, rfl⟩ | rfl | skip
 all_goals simp_all
theorem law_post {H : Type} {enc : TypeId × Value → H} {f : Func} {s : ChangeSpec} {apart fresh handsOn : Bool} {w w' : World} {args : Array Value} {v : Value} {ds gs : List (DataW H)} {before : List MemPlace} {m m' : Mem} {tb : TypeId}
  (hl : laidOutB P = true) (hts : (f.params.toList.all fun t => P.readableRec t && decide (t < P.types.size)) = true) (hv : s.vars = []) (hfn : ∀ gs', gs' = [] → s.fn H (ds ++ gs') = { results := [.lit (.bool true)], args := ds })
  (hres : f.resultTypes = #[tb]) (hb : P.underlying tb = some .bool) (hW : DataW.Whole enc P f.params.toList s.vars apart w args.toList ds gs before) (h : IRel m' (bV true) v) (hg : Grew m m' w w') :
  s.post enc P f apart fresh handsOn false w args v w' := by
 have hW0 := hW
 obtain ⟨p, q, hA, hV, rfl, hfz, hnd⟩ := hW0
 cases h
 rw [hv] at hV
 cases gs with
 | cons _ _ => simp [DataW.TrodVars] at hV
 | nil =>
 have hq : q = [] := hV
 subst hq
 refine ⟨ds, [], p ++ [], [], p, [], hW, ?_, ?_, ?_, kept_of hg.same hg.heap _, fun h => by simp at h⟩
 ·rw [hfn _ rfl, hres]
  exact trodAll_cons_mk (RowKit.shut_bool hb _) trodAll_mk0
 ·rw [hfn _ rfl]
  exact trodAll_stays hl hg.heap (fun b hb => by simpa using hb) hts hA (DataW.TrodAll.lt hA)
 ·rw [hv, hfn _ rfl]
  rfl
theorem args_nil {H : Type} {enc : TypeId × Value → H} {w : World} {args : Array Value} {f : Func} {s : ChangeSpec} {apart : Bool} {ds gs : List (DataW H)} {before : List MemPlace}
  (hW : DataW.Whole enc P f.params.toList s.vars apart w args.toList ds gs before) : ∃ p, DataW.TrodAll enc P w 0 (fun _ => true) true f.params.toList args.toList ds p := by
 obtain ⟨p, q, hA, _⟩ := hW
 exact ⟨p, hA⟩
end
def factsA (P : Program) (f : FuncId) (fn : Func) (s : ChangeSpec) (c : OpenClaim) : Bool :=
 c.wf (OpenSpec.ofChange s) && laidOutB P && mapsRowed P &&
 fn.params.all (P.readableRec ·) && namedTie P c.named s.vars &&
 (c.stops == []) && (P.stops == []) && (c.knobs == []) && (P.stopKnobs == []) &&
 (c.inPlace == P.inPlace f) && (c.unfollowed == P.unfollowed f) && (c.recurses == P.recurses f) && (c.named == P.varsNamed f) &&
 (c.maps == (fn.params.toList ++ s.plain.varTypes P).any (P.mapsRec ·)) && (c.ifaces == (fn.params.toList ++ s.plain.varTypes P).any (P.ifacesRec ·)) && (c.mapsOut == P.mapsAmong fn.resultTypes.toList) &&
 (c.loops == (fn.params.toList ++ s.plain.varTypes P).any (P.loopsFrom ·)) && (c.wideKeys == (fn.params.toList ++ s.plain.varTypes P ++ fn.resultTypes.toList).any (P.wideKeysFrom ·)) &&
 s.vars.all (P.varReadable ·) && fn.resultTypes.all (fun t => P.readableRec t && decide (t < P.types.size)) && (c.ifacesOut == fn.resultTypes.toList.any (P.ifacesRec ·)) && (c.loopsOut == fn.resultTypes.toList.any (P.loopsFrom ·)) && (c.plainKeys == P.plainKeys) && c.shortTexts.isNone && P.stopsHeard
def factsB (P : Program) (c : OpenClaim) : Bool := P.mayEnter && (c.lifted == P.liftsFinal) && (P.make == some c.make)
def factsC (P : Program) (fn : Func) (s : ChangeSpec) (c : OpenClaim) : Bool :=
 (c.kinds == (if c.domain.isEmpty then [] else fn.params.toList.map fun t => match P.underlying t with | some (.int k) => some k | _ => none)) && (c.pinned == c.pinnedBy) &&
 (c.veiled == (fn.params.toList ++ s.plain.varTypes P ++ fn.resultTypes.toList).any (P.veiledRec ·)) && c.veiledFits P fn.params.toList (fn.params.toList ++ s.plain.varTypes P ++ fn.resultTypes.toList)
theorem facts_join {P : Program} {f : FuncId} {fn : Func} {s : ChangeSpec} {c : OpenClaim} (h1 : factsA P f fn s c = true) (h2 : factsB P c = true) (h3 : factsC P fn s c = true) : joinedFacts P f fn s c = true := by
 unfold factsA at h1
 unfold factsB at h2
 unfold factsC at h3
 have e : ∀ a b c d b1 b2 b3 c1 c2 c3 : Bool, a = true → (b1 && b2 && b3) = true → (b && c && d && c1) = true → (a && b1 && b2 && b3 && b && c && d && c1) = true := by
  intro a b c d b1 b2 b3 c1 c2 c3 h h' h''
  simp only [Bool.and_eq_true] at *
  simp_all
 exact e _ _ _ _ _ _ _ _ true true h1 h2 h3
section
variable {P : Program} {t e : TypeId} {α β : Type}
def OpensB (b : Nat) (P : Program) (t : TypeId) (e : α → List V) (sz : α → Nat) (ok : α → Prop) : Prop :=
 ∀ {H : Type} (enc : TypeId × Value → H) (w : World) (fuel : Nat) (cs : List Value) (x : DataW H × List MemPlace),
  DataW.trod enc P w 0 (fun _ => true) true fuel t cs = some x → wOk P t x.1 → bulk x.1 ≤ b → ∃ a : α, IRelL (memOf w) (e a) cs ∧ sz a ≤ bulk x.1 ∧ ok a
theorem Opens.at {ee : α → List V} {sz : α → Nat} {ok : α → Prop} (h : Opens P t ee sz ok) (b : Nat) : OpensB b P t ee sz ok := fun enc w fuel cs x ht hw _ => h enc w fuel cs x ht hw
theorem OpensB.mono {b b' : Nat} {ee : α → List V} {sz : α → Nat} {ok : α → Prop} (h : OpensB b P t ee sz ok) (hb : b' ≤ b) : OpensB b' P t ee sz ok := fun enc w fuel cs x ht hw hl => h enc w fuel cs x ht hw (Nat.le_trans hl hb)
theorem bulk_pos {H : Type} (d : DataW H) : 0 < bulk d := by
 cases d with
 | lit l => cases l <;> simp [bulk]
 | _ => simp [bulk]
theorem opensB_zero {ee : α → List V} {sz : α → Nat} {ok : α → Prop} : OpensB 0 P t ee sz ok := fun enc w fuel cs x ht hw hl => absurd hl (by have := bulk_pos x.1; omega)
theorem bulk_mem {H : Type} {n i : Nat} (D : Nat → DataW H) (hi : i < n) : bulk (D i) ≤ ((List.range n).map fun i => bulk (D i)).sum := by
 have : bulk (D i) ∈ (List.range n).map fun i => bulk (D i) := List.mem_map.2 ⟨i, List.mem_range.2 hi, rfl⟩
 generalize (List.range n).map (fun i => bulk (D i)) = l at this
 induction l with
 | nil => simp at this
 | cons a l ih =>
  rcases List.mem_cons.1 this with h | h
  ·simp [← h]
  ·have := ih h; simp; omega
theorem opensB_slice {b k : Nat} {ee : α → List V} {sz : α → Nat} {ok : α → Prop} (ht : P.underlying t = some (.slice e)) (hk : P.cellsOf e = k) (h0 : 0 < k) (he : OpensB b P e ee sz ok) :
  OpensB (b + 1) P t (fun l : List α => [V.lst k (l.map ee)]) (fun l => (l.map sz).sum + 1) (fun l => (∀ a, a ∈ l → ok a) ∧ l.length ≤ maxLen) := by
 intro H enc w fuel cs x h hw hlt
 rcases Deep.open_slice ht h with ⟨rfl, rfl⟩ | ⟨a, len, cap, m, n, D, Pl, rfl, _, hlc, hcm, hm, rfl, hel⟩
 ·exact ⟨[], IRelL.one (.nil _ _ _), by simp [bulk], by simp⟩
 ·simp only [if_true] at hm
  subst hm
  obtain ⟨l, hl, hp⟩ := list_of (n := len) (p := fun i (b : α) => sz b ≤ bulk (D i) ∧ ok b ∧ ∃ cs', w.cells? 0 (a.add (i * P.cellsOf e)) (P.cellsOf e) = some cs' ∧ IRelL (memOf w) (ee b) cs') (by
   intro i hi
   obtain ⟨cs', hc, hd⟩ := hel i (by omega)
   obtain ⟨b, h1, h2, h3⟩ := he _ _ _ _ _ hd (by
    unfold wOk at hw
    rw [DataW.weights] at hw
    simp only [ht, List.all_cons, List.all_append, Bool.and_eq_true] at hw
    exact wAll _ hw.2.1 _ (List.mem_map.2 ⟨i, List.mem_range.2 hi, rfl⟩)) (by
    simp only [bulk] at hlt
    rw [bulkAll_map] at hlt
    have := bulk_mem D hi; show bulk (D i) ≤ b
    omega)
   exact ⟨b, h2, h3, cs', hc, h1⟩)
  refine ⟨l, IRelL.one ?_, ?_, fun b hb => ?_, by omega⟩
  ·by_cases hz : len = 0
   ·subst hz
    have : l = [] := List.length_eq_zero_iff.1 hl
    subst this
    exact .nil _ _ _
   ·have hcell : ∀ i j b, l[i]? = some b → j < k → ∃ v, w.cell? ((a.add (i * k)).add j) = some v ∧ (∃ c, (ee b)[j]? = some c) ∧ ∀ c, (ee b)[j]? = some c → IRel (memOf w) c v := by
     intro i j b hb hj
     obtain ⟨_, _, cs', hc, hr⟩ := hp i b hb
     rw [hk] at hc
     obtain ⟨_, hn, hcs⟩ := World.cells?_some hc
     have hj' : j < cs'.length := by omega
     have hv : cs'[j]? = some cs'[j] := List.getElem?_eq_getElem hj'
     have hj2 : j < (ee b).length := by rw [hr.1]; exact hj'
     exact ⟨cs'[j], (hcs j hj).trans hv, ⟨(ee b)[j], List.getElem?_eq_getElem hj2⟩, fun c hcc => hr.2 j c _ hcc hv⟩
    have hlen : ∀ b, b ∈ l → (ee b).length = k := by
     intro b hb
     obtain ⟨i, hi⟩ := List.mem_iff_getElem?.1 hb
     obtain ⟨_, _, cs', hc, hr⟩ := hp i b hi
     rw [hk] at hc
     rw [hr.1, (World.cells?_some hc).2.1]
    have hb0 : ∃ b, l[0]? = some b := ⟨l[0]'(by omega), List.getElem?_eq_getElem _⟩
    obtain ⟨b0, hb0⟩ := hb0
    obtain ⟨v0, hv0, _⟩ := hcell 0 0 b0 hb0 h0
    have hadd0 : (a.add (0 * k)).add 0 = a := by simp [Addr.add]
    rw [hadd0] at hv0
    unfold World.cell? at hv0
    split at hv0
    case h_2 => simp at hv0
    rename_i arr T fr hblk
    have hsp : a.spot = none := by
     cases hs : a.spot with
     | none => rfl
     | some s => simp [hs] at hv0
    have hget : ∀ i j b, l[i]? = some b → j < k → ∃ v, arr[a.off + (i * k + j)]? = some v ∧ (∃ c, (ee b)[j]? = some c) ∧ ∀ c, (ee b)[j]? = some c → IRel (memOf w) c v := by
     intro i j b hb hj
     obtain ⟨v, hv, hc⟩ := hcell i j b hb hj
     rw [Deep.add_add] at hv
     unfold World.cell? at hv
     have hbk : (a.add (i * k + j)).block = a.block := by unfold Addr.add; split <;> rfl
     have hso : (a.add (i * k + j)).spot = none := by unfold Addr.add; split <;> simp [hsp]
     have hof : (a.add (i * k + j)).off = a.off + (i * k + j) := by unfold Addr.add; split <;> simp [*]
     rw [hbk, hblk] at hv
     simp only [hso, hof] at hv
     exact ⟨v, by simpa using hv, hc⟩
    refine IRel.lst (arr := arr) (T := T) (fr := fr) (fun i => (arr[a.off + i]?).getD undef) hblk hsp (by simpa using hl) hlc (by omega) ?_ ?_ ?_
    ·intro row hrow
     obtain ⟨b, hb, rfl⟩ := List.mem_map.1 hrow
     exact hlen b hb
    ·intro i hi
     rw [List.length_map] at hi
     have hq : i / k < l.length := Nat.div_lt_of_lt_mul (by rw [Nat.mul_comm]; exact hi)
     obtain ⟨v, hv, _⟩ := hget (i / k) (i % k) l[i / k] (List.getElem?_eq_getElem hq) (Nat.mod_lt _ h0)
     have : i / k * k + i % k = i := by rw [Nat.mul_comm]; exact Nat.div_add_mod i k
     rw [this] at hv
     simp [hv]
    ·intro i j row c hrow hc
     rw [List.getElem?_map, Option.map_eq_some_iff] at hrow
     obtain ⟨b, hb, rfl⟩ := hrow
     have hj : j < k := by
      have := (List.getElem?_eq_some_iff.1 hc).1
      rw [hlen b (List.mem_iff_getElem?.2 ⟨i, hb⟩)] at this
      exact this
     obtain ⟨v, hv, _, hcr⟩ := hget i j b hb hj
     simp only [hv, Option.getD_some]
     exact hcr c hc
  ·simp only [bulk]
   rw [bulkAll_map]
   have := sum_le (l := l) (sz := sz) (g := fun i => bulk (D i)) fun i b hb => (hp i b hb).1
   rw [hl] at this
   omega
  ·obtain ⟨i, hi⟩ := List.mem_iff_getElem?.1 hb
   exact (hp i b hi).2.1
def FOpensB (b0 : Nat) (P : Program) (N : Nat) (fs : List (TypeId × Nat × Nat)) (off : Nat) (e : α → List V) (sz : α → Nat) (ok : α → Prop) : Prop :=
 ∀ {H : Type} (enc : TypeId × Value → H) (w : World) (n : Nat) (cs : List Value) (xs : List (DataW H × List MemPlace)), cs.length = N → xs.length = fs.length →
  (∀ (i : Nat) (f : TypeId × Nat × Nat), fs[i]? = some f → DataW.trod enc P w 0 (fun _ => true) true n f.1 ((cs.drop f.2.1).take f.2.2) = xs[i]?) →
  wOks P (fs.map (·.1)) (xs.map (·.1)) → bulkAll (xs.map (·.1)) ≤ b0 → ∃ a : α, IRelL (memOf w) (e a) (cs.drop off) ∧ sz a ≤ bulkAll (xs.map (·.1)) ∧ ok a
theorem fopensB_nil {b0 N : Nat} : FOpensB b0 P N [] N (fun _ : Unit => []) (fun _ => 0) (fun _ => True) := by
 intro H enc w n cs xs hN hx _ _ _
 refine ⟨(), ?_, by simp, trivial⟩
 rw [← hN]
 simp [IRelL]
theorem fopensB_cons {b0 N k off : Nat} {ft : TypeId} {fs : List (TypeId × Nat × Nat)} {ea : α → List V} {eb : β → List V} {sa : α → Nat} {sb : β → Nat} {oa : α → Prop} {ob : β → Prop}
  (h : OpensB b0 P ft ea sa oa) (hr : FOpensB b0 P N fs (off + k) eb sb ob) : FOpensB b0 P N ((ft, off, k) :: fs) off (fun p : α × β => ea p.1 ++ eb p.2) (fun p => sa p.1 + sb p.2) (fun p => oa p.1 ∧ ob p.2) := by
 intro H enc w n cs xs hN hx hf hw hb0
 match xs, hx with
 | x :: xs, hx =>
  have h1 := hf 0 _ rfl
  simp only [List.getElem?_cons_zero] at h1
  have hw' := wOks_cons hw
  simp only [List.map_cons, bulkAll] at hb0
  obtain ⟨a, ha, hs, ho⟩ := h enc w n _ x h1 hw'.1 (by omega)
  have hb' := hr enc w n cs xs hN (by simpa using hx) fun i f hi => by
   have := hf (i + 1) f (by simpa using hi)
   simpa using this
  obtain ⟨b, hb, hs', ho'⟩ := hb' hw'.2 (by omega)
  refine ⟨(a, b), ?_, by simp only [List.map_cons, bulkAll]; omega, ho, ho'⟩
  have := ha.app hb
  rw [show (cs.drop off).take k ++ cs.drop (off + k) = cs.drop off by rw [← List.drop_drop]; exact List.take_append_drop _ _] at this
  exact this
theorem opensB_struct {b0 N : Nat} {fs : List (TypeId × Nat × Nat)} {e : α → List V} {sz : α → Nat} {ok : α → Prop} (ht : fieldsOf P t = some fs) (hN : P.cellsOf t = N) (h : FOpensB b0 P N fs 0 e sz ok) :
  OpensB (b0 + 1) P t e (fun a => sz a + 1) ok := by
 intro H enc w fuel cs x hx hw hlt
 unfold fieldsOf at ht
 split at ht
 case h_2 => simp at ht
 rename_i gs hu
 simp only [Option.some.injEq] at ht
 subst ht
 obtain ⟨xs, n, _, rfl, hl, hxl, hf⟩ := DataW.trod_struct hu hx
 have ha' := h enc w n cs xs (hl.trans hN) (by simpa using hxl) fun i f hi => by
  rw [List.getElem?_map, Option.map_eq_some_iff] at hi
  obtain ⟨g, hg, rfl⟩ := hi
  exact hf i g (by simpa using hg)
 obtain ⟨a, h1, h2, h3⟩ := ha' (by
  unfold wOk at hw
  rw [DataW.weights] at hw
  simp only [hu] at hw
  unfold wOks
  rw [List.map_map]
  exact hw) (by simp only [bulk] at hlt; omega)
 exact ⟨a, by simpa using h1, by simp only [bulk]; omega, h3⟩
end
end Go.Pv
namespace Go.Pv
open Go
theorem w64_id {n : Int} (h : -9223372036854775808 ≤ n) (h' : n ≤ 9223372036854775807) : w64 n = n := by
 have : w64 n = if n % 18446744073709551616 ≥ 9223372036854775808 then n % 18446744073709551616 - 18446744073709551616 else n % 18446744073709551616 := by
  simp [w64, IntKind.wrap, IntKind.signed, IntKind.bits]
 rw [this]
 split <;> omega
theorem jn_def {α β : Type} (k : α) (b : α → β) : jn k b = b k := rfl
theorem idx_nat {α : Type} {xs : List α} {j : Nat} (h : j < xs.length) : idx xs (j : Int) = some xs[j] := by
 simp [idx, h]
theorem mget_mput {α β : Type} [DecidableEq α] (xs : List (α × β)) (k k' : α) (v : β) : mget (mput xs k v) k' = if k = k' then some v else mget xs k' := by
 induction xs with
 | nil => simp [mput, mget]
 | cons p r ih =>
  simp only [mput]
  split
  ·rename_i h
   simp only [mget, h]
   split <;> simp_all
  ·rename_i h
   simp only [mget]
   by_cases h2 : p.1 = k'
   ·rw [if_pos h2, if_pos h2, if_neg (fun e => h (h2.trans e.symm))]
   ·rw [if_neg h2, if_neg h2]; exact ih
theorem eqL_at {α : Type} [DecidableEq α] {g : List α → Int → Option Bool} (b : List α) (k : Option Bool)
  (h0 : ∀ n, g [] n = k) (h1 : ∀ x l n, g (x :: l) n = (idx b n).bind fun y => if (!(decide (x = y))) = true then some false else g l (n + 1)) :
  ∀ (l : List α) (n : Nat), n + l.length ≤ b.length → g l n = if l = (b.drop n).take l.length then k else some false
 | [], n, _ => by simp [h0]
 | x :: l, n, h => by
  have hn : n < b.length := by simp at h; omega
  rw [h1, idx_nat hn, Option.bind_some]
  have ih := eqL_at b k h0 h1 l (n + 1) (by simp at h; omega)
  have e : ((n : Int) + 1) = ((n + 1 : Nat) : Int) := rfl
  rw [e, ih, List.drop_eq_getElem_cons hn]
  simp only [List.length_cons, List.take_succ_cons, List.cons.injEq]
  by_cases hx : x = b[n]
  ·simp [hx]
  ·simp [hx]
theorem eqL_all {α : Type} [DecidableEq α] {g : List α → Int → Option Bool} (b : List α)
  (h0 : ∀ n, g [] n = some true) (h1 : ∀ x l n, g (x :: l) n = (idx b n).bind fun y => if (!(decide (x = y))) = true then some false else g l (n + 1)) (a : List α) :
  (if (((a.length : Nat) : Int) != ((b.length : Nat) : Int)) = true then some false else g a 0) = some (decide (a = b)) := by
 by_cases h : a.length = b.length
 ·rw [if_neg (by simp [h])]
  have := eqL_at b (some true) h0 h1 a 0 (by omega)
  rw [show ((0 : Nat) : Int) = 0 from rfl] at this
  rw [this, List.drop_zero, List.take_of_length_le (by omega)]
  split <;> simp [*]
 ·rw [if_pos (by simp; omega)]
  have : a ≠ b := fun e => h (by rw [e])
  simp [this]
theorem idxL {α : Type} {g : List α → Int → Option Int} {k : Option Int} (p : α → Bool) (h0 : ∀ n, g [] n = k) (h1 : ∀ x l n, g (x :: l) n = if p x = true then some n else g l (n + 1)) :
  ∀ l (n : Nat), g l n = if l.any p = true then some ((n + l.findIdx p : Nat) : Int) else k
 | [], n => by simp [h0]
 | x :: l, n => by
  have e : ((n : Int) + 1) = ((n + 1 : Nat) : Int) := rfl
  rw [h1, e, idxL p h0 h1 l (n + 1)]
  cases h : p x
  ·have e2 : n + 1 + l.findIdx p = n + (l.findIdx p + 1) := by omega
   simp only [List.any_cons, h, Bool.false_or, List.findIdx_cons, cond_false, e2, Bool.false_eq_true, if_false]
  ·simp [List.findIdx_cons, h]
theorem bytesL {β : Type} {g : Nat → Int → Option β} {k : Option β} {f : β} (s : List UInt8) (p : UInt8 → Bool) (h0 : ∀ n, g 0 n = k)
  (h1 : ∀ m n, g (m + 1) n = (idx s n).bind fun c => if p c = true then g m (n + 1) else some f) :
  ∀ (m n : Nat), n + m = s.length → g m n = if (s.drop n).all p = true then k else some f
 | 0, n, h => by rw [h0, List.drop_eq_nil_of_le (by omega)]; simp
 | m + 1, n, h => by
  have hn : n < s.length := by omega
  have e : ((n : Int) + 1) = ((n + 1 : Nat) : Int) := rfl
  rw [h1, idx_nat hn, Option.bind_some, e, bytesL s p h0 h1 m (n + 1) (by omega), List.drop_eq_getElem_cons hn, List.all_cons]
  cases h : p s[n]
  ·simp only [Bool.false_and, Bool.false_eq_true, if_false]
  ·simp only [Bool.true_and, if_true]
end Go.Pv
